/- A map that the call itself makes and fills entry by entry, its keys integers: known whole. (and what follows of it). The conditions stand at each lemma. -/
import Derived.Test.YtioffpjajhalaaaGreatDoorJaa
import Derived.Test.YtioffpjajhalaaaGreatDoorJab
import Derived.WideMake
import Derived.MapKept
import Derived.Carry
import Derived.Laws.IdiomRangeMap
import Derived.Lib.ConvBytes
set_option linter.unusedVariables false
set_option linter.unusedSimpArgs false
set_option maxRecDepth 100000
set_option maxHeartbeats 16000000
namespace Go.Proofs.YtioffpjajhalaaaGreatDoor
open Go Go.RowKit
def ZW (w:World)(r:Nat)(es:Array MapEntry)(clock:Nat):Prop:=w.heap[r]?=some (.map es clock)
section
variable {w w':World} {r:Nat} {es:Array MapEntry} {clock:Nat}
theorem ZW.lt (h:ZW w r es clock):r<w.heap.size:=(Array.getElem?_eq_some_iff.1 h).1
theorem ZW.new (w:World):ZW (w.alloc (.map #[] 0)) w.heap.size #[] 0:=zO w _
theorem ZW.ext (h:ZW w r es clock)(hx:Ext w w'):ZW w' r es clock:=(hx.block r h.lt).trans h
theorem ZW.YD {g:Nat}(h:ZW w r es clock)(ht:Touch g w w')(hg:r≠g):ZW w' r es clock:=(ht.other r hg).trans h
end
section
variable {P:Program}
theorem zJh {w:World}{t kt et:TypeId}{kk:IntKind}{r clock:Nat}{es:Array MapEntry}{n:Int}{val:Value}(hm:P.underlying t=some (.map kt et))(hk:P.underlying kt=some (.int kk))
  (hb:ZW w r es clock) (hf:Instr.findNow (.int kk) (.int kk n) es.toList 0=some none) :
  (Instr.mapUpdate t (.map (some r)) (.int kk n) val).run P w=.ok () { w with heap:=w.heap.setIfInBounds r (.map (es.push { key:=.int kk n,val:=val,born:=clock }) (clock+1)) }:=by
 have hc:(Instr.checkKey false 10000 kt (.int kk n)).run P w=.ok () w:=MapKept.run_checkKey (k:=.int kk n) hk (by simp[MapKept.IsKey]) false 9999;simp[Instr.mapUpdate,run_underlying hm,MapKept.run_getObj_map hb,hc,MapKept.run_findKey hk hf,MapKept.run_setObj_map _ hb,Result.andThen]
theorem zBE {ops:Array Oper}{rest:List Oper}{o:Oper}{a:Act}{w:World}{Q:Exit→Act→World→Prop}(hgd:o.guard=none)(t:TypeId)(m k x:Operand)(ho:o.op=.insert t m k x){kt et:TypeId}{kk:IntKind}
  (hm:P.underlying t=some (.map kt et)) (hk:P.underlying kt=some (.int kk)) (r clock:Nat) (es:Array MapEntry) (n:Int) (v:Value)
  (em:a.eval m=.map (some r)) (ek:a.eval k=.int kk n) (ex:a.eval x=v) (hb:ZW w r es clock) (hf:Instr.findNow (.int kk) (.int kk n) es.toList 0=some none)
  (h:∀w',Touch r w w'→ZW w' r (es.push { key:=.int kk n,val:=v,born:=clock }) (clock+1)→wpList P ops Q rest (a.put o.dst undef) w'):wpList P ops Q (o::rest) a w:=by
 refine wpList_plain hgd fun K hK=>?_;have AA:=zJh (val:=v) hm hk hb hf;unfold Oper.wp execOp;simp only[ho,em,ek,ex,Sem.run_bind,Sem.run_pure,AA,Result.andThen_ok];refine hK _ _ (h _ ⟨rfl,rfl,rfl,by simp,fun q hq=>?_⟩ ?_)
 ·simp[Array.getElem?_setIfInBounds,Ne.symm hq]
 ·have AB:=hb.lt;unfold ZW;simp[AB]
theorem zJ8 {w:World}{t kt et:TypeId}{kk:IntKind}{r clock i:Nat}{es:Array MapEntry}{n:Int}{v:Value}(hm:P.underlying t=some (.map kt et))(hk:P.underlying kt=some (.int kk))
  (hb:ZW w r es clock) (hf:Instr.findNow (.int kk) (.int kk n) es.toList 0=some (some (i,v))):(Instr.lookup t (.map (some r)) (.int kk n) false).run P w=.ok v w:=by
 have hc:(Instr.checkKey es.isEmpty 10000 kt (.int kk n)).run P w=.ok () w:=MapKept.run_checkKey (k:=.int kk n) hk (by simp[MapKept.IsKey]) _ 9999;simp[Instr.lookup,run_underlying hm,MapKept.run_getObj_map hb,hc,MapKept.run_findKey hk hf,Result.andThen]
theorem zFD {ops:Array Oper}{rest:List Oper}{o:Oper}{a:Act}{w:World}{Q:Exit→Act→World→Prop}(hgd:o.guard=none)(t:TypeId)(m k:Operand)(ho:o.op=.lookup t m k false){kt et:TypeId}{kk:IntKind}
  (hm:P.underlying t=some (.map kt et)) (hk:P.underlying kt=some (.int kk)) (r clock i:Nat) (es:Array MapEntry) (n:Int) (v:Value)
  (em:a.eval m=.map (some r)) (ek:a.eval k=.int kk n) (hb:ZW w r es clock) (hf:Instr.findNow (.int kk) (.int kk n) es.toList 0=some (some (i,v)))
  (h:wpList P ops Q rest (a.put o.dst v) w):wpList P ops Q (o::rest) a w:=by
 refine wpList_plain hgd fun K hK=>?_;have AA:=zJ8 (P:=P) hm hk hb hf;unfold Oper.wp execOp;simp only[ho,em,ek,Sem.run_bind,Sem.run_pure,AA,Result.andThen_ok];exact hK _ _ h
theorem zEm {ops:Array Oper}{rest:List Oper}{o:Oper}{a:Act}{w:World}{Q:Exit→Act→World→Prop}(hgd:o.guard=none)(t:TypeId)(ho:o.op=.makeMap t none)
  (h:∀w',Ext w w'→ZW w' w.heap.size #[] 0→w'.heap.size=w.heap.size+1→wpList P ops Q rest (a.put o.dst (.map (some w.heap.size))) w'):wpList P ops Q (o::rest) a w:=by
 refine wpList_plain hgd fun K hK=>?_;unfold Oper.wp execOp;simp only[ho,Option.map_none,Sem.run_bind,Sem.run_pure,run_makeMap,Result.andThen_ok];exact hK _ _ (h _ (Ext.alloc _ _) (ZW.new w) (by simp))
end
def zNz {α:Type}:Sem α→Prop
 | .pure _=>True
 | .getObj _ k=>∀o,zNz (k o)
 | .setObj _ _ k=>zNz k
 | .choose _ k=>∀n,zNz (k n)
 | .halt _=>True
 | _=>False
theorem zDs {α:Type}{P:Program}:∀(s:Sem α),zNz s→∀(w:World) (v:α) (w':World),s.run P w=.ok v w'→w'.tape=w.tape
 | .pure a,_,w,v,w',h=>by
  simp only[Sem.run] at h;injection h with _ h;rw[h]
 | .getObj r k,ht,w,v,w',h=>by
  simp only[Sem.run] at h
  split at h
  ·cases h
  ·have hh:=zDs (k _) (ht _) _ _ _ h;exact hh
  ·cases h
 | .setObj r o k,ht,w,v,w',h=>by
  simp only[Sem.run] at h
  split at h
  ·cases h
  ·have hh:=zDs k ht _ _ _ h;exact hh
  ·cases h
 | .choose q k,ht,w,v,w',h=>by
  simp only[Sem.run] at h
  split at h
  ·have hh:=zDs (k _) (ht _) _ _ _ h;exact hh
  ·have hh:=zDs (k _) (ht _) _ _ _ h;exact hh
 | .halt x,_,w,v,w',h=>by simp[Sem.run] at h
 | .load ..,ht,_,_,_,_=>ht.elim
 | .store ..,ht,_,_,_,_=>ht.elim
 | .new ..,ht,_,_,_,_=>ht.elim
 | .shape ..,ht,_,_,_,_=>ht.elim
 | .freeze ..,ht,_,_,_,_=>ht.elim
 | .frozen ..,ht,_,_,_,_=>ht.elim
 | .sys ..,ht,_,_,_,_=>ht.elim
 | .program ..,ht,_,_,_,_=>ht.elim
 | .mark ..,ht,_,_,_,_=>ht.elim
theorem zBq {α β:Type}:∀(s:Sem α) (f:α→Sem β),zNz s→(∀a,zNz (f a))→zNz (s >>= f)
 | .pure a,f,_,hf=>hf a
 | .getObj r k,f,hs,hf=>fun o=>zBq (k o) f (hs o) hf
 | .setObj r o k,f,hs,hf=>zBq k f hs hf
 | .choose q k,f,hs,hf=>fun n=>zBq (k n) f (hs n) hf
 | .halt x,f,_,_=>trivial
 | .load ..,_,hs,_=>hs.elim
 | .store ..,_,hs,_=>hs.elim
 | .new ..,_,hs,_=>hs.elim
 | .shape ..,_,hs,_=>hs.elim
 | .freeze ..,_,hs,_=>hs.elim
 | .frozen ..,_,hs,_=>hs.elim
 | .sys ..,_,hs,_=>hs.elim
 | .program ..,_,hs,_=>hs.elim
 | .mark ..,_,hs,_=>hs.elim
theorem zQv (r:Nat)(ty:TypeId):zNz (Instr.next (.pointer (some ⟨r,0,none⟩)) false ty):=by
 unfold Instr.next;refine zBq _ _ (fun _=>trivial) fun o=>?_
 split
 ·rename_i h; cases h
 ·exact trivial
 ·refine zBq _ _ (fun _=>trivial) fun o=>?_
  split
  ·split
   ·exact trivial
   ·refine zBq _ _ (fun _=>trivial) fun n=>?_
    split
    ·exact zBq _ _ trivial fun _=>trivial
    ·exact trivial
    ·exact trivial
  ·exact trivial
 ·exact trivial
theorem zQS {P:Program}{r:Nat}{ty:TypeId}{w w':World}{v:Value}(h:(Instr.next (.pointer (some ⟨r,0,none⟩)) false ty).run P w=.ok v w'):w'.tape=w.tape:=zDs _ (zQv r ty) _ _ _ h
def JD (c:UInt8):Nat:=if jJ c then 1 else if jA c then 2 else if zHj c then 3 else 0
def zBK:ByteArray:=⟨#[97,98,99,100,101,102,103,104,105,106,107,108,109,110,111,112,113,114,115,116,117,118,119,120,121,122]⟩
def zCQ:ByteArray:=⟨#[48,49,50,51,52,53,54,55,56,57]⟩
def zEz:ByteArray:=⟨#[123,125,40,41,91,93,59,44,46,43,45,42,60,61]⟩
theorem zHp:zAq zBK jJ:=by unfold zAq; decide +kernel
theorem zFm:zAq zCQ jA:=by unfold zAq; decide +kernel
theorem zLt:zAq zEz zHj:=by unfold zAq; decide +kernel
def JL:Array MapEntry:=#[{ key:=.int .u8 1,val:=.string zBK,born:=0 },{ key:=.int .u8 2,val:=.string zCQ,born:=1 },{ key:=.int .u8 3,val:=.string zEz,born:=2 }]
theorem zHv:∀n:Nat,n<256→(jJ n.toUInt8=true→JD n.toUInt8=1)∧(jA n.toUInt8=true→JD n.toUInt8=2)∧(zHj n.toUInt8=true→JD n.toUInt8=3)∧(jJ n.toUInt8=false→jA n.toUInt8=false→zHj n.toUInt8=false→JD n.toUInt8=0):=by decide +kernel
def zEi (c:UInt8)(x:MapEntry):Bool:=match x.val with | .string s=>decide (0≤Lib.indexByte s.data.toList c) | _=>false
theorem zPg (c:UInt8)(e:MapEntry)(he:e ∈ JL.toList):∃(k:Int) (s:ByteArray),e.key=.int .u8 k∧e.val=.string s∧(decide (0≤Lib.indexByte s.data.toList c)=true→(JD c:Int)=k):=by
 have h:=zHv c.toNat c.toNat_lt;rw[show c.toNat.toUInt8=c from by simp] at h
 have AA:e = { key:=.int .u8 1,val:=.string zBK,born:=0 } ∨ e = { key:=.int .u8 2,val:=.string zCQ,born:=1 } ∨ e = { key:=.int .u8 3,val:=.string zEz,born:=2 }:=by simpa [JL] using he
 rcases AA with rfl | rfl | rfl
 ·exact⟨1,zBK,rfl,rfl,fun hh=>by rw[zHp.at_] at hh; rw[h.1 hh]; rfl⟩
 ·exact⟨2,zCQ,rfl,rfl,fun hh=>by rw[zFm.at_] at hh; rw[h.2.1 hh]; rfl⟩
 ·exact⟨3,zEz,rfl,rfl,fun hh=>by rw[zLt.at_] at hh; rw[h.2.2.1 hh]; rfl⟩
theorem zUX (c:UInt8)(h:∀x ∈ JL.toList,zEi c x=false):(JD c:Int)=0:=by
 have hk:=zHv c.toNat c.toNat_lt;rw[show c.toNat.toUInt8=c from by simp] at hk;have h1:=h { key:=.int .u8 1,val:=.string zBK,born:=0 } (by simp[JL]);have h2:=h { key:=.int .u8 2,val:=.string zCQ,born:=1 } (by simp[JL]);have h3:=h { key:=.int .u8 3,val:=.string zEz,born:=2 } (by simp[JL]);simp only[zEi,zHp.at_,zFm.at_,zLt.at_] at h1 h2 h3;rw[hk.2.2.2 h1 h2 h3]
 rfl
theorem zCD:MapKept.Stamped JL 3:=by
 refine⟨?_,?_,?_⟩
 ·intro x hx
  have AA:x = { key:=.int .u8 1,val:=.string zBK,born:=0 } ∨ x = { key:=.int .u8 2,val:=.string zCQ,born:=1 } ∨ x = { key:=.int .u8 3,val:=.string zEz,born:=2 }:=by simpa [JL] using hx
  rcases AA with rfl | rfl | rfl <;> decide
 ·simp[JL]
 ·simp[JL]
theorem Ext.alike {w w1 w2:World}(h:Ext w w1)(ha:w2.Alike w1)(ht:w2.tape=w1.tape):Ext w w2:=by
 obtain⟨a,b,c⟩:=ha;exact⟨b.trans h.os,ht.trans h.tape,c.trans h.output,by rw[a]; exact h.size,fun k hk=>by rw[a]; exact h.block k hk⟩
theorem zGc (c:UInt8)(w:World) :
  Calls Tryz.prog 69 #[.int .u8 (c.toNat:Int)] w fun e w'=>e=.returned (.int .u8 (JD c:Int))∧Ext w w':=by
 go_enter Tryz.func69,Tryz.ntmps69
 go_wp2_with (refine zEm rfl 117 rfl ?_)
 intro w1 Ae Ad AV;refine zBE rfl 117 (.tmp 6) (.const (.int .u8 1)) (.const (.string zBK)) rfl Tryz.underlying117 Tryz.underlying5 w.heap.size 0 #[] 1 (.string zBK) rfl rfl rfl Ad rfl ?_;intro w2 AP AY;refine zBE rfl 117 (.tmp 6) (.const (.int .u8 2)) (.const (.string zCQ)) rfl Tryz.underlying117 Tryz.underlying5 w.heap.size 1 _ 2 (.string zCQ) rfl rfl rfl AY rfl ?_;intro w3 AR Ac;refine zBE rfl 117 (.tmp 6) (.const (.int .u8 3)) (.const (.string zEz)) rfl Tryz.underlying117 Tryz.underlying5 w.heap.size 2 _ 3 (.string zEz) rfl rfl rfl Ac rfl ?_;intro w4 AQ Aj;have AX:Ext w w4:=AQ.ext (AR.ext (AP.ext Ae (zU _)) (zU _)) (zU _);have AF:w4.heap[w.heap.size]?=some (.map JL 3):=Aj
 have AW:w4.heap.size=w.heap.size+1:=by rw[AQ.size,AR.size,AP.size,AV]
 have Af:=yD AX;have Aq:=yD AW;clear Ae Ad AV AP AY AR Ac AQ Aj AX AW;have Ap:=run_range_map (P:=Tryz.prog) w4 117 5 9 w.heap.size JL 3 Tryz.underlying117 AF;have Am:=yD AF;clear AF
 go_wp2_with fail
 go_loopw [] (fun wr=>∃(w5:World) (AA:Array Nat),w5.Alike w4∧Hid (w5.tape=w4.tape)∧wr=w5.alloc (.mapIter (some w.heap.size) 3 AA 3)∧Hid (∀x ∈ JL.toList,AA.contains x.born=true→zEi c x=false)) (fun wr=>(leftOf JL (wr.iterSeen w4.heap.size)).size)
 case atStart=>exact⟨w4,#[],⟨rfl,rfl,rfl⟩,yD rfl,rfl,yD fun x _ h=>by simp at h⟩
 case round=>
  obtain⟨w5,AA,AL,HT,rfl,Al⟩:=hrel
  have AO:w5.heap.size=w4.heap.size:=by rw[AL.1]
  have AM:w5.heap[w.heap.size]?=some (.map JL 3):=by rw[AL.1]; exact Am.out
  have AZ:=run_next_map (P:=Tryz.prog) w5 0 w.heap.size 3 3 AA JL 3 AM zCD.1 (zU _);rw[AO] at AZ;have Aa:=yD AO;have AN:=yD AL;clear AL AO
  rcases AZ with ⟨h0,AB⟩ | ⟨e,he,w6,AC,AB⟩
  ·have An:∀ty,(Instr.next (.pointer (some ⟨w4.heap.size,0,none⟩)) false ty).run Tryz.prog (w5.alloc (.mapIter (some w.heap.size) 3 AA 3))=_:=fun _=>AB;have hk:=zUX c fun x hx=>Al.out x hx (all_seen JL AA h0 x hx);have HK:=yD hk;have HX:Hid (Ext w (w5.alloc (.mapIter (some w.heap.size) 3 AA 3))):=yD (((Af.out).alike AN.out HT.out).trans (Ext.alloc _ _));clear hk h0 AB AM
   go_wp2_with fail
   go_ret;exact⟨zFW HK.out.symm,HX.out⟩
  ·obtain⟨kk,s,AG,AD,AJ⟩:=zPg c e (mem_left he).1;have AK:=zQS AB;have Ab:w6.tape=w5.tape:=AK;clear AK;rw[AD,AG] at AB;have An:∀ty,(Instr.next (.pointer (some ⟨w4.heap.size,0,none⟩)) false ty).run Tryz.prog (w5.alloc (.mapIter (some w.heap.size) 3 AA 3))=_:=fun _=>AB
   have AH:w6.heap.size=w4.heap.size:=by rw[AC.1]; exact Aa.out
   have Ai:w6.heap[w.heap.size]?=some (.map JL 3):=by rw[AC.1]; exact AM
   have Ao:=run_entry_map (P:=Tryz.prog) w6 w.heap.size 3 AA JL 3 e Ai (mem_left he).1 zCD.2.1;rw[AH,AD,AG] at Ao;have AI:Hid (w6.Alike w4):=yD ⟨AC.1.trans AN.out.1,AC.2.1.trans AN.out.2.1,AC.2.2.trans AN.out.2.2⟩;have AT:Hid (w6.tape=w4.tape):=yD (Ab.trans HT.out);have HX:Hid (Ext w (w6.alloc (.mapIter (some w.heap.size) 3 (AA.push e.born) 3))):=yD (((Af.out).alike AI.out AT.out).trans (Ext.alloc _ _));have AU:=yD AJ
   have AS:zEi c e=decide (0≤Lib.indexByte s.data.toList c):=by unfold zEi; rw[AD]
   have Ak:=yD AS;have HE:=yD he;have Ag:=yD AH
   have AE:∀W:World,Calls Tryz.prog 70 #[.string s,.int .u8 (c.toNat:Int)] W fun e w'=>e=.returned (.int .i64 (Lib.indexByte s.data.toList c))∧w'=W:=fun W=>by
    have h:=zEw s (c.toNat:Int) W;rw[show((c.toNat:Int).toNat).toUInt8=c from by simp] at h;exact h
   have Ah:=yD AE;clear AJ AS he AH AB AE AG AD AC Ab AM Ai;obtain⟨t,ht⟩:∃t,decide (0≤Lib.indexByte s.data.toList c)=t:=⟨_,rfl⟩;rw[ht] at AU Ak;generalize Lib.indexByte s.data.toList c=z at *
   cases t with
   | true=>
    have hz:0≤z:=of_decide_eq_true ht
    go_wp2_with ((go_at_call 70; refine(Ah.out _).mono ?_; rintro e' w' ⟨rfl,rfl⟩))
    go_ret;exact⟨zFW (AU.out (by trivial)).symm,HX.out⟩
   | false=>
    have hz:¬0≤z:=of_decide_eq_false ht
    have Ar:z<0:=by omega
    go_wp2_with ((go_at_call 70; refine(Ah.out _).mono ?_; rintro e' w' ⟨rfl,rfl⟩))
    go_roundw
    case rel=>
     refine⟨w6,AA.push e.born,AI.out,AT,rfl,yD fun x hx hc=>?_⟩;rw[contains_push] at hc
     rcases Bool.or_eq_true _ _ ▸ hc with h1 | h1
     ·exact Al.out x hx h1
     ·have:x=e:=born_inj zCD.2.1 hx (mem_left HE.out).1 (beq_iff_eq.1 h1)
      subst this;exact Ak.out
    case measure=>
     rw[←Ag.out,World.iterSeen_alloc,Ag.out,←Aa.out,World.iterSeen_alloc];exact left_shrinks JL AA e HE.out
theorem Ext.bytesWorld (w:World)(e:TypeId)(s:ByteArray):Ext w (Lib.bytesWorld w e s):=
 ⟨rfl,rfl,rfl,by rw[Lib.bytesWorld_size]; omega,fun k hk=>Lib.bytesWorld_at_old w e s k hk⟩
theorem zJM:∀(l:Bs) (n:Int) (m:Int),0≤n→(∀c ∈ l,jA c=true)→zAU n l=some m→0≤m
 | [],n,m,h,_,e=>by injection e with e; omega
 | c::r,n,m,h,hd,e=>by
  unfold zAU at e
  split at e
  ·cases e
  ·have hc:=hd c (List.mem_cons_self ..);simp[jA] at hc;exact zJM r _ m (by omega) (fun x hx=>hd x (List.mem_cons_of_mem _ hx)) e
def zJe:Option Int→Value
 | some n=>.tuple #[.int .i64 n,.int .i64 0]
 | none=>.tuple #[.int .i64 0,.int .i64 31]
theorem zQm {r r':Option Int}{v:Value}(h:r=r')(hv:zJe r'=v):Ending.returned v=.returned (zJe r):=by rw[h,hv]
theorem zBL (l:Bs):(yX l).toList=l:=by
 rw[←zDZ,Lib.strOfNums_toList,zBG]
theorem zOP (l:Bs)(hd:∀c ∈ l,jA c=true)(hl:l.length≤140737488355328)(w:World)(r:Option Int)(hr:Hid (zAU 0 l=r)) :
  Calls Tryz.prog 71 #[.string (yX l)] w fun e w'=>e=.returned (zJe r)∧Ext w w':=by
 have AH:=Lib.run_convert_string_bytes (P:=Tryz.prog) w 9 22 5 (yX l) Tryz.underlying9 Tryz.underlying22 Tryz.underlying5
 have AC:(yX l).size=l.length:=by simp[yX,ByteArray.size]
 have AA:∀j (h:j<l.length),(Lib.bytesWorld w 5 (yX l)).cell? ⟨w.heap.size,j,none⟩=some (.int .u8 (l[j].toNat:Int)):=fun j h=>by
  rw[Lib.bytesWorld_cell w 5 (yX l) j (by rw[AC]; exact h)];simp[yX,h]
 have HX:=yD (Ext.bytesWorld w 5 (yX l));have HC:=yD AA;have HD:=yD hd;rw[AC] at AH;clear AA AC hd;generalize Lib.bytesWorld w 5 (yX l)=w1 at *;generalize grownCap w l.length 0 5=cp at *;generalize w.heap.size=gs at *
 go_enter Tryz.func71,Tryz.ntmps71
 go_wp2_with fail
 go_loop [2,9] (fun n i=>∃(k:Nat) (m:Int),k≤l.length∧i=.int .i64 k∧n=.int .i64 m∧0≤m∧m≤2147483647∧Hid (zAU m (l.drop k)=r)) (fun _ i=>l.length-(intOf i).toNat)
 case atStart=>exact⟨0,0,zT _,rfl,rfl,by omega,by omega,hr⟩
 case round=>
  obtain⟨k,m,hk,rfl,rfl,AK,AI,HN⟩:=hrel
  by_cases AE:k<l.length
  ·have e0:=HC.out k AE;have AF:=HD.out _ (yL AE);have AD:=HN.out;rw[List.drop_eq_getElem_cons AE] at AD;have AG:=yD AD;clear AD;generalize l[k]=c at *
   have hc:48≤c.toNat∧c.toNat≤57:=by simpa [jA] using AF
   obtain⟨AL,AJ⟩:=hc;clear AF
   have q0:(k:Int)<(l.length:Int):=by omega
   by_cases AB:2147483647<m*10+((c.toNat:Int)-48)
   ·have HR:Hid (r=none):=yD (by rw[←AG.out]; unfold zAU; rw[if_pos AB])
    go_wp2_with fail
    go_ret2;exact⟨zQm HR.out rfl,HX.out⟩
   ·have HR:Hid (zAU (m*10+((c.toNat:Int)-48)) (l.drop (k+1))=r):=yD (by rw[←AG.out]; conv=>rhs; unfold zAU; rw[if_neg AB])
    go_wp2_with fail
    go_round
    case rel=>exact⟨k+1,m*10+((c.toNat:Int)-48),by omega,by go_num,by go_num,by omega,by omega,HR⟩
    case measure=>simp[intOf]; omega
  ·obtain rfl:k=l.length:=by omega
   have HR:Hid (r=some m):=yD (by rw[←HN.out,List.drop_eq_nil_of_le (zU _)]; rfl)
   go_wp2_with fail
   go_ret2;exact⟨zQm HR.out rfl,HX.out⟩
theorem zGK (v1 v2:Value)(a b:Bs)(w:World)
  (h1:(convert 22 9 v1).run Tryz.prog w=.ok (.string (yX a)) w) (h2:(convert 22 9 v2).run Tryz.prog w=.ok (.string (yX b)) w) :
  Calls Tryz.prog 115 #[v1,v2] w fun e w'=>e=.returned (.bool (a==b))∧w'=w:=by
 have HE:=yD (show((yX a).toList==(yX b).toList)=(a==b) by rw[zBL,zBL])
 go_enter Tryz.func115,Tryz.ntmps115
 go_wp2_with fail
 go_ret;exact⟨zDl HE.out,rfl⟩
theorem zKc (A B:Option Addr)(a b:Bs)(n m c d:Nat)(w:World)(hn:n=a.length)(hm:m=b.length)(hc:n≤c)(hA:Cells w A (xO a))(hB:Cells w B (xO b)) :
  Calls Tryz.prog 72 #[.slice A n c,.slice B m d] w fun e w'=>e=.returned (.bool (decide (b.length≤a.length)&&(a.take b.length==b)))∧w'=w:=by
 subst hn hm;have h2:=XE (P:=Tryz.prog) (n:=b.length) (c:=d) Tryz.underlying22 Tryz.underlying5 Tryz.underlying9 rfl hB;have HA:=yD hA;clear hA hB
 by_cases AA:b.length≤a.length
 ·have d0:decide (b.length≤a.length)=true:=yP AA
  have h1:=XE (P:=Tryz.prog) (w:=w) (A:=A) (l:=a.take b.length) (n:=b.length) (c:=c) Tryz.underlying22 Tryz.underlying5 Tryz.underlying9 (by simp; omega) (by
   have h:=zDe HA.out hc 0 b.length;rw[List.drop_zero] at h;unfold zGQ at h
   split at h
   ·exact h
   ·cases A with
    | none=>exact h
    | some x=>exact h)
  have H:=yD (zGK _ _ _ _ _ h1 h2);have HD:Hid ((a.take b.length==b)=(decide (b.length≤a.length)&&(a.take b.length==b))):=yD (by rw[d0,Bool.true_and]);clear h1 h2
  go_enter Tryz.func72,Tryz.ntmps72
  go_wp2_with fail
  refine H.out.mono ?_;rintro e w' ⟨rfl,rfl⟩
  go_wp2_with fail
  go_ret;exact⟨zDl HD.out,rfl⟩
 ·have d0:decide (b.length≤a.length)=false:=yO AA;have HD:Hid (false=(decide (b.length≤a.length)&&(a.take b.length==b))):=yD (by rw[d0,Bool.false_and])
  go_enter Tryz.func72,Tryz.ntmps72
  go_wp2_with fail
  go_ret;exact⟨zDl HD.out,rfl⟩
end Go.Proofs.YtioffpjajhalaaaGreatDoor
