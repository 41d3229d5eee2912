/- A map that the call itself makes and fills entry by entry, its keys integers: known whole. (and what follows of it). The conditions stand at each lemma. -/
import Derived.Test.YtioffpjajhalaaaGreatDoorLaa
import Derived.Test.YtioffpjajhalaaaGreatDoorLab
import Derived.WideMake
import Derived.MapKept
import Derived.Carry
import Derived.Laws.IdiomRangeMap
import Derived.Lib.ConvBytes
set_option linter.unusedVariables false
set_option linter.unusedSimpArgs false
set_option maxRecDepth 100000
set_option maxHeartbeats 16000000
namespace Go.Proofs.YtioffpjajhalaaaGreatDoor
open Go Go.RowKit
def ZG (w:World)(r:Nat)(es:Array MapEntry)(clock:Nat):Prop:=w.heap[r]?=some (.map es clock)
section
variable {w w':World} {r:Nat} {es:Array MapEntry} {clock:Nat}
theorem ZG.lt (h:ZG w r es clock):r<w.heap.size:=(Array.getElem?_eq_some_iff.1 h).1
theorem ZG.new (w:World):ZG (w.alloc (.map #[] 0)) w.heap.size #[] 0:=zO w _
theorem ZG.ext (h:ZG w r es clock)(hx:Ext w w'):ZG w' r es clock:=(hx.block r h.lt).trans h
theorem ZG.ZN {g:Nat}(h:ZG w r es clock)(ht:Touch g w w')(hg:r≠g):ZG w' r es clock:=(ht.other r hg).trans h
end
section
variable {P:Program}
theorem zHc {w:World}{t kt et:TypeId}{kk:IntKind}{r clock:Nat}{es:Array MapEntry}{n:Int}{val:Value}(hm:P.underlying t=some (.map kt et))(hk:P.underlying kt=some (.int kk))
  (hb:ZG w r es clock) (hf:Instr.findNow (.int kk) (.int kk n) es.toList 0=some none) :
  (Instr.mapUpdate t (.map (some r)) (.int kk n) val).run P w=.ok () { w with heap:=w.heap.setIfInBounds r (.map (es.push { key:=.int kk n,val:=val,born:=clock }) (clock+1)) }:=by
 have hc:(Instr.checkKey false 10000 kt (.int kk n)).run P w=.ok () w:=MapKept.run_checkKey (k:=.int kk n) hk (by simp[MapKept.IsKey]) false 9999;simp[Instr.mapUpdate,run_underlying hm,MapKept.run_getObj_map hb,hc,MapKept.run_findKey hk hf,MapKept.run_setObj_map _ hb,Result.andThen]
theorem zAJ {ops:Array Oper}{rest:List Oper}{o:Oper}{a:Act}{w:World}{Q:Exit→Act→World→Prop}(hgd:o.guard=none)(t:TypeId)(m k x:Operand)(ho:o.op=.insert t m k x){kt et:TypeId}{kk:IntKind}
  (hm:P.underlying t=some (.map kt et)) (hk:P.underlying kt=some (.int kk)) (r clock:Nat) (es:Array MapEntry) (n:Int) (v:Value)
  (em:a.eval m=.map (some r)) (ek:a.eval k=.int kk n) (ex:a.eval x=v) (hb:ZG w r es clock) (hf:Instr.findNow (.int kk) (.int kk n) es.toList 0=some none)
  (h:∀w',Touch r w w'→ZG w' r (es.push { key:=.int kk n,val:=v,born:=clock }) (clock+1)→wpList P ops Q rest (a.put o.dst undef) w'):wpList P ops Q (o::rest) a w:=by
 refine wpList_plain hgd fun K hK=>?_;have AA:=zHc (val:=v) hm hk hb hf;unfold Oper.wp execOp;simp only[ho,em,ek,ex,Sem.run_bind,Sem.run_pure,AA,Result.andThen_ok];refine hK _ _ (h _ ⟨rfl,rfl,rfl,by simp,fun q hq=>?_⟩ ?_)
 ·simp[Array.getElem?_setIfInBounds,Ne.symm hq]
 ·have AB:=hb.lt;unfold ZG;simp[AB]
theorem zHQ {w:World}{t kt et:TypeId}{kk:IntKind}{r clock i:Nat}{es:Array MapEntry}{n:Int}{v:Value}(hm:P.underlying t=some (.map kt et))(hk:P.underlying kt=some (.int kk))
  (hb:ZG w r es clock) (hf:Instr.findNow (.int kk) (.int kk n) es.toList 0=some (some (i,v))):(Instr.lookup t (.map (some r)) (.int kk n) false).run P w=.ok v w:=by
 have hc:(Instr.checkKey es.isEmpty 10000 kt (.int kk n)).run P w=.ok () w:=MapKept.run_checkKey (k:=.int kk n) hk (by simp[MapKept.IsKey]) _ 9999;simp[Instr.lookup,run_underlying hm,MapKept.run_getObj_map hb,hc,MapKept.run_findKey hk hf,Result.andThen]
theorem zDZ {ops:Array Oper}{rest:List Oper}{o:Oper}{a:Act}{w:World}{Q:Exit→Act→World→Prop}(hgd:o.guard=none)(t:TypeId)(m k:Operand)(ho:o.op=.lookup t m k false){kt et:TypeId}{kk:IntKind}
  (hm:P.underlying t=some (.map kt et)) (hk:P.underlying kt=some (.int kk)) (r clock i:Nat) (es:Array MapEntry) (n:Int) (v:Value)
  (em:a.eval m=.map (some r)) (ek:a.eval k=.int kk n) (hb:ZG w r es clock) (hf:Instr.findNow (.int kk) (.int kk n) es.toList 0=some (some (i,v)))
  (h:wpList P ops Q rest (a.put o.dst v) w):wpList P ops Q (o::rest) a w:=by
 refine wpList_plain hgd fun K hK=>?_;have AA:=zHQ (P:=P) hm hk hb hf;unfold Oper.wp execOp;simp only[ho,em,ek,Sem.run_bind,Sem.run_pure,AA,Result.andThen_ok];exact hK _ _ h
theorem zCU {ops:Array Oper}{rest:List Oper}{o:Oper}{a:Act}{w:World}{Q:Exit→Act→World→Prop}(hgd:o.guard=none)(t:TypeId)(ho:o.op=.makeMap t none)
  (h:∀w',Ext w w'→ZG w' w.heap.size #[] 0→w'.heap.size=w.heap.size+1→wpList P ops Q rest (a.put o.dst (.map (some w.heap.size))) w'):wpList P ops Q (o::rest) a w:=by
 refine wpList_plain hgd fun K hK=>?_;unfold Oper.wp execOp;simp only[ho,Option.map_none,Sem.run_bind,Sem.run_pure,run_makeMap,Result.andThen_ok];exact hK _ _ (h _ (Ext.alloc _ _) (ZG.new w) (by simp))
end
def zKD {α:Type}:Sem α→Prop
 | .pure _=>True
 | .getObj _ k=>∀o,zKD (k o)
 | .setObj _ _ k=>zKD k
 | .choose _ k=>∀n,zKD (k n)
 | .halt _=>True
 | _=>False
theorem zCg {α:Type}{P:Program}:∀(s:Sem α),zKD s→∀(w:World) (v:α) (w':World),s.run P w=.ok v w'→w'.tape=w.tape
 | .pure a,_,w,v,w',h=>by
  simp only[Sem.run] at h;injection h with _ h;rw[h]
 | .getObj r k,ht,w,v,w',h=>by
  simp only[Sem.run] at h
  split at h
  ·cases h
  ·have hh:=zCg (k _) (ht _) _ _ _ h;exact hh
  ·cases h
 | .setObj r o k,ht,w,v,w',h=>by
  simp only[Sem.run] at h
  split at h
  ·cases h
  ·have hh:=zCg k ht _ _ _ h;exact hh
  ·cases h
 | .choose q k,ht,w,v,w',h=>by
  simp only[Sem.run] at h
  split at h
  ·have hh:=zCg (k _) (ht _) _ _ _ h;exact hh
  ·have hh:=zCg (k _) (ht _) _ _ _ h;exact hh
 | .halt x,_,w,v,w',h=>by simp[Sem.run] at h
 | .load ..,ht,_,_,_,_=>ht.elim
 | .store ..,ht,_,_,_,_=>ht.elim
 | .new ..,ht,_,_,_,_=>ht.elim
 | .shape ..,ht,_,_,_,_=>ht.elim
 | .freeze ..,ht,_,_,_,_=>ht.elim
 | .frozen ..,ht,_,_,_,_=>ht.elim
 | .sys ..,ht,_,_,_,_=>ht.elim
 | .program ..,ht,_,_,_,_=>ht.elim
 | .mark ..,ht,_,_,_,_=>ht.elim
theorem zAz {α β:Type}:∀(s:Sem α) (f:α→Sem β),zKD s→(∀a,zKD (f a))→zKD (s >>= f)
 | .pure a,f,_,hf=>hf a
 | .getObj r k,f,hs,hf=>fun o=>zAz (k o) f (hs o) hf
 | .setObj r o k,f,hs,hf=>zAz k f hs hf
 | .choose q k,f,hs,hf=>fun n=>zAz (k n) f (hs n) hf
 | .halt x,f,_,_=>trivial
 | .load ..,_,hs,_=>hs.elim
 | .store ..,_,hs,_=>hs.elim
 | .new ..,_,hs,_=>hs.elim
 | .shape ..,_,hs,_=>hs.elim
 | .freeze ..,_,hs,_=>hs.elim
 | .frozen ..,_,hs,_=>hs.elim
 | .sys ..,_,hs,_=>hs.elim
 | .program ..,_,hs,_=>hs.elim
 | .mark ..,_,hs,_=>hs.elim
theorem zNH (r:Nat)(ty:TypeId):zKD (Instr.next (.pointer (some ⟨r,0,none⟩)) false ty):=by
 unfold Instr.next;refine zAz _ _ (fun _=>trivial) fun o=>?_
 split
 ·rename_i h; cases h
 ·exact trivial
 ·refine zAz _ _ (fun _=>trivial) fun o=>?_
  split
  ·split
   ·exact trivial
   ·refine zAz _ _ (fun _=>trivial) fun n=>?_
    split
    ·exact zAz _ _ trivial fun _=>trivial
    ·exact trivial
    ·exact trivial
  ·exact trivial
 ·exact trivial
theorem zOe {P:Program}{r:Nat}{ty:TypeId}{w w':World}{v:Value}(h:(Instr.next (.pointer (some ⟨r,0,none⟩)) false ty).run P w=.ok v w'):w'.tape=w.tape:=zCg _ (zNH r ty) _ _ _ h
def XC (c:UInt8):Nat:=if vI c then 1 else if vP c then 2 else if zFc c then 3 else 0
def zAQ:ByteArray:=⟨#[97,98,99,100,101,102,103,104,105,106,107,108,109,110,111,112,113,114,115,116,117,118,119,120,121,122]⟩
def zBO:ByteArray:=⟨#[48,49,50,51,52,53,54,55,56,57]⟩
def zC6:ByteArray:=⟨#[123,125,40,41,91,93,59,44,46,43,45,42,60,61]⟩
theorem zFi:VG zAQ vI:=by unfold VG; decide +kernel
theorem zDL:VG zBO vP:=by unfold VG; decide +kernel
theorem zIM:VG zC6 zFc:=by unfold VG; decide +kernel
def XM:Array MapEntry:=#[{ key:=.int .u8 1,val:=.string zAQ,born:=0 },{ key:=.int .u8 2,val:=.string zBO,born:=1 },{ key:=.int .u8 3,val:=.string zC6,born:=2 }]
theorem zFn:∀n:Nat,n<256→(vI n.toUInt8=true→XC n.toUInt8=1)∧(vP n.toUInt8=true→XC n.toUInt8=2)∧(zFc n.toUInt8=true→XC n.toUInt8=3)∧(vI n.toUInt8=false→vP n.toUInt8=false→zFc n.toUInt8=false→XC n.toUInt8=0):=by decide +kernel
def zCR (c:UInt8)(x:MapEntry):Bool:=match x.val with | .string s=>decide (0≤Lib.indexByte s.data.toList c) | _=>false
theorem zMy (c:UInt8)(e:MapEntry)(he:e ∈ XM.toList):∃(k:Int) (s:ByteArray),e.key=.int .u8 k∧e.val=.string s∧(decide (0≤Lib.indexByte s.data.toList c)=true→(XC c:Int)=k):=by
 have h:=zFn c.toNat c.toNat_lt;rw[show c.toNat.toUInt8=c from by simp] at h
 have AA:e = { key:=.int .u8 1,val:=.string zAQ,born:=0 } ∨ e = { key:=.int .u8 2,val:=.string zBO,born:=1 } ∨ e = { key:=.int .u8 3,val:=.string zC6,born:=2 }:=by simpa [XM] using he
 rcases AA with rfl | rfl | rfl
 ·exact⟨1,zAQ,rfl,rfl,fun hh=>by rw[zFi.at_] at hh; rw[h.1 hh]; rfl⟩
 ·exact⟨2,zBO,rfl,rfl,fun hh=>by rw[zDL.at_] at hh; rw[h.2.1 hh]; rfl⟩
 ·exact⟨3,zC6,rfl,rfl,fun hh=>by rw[zIM.at_] at hh; rw[h.2.2.1 hh]; rfl⟩
theorem zRW (c:UInt8)(h:∀x ∈ XM.toList,zCR c x=false):(XC c:Int)=0:=by
 have hk:=zFn c.toNat c.toNat_lt;rw[show c.toNat.toUInt8=c from by simp] at hk;have h1:=h { key:=.int .u8 1,val:=.string zAQ,born:=0 } (by simp[XM]);have h2:=h { key:=.int .u8 2,val:=.string zBO,born:=1 } (by simp[XM]);have h3:=h { key:=.int .u8 3,val:=.string zC6,born:=2 } (by simp[XM]);simp only[zCR,zFi.at_,zDL.at_,zIM.at_] at h1 h2 h3;rw[hk.2.2.2 h1 h2 h3]
 rfl
theorem zBt:MapKept.Stamped XM 3:=by
 refine⟨?_,?_,?_⟩
 ·intro x hx
  have AA:x = { key:=.int .u8 1,val:=.string zAQ,born:=0 } ∨ x = { key:=.int .u8 2,val:=.string zBO,born:=1 } ∨ x = { key:=.int .u8 3,val:=.string zC6,born:=2 }:=by simpa [XM] using hx
  rcases AA with rfl | rfl | rfl <;> decide
 ·simp[XM]
 ·simp[XM]
theorem Ext.alike {w w1 w2:World}(h:Ext w w1)(ha:w2.Alike w1)(ht:w2.tape=w1.tape):Ext w w2:=by
 obtain⟨a,b,c⟩:=ha;exact⟨b.trans h.os,ht.trans h.tape,c.trans h.output,by rw[a]; exact h.size,fun k hk=>by rw[a]; exact h.block k hk⟩
theorem zEp (c:UInt8)(w:World) :
  Calls Tryz.prog 69 #[.int .u8 (c.toNat:Int)] w fun e w'=>e=.returned (.int .u8 (XC c:Int))∧Ext w w':=by
 go_enter Tryz.func69,Tryz.ntmps69
 go_wp2_with (refine zCU rfl 117 rfl ?_)
 intro w1 Ad AU Ah;refine zAJ rfl 117 (.tmp 6) (.const (.int .u8 1)) (.const (.string zAQ)) rfl Tryz.underlying117 Tryz.underlying5 w.heap.size 0 #[] 1 (.string zAQ) rfl rfl rfl AU rfl ?_;intro w2 AO Ae;refine zAJ rfl 117 (.tmp 6) (.const (.int .u8 2)) (.const (.string zBO)) rfl Tryz.underlying117 Tryz.underlying5 w.heap.size 1 _ 2 (.string zBO) rfl rfl rfl Ae rfl ?_;intro w3 AR Al;refine zAJ rfl 117 (.tmp 6) (.const (.int .u8 3)) (.const (.string zC6)) rfl Tryz.underlying117 Tryz.underlying5 w.heap.size 2 _ 3 (.string zC6) rfl rfl rfl Al rfl ?_;intro w4 AQ Ab;have AY:Ext w w4:=AQ.ext (AR.ext (AO.ext Ad (zU _)) (zU _)) (zU _);have AH:w4.heap[w.heap.size]?=some (.map XM 3):=Ab
 have Ag:w4.heap.size=w.heap.size+1:=by rw[AQ.size,AR.size,AO.size,Ah]
 have AW:=yD AY;have Ar:=yD Ag;clear Ad AU Ah AO Ae AR Al AQ Ab AY Ag;have Ap:=run_range_map (P:=Tryz.prog) w4 117 5 9 w.heap.size XM 3 Tryz.underlying117 AH;have An:=yD AH;clear AH
 go_wp2_with fail
 go_loopw [] (fun wr=>∃(w5:World) (AA:Array Nat),w5.Alike w4∧Hid (w5.tape=w4.tape)∧wr=w5.alloc (.mapIter (some w.heap.size) 3 AA 3)∧Hid (∀x ∈ XM.toList,AA.contains x.born=true→zCR c x=false)) (fun wr=>(leftOf XM (wr.iterSeen w4.heap.size)).size)
 case atStart=>exact⟨w4,#[],⟨rfl,rfl,rfl⟩,yD rfl,rfl,yD fun x _ h=>by simp at h⟩
 case round=>
  obtain⟨w5,AA,AL,HT,rfl,Ac⟩:=hrel
  have AP:w5.heap.size=w4.heap.size:=by rw[AL.1]
  have AM:w5.heap[w.heap.size]?=some (.map XM 3):=by rw[AL.1]; exact An.out
  have AV:=run_next_map (P:=Tryz.prog) w5 0 w.heap.size 3 3 AA XM 3 AM zBt.1 (zU _);rw[AP] at AV;have AT:=yD AP;have AN:=yD AL;clear AL AP
  rcases AV with ⟨h0,AB⟩ | ⟨e,he,w6,AC,AB⟩
  ·have Ao:∀ty,(Instr.next (.pointer (some ⟨w4.heap.size,0,none⟩)) false ty).run Tryz.prog (w5.alloc (.mapIter (some w.heap.size) 3 AA 3))=_:=fun _=>AB;have hk:=zRW c fun x hx=>Ac.out x hx (all_seen XM AA h0 x hx);have HK:=yD hk;have HX:Hid (Ext w (w5.alloc (.mapIter (some w.heap.size) 3 AA 3))):=yD (((AW.out).alike AN.out HT.out).trans (Ext.alloc _ _));clear hk h0 AB AM
   go_wp2_with fail
   go_ret;exact⟨zEd HK.out.symm,HX.out⟩
  ·obtain⟨kk,s,AG,AD,AI⟩:=zMy c e (mem_left he).1;have AJ:=zOe AB;have AS:w6.tape=w5.tape:=AJ;clear AJ;rw[AD,AG] at AB;have Ao:∀ty,(Instr.next (.pointer (some ⟨w4.heap.size,0,none⟩)) false ty).run Tryz.prog (w5.alloc (.mapIter (some w.heap.size) 3 AA 3))=_:=fun _=>AB
   have AF:w6.heap.size=w4.heap.size:=by rw[AC.1]; exact AT.out
   have AZ:w6.heap[w.heap.size]?=some (.map XM 3):=by rw[AC.1]; exact AM
   have Am:=run_entry_map (P:=Tryz.prog) w6 w.heap.size 3 AA XM 3 e AZ (mem_left he).1 zBt.2.1;rw[AF,AD,AG] at Am;have AK:Hid (w6.Alike w4):=yD ⟨AC.1.trans AN.out.1,AC.2.1.trans AN.out.2.1,AC.2.2.trans AN.out.2.2⟩;have Aj:Hid (w6.tape=w4.tape):=yD (AS.trans HT.out);have HX:Hid (Ext w (w6.alloc (.mapIter (some w.heap.size) 3 (AA.push e.born) 3))):=yD (((AW.out).alike AK.out Aj.out).trans (Ext.alloc _ _));have Aa:=yD AI
   have AX:zCR c e=decide (0≤Lib.indexByte s.data.toList c):=by unfold zCR; rw[AD]
   have Ai:=yD AX;have HE:=yD he;have Ak:=yD AF
   have AE:∀W:World,Calls Tryz.prog 70 #[.string s,.int .u8 (c.toNat:Int)] W fun e w'=>e=.returned (.int .i64 (Lib.indexByte s.data.toList c))∧w'=W:=fun W=>by
    have h:=zC5 s (c.toNat:Int) W;rw[show((c.toNat:Int).toNat).toUInt8=c from by simp] at h;exact h
   have Af:=yD AE;clear AI AX he AF AB AE AG AD AC AS AM AZ;obtain⟨t,ht⟩:∃t,decide (0≤Lib.indexByte s.data.toList c)=t:=⟨_,rfl⟩;rw[ht] at Aa Ai;generalize Lib.indexByte s.data.toList c=z at *
   cases t with
   | true=>
    have hz:0≤z:=of_decide_eq_true ht
    go_wp2_with ((go_at_call 70; refine(Af.out _).mono ?_; rintro e' w' ⟨rfl,rfl⟩))
    go_ret;exact⟨zEd (Aa.out (by trivial)).symm,HX.out⟩
   | false=>
    have hz:¬0≤z:=of_decide_eq_false ht
    have Aq:z<0:=by omega
    go_wp2_with ((go_at_call 70; refine(Af.out _).mono ?_; rintro e' w' ⟨rfl,rfl⟩))
    go_roundw
    case rel=>
     refine⟨w6,AA.push e.born,AK.out,Aj,rfl,yD fun x hx hc=>?_⟩;rw[contains_push] at hc
     rcases Bool.or_eq_true _ _ ▸ hc with h1 | h1
     ·exact Ac.out x hx h1
     ·have:x=e:=born_inj zBt.2.1 hx (mem_left HE.out).1 (beq_iff_eq.1 h1)
      subst this;exact Ai.out
    case measure=>
     rw[←Ak.out,World.iterSeen_alloc,Ak.out,←AT.out,World.iterSeen_alloc];exact left_shrinks XM AA e HE.out
theorem Ext.bytesWorld (w:World)(e:TypeId)(s:ByteArray):Ext w (Lib.bytesWorld w e s):=
 ⟨rfl,rfl,rfl,by rw[Lib.bytesWorld_size]; omega,fun k hk=>Lib.bytesWorld_at_old w e s k hk⟩
def zG9:Option Int→Value
 | some n=>.tuple #[.int .i64 n,.int .i64 0]
 | none=>.tuple #[.int .i64 0,.int .i64 31]
theorem zNy {r r':Option Int}{v:Value}(h:r=r')(hv:zG9 r'=v):Ending.returned v=.returned (zG9 r):=by rw[h,hv]
theorem zAR (l:Bs):(yX l).toList=l:=by
 rw[←zCG,Lib.strOfNums_toList,zAL]
theorem zLT (l:Bs)(hd:∀c ∈ l,vP c=true)(hl:l.length≤140737488355328)(w:World)(r:Option Int)(hr:Hid (zBr 0 l=r)) :
  Calls Tryz.prog 71 #[.string (yX l)] w fun e w'=>e=.returned (zG9 r)∧Ext w w':=by
 have AH:=Lib.run_convert_string_bytes (P:=Tryz.prog) w 9 22 5 (yX l) Tryz.underlying9 Tryz.underlying22 Tryz.underlying5
 have AE:(yX l).size=l.length:=by simp[yX,ByteArray.size]
 have AA:∀j (h:j<l.length),(Lib.bytesWorld w 5 (yX l)).cell? ⟨w.heap.size,j,none⟩=some (.int .u8 (l[j].toNat:Int)):=fun j h=>by
  rw[Lib.bytesWorld_cell w 5 (yX l) j (by rw[AE]; exact h)];simp[yX,h]
 have HX:=yD (Ext.bytesWorld w 5 (yX l));have HC:=yD AA;have HD:=yD hd;rw[AE] at AH;clear AA AE hd;generalize Lib.bytesWorld w 5 (yX l)=w1 at *;generalize grownCap w l.length 0 5=cp at *;generalize w.heap.size=gs at *
 go_enter Tryz.func71,Tryz.ntmps71
 go_wp2_with fail
 go_loop [2,9] (fun n i=>∃(k:Nat) (m:Int),k≤l.length∧i=.int .i64 k∧n=.int .i64 m∧0≤m∧m≤2147483647∧Hid (zBr m (l.drop k)=r)) (fun _ i=>l.length-(intOf i).toNat)
 case atStart=>exact⟨0,0,zT _,rfl,rfl,by omega,by omega,hr⟩
 case round=>
  obtain⟨k,m,hk,rfl,rfl,AI,AL,HN⟩:=hrel
  by_cases AC:k<l.length
  ·have e0:=HC.out k AC;have AF:=HD.out _ (yL AC);have AD:=HN.out;rw[List.drop_eq_getElem_cons AC] at AD;have AG:=yD AD;clear AD;generalize l[k]=c at *
   have hc:48≤c.toNat∧c.toNat≤57:=by simpa [vP] using AF
   obtain⟨AK,AJ⟩:=hc;clear AF
   have q0:(k:Int)<(l.length:Int):=by omega
   by_cases AB:2147483647<m*10+((c.toNat:Int)-48)
   ·have HR:Hid (r=none):=yD (by rw[←AG.out]; unfold zBr; rw[if_pos AB])
    go_wp2_with fail
    go_ret2;exact⟨zNy HR.out rfl,HX.out⟩
   ·have HR:Hid (zBr (m*10+((c.toNat:Int)-48)) (l.drop (k+1))=r):=yD (by rw[←AG.out]; conv=>rhs; unfold zBr; rw[if_neg AB])
    go_wp2_with fail
    go_round
    case rel=>exact⟨k+1,m*10+((c.toNat:Int)-48),by omega,by go_num,by go_num,by omega,by omega,HR⟩
    case measure=>simp[intOf]; omega
  ·obtain rfl:k=l.length:=by omega
   have HR:Hid (r=some m):=yD (by rw[←HN.out,List.drop_eq_nil_of_le (zU _)]; rfl)
   go_wp2_with fail
   go_ret2;exact⟨zNy HR.out rfl,HX.out⟩
theorem zIp (v1 v2:Value)(a b:Bs)(w:World)
  (h1:(convert 22 9 v1).run Tryz.prog w=.ok (.string (yX a)) w) (h2:(convert 22 9 v2).run Tryz.prog w=.ok (.string (yX b)) w) :
  Calls Tryz.prog 115 #[v1,v2] w fun e w'=>e=.returned (.bool (a==b))∧w'=w:=by
 have HE:=yD (show((yX a).toList==(yX b).toList)=(a==b) by rw[zAR,zAR])
 go_enter Tryz.func115,Tryz.ntmps115
 go_wp2_with fail
 go_ret;exact⟨zCa HE.out,rfl⟩
theorem zHT (A B:Option Addr)(a b:Bs)(n m c d:Nat)(w:World)(hn:n=a.length)(hm:m=b.length)(hc:n≤c)(hA:Cells w A (xL a))(hB:Cells w B (xL b)) :
  Calls Tryz.prog 72 #[.slice A n c,.slice B m d] w fun e w'=>e=.returned (.bool (decide (b.length≤a.length)&&(a.take b.length==b)))∧w'=w:=by
 subst hn hm;have h2:=ZV (P:=Tryz.prog) (n:=b.length) (c:=d) Tryz.underlying22 Tryz.underlying5 Tryz.underlying9 rfl hB;have HA:=yD hA;clear hA hB
 by_cases AA:b.length≤a.length
 ·have d0:decide (b.length≤a.length)=true:=yP AA
  have h1:=ZV (P:=Tryz.prog) (w:=w) (A:=A) (l:=a.take b.length) (n:=b.length) (c:=c) Tryz.underlying22 Tryz.underlying5 Tryz.underlying9 (by simp; omega) (by
   have h:=zB3 HA.out hc 0 b.length;rw[List.drop_zero] at h;unfold zEU at h
   split at h
   ·exact h
   ·cases A with
    | none=>exact h
    | some x=>exact h)
  have H:=yD (zIp _ _ _ _ _ h1 h2);have HD:Hid ((a.take b.length==b)=(decide (b.length≤a.length)&&(a.take b.length==b))):=yD (by rw[d0,Bool.true_and]);clear h1 h2
  go_enter Tryz.func72,Tryz.ntmps72
  go_wp2_with fail
  refine H.out.mono ?_;rintro e w' ⟨rfl,rfl⟩
  go_wp2_with fail
  go_ret;exact⟨zCa HD.out,rfl⟩
 ·have d0:decide (b.length≤a.length)=false:=yO AA;have HD:Hid (false=(decide (b.length≤a.length)&&(a.take b.length==b))):=yD (by rw[d0,Bool.false_and])
  go_enter Tryz.func72,Tryz.ntmps72
  go_wp2_with fail
  go_ret;exact⟨zCa HD.out,rfl⟩
end Go.Proofs.YtioffpjajhalaaaGreatDoor
