/- A map that the call itself makes and fills entry by entry, its keys integers: known whole. (and what follows of it). The conditions stand at each lemma. -/
import Derived.Test.YtbadjmmjbpeocaaGreatDoorKaa
import Derived.Test.YtbadjmmjbpeocaaGreatDoorKab
import Derived.WideMake
import Derived.MapKept
import Derived.Carry
import Derived.Laws.IdiomRangeMap
import Derived.Lib.ConvBytes
set_option linter.unusedVariables false
set_option linter.unusedSimpArgs false
set_option maxRecDepth 100000
set_option maxHeartbeats 16000000
namespace Go.Proofs.YtbadjmmjbpeocaaGreatDoor
open Go Go.RowKit
def ZN (w:World)(r:Nat)(es:Array MapEntry)(clock:Nat):Prop:=w.heap[r]?=some (.map es clock)
section
variable {w w':World} {r:Nat} {es:Array MapEntry} {clock:Nat}
theorem ZN.lt (h:ZN w r es clock):r<w.heap.size:=(Array.getElem?_eq_some_iff.1 h).1
theorem ZN.new (w:World):ZN (w.alloc (.map #[] 0)) w.heap.size #[] 0:=zQ w _
theorem ZN.ext (h:ZN w r es clock)(hx:Ext w w'):ZN w' r es clock:=(hx.block r h.lt).trans h
theorem ZN.ZX {g:Nat}(h:ZN w r es clock)(ht:Touch g w w')(hg:r≠g):ZN w' r es clock:=(ht.other r hg).trans h
end
section
variable {P:Program}
theorem zI0 {w:World}{t kt et:TypeId}{kk:IntKind}{r clock:Nat}{es:Array MapEntry}{n:Int}{val:Value}(hm:P.underlying t=some (.map kt et))(hk:P.underlying kt=some (.int kk))
  (hb:ZN w r es clock) (hf:Instr.findNow (.int kk) (.int kk n) es.toList 0=some none) :
  (Instr.mapUpdate t (.map (some r)) (.int kk n) val).run P w=.ok () { w with heap:=w.heap.setIfInBounds r (.map (es.push { key:=.int kk n,val:=val,born:=clock }) (clock+1)) }:=by
 have hc:(Instr.checkKey false 10000 kt (.int kk n)).run P w=.ok () w:=MapKept.run_checkKey (k:=.int kk n) hk (by simp[MapKept.IsKey]) false 9999;simp[Instr.mapUpdate,run_underlying hm,MapKept.run_getObj_map hb,hc,MapKept.run_findKey hk hf,MapKept.run_setObj_map _ hb,Result.andThen]
theorem zBy {ops:Array Oper}{rest:List Oper}{o:Oper}{a:Act}{w:World}{Q:Exit→Act→World→Prop}(hgd:o.guard=none)(t:TypeId)(m k x:Operand)(ho:o.op=.insert t m k x){kt et:TypeId}{kk:IntKind}
  (hm:P.underlying t=some (.map kt et)) (hk:P.underlying kt=some (.int kk)) (r clock:Nat) (es:Array MapEntry) (n:Int) (v:Value)
  (em:a.eval m=.map (some r)) (ek:a.eval k=.int kk n) (ex:a.eval x=v) (hb:ZN w r es clock) (hf:Instr.findNow (.int kk) (.int kk n) es.toList 0=some none)
  (h:∀w',Touch r w w'→ZN w' r (es.push { key:=.int kk n,val:=v,born:=clock }) (clock+1)→wpList P ops Q rest (a.put o.dst undef) w'):wpList P ops Q (o::rest) a w:=by
 refine wpList_plain hgd fun K hK=>?_;have hrun:=zI0 (val:=v) hm hk hb hf;unfold Oper.wp execOp;simp only[ho,em,ek,ex,Sem.run_bind,Sem.run_pure,hrun,Result.andThen_ok];refine hK _ _ (h _ ⟨rfl,rfl,rfl,by simp,fun q hq=>?_⟩ ?_)
 ·simp[Array.getElem?_setIfInBounds,Ne.symm hq]
 ·have hlt:=hb.lt;unfold ZN;simp[hlt]
theorem zJB {w:World}{t kt et:TypeId}{kk:IntKind}{r clock i:Nat}{es:Array MapEntry}{n:Int}{v:Value}(hm:P.underlying t=some (.map kt et))(hk:P.underlying kt=some (.int kk))
  (hb:ZN w r es clock) (hf:Instr.findNow (.int kk) (.int kk n) es.toList 0=some (some (i,v))):(Instr.lookup t (.map (some r)) (.int kk n) false).run P w=.ok v w:=by
 have hc:(Instr.checkKey es.isEmpty 10000 kt (.int kk n)).run P w=.ok () w:=MapKept.run_checkKey (k:=.int kk n) hk (by simp[MapKept.IsKey]) _ 9999;simp[Instr.lookup,run_underlying hm,MapKept.run_getObj_map hb,hc,MapKept.run_findKey hk hf,Result.andThen]
theorem zFA {ops:Array Oper}{rest:List Oper}{o:Oper}{a:Act}{w:World}{Q:Exit→Act→World→Prop}(hgd:o.guard=none)(t:TypeId)(m k:Operand)(ho:o.op=.lookup t m k false){kt et:TypeId}{kk:IntKind}
  (hm:P.underlying t=some (.map kt et)) (hk:P.underlying kt=some (.int kk)) (r clock i:Nat) (es:Array MapEntry) (n:Int) (v:Value)
  (em:a.eval m=.map (some r)) (ek:a.eval k=.int kk n) (hb:ZN w r es clock) (hf:Instr.findNow (.int kk) (.int kk n) es.toList 0=some (some (i,v)))
  (h:wpList P ops Q rest (a.put o.dst v) w):wpList P ops Q (o::rest) a w:=by
 refine wpList_plain hgd fun K hK=>?_;have hrun:=zJB (P:=P) hm hk hb hf;unfold Oper.wp execOp;simp only[ho,em,ek,Sem.run_bind,Sem.run_pure,hrun,Result.andThen_ok];exact hK _ _ h
theorem zEn {ops:Array Oper}{rest:List Oper}{o:Oper}{a:Act}{w:World}{Q:Exit→Act→World→Prop}(hgd:o.guard=none)(t:TypeId)(ho:o.op=.makeMap t none)
  (h:∀w',Ext w w'→ZN w' w.heap.size #[] 0→w'.heap.size=w.heap.size+1→wpList P ops Q rest (a.put o.dst (.map (some w.heap.size))) w'):wpList P ops Q (o::rest) a w:=by
 refine wpList_plain hgd fun K hK=>?_;unfold Oper.wp execOp;simp only[ho,Option.map_none,Sem.run_bind,Sem.run_pure,run_makeMap,Result.andThen_ok];exact hK _ _ (h _ (Ext.alloc _ _) (ZN.new w) (by simp))
end
def zMR {α:Type}:Sem α→Prop
 | .pure _=>True
 | .getObj _ k=>∀o,zMR (k o)
 | .setObj _ _ k=>zMR k
 | .choose _ k=>∀n,zMR (k n)
 | .halt _=>True
 | _=>False
theorem zDm {α:Type}{P:Program}:∀(s:Sem α),zMR s→∀(w:World) (v:α) (w':World),s.run P w=.ok v w'→w'.tape=w.tape
 | .pure a,_,w,v,w',h=>by
  simp only[Sem.run] at h;injection h with _ h;rw[h]
 | .getObj r k,ht,w,v,w',h=>by
  simp only[Sem.run] at h
  split at h
  ·cases h
  ·have hh:=zDm (k _) (ht _) _ _ _ h;exact hh
  ·cases h
 | .setObj r o k,ht,w,v,w',h=>by
  simp only[Sem.run] at h
  split at h
  ·cases h
  ·have hh:=zDm k ht _ _ _ h;exact hh
  ·cases h
 | .choose q k,ht,w,v,w',h=>by
  simp only[Sem.run] at h
  split at h
  ·have hh:=zDm (k _) (ht _) _ _ _ h;exact hh
  ·have hh:=zDm (k _) (ht _) _ _ _ h;exact hh
 | .halt x,_,w,v,w',h=>by simp[Sem.run] at h
 | .load ..,ht,_,_,_,_=>ht.elim
 | .store ..,ht,_,_,_,_=>ht.elim
 | .new ..,ht,_,_,_,_=>ht.elim
 | .shape ..,ht,_,_,_,_=>ht.elim
 | .freeze ..,ht,_,_,_,_=>ht.elim
 | .frozen ..,ht,_,_,_,_=>ht.elim
 | .sys ..,ht,_,_,_,_=>ht.elim
 | .program ..,ht,_,_,_,_=>ht.elim
 | .mark ..,ht,_,_,_,_=>ht.elim
theorem zBg {α β:Type}:∀(s:Sem α) (f:α→Sem β),zMR s→(∀a,zMR (f a))→zMR (s >>= f)
 | .pure a,f,_,hf=>hf a
 | .getObj r k,f,hs,hf=>fun o=>zBg (k o) f (hs o) hf
 | .setObj r o k,f,hs,hf=>zBg k f hs hf
 | .choose q k,f,hs,hf=>fun n=>zBg (k n) f (hs n) hf
 | .halt x,f,_,_=>trivial
 | .load ..,_,hs,_=>hs.elim
 | .store ..,_,hs,_=>hs.elim
 | .new ..,_,hs,_=>hs.elim
 | .shape ..,_,hs,_=>hs.elim
 | .freeze ..,_,hs,_=>hs.elim
 | .frozen ..,_,hs,_=>hs.elim
 | .sys ..,_,hs,_=>hs.elim
 | .program ..,_,hs,_=>hs.elim
 | .mark ..,_,hs,_=>hs.elim
theorem zPH (r:Nat)(ty:TypeId):zMR (Instr.next (.pointer (some ⟨r,0,none⟩)) false ty):=by
 unfold Instr.next;refine zBg _ _ (fun _=>trivial) fun o=>?_
 split
 ·rename_i h; cases h
 ·exact trivial
 ·refine zBg _ _ (fun _=>trivial) fun o=>?_
  split
  ·split
   ·exact trivial
   ·refine zBg _ _ (fun _=>trivial) fun n=>?_
    split
    ·exact zBg _ _ trivial fun _=>trivial
    ·exact trivial
    ·exact trivial
  ·exact trivial
 ·exact trivial
theorem zQb {P:Program}{r:Nat}{ty:TypeId}{w w':World}{v:Value}(h:(Instr.next (.pointer (some ⟨r,0,none⟩)) false ty).run P w=.ok v w'):w'.tape=w.tape:=zDm _ (zPH r ty) _ _ _ h
def XZ (c:UInt8):Nat:=if JA c then 1 else if ZT c then 2 else if zI6 c then 3 else 0
def zBF:ByteArray:=⟨#[97,98,99,100,101,102,103,104,105,106,107,108,109,110,111,112,113,114,115,116,117,118,119,120,121,122]⟩
def zCP:ByteArray:=⟨#[48,49,50,51,52,53,54,55,56,57]⟩
def zED:ByteArray:=⟨#[123,125,40,41,91,93,59,44,46,43,45,42,60,61]⟩
theorem zG2:zAl zBF JA:=by unfold zAl; decide +kernel
theorem zFm:zAl zCP ZT:=by unfold zAl; decide +kernel
theorem zK0:zAl zED zI6:=by unfold zAl; decide +kernel
def JF:Array MapEntry:=#[{ key:=.int .u8 1,val:=.string zBF,born:=0 },{ key:=.int .u8 2,val:=.string zCP,born:=1 },{ key:=.int .u8 3,val:=.string zED,born:=2 }]
theorem zG9:∀n:Nat,n<256→(JA n.toUInt8=true→XZ n.toUInt8=1)∧(ZT n.toUInt8=true→XZ n.toUInt8=2)∧(zI6 n.toUInt8=true→XZ n.toUInt8=3)∧(JA n.toUInt8=false→ZT n.toUInt8=false→zI6 n.toUInt8=false→XZ n.toUInt8=0):=by decide +kernel
def zEe (c:UInt8)(x:MapEntry):Bool:=match x.val with | .string s=>decide (0≤Lib.indexByte s.data.toList c) | _=>false
theorem zOJ (c:UInt8)(e:MapEntry)(he:e ∈ JF.toList):∃(k:Int) (s:ByteArray),e.key=.int .u8 k∧e.val=.string s∧(decide (0≤Lib.indexByte s.data.toList c)=true→(XZ c:Int)=k):=by
 have h:=zG9 c.toNat c.toNat_lt;rw[show c.toNat.toUInt8=c from by simp] at h
 have he':e = { key:=.int .u8 1,val:=.string zBF,born:=0 } ∨ e = { key:=.int .u8 2,val:=.string zCP,born:=1 } ∨ e = { key:=.int .u8 3,val:=.string zED,born:=2 }:=by simpa [JF] using he
 rcases he' with rfl | rfl | rfl
 ·exact⟨1,zBF,rfl,rfl,fun hh=>by rw[zG2.at_] at hh; rw[h.1 hh]; rfl⟩
 ·exact⟨2,zCP,rfl,rfl,fun hh=>by rw[zFm.at_] at hh; rw[h.2.1 hh]; rfl⟩
 ·exact⟨3,zED,rfl,rfl,fun hh=>by rw[zK0.at_] at hh; rw[h.2.2.1 hh]; rfl⟩
theorem zT4 (c:UInt8)(h:∀x ∈ JF.toList,zEe c x=false):(XZ c:Int)=0:=by
 have hk:=zG9 c.toNat c.toNat_lt;rw[show c.toNat.toUInt8=c from by simp] at hk;have h1:=h { key:=.int .u8 1,val:=.string zBF,born:=0 } (by simp[JF]);have h2:=h { key:=.int .u8 2,val:=.string zCP,born:=1 } (by simp[JF]);have h3:=h { key:=.int .u8 3,val:=.string zED,born:=2 } (by simp[JF]);simp only[zEe,zG2.at_,zFm.at_,zK0.at_] at h1 h2 h3;rw[hk.2.2.2 h1 h2 h3]
 rfl
theorem zCC:MapKept.Stamped JF 3:=by
 refine⟨?_,?_,?_⟩
 ·intro x hx
  have he':x = { key:=.int .u8 1,val:=.string zBF,born:=0 } ∨ x = { key:=.int .u8 2,val:=.string zCP,born:=1 } ∨ x = { key:=.int .u8 3,val:=.string zED,born:=2 }:=by simpa [JF] using hx
  rcases he' with rfl | rfl | rfl <;> decide
 ·simp[JF]
 ·simp[JF]
theorem Ext.alike {w w1 w2:World}(h:Ext w w1)(ha:w2.Alike w1)(ht:w2.tape=w1.tape):Ext w w2:=by
 obtain⟨a,b,c⟩:=ha;exact⟨b.trans h.os,ht.trans h.tape,c.trans h.output,by rw[a]; exact h.size,fun k hk=>by rw[a]; exact h.block k hk⟩
theorem zF2 (c:UInt8)(w:World) :
  Calls Tryz.prog 80 #[.int .u8 (c.toNat:Int)] w fun e w'=>e=.returned (.int .u8 (XZ c:Int))∧Ext w w':=by
 go_enter Tryz.func80,Tryz.ntmps80
 go_wp2_with (refine zEn rfl 163 rfl ?_)
 intro w1 hx1 hm0 hs1;refine zBy rfl 163 (.tmp 6) (.const (.int .u8 1)) (.const (.string zBF)) rfl Tryz.underlying163 Tryz.underlying5 w.heap.size 0 #[] 1 (.string zBF) rfl rfl rfl hm0 rfl ?_;intro w2 ht2 hm2;refine zBy rfl 163 (.tmp 6) (.const (.int .u8 2)) (.const (.string zCP)) rfl Tryz.underlying163 Tryz.underlying5 w.heap.size 1 _ 2 (.string zCP) rfl rfl rfl hm2 rfl ?_;intro w3 ht3 hm3;refine zBy rfl 163 (.tmp 6) (.const (.int .u8 3)) (.const (.string zED)) rfl Tryz.underlying163 Tryz.underlying5 w.heap.size 2 _ 3 (.string zED) rfl rfl rfl hm3 rfl ?_;intro w4 ht4 hm4;have hx4:Ext w w4:=ht4.ext (ht3.ext (ht2.ext hx1 (zX _)) (zX _)) (zX _);have hm4':w4.heap[w.heap.size]?=some (.map JF 3):=hm4
 have hs4:w4.heap.size=w.heap.size+1:=by rw[ht4.size,ht3.size,ht2.size,hs1]
 have HX4:=yG hx4;have HS4:=yG hs4;clear hx1 hm0 hs1 ht2 hm2 ht3 hm3 ht4 hm4 hx4 hs4;have hrg:=run_range_map (P:=Tryz.prog) w4 163 5 9 w.heap.size JF 3 Tryz.underlying163 hm4';have HM4:=yG hm4';clear hm4'
 go_wp2_with fail
 go_loopw [] (fun wr=>∃(w5:World) (seen:Array Nat),w5.Alike w4∧Hid (w5.tape=w4.tape)∧wr=w5.alloc (.mapIter (some w.heap.size) 3 seen 3)∧Hid (∀x ∈ JF.toList,seen.contains x.born=true→zEe c x=false)) (fun wr=>(leftOf JF (wr.iterSeen w4.heap.size)).size)
 case atStart=>exact⟨w4,#[],⟨rfl,rfl,rfl⟩,yG rfl,rfl,yG fun x _ h=>by simp at h⟩
 case round=>
  obtain⟨w5,seen,hal,HT,rfl,HNO⟩:=hrel
  have hsz:w5.heap.size=w4.heap.size:=by rw[hal.1]
  have hb5:w5.heap[w.heap.size]?=some (.map JF 3):=by rw[hal.1]; exact HM4.out
  have law:=run_next_map (P:=Tryz.prog) w5 0 w.heap.size 3 3 seen JF 3 hb5 zCC.1 (zX _);rw[hsz] at law;have HSZ:=yG hsz;have HAL:=yG hal;clear hal hsz
  rcases law with ⟨h0,hrun⟩ | ⟨e,he,w6,hal2,hrun⟩
  ·have hnx:∀ty,(Instr.next (.pointer (some ⟨w4.heap.size,0,none⟩)) false ty).run Tryz.prog (w5.alloc (.mapIter (some w.heap.size) 3 seen 3))=_:=fun _=>hrun;have hk:=zT4 c fun x hx=>HNO.out x hx (all_seen JF seen h0 x hx);have HK:=yG hk;have HX:Hid (Ext w (w5.alloc (.mapIter (some w.heap.size) 3 seen 3))):=yG (((HX4.out).alike HAL.out HT.out).trans (Ext.alloc _ _));clear hk h0 hrun hb5
   go_wp2_with fail
   go_ret;exact⟨zFN HK.out.symm,HX.out⟩
  ·obtain⟨kk,s,hkey,hval,himp⟩:=zOJ c e (mem_left he).1;have htp0:=zQb hrun;have htp:w6.tape=w5.tape:=htp0;clear htp0;rw[hval,hkey] at hrun;have hnx:∀ty,(Instr.next (.pointer (some ⟨w4.heap.size,0,none⟩)) false ty).run Tryz.prog (w5.alloc (.mapIter (some w.heap.size) 3 seen 3))=_:=fun _=>hrun
   have hsz6:w6.heap.size=w4.heap.size:=by rw[hal2.1]; exact HSZ.out
   have hb6:w6.heap[w.heap.size]?=some (.map JF 3):=by rw[hal2.1]; exact hb5
   have hen:=run_entry_map (P:=Tryz.prog) w6 w.heap.size 3 seen JF 3 e hb6 (mem_left he).1 zCC.2.1;rw[hsz6,hval,hkey] at hen;have HAL3:Hid (w6.Alike w4):=yG ⟨hal2.1.trans HAL.out.1,hal2.2.1.trans HAL.out.2.1,hal2.2.2.trans HAL.out.2.2⟩;have HT3:Hid (w6.tape=w4.tape):=yG (htp.trans HT.out);have HX:Hid (Ext w (w6.alloc (.mapIter (some w.heap.size) 3 (seen.push e.born) 3))):=yG (((HX4.out).alike HAL3.out HT3.out).trans (Ext.alloc _ _));have HIM:=yG himp
   have hEH:zEe c e=decide (0≤Lib.indexByte s.data.toList c):=by unfold zEe; rw[hval]
   have HEH:=yG hEH;have HE:=yG he;have HS6:=yG hsz6
   have hcall:∀W:World,Calls Tryz.prog 81 #[.string s,.int .u8 (c.toNat:Int)] W fun e w'=>e=.returned (.int .i64 (Lib.indexByte s.data.toList c))∧w'=W:=fun W=>by
    have h:=zEz s (c.toNat:Int) W;rw[show((c.toNat:Int).toNat).toUInt8=c from by simp] at h;exact h
   have HCL:=yG hcall;clear himp hEH he hsz6 hrun hcall hkey hval hal2 htp hb5 hb6;obtain⟨t,ht⟩:∃t,decide (0≤Lib.indexByte s.data.toList c)=t:=⟨_,rfl⟩;rw[ht] at HIM HEH;generalize Lib.indexByte s.data.toList c=z at *
   cases t with
   | true=>
    have hz:0≤z:=of_decide_eq_true ht
    go_wp2_with ((go_at_call 81; refine(HCL.out _).mono ?_; rintro e' w' ⟨rfl,rfl⟩))
    go_ret;exact⟨zFN (HIM.out (by trivial)).symm,HX.out⟩
   | false=>
    have hz:¬0≤z:=of_decide_eq_false ht
    have hz':z<0:=by omega
    go_wp2_with ((go_at_call 81; refine(HCL.out _).mono ?_; rintro e' w' ⟨rfl,rfl⟩))
    go_roundw
    case rel=>
     refine⟨w6,seen.push e.born,HAL3.out,HT3,rfl,yG fun x hx hc=>?_⟩;rw[contains_push] at hc
     rcases Bool.or_eq_true _ _ ▸ hc with h1 | h1
     ·exact HNO.out x hx h1
     ·have:x=e:=born_inj zCC.2.1 hx (mem_left HE.out).1 (beq_iff_eq.1 h1)
      subst this;exact HEH.out
    case measure=>
     rw[←HS6.out,World.iterSeen_alloc,HS6.out,←HSZ.out,World.iterSeen_alloc];exact left_shrinks JF seen e HE.out
theorem Ext.bytesWorld (w:World)(e:TypeId)(s:ByteArray):Ext w (Lib.bytesWorld w e s):=
 ⟨rfl,rfl,rfl,by rw[Lib.bytesWorld_size]; omega,fun k hk=>Lib.bytesWorld_at_old w e s k hk⟩
theorem zMX:∀(l:Bs) (n:Int) (m:Int),0≤n→(∀c ∈ l,ZT c=true)→zCL n l=some m→0≤m
 | [],n,m,h,_,e=>by injection e with e; omega
 | c::r,n,m,h,hd,e=>by
  unfold zCL at e
  split at e
  ·cases e
  ·have hc:=hd c (List.mem_cons_self ..);simp[ZT] at hc;exact zMX r _ m (by omega) (fun x hx=>hd x (List.mem_cons_of_mem _ hx)) e
def zIX:Option Int→Value
 | some n=>.tuple #[.int .i64 n,.int .i64 0]
 | none=>.tuple #[.int .i64 0,.int .i64 31]
theorem zPv {r r':Option Int}{v:Value}(h:r=r')(hv:zIX r'=v):Ending.returned v=.returned (zIX r):=by rw[h,hv]
theorem VW (l:Bs):(xI l).toList=l:=by
 rw[←zDV,Lib.strOfNums_toList,zBz]
theorem zN6 (l:Bs)(hd:∀c ∈ l,ZT c=true)(hl:l.length≤140737488355328)(w:World)(r:Option Int)(hr:Hid (zCL 0 l=r)) :
  Calls Tryz.prog 82 #[.string (xI l)] w fun e w'=>e=.returned (zIX r)∧Ext w w':=by
 have hcv:=Lib.run_convert_string_bytes (P:=Tryz.prog) w 9 22 5 (xI l) Tryz.underlying9 Tryz.underlying22 Tryz.underlying5
 have hsz:(xI l).size=l.length:=by simp[xI,ByteArray.size]
 have hcell:∀j (h:j<l.length),(Lib.bytesWorld w 5 (xI l)).cell? ⟨w.heap.size,j,none⟩=some (.int .u8 (l[j].toNat:Int)):=fun j h=>by
  rw[Lib.bytesWorld_cell w 5 (xI l) j (by rw[hsz]; exact h)];simp[xI,h]
 have HX:=yG (Ext.bytesWorld w 5 (xI l));have HC:=yG hcell;have HD:=yG hd;rw[hsz] at hcv;clear hcell hsz hd;generalize Lib.bytesWorld w 5 (xI l)=w1 at *;generalize grownCap w l.length 0 5=cp at *;generalize w.heap.size=gs at *
 go_enter Tryz.func82,Tryz.ntmps82
 go_wp2_with fail
 go_loop [2,9] (fun n i=>∃(k:Nat) (m:Int),k≤l.length∧i=.int .i64 k∧n=.int .i64 m∧0≤m∧m≤2147483647∧Hid (zCL m (l.drop k)=r)) (fun _ i=>l.length-(intOf i).toNat)
 case atStart=>exact⟨0,0,zW _,rfl,rfl,by omega,by omega,hr⟩
 case round=>
  obtain⟨k,m,hk,rfl,rfl,hm0,hm1,HN⟩:=hrel
  by_cases hlt:k<l.length
  ·have e0:=HC.out k hlt;have hdg:=HD.out _ (yO hlt);have hnt:=HN.out;rw[List.drop_eq_getElem_cons hlt] at hnt;have HNT:=yG hnt;clear hnt;generalize l[k]=c at *
   have hc:48≤c.toNat∧c.toNat≤57:=by simpa [ZT] using hdg
   obtain⟨hc1,hc2⟩:=hc;clear hdg
   have q0:(k:Int)<(l.length:Int):=by omega
   by_cases hbig:2147483647<m*10+((c.toNat:Int)-48)
   ·have HR:Hid (r=none):=yG (by rw[←HNT.out]; unfold zCL; rw[if_pos hbig])
    go_wp2_with fail
    go_ret2;exact⟨zPv HR.out rfl,HX.out⟩
   ·have HR:Hid (zCL (m*10+((c.toNat:Int)-48)) (l.drop (k+1))=r):=yG (by rw[←HNT.out]; conv=>rhs; unfold zCL; rw[if_neg hbig])
    go_wp2_with fail
    go_round
    case rel=>exact⟨k+1,m*10+((c.toNat:Int)-48),by omega,by go_num,by go_num,by omega,by omega,HR⟩
    case measure=>simp[intOf]; omega
  ·obtain rfl:k=l.length:=by omega
   have HR:Hid (r=some m):=yG (by rw[←HN.out,List.drop_eq_nil_of_le (zX _)]; rfl)
   go_wp2_with fail
   go_ret2;exact⟨zPv HR.out rfl,HX.out⟩
theorem zQv (v1 v2:Value)(a b:Bs)(w:World)
  (h1:(convert 22 9 v1).run Tryz.prog w=.ok (.string (xI a)) w) (h2:(convert 22 9 v2).run Tryz.prog w=.ok (.string (xI b)) w) :
  Calls Tryz.prog 115 #[v1,v2] w fun e w'=>e=.returned (.bool (a==b))∧w'=w:=by
 have HE:=yG (show((xI a).toList==(xI b).toList)=(a==b) by rw[VW,VW])
 go_enter Tryz.func115,Tryz.ntmps115
 go_wp2_with fail
 go_ret;exact⟨zCD HE.out,rfl⟩
theorem zJE (A B:Option Addr)(a b:Bs)(n m c d:Nat)(w:World)(hn:n=a.length)(hm:m=b.length)(hc:n≤c)(hA:Cells w A (vB a))(hB:Cells w B (vB b)) :
  Calls Tryz.prog 83 #[.slice A n c,.slice B m d] w fun e w'=>e=.returned (.bool (decide (b.length≤a.length)&&(a.take b.length==b)))∧w'=w:=by
 subst hn hm;have h2:=zBw (P:=Tryz.prog) (n:=b.length) (c:=d) Tryz.underlying22 Tryz.underlying5 Tryz.underlying9 rfl hB;have HA:=yG hA;clear hA hB
 by_cases hle:b.length≤a.length
 ·have d0:decide (b.length≤a.length)=true:=yS hle
  have h1:=zBw (P:=Tryz.prog) (w:=w) (A:=A) (l:=a.take b.length) (n:=b.length) (c:=c) Tryz.underlying22 Tryz.underlying5 Tryz.underlying9 (by simp; omega) (by
   have h:=zC9 HA.out hc 0 b.length;rw[List.drop_zero] at h;unfold zDI at h
   split at h
   ·exact h
   ·cases A with
    | none=>exact h
    | some x=>exact h)
  have H:=yG (zQv _ _ _ _ _ h1 h2);have HD:Hid ((a.take b.length==b)=(decide (b.length≤a.length)&&(a.take b.length==b))):=yG (by rw[d0,Bool.true_and]);clear h1 h2
  go_enter Tryz.func83,Tryz.ntmps83
  go_wp2_with fail
  refine H.out.mono ?_;rintro e w' ⟨rfl,rfl⟩
  go_wp2_with fail
  go_ret;exact⟨zCD HD.out,rfl⟩
 ·have d0:decide (b.length≤a.length)=false:=yR hle;have HD:Hid (false=(decide (b.length≤a.length)&&(a.take b.length==b))):=yG (by rw[d0,Bool.false_and])
  go_enter Tryz.func83,Tryz.ntmps83
  go_wp2_with fail
  go_ret;exact⟨zCD HD.out,rfl⟩
end Go.Proofs.YtbadjmmjbpeocaaGreatDoor
