/- reader.skip, walked. (and what follows of it). The conditions stand at each lemma. -/
import Derived.Test.YtioffpjajhalaaaGreatDoorKaa
import Derived.Test.YtioffpjajhalaaaGreatDoorKab
import Derived.WideMake
import Derived.MapKept
import Derived.Carry
import Derived.Laws.IdiomRangeMap
import Derived.Lib.ConvBytes
set_option linter.unusedVariables false
set_option linter.unusedSimpArgs false
set_option maxRecDepth 100000
set_option maxHeartbeats 16000000
namespace Go.Proofs.YtioffpjajhalaaaGreatDoor
open Go Go.RowKit
theorem zHM:∀(s:Bs) (p:Nat),YJ p s=YJ (p+(s.takeWhile ZV).length) (s.drop (s.takeWhile ZV).length)
 | [],p=>rfl
 | c::r,p=>by
  rw[List.takeWhile_cons]
  split
  ·rename_i h
   have hs:step (c::r)=.skip 1:=by show jS c r=_; unfold jS; rw[if_pos h]
   rw[zAY hs,zJ]
   show YJ (p+1) r=YJ _ (r.drop _)
   rw[zHM r (p+1),show p+1+(r.takeWhile ZV).length=p+((r.takeWhile ZV).length+1) from by omega]
  ·rfl
theorem zRa {s:Bs}(h:s.head?=some 35)(p:Nat):YJ p s=YJ (p+(s.takeWhile fun x=>x != 10).length) (s.drop (s.takeWhile fun x=>x != 10).length)∧0<(s.takeWhile fun x=>x != 10).length:=by
 cases s with
 | nil=>cases h
 | cons c r=>
  injection h with h;subst h;have hs:step (35::r)=.skip (1+(r.takeWhile fun x=>x != 10).length):=rfl;have ht:((35:UInt8)::r).takeWhile (fun x=>x != 10)=35::r.takeWhile fun x=>x != 10:=rfl;rw[ht,zJ,zAY hs,Nat.add_comm 1];exact⟨rfl,by omega⟩
theorem zL1 (s:Bs)(c:UInt8):Lib.indexByte s c=if (s.takeWhile fun x=>x != c).length<s.length then ((s.takeWhile fun x=>x != c).length:Int) else -1:=by
 induction s with
 | nil=>rfl
 | cons b s ih=>
  unfold Lib.indexByte;rw[List.takeWhile_cons]
  by_cases hb:(b==c)=true
  ·have:(b != c)=false:=by rw[bne,hb]; rfl
   rw[if_pos hb,this]
   simp
  ·have AA:(b==c)=false:=by simpa using hb
   have:(b != c)=true:=by rw[bne,AA]; rfl
   rw[if_neg hb,this,ih];simp only[if_true,zJ]
   split
   ·rename_i h;rw[if_neg (by simp),if_pos (by omega)];omega
   ·rename_i h;rw[if_pos (by rfl),if_neg (by omega)]
theorem zOX:zAD ⟨#[32,9,10,13]⟩ ZV:=by unfold zAD; decide +kernel
theorem zML (g:Nat)(A:Option Addr)(l:Bs)(c k:Nat)(w:World)(hr:Rd w g A l c k) :
  Calls Tryz.prog 31 #[.pointer (some ⟨g,0,none⟩)] w fun e w'=>e=.returned (.tuple #[])∧∃k',k≤k'∧Mod g w w'∧Rd w' g A l c k'∧YJ k (l.drop k)=YJ k' (l.drop k')∧∀x,(l.drop k').head?=some x→ZV x=false∧(x==35)=false:=by
 have AT:=hr.big;have AZ:=hr.le;have AU:=hr.cap;have HR:=yE hr;clear hr
 go_enter Tryz.func31,Tryz.ntmps31
 go_wp2_with fail
 go_loopg [] (l.length-k) (fun gk wr=>∃k':Nat,k≤k'∧k'≤l.length∧gk=l.length-k'∧Hid (Mod g w wr∧Rd wr g A l c k'∧YJ k (l.drop k)=YJ k' (l.drop k')))
 case atStart=>exact⟨k,zU _,AZ,rfl,yE ⟨Mod.refl _ _,HR.out,rfl⟩⟩
 case round=>
  obtain⟨k1,Ah,Ag,rfl,HW⟩:=hrel
  go_wp2_with fail
  refine(zFn g A l c k1 _ ZV zOX wr HW.out.2.1).mono ?_;rintro e w1 ⟨rfl,AG,AK⟩;have AD:=HW.out.2.2.trans (zHM (l.drop k1) k1);rw[List.drop_drop] at AD
  have AN:∀x,(l.drop (k1+((l.drop k1).takeWhile ZV).length)).head?=some x→ZV x=false:=by
   intro x hx;rw[←List.drop_drop] at hx;generalize l.drop k1=s at hx;clear AD AK AG
   induction s with
   | nil=>simp at hx
   | cons a s ih=>
    rw[List.takeWhile_cons] at hx
    split at hx
    ·exact ih (by simpa using hx)
    ·rename_i ha
     simp at hx
     subst hx
     simpa using ha
  have AY:k1≤k1+((l.drop k1).takeWhile ZV).length:=by omega
  have HM:=yE (HW.out.1.trans AG);have AA:=yE AK;have AE:=yE AD;have AV:=yE AN;clear AG AK AD AN HW;generalize k1+((l.drop k1).takeWhile ZV).length=k2 at *;have AX:=AA.out.le;have b0:w1.cell? ⟨g,0,none⟩=some (.slice A l.length c):=AA.out.blk.cell 0;have b1:w1.cell? ⟨g,1,none⟩=some (.int .i64 (k2:Int)):=AA.out.blk.cell 1;have f1:=AA.out.blk.frozen 1
  by_cases AO:k2<l.length
  ·have d0:((k2:Int)==(l.length:Int))=false:=by rw[yG]; omega
   obtain⟨b,AB,hA,Af,Aj,AH⟩:=AA.out.byte (by omega);have e0:=AH k2 AO
   have q0:(k2:Int)<(l.length:Int):=by omega
   have AR:=List.drop_eq_getElem_cons AO
   have AS:=yE AH
   generalize l[k2]=x at *;have AP:=yE AR;clear AH AR;subst hA
   by_cases hx:x=35
   ·subst hx;have Ab:w1.cell? ⟨b,AB+k2,none⟩=some (.int .u8 35):=e0;clear e0
    have Ak:∀W,(Instr.slice 22 (.slice (some ⟨b,AB,none⟩) l.length c) (some (.int .i64 (k2:Int))) none none).run Tryz.prog W=.ok (.slice (some ⟨b,AB+k2,none⟩) (l.length-k2) (c-k2)) W:=fun W=>by
     rw[zGq W _ _ Tryz.underlying22 zCt _ _ c k2 AX];unfold zHd;rw[if_neg (by omega)];simp only[Option.map_some,Addr.add]
     split
     ·rename_i h0; subst h0; rfl
     ·rfl
    have AM:∀W:World,(∀i (h:i<(l.drop k2).length),W.cell? ⟨b,AB+k2+i,none⟩=some (.int .u8 ((l.drop k2)[i].toNat:Int)))→Calls Tryz.prog 68 #[.slice (some ⟨b,AB+k2,none⟩) (l.length-k2) (c-k2),.int .u8 10] W fun e w'=>e=.returned (.int .i64 (Lib.indexByte (l.drop k2) 10))∧w'=W:=fun W hW=>
     zFZ b (AB+k2) (l.length-k2) (c-k2) (l.drop k2) 10 W (by simp) hW
    have AQ:Hid (∀i (h:i<(l.drop k2).length),w1.cell? ⟨b,AB+k2+i,none⟩=some (.int .u8 ((l.drop k2)[i].toNat:Int))):=yE fun i hi=>by
     rw[List.length_drop] at hi;rw[Nat.add_assoc,AS.out (k2+i) (by omega),List.getElem_drop]
    have AL:=yE AM;have AI:=yE (zL1 (l.drop k2) 10);have AF:=yE (zRa (s:=l.drop k2) (by rw[AP.out]; rfl) k2)
    have Ae:((l.drop k2).takeWhile fun x=>x != 10).length≤l.length-k2:=by have:=zHP (fun x:UInt8=>x != 10) (l.drop k2); rw[List.length_drop] at this; exact this
    have Ac:=AF.out.2;clear AM;generalize ((l.drop k2).takeWhile fun x=>x != 10).length=j at *;obtain⟨z,hz⟩:∃z,Lib.indexByte (l.drop k2) 10=z:=⟨_,rfl⟩;rw[hz] at AI AL;clear hz;have AJ:∀(v:Int),v=(j:Int)→True:=fun _ _=>trivial
    by_cases hj:j<(l.drop k2).length
    ·have AC:Hid (z=(j:Int)):=yE (by rw[AI.out,if_pos hj])
     have Aa:0≤z:=by rw[AC.out]; omega
     have Ai:z≤140737488355328:=by rw[AC.out]; omega
     have d2:decide (z<0)=false:=yP (by omega);clear AJ
     go_wp2_with fail
     go_quiet (fail)
     go_wp2_with fail
     go_quiet ((go_at_call 68; exact Calls.zE0 (AL.out _ (by exact AQ.out))))
     go_wp2_with fail
     go_roundg (l.length-(k2+j))
     case measure=>omega
     case rel=>
      refine⟨k2+j,by omega,by omega,rfl,yE ⟨(HM.out.drewN _).setCell 1 _,?_,?_⟩⟩
      ·rw[show((k2:Int)+z)=((k2+j:Nat):Int) from by rw[AC.out]; omega];exact(AA.out.drewN _).put (k2+j) (by omega)
      ·have h:=AE.out.trans AF.out.1;rw[List.drop_drop] at h;exact h
    ·have Ad:j=l.length-k2:=by rw[List.length_drop] at hj; omega
     have AC:Hid (z=-1):=yE (by rw[AI.out,if_neg hj])
     have Aa:z<0:=by rw[AC.out]; omega
     have d2:decide (z<0)=true:=yQ (by omega)
     go_wp2_with fail
     go_quiet (fail)
     go_wp2_with fail
     go_quiet ((go_at_call 68; exact Calls.zE0 (AL.out _ (by exact AQ.out))))
     go_wp2_with fail
     go_quiet (fail)
     go_wp2_with fail
     go_roundg (l.length-(k2+j))
     case measure=>omega
     case rel=>
      refine⟨k2+j,by omega,by omega,rfl,yE ⟨(HM.out.drewN _).setCell 1 _,?_,?_⟩⟩
      ·rw[show((k2:Int)+((l.length:Int)-(k2:Int)))=((k2+j:Nat):Int) from by omega];exact(AA.out.drewN _).put (k2+j) (by omega)
      ·have h:=AE.out.trans AF.out.1;rw[List.drop_drop] at h;exact h
   ·have d1:((x.toNat:Int) != 35)=true:=by
     rw[zD];intro h;apply hx
     have:x.toNat=35:=by omega
     exact UInt8.toNat_inj.1 this
    have AW:=yE (show(x==35)=false by simpa using hx);clear hx
    go_wp2_with fail
    go_quiet (fail)
    go_wp2_with fail
    refine bodyPost_ret (v:=.tuple #[]) (by simp[results,Tryz.results31,go_sem]) rfl ?_;exact⟨rfl,k2,by omega,HM.out.drewN _,AA.out.drewN _,AE.out,fun y hy=>⟨AV.out y hy,by rw[AP.out] at hy; injection hy with hy; subst hy; exact AW.out⟩⟩
  ·obtain rfl:k2=l.length:=by omega
   have d0:((l.length:Int)==(l.length:Int))=true:=by simp
   go_wp2_with fail
   go_quiet (fail)
   go_wp2_with fail
   refine bodyPost_ret (v:=.tuple #[]) (by simp[results,Tryz.results31,go_sem]) rfl ?_;exact⟨rfl,l.length,by omega,HM.out.drewN _,AA.out.drewN _,AE.out,fun y hy=>by simp at hy⟩
def YH (w:World)(r:Nat)(es:Array MapEntry)(clock:Nat):Prop:=w.heap[r]?=some (.map es clock)
section
variable {w w':World} {r:Nat} {es:Array MapEntry} {clock:Nat}
theorem YH.lt (h:YH w r es clock):r<w.heap.size:=(Array.getElem?_eq_some_iff.1 h).1
theorem YH.new (w:World):YH (w.alloc (.map #[] 0)) w.heap.size #[] 0:=zO w _
theorem YH.ext (h:YH w r es clock)(hx:Ext w w'):YH w' r es clock:=(hx.block r h.lt).trans h
theorem YH.ZE {g:Nat}(h:YH w r es clock)(ht:Touch g w w')(hg:r≠g):YH w' r es clock:=(ht.other r hg).trans h
end
section
variable {P:Program}
theorem zJC {w:World}{t kt et:TypeId}{kk:IntKind}{r clock:Nat}{es:Array MapEntry}{n:Int}{val:Value}(hm:P.underlying t=some (.map kt et))(hk:P.underlying kt=some (.int kk))
  (hb:YH w r es clock) (hf:Instr.findNow (.int kk) (.int kk n) es.toList 0=some none) :
  (Instr.mapUpdate t (.map (some r)) (.int kk n) val).run P w=.ok () { w with heap:=w.heap.setIfInBounds r (.map (es.push { key:=.int kk n,val:=val,born:=clock }) (clock+1)) }:=by
 have hc:(Instr.checkKey false 10000 kt (.int kk n)).run P w=.ok () w:=MapKept.run_checkKey (k:=.int kk n) hk (by simp[MapKept.IsKey]) false 9999;simp[Instr.mapUpdate,run_underlying hm,MapKept.run_getObj_map hb,hc,MapKept.run_findKey hk hf,MapKept.run_setObj_map _ hb,Result.andThen]
theorem zBL {ops:Array Oper}{rest:List Oper}{o:Oper}{a:Act}{w:World}{Q:Exit→Act→World→Prop}(hgd:o.guard=none)(t:TypeId)(m k x:Operand)(ho:o.op=.insert t m k x){kt et:TypeId}{kk:IntKind}
  (hm:P.underlying t=some (.map kt et)) (hk:P.underlying kt=some (.int kk)) (r clock:Nat) (es:Array MapEntry) (n:Int) (v:Value)
  (em:a.eval m=.map (some r)) (ek:a.eval k=.int kk n) (ex:a.eval x=v) (hb:YH w r es clock) (hf:Instr.findNow (.int kk) (.int kk n) es.toList 0=some none)
  (h:∀w',Touch r w w'→YH w' r (es.push { key:=.int kk n,val:=v,born:=clock }) (clock+1)→wpList P ops Q rest (a.put o.dst undef) w'):wpList P ops Q (o::rest) a w:=by
 refine wpList_plain hgd fun K hK=>?_;have AA:=zJC (val:=v) hm hk hb hf;unfold Oper.wp execOp;simp only[ho,em,ek,ex,Sem.run_bind,Sem.run_pure,AA,Result.andThen_ok];refine hK _ _ (h _ ⟨rfl,rfl,rfl,by simp,fun q hq=>?_⟩ ?_)
 ·simp[Array.getElem?_setIfInBounds,Ne.symm hq]
 ·have AB:=hb.lt;unfold YH;simp[AB]
theorem zKk {w:World}{t kt et:TypeId}{kk:IntKind}{r clock i:Nat}{es:Array MapEntry}{n:Int}{v:Value}(hm:P.underlying t=some (.map kt et))(hk:P.underlying kt=some (.int kk))
  (hb:YH w r es clock) (hf:Instr.findNow (.int kk) (.int kk n) es.toList 0=some (some (i,v))):(Instr.lookup t (.map (some r)) (.int kk n) false).run P w=.ok v w:=by
 have hc:(Instr.checkKey es.isEmpty 10000 kt (.int kk n)).run P w=.ok () w:=MapKept.run_checkKey (k:=.int kk n) hk (by simp[MapKept.IsKey]) _ 9999;simp[Instr.lookup,run_underlying hm,MapKept.run_getObj_map hb,hc,MapKept.run_findKey hk hf,Result.andThen]
theorem zF3 {ops:Array Oper}{rest:List Oper}{o:Oper}{a:Act}{w:World}{Q:Exit→Act→World→Prop}(hgd:o.guard=none)(t:TypeId)(m k:Operand)(ho:o.op=.lookup t m k false){kt et:TypeId}{kk:IntKind}
  (hm:P.underlying t=some (.map kt et)) (hk:P.underlying kt=some (.int kk)) (r clock i:Nat) (es:Array MapEntry) (n:Int) (v:Value)
  (em:a.eval m=.map (some r)) (ek:a.eval k=.int kk n) (hb:YH w r es clock) (hf:Instr.findNow (.int kk) (.int kk n) es.toList 0=some (some (i,v)))
  (h:wpList P ops Q rest (a.put o.dst v) w):wpList P ops Q (o::rest) a w:=by
 refine wpList_plain hgd fun K hK=>?_;have AA:=zKk (P:=P) hm hk hb hf;unfold Oper.wp execOp;simp only[ho,em,ek,Sem.run_bind,Sem.run_pure,AA,Result.andThen_ok];exact hK _ _ h
theorem zEI {ops:Array Oper}{rest:List Oper}{o:Oper}{a:Act}{w:World}{Q:Exit→Act→World→Prop}(hgd:o.guard=none)(t:TypeId)(ho:o.op=.makeMap t none)
  (h:∀w',Ext w w'→YH w' w.heap.size #[] 0→w'.heap.size=w.heap.size+1→wpList P ops Q rest (a.put o.dst (.map (some w.heap.size))) w'):wpList P ops Q (o::rest) a w:=by
 refine wpList_plain hgd fun K hK=>?_;unfold Oper.wp execOp;simp only[ho,Option.map_none,Sem.run_bind,Sem.run_pure,run_makeMap,Result.andThen_ok];exact hK _ _ (h _ (Ext.alloc _ _) (YH.new w) (by simp))
end
def zNo {α:Type}:Sem α→Prop
 | .pure _=>True
 | .getObj _ k=>∀o,zNo (k o)
 | .setObj _ _ k=>zNo k
 | .choose _ k=>∀n,zNo (k n)
 | .halt _=>True
 | _=>False
theorem zDQ {α:Type}{P:Program}:∀(s:Sem α),zNo s→∀(w:World) (v:α) (w':World),s.run P w=.ok v w'→w'.tape=w.tape
 | .pure a,_,w,v,w',h=>by
  simp only[Sem.run] at h;injection h with _ h;rw[h]
 | .getObj r k,ht,w,v,w',h=>by
  simp only[Sem.run] at h
  split at h
  ·cases h
  ·have hh:=zDQ (k _) (ht _) _ _ _ h;exact hh
  ·cases h
 | .setObj r o k,ht,w,v,w',h=>by
  simp only[Sem.run] at h
  split at h
  ·cases h
  ·have hh:=zDQ k ht _ _ _ h;exact hh
  ·cases h
 | .choose q k,ht,w,v,w',h=>by
  simp only[Sem.run] at h
  split at h
  ·have hh:=zDQ (k _) (ht _) _ _ _ h;exact hh
  ·have hh:=zDQ (k _) (ht _) _ _ _ h;exact hh
 | .halt x,_,w,v,w',h=>by simp[Sem.run] at h
 | .load ..,ht,_,_,_,_=>ht.elim
 | .store ..,ht,_,_,_,_=>ht.elim
 | .new ..,ht,_,_,_,_=>ht.elim
 | .shape ..,ht,_,_,_,_=>ht.elim
 | .freeze ..,ht,_,_,_,_=>ht.elim
 | .frozen ..,ht,_,_,_,_=>ht.elim
 | .sys ..,ht,_,_,_,_=>ht.elim
 | .program ..,ht,_,_,_,_=>ht.elim
 | .mark ..,ht,_,_,_,_=>ht.elim
theorem zBw {α β:Type}:∀(s:Sem α) (f:α→Sem β),zNo s→(∀a,zNo (f a))→zNo (s >>= f)
 | .pure a,f,_,hf=>hf a
 | .getObj r k,f,hs,hf=>fun o=>zBw (k o) f (hs o) hf
 | .setObj r o k,f,hs,hf=>zBw k f hs hf
 | .choose q k,f,hs,hf=>fun n=>zBw (k n) f (hs n) hf
 | .halt x,f,_,_=>trivial
 | .load ..,_,hs,_=>hs.elim
 | .store ..,_,hs,_=>hs.elim
 | .new ..,_,hs,_=>hs.elim
 | .shape ..,_,hs,_=>hs.elim
 | .freeze ..,_,hs,_=>hs.elim
 | .frozen ..,_,hs,_=>hs.elim
 | .sys ..,_,hs,_=>hs.elim
 | .program ..,_,hs,_=>hs.elim
 | .mark ..,_,hs,_=>hs.elim
theorem zPU (r:Nat)(ty:TypeId):zNo (Instr.next (.pointer (some ⟨r,0,none⟩)) false ty):=by
 unfold Instr.next;refine zBw _ _ (fun _=>trivial) fun o=>?_
 split
 ·rename_i h; cases h
 ·exact trivial
 ·refine zBw _ _ (fun _=>trivial) fun o=>?_
  split
  ·split
   ·exact trivial
   ·refine zBw _ _ (fun _=>trivial) fun n=>?_
    split
    ·exact zBw _ _ trivial fun _=>trivial
    ·exact trivial
    ·exact trivial
  ·exact trivial
 ·exact trivial
theorem zQm {P:Program}{r:Nat}{ty:TypeId}{w w':World}{v:Value}(h:(Instr.next (.pointer (some ⟨r,0,none⟩)) false ty).run P w=.ok v w'):w'.tape=w.tape:=zDQ _ (zPU r ty) _ _ _ h
def JV (c:UInt8):Nat:=if ZO c then 1 else if vN c then 2 else if zFw c then 3 else 0
def zBR:ByteArray:=⟨#[97,98,99,100,101,102,103,104,105,106,107,108,109,110,111,112,113,114,115,116,117,118,119,120,121,122]⟩
def zDf:ByteArray:=⟨#[48,49,50,51,52,53,54,55,56,57]⟩
def zEW:ByteArray:=⟨#[123,125,40,41,91,93,59,44,46,43,45,42,60,61]⟩
theorem zHK:zAD zBR ZO:=by unfold zAD; decide +kernel
theorem zFM:zAD zDf vN:=by unfold zAD; decide +kernel
theorem zLy:zAD zEW zFw:=by unfold zAD; decide +kernel
def VF:Array MapEntry:=#[{ key:=.int .u8 1,val:=.string zBR,born:=0 },{ key:=.int .u8 2,val:=.string zDf,born:=1 },{ key:=.int .u8 3,val:=.string zEW,born:=2 }]
theorem zHN:∀n:Nat,n<256→(ZO n.toUInt8=true→JV n.toUInt8=1)∧(vN n.toUInt8=true→JV n.toUInt8=2)∧(zFw n.toUInt8=true→JV n.toUInt8=3)∧(ZO n.toUInt8=false→vN n.toUInt8=false→zFw n.toUInt8=false→JV n.toUInt8=0):=by decide +kernel
def zEC (c:UInt8)(x:MapEntry):Bool:=match x.val with | .string s=>decide (0≤Lib.indexByte s.data.toList c) | _=>false
theorem zOZ (c:UInt8)(e:MapEntry)(he:e ∈ VF.toList):∃(k:Int) (s:ByteArray),e.key=.int .u8 k∧e.val=.string s∧(decide (0≤Lib.indexByte s.data.toList c)=true→(JV c:Int)=k):=by
 have h:=zHN c.toNat c.toNat_lt;rw[show c.toNat.toUInt8=c from by simp] at h
 have AA:e = { key:=.int .u8 1,val:=.string zBR,born:=0 } ∨ e = { key:=.int .u8 2,val:=.string zDf,born:=1 } ∨ e = { key:=.int .u8 3,val:=.string zEW,born:=2 }:=by simpa [VF] using he
 rcases AA with rfl | rfl | rfl
 ·exact⟨1,zBR,rfl,rfl,fun hh=>by rw[zHK.at_] at hh; rw[h.1 hh]; rfl⟩
 ·exact⟨2,zDf,rfl,rfl,fun hh=>by rw[zFM.at_] at hh; rw[h.2.1 hh]; rfl⟩
 ·exact⟨3,zEW,rfl,rfl,fun hh=>by rw[zLy.at_] at hh; rw[h.2.2.1 hh]; rfl⟩
theorem zTU (c:UInt8)(h:∀x ∈ VF.toList,zEC c x=false):(JV c:Int)=0:=by
 have hk:=zHN c.toNat c.toNat_lt;rw[show c.toNat.toUInt8=c from by simp] at hk;have h1:=h { key:=.int .u8 1,val:=.string zBR,born:=0 } (by simp[VF]);have h2:=h { key:=.int .u8 2,val:=.string zDf,born:=1 } (by simp[VF]);have h3:=h { key:=.int .u8 3,val:=.string zEW,born:=2 } (by simp[VF]);simp only[zEC,zHK.at_,zFM.at_,zLy.at_] at h1 h2 h3;rw[hk.2.2.2 h1 h2 h3]
 rfl
theorem zCT:MapKept.Stamped VF 3:=by
 refine⟨?_,?_,?_⟩
 ·intro x hx
  have AA:x = { key:=.int .u8 1,val:=.string zBR,born:=0 } ∨ x = { key:=.int .u8 2,val:=.string zDf,born:=1 } ∨ x = { key:=.int .u8 3,val:=.string zEW,born:=2 }:=by simpa [VF] using hx
  rcases AA with rfl | rfl | rfl <;> decide
 ·simp[VF]
 ·simp[VF]
theorem Ext.alike {w w1 w2:World}(h:Ext w w1)(ha:w2.Alike w1)(ht:w2.tape=w1.tape):Ext w w2:=by
 obtain⟨a,b,c⟩:=ha;exact⟨b.trans h.os,ht.trans h.tape,c.trans h.output,by rw[a]; exact h.size,fun k hk=>by rw[a]; exact h.block k hk⟩
theorem zGD (c:UInt8)(w:World) :
  Calls Tryz.prog 69 #[.int .u8 (c.toNat:Int)] w fun e w'=>e=.returned (.int .u8 (JV c:Int))∧Ext w w':=by
 go_enter Tryz.func69,Tryz.ntmps69
 go_wp2_with (refine zEI rfl 117 rfl ?_)
 intro w1 Al Ab Ak;refine zBL rfl 117 (.tmp 6) (.const (.int .u8 1)) (.const (.string zBR)) rfl Tryz.underlying117 Tryz.underlying5 w.heap.size 0 #[] 1 (.string zBR) rfl rfl rfl Ab rfl ?_;intro w2 AR Ae;refine zBL rfl 117 (.tmp 6) (.const (.int .u8 2)) (.const (.string zDf)) rfl Tryz.underlying117 Tryz.underlying5 w.heap.size 1 _ 2 (.string zDf) rfl rfl rfl Ae rfl ?_;intro w3 AQ AX;refine zBL rfl 117 (.tmp 6) (.const (.int .u8 3)) (.const (.string zEW)) rfl Tryz.underlying117 Tryz.underlying5 w.heap.size 2 _ 3 (.string zEW) rfl rfl rfl AX rfl ?_;intro w4 AP Ag;have Ad:Ext w w4:=AP.ext (AQ.ext (AR.ext Al (zU _)) (zU _)) (zU _);have AF:w4.heap[w.heap.size]?=some (.map VF 3):=Ag
 have Af:w4.heap.size=w.heap.size+1:=by rw[AP.size,AQ.size,AR.size,Ak]
 have Ai:=yE Ad;have Ap:=yE Af;clear Al Ab Ak AR Ae AQ AX AP Ag Ad Af;have Ar:=run_range_map (P:=Tryz.prog) w4 117 5 9 w.heap.size VF 3 Tryz.underlying117 AF;have An:=yE AF;clear AF
 go_wp2_with fail
 go_loopw [] (fun wr=>∃(w5:World) (AA:Array Nat),w5.Alike w4∧Hid (w5.tape=w4.tape)∧wr=w5.alloc (.mapIter (some w.heap.size) 3 AA 3)∧Hid (∀x ∈ VF.toList,AA.contains x.born=true→zEC c x=false)) (fun wr=>(leftOf VF (wr.iterSeen w4.heap.size)).size)
 case atStart=>exact⟨w4,#[],⟨rfl,rfl,rfl⟩,yE rfl,rfl,yE fun x _ h=>by simp at h⟩
 case round=>
  obtain⟨w5,AA,AM,HT,rfl,Aj⟩:=hrel
  have AO:w5.heap.size=w4.heap.size:=by rw[AM.1]
  have AL:w5.heap[w.heap.size]?=some (.map VF 3):=by rw[AM.1]; exact An.out
  have Ah:=run_next_map (P:=Tryz.prog) w5 0 w.heap.size 3 3 AA VF 3 AL zCT.1 (zU _);rw[AO] at Ah;have AY:=yE AO;have AN:=yE AM;clear AM AO
  rcases Ah with ⟨h0,AB⟩ | ⟨e,he,w6,AC,AB⟩
  ·have Ao:∀ty,(Instr.next (.pointer (some ⟨w4.heap.size,0,none⟩)) false ty).run Tryz.prog (w5.alloc (.mapIter (some w.heap.size) 3 AA 3))=_:=fun _=>AB;have hk:=zTU c fun x hx=>Aj.out x hx (all_seen VF AA h0 x hx);have HK:=yE hk;have HX:Hid (Ext w (w5.alloc (.mapIter (some w.heap.size) 3 AA 3))):=yE (((Ai.out).alike AN.out HT.out).trans (Ext.alloc _ _));clear hk h0 AB AL
   go_wp2_with fail
   go_ret;exact⟨zGl HK.out.symm,HX.out⟩
  ·obtain⟨kk,s,AH,AD,AJ⟩:=zOZ c e (mem_left he).1;have AI:=zQm AB;have AV:w6.tape=w5.tape:=AI;clear AI;rw[AD,AH] at AB;have Ao:∀ty,(Instr.next (.pointer (some ⟨w4.heap.size,0,none⟩)) false ty).run Tryz.prog (w5.alloc (.mapIter (some w.heap.size) 3 AA 3))=_:=fun _=>AB
   have AG:w6.heap.size=w4.heap.size:=by rw[AC.1]; exact AY.out
   have AW:w6.heap[w.heap.size]?=some (.map VF 3):=by rw[AC.1]; exact AL
   have Am:=run_entry_map (P:=Tryz.prog) w6 w.heap.size 3 AA VF 3 e AW (mem_left he).1 zCT.2.1;rw[AG,AD,AH] at Am;have AK:Hid (w6.Alike w4):=yE ⟨AC.1.trans AN.out.1,AC.2.1.trans AN.out.2.1,AC.2.2.trans AN.out.2.2⟩;have AS:Hid (w6.tape=w4.tape):=yE (AV.trans HT.out);have HX:Hid (Ext w (w6.alloc (.mapIter (some w.heap.size) 3 (AA.push e.born) 3))):=yE (((Ai.out).alike AK.out AS.out).trans (Ext.alloc _ _));have AU:=yE AJ
   have AT:zEC c e=decide (0≤Lib.indexByte s.data.toList c):=by unfold zEC; rw[AD]
   have AZ:=yE AT;have HE:=yE he;have Ac:=yE AG
   have AE:∀W:World,Calls Tryz.prog 70 #[.string s,.int .u8 (c.toNat:Int)] W fun e w'=>e=.returned (.int .i64 (Lib.indexByte s.data.toList c))∧w'=W:=fun W=>by
    have h:=zEV s (c.toNat:Int) W;rw[show((c.toNat:Int).toNat).toUInt8=c from by simp] at h;exact h
   have Aa:=yE AE;clear AJ AT he AG AB AE AH AD AC AV AL AW;obtain⟨t,ht⟩:∃t,decide (0≤Lib.indexByte s.data.toList c)=t:=⟨_,rfl⟩;rw[ht] at AU AZ;generalize Lib.indexByte s.data.toList c=z at *
   cases t with
   | true=>
    have hz:0≤z:=of_decide_eq_true ht
    go_wp2_with ((go_at_call 70; refine(Aa.out _).mono ?_; rintro e' w' ⟨rfl,rfl⟩))
    go_ret;exact⟨zGl (AU.out (by trivial)).symm,HX.out⟩
   | false=>
    have hz:¬0≤z:=of_decide_eq_false ht
    have Aq:z<0:=by omega
    go_wp2_with ((go_at_call 70; refine(Aa.out _).mono ?_; rintro e' w' ⟨rfl,rfl⟩))
    go_roundw
    case rel=>
     refine⟨w6,AA.push e.born,AK.out,AS,rfl,yE fun x hx hc=>?_⟩;rw[contains_push] at hc
     rcases Bool.or_eq_true _ _ ▸ hc with h1 | h1
     ·exact Aj.out x hx h1
     ·have:x=e:=born_inj zCT.2.1 hx (mem_left HE.out).1 (beq_iff_eq.1 h1)
      subst this;exact AZ.out
    case measure=>
     rw[←Ac.out,World.iterSeen_alloc,Ac.out,←AY.out,World.iterSeen_alloc];exact left_shrinks VF AA e HE.out
theorem Ext.bytesWorld (w:World)(e:TypeId)(s:ByteArray):Ext w (Lib.bytesWorld w e s):=
 ⟨rfl,rfl,rfl,by rw[Lib.bytesWorld_size]; omega,fun k hk=>Lib.bytesWorld_at_old w e s k hk⟩
def zJz:Option Int→Value
 | some n=>.tuple #[.int .i64 n,.int .i64 0]
 | none=>.tuple #[.int .i64 0,.int .i64 31]
theorem zPG {r r':Option Int}{v:Value}(h:r=r')(hv:zJz r'=v):Ending.returned v=.returned (zJz r):=by rw[h,hv]
theorem YU (l:Bs):(xE l).toList=l:=by
 rw[←zEm,Lib.strOfNums_toList,zBO]
theorem zOq (l:Bs)(hd:∀c ∈ l,vN c=true)(hl:l.length≤140737488355328)(w:World)(r:Option Int)(hr:Hid (zBQ 0 l=r)) :
  Calls Tryz.prog 71 #[.string (xE l)] w fun e w'=>e=.returned (zJz r)∧Ext w w':=by
 have AH:=Lib.run_convert_string_bytes (P:=Tryz.prog) w 9 22 5 (xE l) Tryz.underlying9 Tryz.underlying22 Tryz.underlying5
 have AD:(xE l).size=l.length:=by simp[xE,ByteArray.size]
 have AA:∀j (h:j<l.length),(Lib.bytesWorld w 5 (xE l)).cell? ⟨w.heap.size,j,none⟩=some (.int .u8 (l[j].toNat:Int)):=fun j h=>by
  rw[Lib.bytesWorld_cell w 5 (xE l) j (by rw[AD]; exact h)];simp[xE,h]
 have HX:=yE (Ext.bytesWorld w 5 (xE l));have HC:=yE AA;have HD:=yE hd;rw[AD] at AH;clear AA AD hd;generalize Lib.bytesWorld w 5 (xE l)=w1 at *;generalize grownCap w l.length 0 5=cp at *;generalize w.heap.size=gs at *
 go_enter Tryz.func71,Tryz.ntmps71
 go_wp2_with fail
 go_loop [2,9] (fun n i=>∃(k:Nat) (m:Int),k≤l.length∧i=.int .i64 k∧n=.int .i64 m∧0≤m∧m≤2147483647∧Hid (zBQ m (l.drop k)=r)) (fun _ i=>l.length-(intOf i).toNat)
 case atStart=>exact⟨0,0,zT _,rfl,rfl,by omega,by omega,hr⟩
 case round=>
  obtain⟨k,m,hk,rfl,rfl,AI,AL,HN⟩:=hrel
  by_cases AC:k<l.length
  ·have e0:=HC.out k AC;have AG:=HD.out _ (yM AC);have AE:=HN.out;rw[List.drop_eq_getElem_cons AC] at AE;have AF:=yE AE;clear AE;generalize l[k]=c at *
   have hc:48≤c.toNat∧c.toNat≤57:=by simpa [vN] using AG
   obtain⟨AK,AJ⟩:=hc;clear AG
   have q0:(k:Int)<(l.length:Int):=by omega
   by_cases AB:2147483647<m*10+((c.toNat:Int)-48)
   ·have HR:Hid (r=none):=yE (by rw[←AF.out]; unfold zBQ; rw[if_pos AB])
    go_wp2_with fail
    go_ret2;exact⟨zPG HR.out rfl,HX.out⟩
   ·have HR:Hid (zBQ (m*10+((c.toNat:Int)-48)) (l.drop (k+1))=r):=yE (by rw[←AF.out]; conv=>rhs; unfold zBQ; rw[if_neg AB])
    go_wp2_with fail
    go_round
    case rel=>exact⟨k+1,m*10+((c.toNat:Int)-48),by omega,by go_num,by go_num,by omega,by omega,HR⟩
    case measure=>simp[intOf]; omega
  ·obtain rfl:k=l.length:=by omega
   have HR:Hid (r=some m):=yE (by rw[←HN.out,List.drop_eq_nil_of_le (zU _)]; rfl)
   go_wp2_with fail
   go_ret2;exact⟨zPG HR.out rfl,HX.out⟩
theorem zQF (v1 v2:Value)(a b:Bs)(w:World)
  (h1:(convert 22 9 v1).run Tryz.prog w=.ok (.string (xE a)) w) (h2:(convert 22 9 v2).run Tryz.prog w=.ok (.string (xE b)) w) :
  Calls Tryz.prog 115 #[v1,v2] w fun e w'=>e=.returned (.bool (a==b))∧w'=w:=by
 have HE:=yE (show((xE a).toList==(xE b).toList)=(a==b) by rw[YU,YU])
 go_enter Tryz.func115,Tryz.ntmps115
 go_wp2_with fail
 go_ret;exact⟨YA HE.out,rfl⟩
theorem zKn (A B:Option Addr)(a b:Bs)(n m c d:Nat)(w:World)(hn:n=a.length)(hm:m=b.length)(hc:n≤c)(hA:Cells w A (xL a))(hB:Cells w B (xL b)) :
  Calls Tryz.prog 72 #[.slice A n c,.slice B m d] w fun e w'=>e=.returned (.bool (decide (b.length≤a.length)&&(a.take b.length==b)))∧w'=w:=by
 subst hn hm;have h2:=jZ (P:=Tryz.prog) (n:=b.length) (c:=d) Tryz.underlying22 Tryz.underlying5 Tryz.underlying9 rfl hB;have HA:=yE hA;clear hA hB
 by_cases AA:b.length≤a.length
 ·have d0:decide (b.length≤a.length)=true:=yQ AA
  have h1:=jZ (P:=Tryz.prog) (w:=w) (A:=A) (l:=a.take b.length) (n:=b.length) (c:=c) Tryz.underlying22 Tryz.underlying5 Tryz.underlying9 (by simp; omega) (by
   have h:=zAu HA.out hc 0 b.length;rw[List.drop_zero] at h;unfold zHd at h
   split at h
   ·exact h
   ·cases A with
    | none=>exact h
    | some x=>exact h)
  have H:=yE (zQF _ _ _ _ _ h1 h2);have HD:Hid ((a.take b.length==b)=(decide (b.length≤a.length)&&(a.take b.length==b))):=yE (by rw[d0,Bool.true_and]);clear h1 h2
  go_enter Tryz.func72,Tryz.ntmps72
  go_wp2_with fail
  refine H.out.mono ?_;rintro e w' ⟨rfl,rfl⟩
  go_wp2_with fail
  go_ret;exact⟨YA HD.out,rfl⟩
 ·have d0:decide (b.length≤a.length)=false:=yP AA;have HD:Hid (false=(decide (b.length≤a.length)&&(a.take b.length==b))):=yE (by rw[d0,Bool.false_and])
  go_enter Tryz.func72,Tryz.ntmps72
  go_wp2_with fail
  go_ret;exact⟨YA HD.out,rfl⟩
end Go.Proofs.YtioffpjajhalaaaGreatDoor
