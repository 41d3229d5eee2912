/- The program's forms: which statement a word begins. No condition. -/
import Derived.Test.YtbadjmmjbpeocaaGreatKaa
import Derived.Test.YtbadjmmjbpeocaaGreatKav
import Derived.Test.YtbadjmmjbpeocaaGreatKac
set_option linter.unusedVariables false
set_option linter.unusedSimpArgs false
set_option maxRecDepth 100000
set_option maxHeartbeats 16000000
namespace Go.Proofs.YtbadjmmjbpeocaaGreat
open Go Go.RowKit
section
variable {P:Program}
theorem zHu {w:World}{t kt et:TypeId}{r clock:Nat}{es:Array MapEntry}{n:ByteArray}{val:Value}(hm:P.underlying t=some (.map kt et))(hk:P.underlying kt=some .string)
  (hb:ZO w r es clock) (hf:Instr.findNow .string (.string n) es.toList 0=some none) :
  (Instr.mapUpdate t (.map (some r)) (.string n) val).run P w=.ok () { w with heap:=w.heap.setIfInBounds r (.map (es.push { key:=.string n,val:=val,born:=clock }) (clock+1)) }:=by
 have hc:(Instr.checkKey false 10000 kt (.string n)).run P w=.ok () w:=MapKept.run_checkKey (k:=.string n) hk (by simp[MapKept.IsKey]) false 9999;simp[Instr.mapUpdate,run_underlying hm,MapKept.run_getObj_map hb,hc,MapKept.run_findKey hk hf,MapKept.run_setObj_map _ hb,Result.andThen]
theorem jI {ops:Array Oper}{rest:List Oper}{o:Oper}{a:Act}{w:World}{Q:Exit→Act→World→Prop}(hgd:o.guard=none)(t:TypeId)(m k x:Operand)(ho:o.op=.insert t m k x){kt et:TypeId}
  (hm:P.underlying t=some (.map kt et)) (hk:P.underlying kt=some .string) (r clock:Nat) (es:Array MapEntry) (n:ByteArray) (v:Value)
  (em:a.eval m=.map (some r)) (ek:a.eval k=.string n) (ex:a.eval x=v) (hb:ZO w r es clock) (hf:Instr.findNow .string (.string n) es.toList 0=some none)
  (h:∀w',Touch r w w'→ZO w' r (es.push { key:=.string n,val:=v,born:=clock }) (clock+1)→wpList P ops Q rest (a.put o.dst undef) w'):wpList P ops Q (o::rest) a w:=by
 refine wpList_plain hgd fun K hK=>?_;have hrun:=zHu (val:=v) hm hk hb hf;unfold Oper.wp execOp;simp only[ho,em,ek,ex,Sem.run_bind,Sem.run_pure,hrun,Result.andThen_ok];refine hK _ _ (h _ ⟨rfl,rfl,rfl,by simp,fun q hq=>?_⟩ ?_)
 ·simp[Array.getElem?_setIfInBounds,Ne.symm hq]
 ·have hlt:=hb.lt;unfold ZO;simp[hlt]
theorem zGm {ops:Array Oper}{rest:List Oper}{o:Oper}{a:Act}{w:World}{Q:Exit→Act→World→Prop}(hgd:o.guard=none)(t:TypeId)(m k:Operand)(ho:o.op=.lookup t m k true){kt et:TypeId}
  (hm:P.underlying t=some (.map kt et)) (hk:P.underlying kt=some .string) (r clock:Nat) (es:Array MapEntry) (n:ByteArray) (res:Option (Nat × Value)) (z:Value)
  (em:a.eval m=.map (some r)) (ek:a.eval k=.string n) (hb:ZO w r es clock) (hf:Instr.findNow .string (.string n) es.toList 0=some res) (hz:(zeroValue et).run P w=.ok z w) (v:Value) (ok:Bool) (hv:(res.map Prod.snd).getD z=v) (hok:res.isSome=ok)
  (h:wpList P ops Q rest (a.put o.dst (.tuple #[v,.bool ok])) w):wpList P ops Q (o::rest) a w:=by
 subst hv hok;refine wpList_plain hgd fun K hK=>?_;have hc:(Instr.checkKey es.isEmpty 10000 kt (.string n)).run P w=.ok () w:=MapKept.run_checkKey (k:=.string n) hk (by simp[MapKept.IsKey]) _ 9999
 have hrun:(Instr.lookup t (.map (some r)) (.string n) true).run P w=.ok (.tuple #[(res.map Prod.snd).getD z,.bool res.isSome]) w:=by
  cases res with
  | none=>simp[Instr.lookup,run_underlying hm,MapKept.run_getObj_map hb,hc,MapKept.run_findKey hk hf,Result.andThen,hz]
  | some x=>obtain⟨i,v⟩:=x; simp[Instr.lookup,run_underlying hm,MapKept.run_getObj_map hb,hc,MapKept.run_findKey hk hf,Result.andThen]
 unfold Oper.wp execOp;simp only[ho,em,ek,Sem.run_bind,Sem.run_pure,hrun,Result.andThen_ok];exact hK _ _ h
end
def zMS (k:Nat):Nat:=if k=7 then 159 else if k=8 then 160 else if k=9 then 161 else if k=10 then 162 else if k=11 then 163 else if k=12 then 164 else if k=13 then 165 else if k=14 then 166 else if k=15 then 167 else if k=16 then 168 else if k=17 then 169 else 170
def zRb (k:Nat):Value:=.agg #[.int .u8 (k:Int),.func (.func (zMS k)) #[] #[]]
def zNH:List (Bs × Nat)→Nat→List MapEntry
 | [],_=>[]
 | m::l,j=>{ key:=.string (xH m.1),val:=zRb m.2,born:=j } :: zNH l (j+1)
theorem zRx {a b:Bs}(h:xH a=xH b):a=b:=by
 have:=congrArg (fun x=>x.data.toList) h
 simpa [xH] using this
theorem zQL (x m:Bs):Instr.sameNow .string (.string (xH x)) (.string (xH m))=some (m==x):=by
 obtain⟨r,h1,h2⟩:=MapKept.sameNow_of_keys (d:=.string) (a:=.string (xH x)) (b:=.string (xH m)) trivial trivial;rw[h1]
 congr 1
 cases r with
 | true=>
  have:=h2.1 rfl
  injection this with this;rw[zRx this]
  simp
 | false=>
  cases hc:m==x with
  | false=>rfl
  | true=>
   rw[zO] at hc;subst hc;exact(h2.2 rfl)
theorem zGa (x:Bs):∀(l:List (Bs × Nat)) (j i:Nat),∃i',Instr.findNow .string (.string (xH x)) (zNH l j) i=some (((l.find? fun m=>m.1==x).map Prod.snd).map fun k=>(i',zRb k))
 | [],_,_=>⟨0,rfl⟩
 | m::l,j,i=>by
  have hs:Instr.sameNow .string (.string (xH x)) (.string (xH m.1))=some (m.1==x):=zQL x m.1
  cases hc:m.1==x with
  | true=>
   refine⟨i,?_⟩;rw[hc] at hs;rw[List.find?_cons,hc];simp only[zNH,Instr.findNow,hs]
   rfl
  | false=>
   obtain⟨i',h⟩:=zGa x l (j+1) (i+1);refine⟨i',?_⟩;rw[hc] at hs;rw[List.find?_cons,hc];simp only[zNH,Instr.findNow,hs];exact h
theorem zQp (w:World):(zeroValue 218).run Tryz.prog w=.ok (.agg #[.int .u8 0,.nilFunc]) w:=by kernel_rfl
def zIq (k:Option Nat):Int:=k.elim 0 (fun k=>(k:Int))
def zIu (k:Option Nat):Value:=k.elim .nilFunc (fun k=>.func (.func (zMS k)) #[] #[])
theorem zCa (x:Bs)(w:World):Calls Tryz.prog 157 #[.string (xH x)] w fun e w'=>e=.returned (.tuple #[.agg #[.int .u8 (zIq (ZN x)),zIu (ZN x)],.bool (ZN x).isSome])∧Ext w w':=by
 go_enter Tryz.func157,Tryz.ntmps157
 have HZ:=yG (Blk.new w 218 #[.int .u8 0,.nilFunc]);have HX0:Hid (Ext w (w.alloc (.cells #[.int .u8 0,.nilFunc] 218))):=yG (Ext.alloc _ _)
 go_wp2_with (refine zEv rfl 221 rfl ?_)
 intro w1 hx1 hm0 hs1;obtain⟨gm,hgm⟩:∃gm,gm=w.heap.size+1:=⟨_,rfl⟩
 have hgm2:(w.alloc (.cells #[.int .u8 0,.nilFunc] 218)).heap.size=gm:=by rw[hgm]; simp
 first | rw[←hgm] at hm0 | rw[hgm2] at hm0
 have HM0:=yG hm0;have HX1:=yG (HX0.out.trans hx1);have HGM:Hid (w.heap.size≤gm∧w.heap.size≠gm):=yG (by omega);have HZ1:=yG (HZ.out.ext hx1);have HGE:=yG hgm2;have HGF:Hid (w.heap.size+1=gm):=yG hgm.symm;clear hx1 hm0 hs1 hgm hgm2
 try simp only[Act.put,yD,yF,yE]
 try rw[HGE.out]
 try rw[HGF.out]
 go_wp2_with (refine jI rfl 221 (.tmp 7) (.const (.string ⟨#[114,101,97,100]⟩)) (.tmp 8) rfl Tryz.underlying221 Tryz.underlying9 gm 0 _ ⟨#[114,101,97,100]⟩ (.agg #[.int .u8 7,.func (.func 159) #[] #[]]) rfl rfl rfl HM0.out (by kernel_rfl) ?_)
 intro w2 ht hm;have HM1:=yG hm;have HX2:=yG (ht.ext HX1.out HGM.out.1);have HZ2:=yG (ht.blk HZ1.out HGM.out.2);clear ht hm HM0 HX1 HZ1
 try simp only[Act.put,yD,yF,yE]
 go_wp2_with (refine jI rfl 221 (.tmp 7) (.const (.string ⟨#[115,101,116]⟩)) (.tmp 9) rfl Tryz.underlying221 Tryz.underlying9 gm 1 _ ⟨#[115,101,116]⟩ (.agg #[.int .u8 8,.func (.func 160) #[] #[]]) rfl rfl rfl HM1.out (by kernel_rfl) ?_)
 intro w3 ht hm;have HM2:=yG hm;have HX3:=yG (ht.ext HX2.out HGM.out.1);have HZ3:=yG (ht.blk HZ2.out HGM.out.2);clear ht hm HM1 HX2 HZ2
 try simp only[Act.put,yD,yF,yE]
 go_wp2_with (refine jI rfl 221 (.tmp 7) (.const (.string ⟨#[112,117,116]⟩)) (.tmp 10) rfl Tryz.underlying221 Tryz.underlying9 gm 2 _ ⟨#[112,117,116]⟩ (.agg #[.int .u8 9,.func (.func 161) #[] #[]]) rfl rfl rfl HM2.out (by kernel_rfl) ?_)
 intro w4 ht hm;have HM3:=yG hm;have HX4:=yG (ht.ext HX3.out HGM.out.1);have HZ4:=yG (ht.blk HZ3.out HGM.out.2);clear ht hm HM2 HX3 HZ3
 try simp only[Act.put,yD,yF,yE]
 go_wp2_with (refine jI rfl 221 (.tmp 7) (.const (.string ⟨#[100,101,108,101,116,101]⟩)) (.tmp 11) rfl Tryz.underlying221 Tryz.underlying9 gm 3 _ ⟨#[100,101,108,101,116,101]⟩ (.agg #[.int .u8 10,.func (.func 162) #[] #[]]) rfl rfl rfl HM3.out (by kernel_rfl) ?_)
 intro w5 ht hm;have HM4:=yG hm;have HX5:=yG (ht.ext HX4.out HGM.out.1);have HZ5:=yG (ht.blk HZ4.out HGM.out.2);clear ht hm HM3 HX4 HZ4
 try simp only[Act.put,yD,yF,yE]
 go_wp2_with (refine jI rfl 221 (.tmp 7) (.const (.string ⟨#[115,99,97,110]⟩)) (.tmp 12) rfl Tryz.underlying221 Tryz.underlying9 gm 4 _ ⟨#[115,99,97,110]⟩ (.agg #[.int .u8 11,.func (.func 163) #[] #[]]) rfl rfl rfl HM4.out (by kernel_rfl) ?_)
 intro w6 ht hm;have HM5:=yG hm;have HX6:=yG (ht.ext HX5.out HGM.out.1);have HZ6:=yG (ht.blk HZ5.out HGM.out.2);clear ht hm HM4 HX5 HZ5
 try simp only[Act.put,yD,yF,yE]
 go_wp2_with (refine jI rfl 221 (.tmp 7) (.const (.string ⟨#[108,111,99,107]⟩)) (.tmp 13) rfl Tryz.underlying221 Tryz.underlying9 gm 5 _ ⟨#[108,111,99,107]⟩ (.agg #[.int .u8 12,.func (.func 164) #[] #[]]) rfl rfl rfl HM5.out (by kernel_rfl) ?_)
 intro w7 ht hm;have HM6:=yG hm;have HX7:=yG (ht.ext HX6.out HGM.out.1);have HZ7:=yG (ht.blk HZ6.out HGM.out.2);clear ht hm HM5 HX6 HZ6
 try simp only[Act.put,yD,yF,yE]
 go_wp2_with (refine jI rfl 221 (.tmp 7) (.const (.string ⟨#[114,101,108,101,97,115,101]⟩)) (.tmp 14) rfl Tryz.underlying221 Tryz.underlying9 gm 6 _ ⟨#[114,101,108,101,97,115,101]⟩ (.agg #[.int .u8 13,.func (.func 165) #[] #[]]) rfl rfl rfl HM6.out (by kernel_rfl) ?_)
 intro w8 ht hm;have HM7:=yG hm;have HX8:=yG (ht.ext HX7.out HGM.out.1);have HZ8:=yG (ht.blk HZ7.out HGM.out.2);clear ht hm HM6 HX7 HZ7
 try simp only[Act.put,yD,yF,yE]
 go_wp2_with (refine jI rfl 221 (.tmp 7) (.const (.string ⟨#[105,102]⟩)) (.tmp 15) rfl Tryz.underlying221 Tryz.underlying9 gm 7 _ ⟨#[105,102]⟩ (.agg #[.int .u8 14,.func (.func 166) #[] #[]]) rfl rfl rfl HM7.out (by kernel_rfl) ?_)
 intro w9 ht hm;have HM8:=yG hm;have HX9:=yG (ht.ext HX8.out HGM.out.1);have HZ9:=yG (ht.blk HZ8.out HGM.out.2);clear ht hm HM7 HX8 HZ8
 try simp only[Act.put,yD,yF,yE]
 go_wp2_with (refine jI rfl 221 (.tmp 7) (.const (.string ⟨#[102,111,114]⟩)) (.tmp 16) rfl Tryz.underlying221 Tryz.underlying9 gm 8 _ ⟨#[102,111,114]⟩ (.agg #[.int .u8 15,.func (.func 167) #[] #[]]) rfl rfl rfl HM8.out (by kernel_rfl) ?_)
 intro w10 ht hm;have HM9:=yG hm;have HX10:=yG (ht.ext HX9.out HGM.out.1);have HZ10:=yG (ht.blk HZ9.out HGM.out.2);clear ht hm HM8 HX9 HZ9
 try simp only[Act.put,yD,yF,yE]
 go_wp2_with (refine jI rfl 221 (.tmp 7) (.const (.string ⟨#[108,101,116]⟩)) (.tmp 17) rfl Tryz.underlying221 Tryz.underlying9 gm 9 _ ⟨#[108,101,116]⟩ (.agg #[.int .u8 16,.func (.func 168) #[] #[]]) rfl rfl rfl HM9.out (by kernel_rfl) ?_)
 intro w11 ht hm;have HM10:=yG hm;have HX11:=yG (ht.ext HX10.out HGM.out.1);have HZ11:=yG (ht.blk HZ10.out HGM.out.2);clear ht hm HM9 HX10 HZ10
 try simp only[Act.put,yD,yF,yE]
 go_wp2_with (refine jI rfl 221 (.tmp 7) (.const (.string ⟨#[101,109,105,116]⟩)) (.tmp 18) rfl Tryz.underlying221 Tryz.underlying9 gm 10 _ ⟨#[101,109,105,116]⟩ (.agg #[.int .u8 17,.func (.func 169) #[] #[]]) rfl rfl rfl HM10.out (by kernel_rfl) ?_)
 intro w12 ht hm;have HM11:=yG hm;have HX12:=yG (ht.ext HX11.out HGM.out.1);have HZ12:=yG (ht.blk HZ11.out HGM.out.2);clear ht hm HM10 HX11 HZ11
 try simp only[Act.put,yD,yF,yE]
 go_wp2_with (refine jI rfl 221 (.tmp 7) (.const (.string ⟨#[114,111,108,108,98,97,99,107]⟩)) (.tmp 19) rfl Tryz.underlying221 Tryz.underlying9 gm 11 _ ⟨#[114,111,108,108,98,97,99,107]⟩ (.agg #[.int .u8 18,.func (.func 170) #[] #[]]) rfl rfl rfl HM11.out (by kernel_rfl) ?_)
 intro w13 ht hm;have HM12:=yG hm;have HX13:=yG (ht.ext HX12.out HGM.out.1);have HZ13:=yG (ht.blk HZ12.out HGM.out.2);clear ht hm HM11 HX12 HZ12
 try simp only[Act.put,yD,yF,yE]
 go_wp2_with (refine jI rfl 221 (.tmp 7) (.const (.string ⟨#[99,104,111,112]⟩)) (.tmp 20) rfl Tryz.underlying221 Tryz.underlying9 gm 12 _ ⟨#[99,104,111,112]⟩ (.agg #[.int .u8 19,.func (.func 170) #[] #[]]) rfl rfl rfl HM12.out (by kernel_rfl) ?_)
 intro w14 ht hm;have HM13:=yG hm;have HX14:=yG (ht.ext HX13.out HGM.out.1);have HZ14:=yG (ht.blk HZ13.out HGM.out.2);clear ht hm HM12 HX13 HZ13
 try simp only[Act.put,yD,yF,yE]
 obtain⟨i',hfn⟩:=zGa x zIp 0 0;have HFN:Hid (Instr.findNow .string (.string (xH x)) _ 0=some ((ZN x).map fun k=>(i',zRb k))):=yG hfn;clear hfn
 have HV:Hid ((((ZN x).map fun k=>(i',zRb k)).map Prod.snd).getD (.agg #[.int .u8 0,.nilFunc])=.agg #[.int .u8 (zIq (ZN x)),zIu (ZN x)]):=yG (by cases ZN x <;> rfl)
 have HV2:Hid (((ZN x).map fun k=>(i',zRb k)).isSome=(ZN x).isSome):=yG (by cases ZN x <;> rfl)
 generalize hok:(ZN x).isSome=ok at *;generalize hfk:zIq (ZN x)=fk at *;generalize hff:zIu (ZN x)=ff at *
 have HONE:Hid (ff.oneCell'=true):=yG (by rw[←hff]; cases ZN x <;> rfl)
 have HE3:=yG (And.intro hok (And.intro hfk hff));clear hok hfk hff;have honc:=HONE.out
 have hall:([.int .u8 fk,ff]:List Value).all (·.oneCell')=true:=by simp[HONE.out]; rfl
 go_wp2_with (first
  | (refine zGm rfl 221 (.tmp 23) (.tmp 24) rfl Tryz.underlying221 Tryz.underlying9 gm 13 _ (xH x) ((ZN x).map fun k=>(i',zRb k)) (.agg #[.int .u8 0,.nilFunc]) rfl rfl HM13.out HFN.out (zQp _) (.agg #[.int .u8 fk,ff]) ok HV.out HV2.out ?_)
  | (refine vI rfl 218 (.tmp 5) (.tmp 26) rfl w14.heap.size #[.int .u8 fk,ff] (by rfl) (by rfl) 218 #[.int .u8 0,.nilFunc] (Blk.new _ _ _) (by kernel_rfl) rfl hall ?_; intro w15 ht15 hb15; have HX15:=yG (ht15.ext (HX14.out.trans (Ext.alloc w14 (.cells #[.int .u8 0,.nilFunc] 218))) HX14.out.size); have HZ15:=yG (ht15.blk (HZ14.out.ext (Ext.alloc w14 (.cells #[.int .u8 0,.nilFunc] 218))) (Nat.ne_of_lt HZ14.out.lt)); have f0:w15.cell? ⟨w14.heap.size,0,none⟩=some (.int .u8 fk):=hb15.cell 0; have f1:w15.cell? ⟨w14.heap.size,1,none⟩=some ff:=hb15.cell 1; clear ht15 hb15)
  | (refine vI rfl 218 (.tmp 2) (.tmp 28) rfl w.heap.size #[.int .u8 fk,ff] (by rfl) (by rfl) 218 #[.int .u8 0,.nilFunc] HZ15.out (by kernel_rfl) rfl hall ?_; intro w16 ht16 hb16; have HX16:=yG (ht16.ext HX15.out (zX _)); have g0:w16.cell? ⟨w.heap.size,0,none⟩=some (.int .u8 fk):=hb16.cell 0; have g1:w16.cell? ⟨w.heap.size,1,none⟩=some ff:=hb16.cell 1; clear ht16 hb16))
 refine bodyPost_ret (v:=.tuple #[.agg #[.int .u8 fk,ff],.bool ok]) (by simp[results,Tryz.results157,go_sem,g0,g1]) rfl ?_;rw[HE3.out.1,HE3.out.2.1,HE3.out.2.2];exact⟨rfl,HX16.out⟩
theorem zRO {i:Nat}{s:Ps}(h:Hid (isP [61,61] s=true)):zFf i s=.ok () (s.adv.num i 1):=by unfold zFf; rw[if_pos h.out]
theorem zTh {i:Nat}{s:Ps}(h:Hid (isP [61,61] s=false)):zFf i s=vX [60] s:=by unfold zFf; rw[h.out]; rfl
theorem zOD (n:Nat)(st:Nat→Pm Unit)(hblk:zAr 112 (n+1) (zAU st))(hfine:zDv n st):zAr 166 (n+1) (zDr st):=by
 intro w p B s R i h hG hi hbig hn;have HS0:=yG (Ran.refl h hG);have HI:=yG hi;have HBG:=yG hbig;have HN:=yG hn;have HBK:=yG hblk;have HFS:=yG hfine;obtain⟨whole,HL0⟩:∃x,Hid (x=zDr st i s):=⟨_,yG rfl⟩;rw[←HL0.out];have hm:=hmf;clear h hG hi hbig hn hblk hfine
 go_enter Tryz.func166,Tryz.ntmps166
 go_wp2_with fail
 refine(zAI _ p B s R i HS0.out.ps HS0.out.lt.xR (HS0.out.idx HI.out) (HS0.out.phi HBG.out)).mono ?_;intro e w1 hp
 rcases Ran.go HL0 HS0 (ZY i _ HS0.out.lt.xR) hp with ⟨s1,R1,HL1,rfl,HS1⟩ | ⟨er,a,rfl,HX,HY⟩
 rotate_left
 ·refine xD (P:=Tryz.prog) (fn:=Tryz.f166) rfl ?_;rw[HX.out];exact HY.out
 clear hp
 cases hi2:isP [61,61] s1 with
 | false=>
  have HI2:=yG hi2;clear hi2;have HL2:=yG (bind_eq HL1 (zTh HI2))
  go_wp2_with fail
  refine(zAO _ p B s1 R1 [61,61] HI2 HS1.out.ps).mono ?_;rintro e w2 ⟨rfl,hx⟩;have HS2:=yG (HS1.out.ext hx);clear hx
  go_wp2_with fail
  refine(jG _ p B s1 R1 [60] HS2.out.ps).mono ?_;intro e w3 hp
  rcases Ran.go HL2 HS2 (xP _ _ HS2.out.lt.xR) hp with ⟨s3,R3,HL3,rfl,HS3⟩ | ⟨er,a,rfl,HX,HY⟩
  rotate_left
  ·refine xD (P:=Tryz.prog) (fn:=Tryz.f166) rfl ?_;rw[HX.out];exact HY.out
  clear hp
  go_wp2_with fail
  refine(zAI _ p B s3 R3 i HS3.out.ps HS3.out.lt.xR (HS3.out.idx HI.out) (HS3.out.phi HBG.out)).mono ?_;intro e w4 hp
  rcases Ran.go HL3 HS3 (ZY i _ HS3.out.lt.xR) hp with ⟨s4,R4,HL4,rfl,HS4⟩ | ⟨er,a,rfl,HX,HY⟩
  rotate_left
  ·refine xD (P:=Tryz.prog) (fn:=Tryz.f166) rfl ?_;rw[HX.out];exact HY.out
  clear hp
  go_wp2_with fail
  refine(HBK.out _ p B s4 R4 i HS4.out.ps HS4.out.lt.xR (HS4.out.idx HI.out) (HS4.out.phi HBG.out) (HS4.out.few HN.out)).mono ?_;intro e w5 hp
  rcases Ran.go HL4 HS4 (JV HFS.out i _ HS4.out.lt.xR (HS4.out.few HN.out)) hp with ⟨s5,R5,HL5,rfl,HS5⟩ | ⟨er,a,rfl,HX,HY⟩
  rotate_left
  ·refine xD (P:=Tryz.prog) (fn:=Tryz.f166) rfl ?_;rw[HX.out];exact HY.out
  clear hp
  cases hi6:isP [101,108,115,101] s5 with
  | false=>
   have HI6:=yG hi6;clear hi6;have HL6:=yG (zKC (t:=[101,108,115,101]) (s:=s5) HL5 HI6)
   go_wp2_with fail
   refine(zAO _ p B s5 R5 [101,108,115,101] HI6 HS5.out.ps).mono ?_;rintro e w6 ⟨rfl,hx⟩;have HS6:=yG (HS5.out.ext hx);clear hx
   go_wp2_with fail
   go_end0;rw[HL6.out];exact xM.ok HS6.out.okp
  | true=>
   have HI6:=yG hi6;clear hi6;have HL6:=yG (zGR (t:=[101,108,115,101]) (s:=s5) HL5 HI6)
   go_wp2_with fail
   refine(VH _ p B s5 R5 [101,108,115,101] HI6 HS5.out.ps).mono ?_;rintro e w6 ⟨rfl,ho⟩;obtain⟨R6,hs⟩:=HS5.out.then ho (zBg HS5.out.lt.xR HI6);have HS6:=yG hs;clear ho hs;have HB7:=yG (ZG HL6.out)
   go_wp2_with fail
   refine(HBK.out _ p B s5.adv R6 i HS6.out.ps HS6.out.lt.xR (HS6.out.idx HI.out) (HS6.out.phi HBG.out) (HS6.out.few HN.out)).mono ?_;intro e w7 hp
   rcases Ran.go HB7 HS6 (JV HFS.out i _ HS6.out.lt.xR (HS6.out.few HN.out)) hp with ⟨s7,R7,HL7,rfl,HS7⟩ | ⟨er,a,rfl,HX,HY⟩
   rotate_left
   ·refine xD (P:=Tryz.prog) (fn:=Tryz.f166) rfl ?_;rw[HX.out];exact HY.out
   clear hp
   go_wp2_with fail
   go_end0;rw[HL7.out];exact xM.ok HS7.out.okp
 | true=>
  have HI2:=yG hi2;clear hi2;have HL2:=yG (bind_eq HL1 (zRO HI2))
  go_wp2_with fail
  refine(VH _ p B s1 R1 [61,61] HI2 HS1.out.ps).mono ?_;rintro e w2 ⟨rfl,ho⟩;obtain⟨R2,hs⟩:=HS1.out.then ho (zBg HS1.out.lt.xR HI2);have HS2:=yG hs;clear ho hs
  go_wp2_with fail
  refine(zCD _ p B s1.adv R2 i HS2.out.ps (HS2.out.idx HI.out)).mono ?_;intro e w8 hp
  rcases Ran.go HL2 HS2 (ZJ.num HS2.out.lt.xR i 1) hp with ⟨s8,R8,HL8,rfl,HS8⟩ | ⟨er,a,rfl,HX,HY⟩
  rotate_left
  ·refine xD (P:=Tryz.prog) (fn:=Tryz.f166) rfl ?_;rw[HX.out];exact HY.out
  clear hp
  go_wp2_with fail
  refine(zAI _ p B s8 R8 i HS8.out.ps HS8.out.lt.xR (HS8.out.idx HI.out) (HS8.out.phi HBG.out)).mono ?_;intro e w9 hp
  rcases Ran.go HL8 HS8 (ZY i _ HS8.out.lt.xR) hp with ⟨s9,R9,HL9,rfl,HS9⟩ | ⟨er,a,rfl,HX,HY⟩
  rotate_left
  ·refine xD (P:=Tryz.prog) (fn:=Tryz.f166) rfl ?_;rw[HX.out];exact HY.out
  clear hp
  go_wp2_with fail
  refine(HBK.out _ p B s9 R9 i HS9.out.ps HS9.out.lt.xR (HS9.out.idx HI.out) (HS9.out.phi HBG.out) (HS9.out.few HN.out)).mono ?_;intro e w10 hp
  rcases Ran.go HL9 HS9 (JV HFS.out i _ HS9.out.lt.xR (HS9.out.few HN.out)) hp with ⟨s10,R10,HL10,rfl,HS10⟩ | ⟨er,a,rfl,HX,HY⟩
  rotate_left
  ·refine xD (P:=Tryz.prog) (fn:=Tryz.f166) rfl ?_;rw[HX.out];exact HY.out
  clear hp
  cases hi11:isP [101,108,115,101] s10 with
  | false=>
   have HI11:=yG hi11;clear hi11;have HL11:=yG (zKC (t:=[101,108,115,101]) (s:=s10) HL10 HI11)
   go_wp2_with fail
   refine(zAO _ p B s10 R10 [101,108,115,101] HI11 HS10.out.ps).mono ?_;rintro e w11 ⟨rfl,hx⟩;have HS11:=yG (HS10.out.ext hx);clear hx
   go_wp2_with fail
   go_end0;rw[HL11.out];exact xM.ok HS11.out.okp
  | true=>
   have HI11:=yG hi11;clear hi11;have HL11:=yG (zGR (t:=[101,108,115,101]) (s:=s10) HL10 HI11)
   go_wp2_with fail
   refine(VH _ p B s10 R10 [101,108,115,101] HI11 HS10.out.ps).mono ?_;rintro e w11 ⟨rfl,ho⟩;obtain⟨R11,hs⟩:=HS10.out.then ho (zBg HS10.out.lt.xR HI11);have HS11:=yG hs;clear ho hs;have HB12:=yG (ZG HL11.out)
   go_wp2_with fail
   refine(HBK.out _ p B s10.adv R11 i HS11.out.ps HS11.out.lt.xR (HS11.out.idx HI.out) (HS11.out.phi HBG.out) (HS11.out.few HN.out)).mono ?_;intro e w12 hp
   rcases Ran.go HB12 HS11 (JV HFS.out i _ HS11.out.lt.xR (HS11.out.few HN.out)) hp with ⟨s12,R12,HL12,rfl,HS12⟩ | ⟨er,a,rfl,HX,HY⟩
   rotate_left
   ·refine xD (P:=Tryz.prog) (fn:=Tryz.f166) rfl ?_;rw[HX.out];exact HY.out
   clear hp
   go_wp2_with fail
   go_end0;rw[HL12.out];exact xM.ok HS12.out.okp
theorem zRw (n:Nat)(st:Nat→Pm Unit)(hblk:zAr 112 (n+1) (zAU st))(hfine:zDv n st):zAr 167 (n+1) (zGA st):=by
 intro w p B s R i h hG hi hbig hn;have HS0:=yG (Ran.refl h hG);have HI:=yG hi;have HBG:=yG hbig;have HN:=yG hn;have HBK:=yG hblk;have HFS:=yG hfine;obtain⟨whole,HL0⟩:∃x,Hid (x=zGA st i s):=⟨_,yG rfl⟩;rw[←HL0.out];have hm:=hmf;clear h hG hi hbig hn hblk hfine
 go_enter Tryz.func167,Tryz.ntmps167
 go_wp2_with fail
 refine(JW _ p B s R i HS0.out.ps (HS0.out.idx HI.out)).mono ?_;intro e w13 hp
 rcases Ran.go HL0 HS0 (ZT i _ HS0.out.lt.xR) hp with ⟨s13,R13,HL13,rfl,HS13⟩ | ⟨er,a,rfl,HX,HY⟩
 rotate_left
 ·refine xD (P:=Tryz.prog) (fn:=Tryz.f167) rfl ?_;rw[HX.out];exact HY.out
 clear hp
 go_wp2_with fail
 refine(jG _ p B s13 R13 [61] HS13.out.ps).mono ?_;intro e w14 hp
 rcases Ran.go HL13 HS13 (xP _ _ HS13.out.lt.xR) hp with ⟨s14,R14,HL14,rfl,HS14⟩ | ⟨er,a,rfl,HX,HY⟩
 rotate_left
 ·refine xD (P:=Tryz.prog) (fn:=Tryz.f167) rfl ?_;rw[HX.out];exact HY.out
 clear hp
 go_wp2_with fail
 refine(zGY _ p B s14 R14 i HS14.out.ps HS14.out.lt.xR (HS14.out.idx HI.out) (HS14.out.nd HBG.out)).mono ?_;intro e w15 hp
 rcases Ran.go HL14 HS14 (zCH i _ HS14.out.lt.xR) hp with ⟨s15,R15,HL15,rfl,HS15⟩ | ⟨er,a,rfl,HX,HY⟩
 rotate_left
 ·refine xD (P:=Tryz.prog) (fn:=Tryz.f167) rfl ?_;rw[HX.out];exact HY.out
 clear hp
 go_wp2_with fail
 refine(jG _ p B s15 R15 [116,111] HS15.out.ps).mono ?_;intro e w16 hp
 rcases Ran.go HL15 HS15 (xP _ _ HS15.out.lt.xR) hp with ⟨s16,R16,HL16,rfl,HS16⟩ | ⟨er,a,rfl,HX,HY⟩
 rotate_left
 ·refine xD (P:=Tryz.prog) (fn:=Tryz.f167) rfl ?_;rw[HX.out];exact HY.out
 clear hp
 go_wp2_with fail
 refine(zGY _ p B s16 R16 i HS16.out.ps HS16.out.lt.xR (HS16.out.idx HI.out) (HS16.out.nd HBG.out)).mono ?_;intro e w17 hp
 rcases Ran.go HL16 HS16 (zCH i _ HS16.out.lt.xR) hp with ⟨s17,R17,HL17,rfl,HS17⟩ | ⟨er,a,rfl,HX,HY⟩
 rotate_left
 ·refine xD (P:=Tryz.prog) (fn:=Tryz.f167) rfl ?_;rw[HX.out];exact HY.out
 clear hp;have HB18:=yG (ZG HL17.out)
 go_wp2_with fail
 refine(HBK.out _ p B s17 R17 i HS17.out.ps HS17.out.lt.xR (HS17.out.idx HI.out) (HS17.out.phi HBG.out) (HS17.out.few HN.out)).mono ?_;intro e w18 hp
 rcases Ran.go HB18 HS17 (JV HFS.out i _ HS17.out.lt.xR (HS17.out.few HN.out)) hp with ⟨s18,R18,HL18,rfl,HS18⟩ | ⟨er,a,rfl,HX,HY⟩
 rotate_left
 ·refine xD (P:=Tryz.prog) (fn:=Tryz.f167) rfl ?_;rw[HX.out];exact HY.out
 clear hp
 go_wp2_with fail
 go_end0;rw[HL18.out];exact xM.ok HS18.out.okp
end Go.Proofs.YtbadjmmjbpeocaaGreat
