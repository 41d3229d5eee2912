/- The program's forms: which statement a word begins. (and what follows of it). The conditions stand at each lemma. -/
import Derived.Test.YtbadjmmjbpeocaaGreatDoorKaa
import Derived.Test.YtbadjmmjbpeocaaGreatDoorKan
import Derived.Test.YtbadjmmjbpeocaaGreatDoorKac
set_option linter.unusedVariables false
set_option linter.unusedSimpArgs false
set_option maxRecDepth 100000
set_option maxHeartbeats 16000000
namespace Go.Proofs.YtbadjmmjbpeocaaGreatDoor
open Go Go.RowKit
section
variable {P:Program}
theorem zHU {w:World}{t kt et:TypeId}{r clock:Nat}{es:Array MapEntry}{n:ByteArray}{val:Value}(hm:P.underlying t=some (.map kt et))(hk:P.underlying kt=some .string)
  (hb:ZN w r es clock) (hf:Instr.findNow .string (.string n) es.toList 0=some none) :
  (Instr.mapUpdate t (.map (some r)) (.string n) val).run P w=.ok () { w with heap:=w.heap.setIfInBounds r (.map (es.push { key:=.string n,val:=val,born:=clock }) (clock+1)) }:=by
 have hc:(Instr.checkKey false 10000 kt (.string n)).run P w=.ok () w:=MapKept.run_checkKey (k:=.string n) hk (by simp[MapKept.IsKey]) false 9999;simp[Instr.mapUpdate,run_underlying hm,MapKept.run_getObj_map hb,hc,MapKept.run_findKey hk hf,MapKept.run_setObj_map _ hb,Result.andThen]
theorem jJ {ops:Array Oper}{rest:List Oper}{o:Oper}{a:Act}{w:World}{Q:Exit→Act→World→Prop}(hgd:o.guard=none)(t:TypeId)(m k x:Operand)(ho:o.op=.insert t m k x){kt et:TypeId}
  (hm:P.underlying t=some (.map kt et)) (hk:P.underlying kt=some .string) (r clock:Nat) (es:Array MapEntry) (n:ByteArray) (v:Value)
  (em:a.eval m=.map (some r)) (ek:a.eval k=.string n) (ex:a.eval x=v) (hb:ZN w r es clock) (hf:Instr.findNow .string (.string n) es.toList 0=some none)
  (h:∀w',Touch r w w'→ZN w' r (es.push { key:=.string n,val:=v,born:=clock }) (clock+1)→wpList P ops Q rest (a.put o.dst undef) w'):wpList P ops Q (o::rest) a w:=by
 refine wpList_plain hgd fun K hK=>?_;have hrun:=zHU (val:=v) hm hk hb hf;unfold Oper.wp execOp;simp only[ho,em,ek,ex,Sem.run_bind,Sem.run_pure,hrun,Result.andThen_ok];refine hK _ _ (h _ ⟨rfl,rfl,rfl,by simp,fun q hq=>?_⟩ ?_)
 ·simp[Array.getElem?_setIfInBounds,Ne.symm hq]
 ·have hlt:=hb.lt;unfold ZN;simp[hlt]
theorem zGa {ops:Array Oper}{rest:List Oper}{o:Oper}{a:Act}{w:World}{Q:Exit→Act→World→Prop}(hgd:o.guard=none)(t:TypeId)(m k:Operand)(ho:o.op=.lookup t m k true){kt et:TypeId}
  (hm:P.underlying t=some (.map kt et)) (hk:P.underlying kt=some .string) (r clock:Nat) (es:Array MapEntry) (n:ByteArray) (res:Option (Nat × Value)) (z:Value)
  (em:a.eval m=.map (some r)) (ek:a.eval k=.string n) (hb:ZN w r es clock) (hf:Instr.findNow .string (.string n) es.toList 0=some res) (hz:(zeroValue et).run P w=.ok z w) (v:Value) (ok:Bool) (hv:(res.map Prod.snd).getD z=v) (hok:res.isSome=ok)
  (h:wpList P ops Q rest (a.put o.dst (.tuple #[v,.bool ok])) w):wpList P ops Q (o::rest) a w:=by
 subst hv hok;refine wpList_plain hgd fun K hK=>?_;have hc:(Instr.checkKey es.isEmpty 10000 kt (.string n)).run P w=.ok () w:=MapKept.run_checkKey (k:=.string n) hk (by simp[MapKept.IsKey]) _ 9999
 have hrun:(Instr.lookup t (.map (some r)) (.string n) true).run P w=.ok (.tuple #[(res.map Prod.snd).getD z,.bool res.isSome]) w:=by
  cases res with
  | none=>simp[Instr.lookup,run_underlying hm,MapKept.run_getObj_map hb,hc,MapKept.run_findKey hk hf,Result.andThen,hz]
  | some x=>obtain⟨i,v⟩:=x; simp[Instr.lookup,run_underlying hm,MapKept.run_getObj_map hb,hc,MapKept.run_findKey hk hf,Result.andThen]
 unfold Oper.wp execOp;simp only[ho,em,ek,Sem.run_bind,Sem.run_pure,hrun,Result.andThen_ok];exact hK _ _ h
end
def zMx (k:Nat):Nat:=if k=7 then 148 else if k=8 then 149 else if k=9 then 150 else if k=10 then 151 else if k=11 then 152 else if k=12 then 153 else if k=13 then 154 else if k=14 then 155 else if k=15 then 156 else if k=16 then 157 else if k=17 then 158 else 159
def zRb (k:Nat):Value:=.agg #[.int .u8 (k:Int),.func (.func (zMx k)) #[] #[]]
def zNn:List (Bs × Nat)→Nat→List MapEntry
 | [],_=>[]
 | m::l,j=>{ key:=.string (xI m.1),val:=zRb m.2,born:=j } :: zNn l (j+1)
theorem zRz {a b:Bs}(h:xI a=xI b):a=b:=by
 have:=congrArg (fun x=>x.data.toList) h
 simpa [xI] using this
theorem zQL (x m:Bs):Instr.sameNow .string (.string (xI x)) (.string (xI m))=some (m==x):=by
 obtain⟨r,h1,h2⟩:=MapKept.sameNow_of_keys (d:=.string) (a:=.string (xI x)) (b:=.string (xI m)) trivial trivial;rw[h1]
 congr 1
 cases r with
 | true=>
  have:=h2.1 rfl
  injection this with this;rw[zRz this]
  simp
 | false=>
  cases hc:m==x with
  | false=>rfl
  | true=>
   rw[zO] at hc;subst hc;exact(h2.2 rfl)
theorem zFX (x:Bs):∀(l:List (Bs × Nat)) (j i:Nat),∃i',Instr.findNow .string (.string (xI x)) (zNn l j) i=some (((l.find? fun m=>m.1==x).map Prod.snd).map fun k=>(i',zRb k))
 | [],_,_=>⟨0,rfl⟩
 | m::l,j,i=>by
  have hs:Instr.sameNow .string (.string (xI x)) (.string (xI m.1))=some (m.1==x):=zQL x m.1
  cases hc:m.1==x with
  | true=>
   refine⟨i,?_⟩;rw[hc] at hs;rw[List.find?_cons,hc];simp only[zNn,Instr.findNow,hs]
   rfl
  | false=>
   obtain⟨i',h⟩:=zFX x l (j+1) (i+1);refine⟨i',?_⟩;rw[hc] at hs;rw[List.find?_cons,hc];simp only[zNn,Instr.findNow,hs];exact h
theorem zQo (w:World):(zeroValue 218).run Tryz.prog w=.ok (.agg #[.int .u8 0,.nilFunc]) w:=by kernel_rfl
def zJc (k:Option Nat):Int:=k.elim 0 (fun k=>(k:Int))
def zJg (k:Option Nat):Value:=k.elim .nilFunc (fun k=>.func (.func (zMx k)) #[] #[])
theorem zCo (x:Bs)(w:World):Calls Tryz.prog 146 #[.string (xI x)] w fun e w'=>e=.returned (.tuple #[.agg #[.int .u8 (zJc (ZM x)),zJg (ZM x)],.bool (ZM x).isSome])∧Ext w w':=by
 go_enter Tryz.func146,Tryz.ntmps146
 have HZ:=yG (Blk.new w 218 #[.int .u8 0,.nilFunc]);have HX0:Hid (Ext w (w.alloc (.cells #[.int .u8 0,.nilFunc] 218))):=yG (Ext.alloc _ _)
 go_wp2_with (refine zEn rfl 221 rfl ?_)
 intro w1 hx1 hm0 hs1;obtain⟨gm,hgm⟩:∃gm,gm=w.heap.size+1:=⟨_,rfl⟩
 have hgm2:(w.alloc (.cells #[.int .u8 0,.nilFunc] 218)).heap.size=gm:=by rw[hgm]; simp
 first | rw[←hgm] at hm0 | rw[hgm2] at hm0
 have HM0:=yG hm0;have HX1:=yG (HX0.out.trans hx1);have HGM:Hid (w.heap.size≤gm∧w.heap.size≠gm):=yG (by omega);have HZ1:=yG (HZ.out.ext hx1);have HGE:=yG hgm2;have HGF:Hid (w.heap.size+1=gm):=yG hgm.symm;clear hx1 hm0 hs1 hgm hgm2
 try simp only[Act.put,yD,yF,yE]
 try rw[HGE.out]
 try rw[HGF.out]
 go_wp2_with (refine jJ rfl 221 (.tmp 7) (.const (.string ⟨#[114,101,97,100]⟩)) (.tmp 8) rfl Tryz.underlying221 Tryz.underlying9 gm 0 _ ⟨#[114,101,97,100]⟩ (.agg #[.int .u8 7,.func (.func 148) #[] #[]]) rfl rfl rfl HM0.out (by kernel_rfl) ?_)
 intro w2 ht hm;have HM1:=yG hm;have HX2:=yG (ht.ext HX1.out HGM.out.1);have HZ2:=yG (ht.blk HZ1.out HGM.out.2);clear ht hm HM0 HX1 HZ1
 try simp only[Act.put,yD,yF,yE]
 go_wp2_with (refine jJ rfl 221 (.tmp 7) (.const (.string ⟨#[115,101,116]⟩)) (.tmp 9) rfl Tryz.underlying221 Tryz.underlying9 gm 1 _ ⟨#[115,101,116]⟩ (.agg #[.int .u8 8,.func (.func 149) #[] #[]]) rfl rfl rfl HM1.out (by kernel_rfl) ?_)
 intro w3 ht hm;have HM2:=yG hm;have HX3:=yG (ht.ext HX2.out HGM.out.1);have HZ3:=yG (ht.blk HZ2.out HGM.out.2);clear ht hm HM1 HX2 HZ2
 try simp only[Act.put,yD,yF,yE]
 go_wp2_with (refine jJ rfl 221 (.tmp 7) (.const (.string ⟨#[112,117,116]⟩)) (.tmp 10) rfl Tryz.underlying221 Tryz.underlying9 gm 2 _ ⟨#[112,117,116]⟩ (.agg #[.int .u8 9,.func (.func 150) #[] #[]]) rfl rfl rfl HM2.out (by kernel_rfl) ?_)
 intro w4 ht hm;have HM3:=yG hm;have HX4:=yG (ht.ext HX3.out HGM.out.1);have HZ4:=yG (ht.blk HZ3.out HGM.out.2);clear ht hm HM2 HX3 HZ3
 try simp only[Act.put,yD,yF,yE]
 go_wp2_with (refine jJ rfl 221 (.tmp 7) (.const (.string ⟨#[100,101,108,101,116,101]⟩)) (.tmp 11) rfl Tryz.underlying221 Tryz.underlying9 gm 3 _ ⟨#[100,101,108,101,116,101]⟩ (.agg #[.int .u8 10,.func (.func 151) #[] #[]]) rfl rfl rfl HM3.out (by kernel_rfl) ?_)
 intro w5 ht hm;have HM4:=yG hm;have HX5:=yG (ht.ext HX4.out HGM.out.1);have HZ5:=yG (ht.blk HZ4.out HGM.out.2);clear ht hm HM3 HX4 HZ4
 try simp only[Act.put,yD,yF,yE]
 go_wp2_with (refine jJ rfl 221 (.tmp 7) (.const (.string ⟨#[115,99,97,110]⟩)) (.tmp 12) rfl Tryz.underlying221 Tryz.underlying9 gm 4 _ ⟨#[115,99,97,110]⟩ (.agg #[.int .u8 11,.func (.func 152) #[] #[]]) rfl rfl rfl HM4.out (by kernel_rfl) ?_)
 intro w6 ht hm;have HM5:=yG hm;have HX6:=yG (ht.ext HX5.out HGM.out.1);have HZ6:=yG (ht.blk HZ5.out HGM.out.2);clear ht hm HM4 HX5 HZ5
 try simp only[Act.put,yD,yF,yE]
 go_wp2_with (refine jJ rfl 221 (.tmp 7) (.const (.string ⟨#[108,111,99,107]⟩)) (.tmp 13) rfl Tryz.underlying221 Tryz.underlying9 gm 5 _ ⟨#[108,111,99,107]⟩ (.agg #[.int .u8 12,.func (.func 153) #[] #[]]) rfl rfl rfl HM5.out (by kernel_rfl) ?_)
 intro w7 ht hm;have HM6:=yG hm;have HX7:=yG (ht.ext HX6.out HGM.out.1);have HZ7:=yG (ht.blk HZ6.out HGM.out.2);clear ht hm HM5 HX6 HZ6
 try simp only[Act.put,yD,yF,yE]
 go_wp2_with (refine jJ rfl 221 (.tmp 7) (.const (.string ⟨#[114,101,108,101,97,115,101]⟩)) (.tmp 14) rfl Tryz.underlying221 Tryz.underlying9 gm 6 _ ⟨#[114,101,108,101,97,115,101]⟩ (.agg #[.int .u8 13,.func (.func 154) #[] #[]]) rfl rfl rfl HM6.out (by kernel_rfl) ?_)
 intro w8 ht hm;have HM7:=yG hm;have HX8:=yG (ht.ext HX7.out HGM.out.1);have HZ8:=yG (ht.blk HZ7.out HGM.out.2);clear ht hm HM6 HX7 HZ7
 try simp only[Act.put,yD,yF,yE]
 go_wp2_with (refine jJ rfl 221 (.tmp 7) (.const (.string ⟨#[105,102]⟩)) (.tmp 15) rfl Tryz.underlying221 Tryz.underlying9 gm 7 _ ⟨#[105,102]⟩ (.agg #[.int .u8 14,.func (.func 155) #[] #[]]) rfl rfl rfl HM7.out (by kernel_rfl) ?_)
 intro w9 ht hm;have HM8:=yG hm;have HX9:=yG (ht.ext HX8.out HGM.out.1);have HZ9:=yG (ht.blk HZ8.out HGM.out.2);clear ht hm HM7 HX8 HZ8
 try simp only[Act.put,yD,yF,yE]
 go_wp2_with (refine jJ rfl 221 (.tmp 7) (.const (.string ⟨#[102,111,114]⟩)) (.tmp 16) rfl Tryz.underlying221 Tryz.underlying9 gm 8 _ ⟨#[102,111,114]⟩ (.agg #[.int .u8 15,.func (.func 156) #[] #[]]) rfl rfl rfl HM8.out (by kernel_rfl) ?_)
 intro w10 ht hm;have HM9:=yG hm;have HX10:=yG (ht.ext HX9.out HGM.out.1);have HZ10:=yG (ht.blk HZ9.out HGM.out.2);clear ht hm HM8 HX9 HZ9
 try simp only[Act.put,yD,yF,yE]
 go_wp2_with (refine jJ rfl 221 (.tmp 7) (.const (.string ⟨#[108,101,116]⟩)) (.tmp 17) rfl Tryz.underlying221 Tryz.underlying9 gm 9 _ ⟨#[108,101,116]⟩ (.agg #[.int .u8 16,.func (.func 157) #[] #[]]) rfl rfl rfl HM9.out (by kernel_rfl) ?_)
 intro w11 ht hm;have HM10:=yG hm;have HX11:=yG (ht.ext HX10.out HGM.out.1);have HZ11:=yG (ht.blk HZ10.out HGM.out.2);clear ht hm HM9 HX10 HZ10
 try simp only[Act.put,yD,yF,yE]
 go_wp2_with (refine jJ rfl 221 (.tmp 7) (.const (.string ⟨#[101,109,105,116]⟩)) (.tmp 18) rfl Tryz.underlying221 Tryz.underlying9 gm 10 _ ⟨#[101,109,105,116]⟩ (.agg #[.int .u8 17,.func (.func 158) #[] #[]]) rfl rfl rfl HM10.out (by kernel_rfl) ?_)
 intro w12 ht hm;have HM11:=yG hm;have HX12:=yG (ht.ext HX11.out HGM.out.1);have HZ12:=yG (ht.blk HZ11.out HGM.out.2);clear ht hm HM10 HX11 HZ11
 try simp only[Act.put,yD,yF,yE]
 go_wp2_with (refine jJ rfl 221 (.tmp 7) (.const (.string ⟨#[114,111,108,108,98,97,99,107]⟩)) (.tmp 19) rfl Tryz.underlying221 Tryz.underlying9 gm 11 _ ⟨#[114,111,108,108,98,97,99,107]⟩ (.agg #[.int .u8 18,.func (.func 159) #[] #[]]) rfl rfl rfl HM11.out (by kernel_rfl) ?_)
 intro w13 ht hm;have HM12:=yG hm;have HX13:=yG (ht.ext HX12.out HGM.out.1);have HZ13:=yG (ht.blk HZ12.out HGM.out.2);clear ht hm HM11 HX12 HZ12
 try simp only[Act.put,yD,yF,yE]
 go_wp2_with (refine jJ rfl 221 (.tmp 7) (.const (.string ⟨#[99,104,111,112]⟩)) (.tmp 20) rfl Tryz.underlying221 Tryz.underlying9 gm 12 _ ⟨#[99,104,111,112]⟩ (.agg #[.int .u8 19,.func (.func 159) #[] #[]]) rfl rfl rfl HM12.out (by kernel_rfl) ?_)
 intro w14 ht hm;have HM13:=yG hm;have HX14:=yG (ht.ext HX13.out HGM.out.1);have HZ14:=yG (ht.blk HZ13.out HGM.out.2);clear ht hm HM12 HX13 HZ13
 try simp only[Act.put,yD,yF,yE]
 obtain⟨i',hfn⟩:=zFX x zJb 0 0;have HFN:Hid (Instr.findNow .string (.string (xI x)) _ 0=some ((ZM x).map fun k=>(i',zRb k))):=yG hfn;clear hfn
 have HV:Hid ((((ZM x).map fun k=>(i',zRb k)).map Prod.snd).getD (.agg #[.int .u8 0,.nilFunc])=.agg #[.int .u8 (zJc (ZM x)),zJg (ZM x)]):=yG (by cases ZM x <;> rfl)
 have HV2:Hid (((ZM x).map fun k=>(i',zRb k)).isSome=(ZM x).isSome):=yG (by cases ZM x <;> rfl)
 generalize hok:(ZM x).isSome=ok at *;generalize hfk:zJc (ZM x)=fk at *;generalize hff:zJg (ZM x)=ff at *
 have HONE:Hid (ff.oneCell'=true):=yG (by rw[←hff]; cases ZM x <;> rfl)
 have HE3:=yG (And.intro hok (And.intro hfk hff));clear hok hfk hff;have honc:=HONE.out
 have hall:([.int .u8 fk,ff]:List Value).all (·.oneCell')=true:=by simp[HONE.out]; rfl
 go_wp2_with (first
  | (refine zGa rfl 221 (.tmp 23) (.tmp 24) rfl Tryz.underlying221 Tryz.underlying9 gm 13 _ (xI x) ((ZM x).map fun k=>(i',zRb k)) (.agg #[.int .u8 0,.nilFunc]) rfl rfl HM13.out HFN.out (zQo _) (.agg #[.int .u8 fk,ff]) ok HV.out HV2.out ?_)
  | (refine vK rfl 218 (.tmp 5) (.tmp 26) rfl w14.heap.size #[.int .u8 fk,ff] (by rfl) (by rfl) 218 #[.int .u8 0,.nilFunc] (Blk.new _ _ _) (by kernel_rfl) rfl hall ?_; intro w15 ht15 hb15; have HX15:=yG (ht15.ext (HX14.out.trans (Ext.alloc w14 (.cells #[.int .u8 0,.nilFunc] 218))) HX14.out.size); have HZ15:=yG (ht15.blk (HZ14.out.ext (Ext.alloc w14 (.cells #[.int .u8 0,.nilFunc] 218))) (Nat.ne_of_lt HZ14.out.lt)); have f0:w15.cell? ⟨w14.heap.size,0,none⟩=some (.int .u8 fk):=hb15.cell 0; have f1:w15.cell? ⟨w14.heap.size,1,none⟩=some ff:=hb15.cell 1; clear ht15 hb15)
  | (refine vK rfl 218 (.tmp 2) (.tmp 28) rfl w.heap.size #[.int .u8 fk,ff] (by rfl) (by rfl) 218 #[.int .u8 0,.nilFunc] HZ15.out (by kernel_rfl) rfl hall ?_; intro w16 ht16 hb16; have HX16:=yG (ht16.ext HX15.out (zX _)); have g0:w16.cell? ⟨w.heap.size,0,none⟩=some (.int .u8 fk):=hb16.cell 0; have g1:w16.cell? ⟨w.heap.size,1,none⟩=some ff:=hb16.cell 1; clear ht16 hb16))
 refine bodyPost_ret (v:=.tuple #[.agg #[.int .u8 fk,ff],.bool ok]) (by simp[results,Tryz.results146,go_sem,g0,g1]) rfl ?_;rw[HE3.out.1,HE3.out.2.1,HE3.out.2.2];exact⟨rfl,HX16.out⟩
theorem zRT {i:Nat}{s:Ps}(h:Hid (isP [61,61] s=true)):zE6 i s=.ok () (s.adv.num i 1):=by unfold zE6; rw[if_pos h.out]
theorem zTt {i:Nat}{s:Ps}(h:Hid (isP [61,61] s=false)):zE6 i s=vW [60] s:=by unfold zE6; rw[h.out]; rfl
theorem zOm (n:Nat)(st:Nat→Pm Unit)(hblk:zAs 96 (n+1) (zAX st))(hfine:zDo n st):zAs 155 (n+1) (zDk st):=by
 intro w p B s R i h hG hi hbig hn;have HS0:=yG (Ran.refl h hG);have HI:=yG hi;have HBG:=yG hbig;have HN:=yG hn;have HBK:=yG hblk;have HFS:=yG hfine;obtain⟨whole,HL0⟩:∃x,Hid (x=zDk st i s):=⟨_,yG rfl⟩;rw[←HL0.out];have hm:=hmf;clear h hG hi hbig hn hblk hfine
 go_enter Tryz.func155,Tryz.ntmps155
 go_wp2_with fail
 refine(zAK _ p B s R i HS0.out.ps HS0.out.lt.xS (HS0.out.idx HI.out) (HS0.out.phi HBG.out)).mono ?_;intro e w1 hp
 rcases Ran.go HL0 HS0 (ZV i _ HS0.out.lt.xS) hp with ⟨s1,R1,HL1,rfl,HS1⟩ | ⟨er,a,rfl,HX,HY⟩
 rotate_left
 ·refine xE (P:=Tryz.prog) (fn:=Tryz.f155) rfl ?_;rw[HX.out];exact HY.out
 clear hp
 cases hi2:isP [61,61] s1 with
 | false=>
  have HI2:=yG hi2;clear hi2;have HL2:=yG (bind_eq HL1 (zTt HI2))
  go_wp2_with fail
  refine(zAR _ p B s1 R1 [61,61] HI2 HS1.out.ps).mono ?_;rintro e w2 ⟨rfl,hx⟩;have HS2:=yG (HS1.out.ext hx);clear hx
  go_wp2_with fail
  refine(jH _ p B s1 R1 [60] HS2.out.ps).mono ?_;intro e w3 hp
  rcases Ran.go HL2 HS2 (xQ _ _ HS2.out.lt.xS) hp with ⟨s3,R3,HL3,rfl,HS3⟩ | ⟨er,a,rfl,HX,HY⟩
  rotate_left
  ·refine xE (P:=Tryz.prog) (fn:=Tryz.f155) rfl ?_;rw[HX.out];exact HY.out
  clear hp
  go_wp2_with fail
  refine(zAK _ p B s3 R3 i HS3.out.ps HS3.out.lt.xS (HS3.out.idx HI.out) (HS3.out.phi HBG.out)).mono ?_;intro e w4 hp
  rcases Ran.go HL3 HS3 (ZV i _ HS3.out.lt.xS) hp with ⟨s4,R4,HL4,rfl,HS4⟩ | ⟨er,a,rfl,HX,HY⟩
  rotate_left
  ·refine xE (P:=Tryz.prog) (fn:=Tryz.f155) rfl ?_;rw[HX.out];exact HY.out
  clear hp
  go_wp2_with fail
  refine(HBK.out _ p B s4 R4 i HS4.out.ps HS4.out.lt.xS (HS4.out.idx HI.out) (HS4.out.phi HBG.out) (HS4.out.few HN.out)).mono ?_;intro e w5 hp
  rcases Ran.go HL4 HS4 (JU HFS.out i _ HS4.out.lt.xS (HS4.out.few HN.out)) hp with ⟨s5,R5,HL5,rfl,HS5⟩ | ⟨er,a,rfl,HX,HY⟩
  rotate_left
  ·refine xE (P:=Tryz.prog) (fn:=Tryz.f155) rfl ?_;rw[HX.out];exact HY.out
  clear hp
  cases hi6:isP [101,108,115,101] s5 with
  | false=>
   have HI6:=yG hi6;clear hi6;have HL6:=yG (zKf (t:=[101,108,115,101]) (s:=s5) HL5 HI6)
   go_wp2_with fail
   refine(zAR _ p B s5 R5 [101,108,115,101] HI6 HS5.out.ps).mono ?_;rintro e w6 ⟨rfl,hx⟩;have HS6:=yG (HS5.out.ext hx);clear hx
   go_wp2_with fail
   go_end0;rw[HL6.out];exact xN.ok HS6.out.okp
  | true=>
   have HI6:=yG hi6;clear hi6;have HL6:=yG (zGM (t:=[101,108,115,101]) (s:=s5) HL5 HI6)
   go_wp2_with fail
   refine(VN _ p B s5 R5 [101,108,115,101] HI6 HS5.out.ps).mono ?_;rintro e w6 ⟨rfl,ho⟩;obtain⟨R6,hs⟩:=HS5.out.then ho (zBl HS5.out.lt.xS HI6);have HS6:=yG hs;clear ho hs;have HB7:=yG (ZF HL6.out)
   go_wp2_with fail
   refine(HBK.out _ p B s5.adv R6 i HS6.out.ps HS6.out.lt.xS (HS6.out.idx HI.out) (HS6.out.phi HBG.out) (HS6.out.few HN.out)).mono ?_;intro e w7 hp
   rcases Ran.go HB7 HS6 (JU HFS.out i _ HS6.out.lt.xS (HS6.out.few HN.out)) hp with ⟨s7,R7,HL7,rfl,HS7⟩ | ⟨er,a,rfl,HX,HY⟩
   rotate_left
   ·refine xE (P:=Tryz.prog) (fn:=Tryz.f155) rfl ?_;rw[HX.out];exact HY.out
   clear hp
   go_wp2_with fail
   go_end0;rw[HL7.out];exact xN.ok HS7.out.okp
 | true=>
  have HI2:=yG hi2;clear hi2;have HL2:=yG (bind_eq HL1 (zRT HI2))
  go_wp2_with fail
  refine(VN _ p B s1 R1 [61,61] HI2 HS1.out.ps).mono ?_;rintro e w2 ⟨rfl,ho⟩;obtain⟨R2,hs⟩:=HS1.out.then ho (zBl HS1.out.lt.xS HI2);have HS2:=yG hs;clear ho hs
  go_wp2_with fail
  refine(zCN _ p B s1.adv R2 i HS2.out.ps (HS2.out.idx HI.out)).mono ?_;intro e w8 hp
  rcases Ran.go HL2 HS2 (ZI.num HS2.out.lt.xS i 1) hp with ⟨s8,R8,HL8,rfl,HS8⟩ | ⟨er,a,rfl,HX,HY⟩
  rotate_left
  ·refine xE (P:=Tryz.prog) (fn:=Tryz.f155) rfl ?_;rw[HX.out];exact HY.out
  clear hp
  go_wp2_with fail
  refine(zAK _ p B s8 R8 i HS8.out.ps HS8.out.lt.xS (HS8.out.idx HI.out) (HS8.out.phi HBG.out)).mono ?_;intro e w9 hp
  rcases Ran.go HL8 HS8 (ZV i _ HS8.out.lt.xS) hp with ⟨s9,R9,HL9,rfl,HS9⟩ | ⟨er,a,rfl,HX,HY⟩
  rotate_left
  ·refine xE (P:=Tryz.prog) (fn:=Tryz.f155) rfl ?_;rw[HX.out];exact HY.out
  clear hp
  go_wp2_with fail
  refine(HBK.out _ p B s9 R9 i HS9.out.ps HS9.out.lt.xS (HS9.out.idx HI.out) (HS9.out.phi HBG.out) (HS9.out.few HN.out)).mono ?_;intro e w10 hp
  rcases Ran.go HL9 HS9 (JU HFS.out i _ HS9.out.lt.xS (HS9.out.few HN.out)) hp with ⟨s10,R10,HL10,rfl,HS10⟩ | ⟨er,a,rfl,HX,HY⟩
  rotate_left
  ·refine xE (P:=Tryz.prog) (fn:=Tryz.f155) rfl ?_;rw[HX.out];exact HY.out
  clear hp
  cases hi11:isP [101,108,115,101] s10 with
  | false=>
   have HI11:=yG hi11;clear hi11;have HL11:=yG (zKf (t:=[101,108,115,101]) (s:=s10) HL10 HI11)
   go_wp2_with fail
   refine(zAR _ p B s10 R10 [101,108,115,101] HI11 HS10.out.ps).mono ?_;rintro e w11 ⟨rfl,hx⟩;have HS11:=yG (HS10.out.ext hx);clear hx
   go_wp2_with fail
   go_end0;rw[HL11.out];exact xN.ok HS11.out.okp
  | true=>
   have HI11:=yG hi11;clear hi11;have HL11:=yG (zGM (t:=[101,108,115,101]) (s:=s10) HL10 HI11)
   go_wp2_with fail
   refine(VN _ p B s10 R10 [101,108,115,101] HI11 HS10.out.ps).mono ?_;rintro e w11 ⟨rfl,ho⟩;obtain⟨R11,hs⟩:=HS10.out.then ho (zBl HS10.out.lt.xS HI11);have HS11:=yG hs;clear ho hs;have HB12:=yG (ZF HL11.out)
   go_wp2_with fail
   refine(HBK.out _ p B s10.adv R11 i HS11.out.ps HS11.out.lt.xS (HS11.out.idx HI.out) (HS11.out.phi HBG.out) (HS11.out.few HN.out)).mono ?_;intro e w12 hp
   rcases Ran.go HB12 HS11 (JU HFS.out i _ HS11.out.lt.xS (HS11.out.few HN.out)) hp with ⟨s12,R12,HL12,rfl,HS12⟩ | ⟨er,a,rfl,HX,HY⟩
   rotate_left
   ·refine xE (P:=Tryz.prog) (fn:=Tryz.f155) rfl ?_;rw[HX.out];exact HY.out
   clear hp
   go_wp2_with fail
   go_end0;rw[HL12.out];exact xN.ok HS12.out.okp
theorem zRy (n:Nat)(st:Nat→Pm Unit)(hblk:zAs 96 (n+1) (zAX st))(hfine:zDo n st):zAs 156 (n+1) (zGw st):=by
 intro w p B s R i h hG hi hbig hn;have HS0:=yG (Ran.refl h hG);have HI:=yG hi;have HBG:=yG hbig;have HN:=yG hn;have HBK:=yG hblk;have HFS:=yG hfine;obtain⟨whole,HL0⟩:∃x,Hid (x=zGw st i s):=⟨_,yG rfl⟩;rw[←HL0.out];have hm:=hmf;clear h hG hi hbig hn hblk hfine
 go_enter Tryz.func156,Tryz.ntmps156
 go_wp2_with fail
 refine(JV _ p B s R i HS0.out.ps (HS0.out.idx HI.out)).mono ?_;intro e w13 hp
 rcases Ran.go HL0 HS0 (ZQ i _ HS0.out.lt.xS) hp with ⟨s13,R13,HL13,rfl,HS13⟩ | ⟨er,a,rfl,HX,HY⟩
 rotate_left
 ·refine xE (P:=Tryz.prog) (fn:=Tryz.f156) rfl ?_;rw[HX.out];exact HY.out
 clear hp
 go_wp2_with fail
 refine(jH _ p B s13 R13 [61] HS13.out.ps).mono ?_;intro e w14 hp
 rcases Ran.go HL13 HS13 (xQ _ _ HS13.out.lt.xS) hp with ⟨s14,R14,HL14,rfl,HS14⟩ | ⟨er,a,rfl,HX,HY⟩
 rotate_left
 ·refine xE (P:=Tryz.prog) (fn:=Tryz.f156) rfl ?_;rw[HX.out];exact HY.out
 clear hp
 go_wp2_with fail
 refine(zGU _ p B s14 R14 i HS14.out.ps HS14.out.lt.xS (HS14.out.idx HI.out) (HS14.out.nd HBG.out)).mono ?_;intro e w15 hp
 rcases Ran.go HL14 HS14 (zCR i _ HS14.out.lt.xS) hp with ⟨s15,R15,HL15,rfl,HS15⟩ | ⟨er,a,rfl,HX,HY⟩
 rotate_left
 ·refine xE (P:=Tryz.prog) (fn:=Tryz.f156) rfl ?_;rw[HX.out];exact HY.out
 clear hp
 go_wp2_with fail
 refine(jH _ p B s15 R15 [116,111] HS15.out.ps).mono ?_;intro e w16 hp
 rcases Ran.go HL15 HS15 (xQ _ _ HS15.out.lt.xS) hp with ⟨s16,R16,HL16,rfl,HS16⟩ | ⟨er,a,rfl,HX,HY⟩
 rotate_left
 ·refine xE (P:=Tryz.prog) (fn:=Tryz.f156) rfl ?_;rw[HX.out];exact HY.out
 clear hp
 go_wp2_with fail
 refine(zGU _ p B s16 R16 i HS16.out.ps HS16.out.lt.xS (HS16.out.idx HI.out) (HS16.out.nd HBG.out)).mono ?_;intro e w17 hp
 rcases Ran.go HL16 HS16 (zCR i _ HS16.out.lt.xS) hp with ⟨s17,R17,HL17,rfl,HS17⟩ | ⟨er,a,rfl,HX,HY⟩
 rotate_left
 ·refine xE (P:=Tryz.prog) (fn:=Tryz.f156) rfl ?_;rw[HX.out];exact HY.out
 clear hp;have HB18:=yG (ZF HL17.out)
 go_wp2_with fail
 refine(HBK.out _ p B s17 R17 i HS17.out.ps HS17.out.lt.xS (HS17.out.idx HI.out) (HS17.out.phi HBG.out) (HS17.out.few HN.out)).mono ?_;intro e w18 hp
 rcases Ran.go HB18 HS17 (JU HFS.out i _ HS17.out.lt.xS (HS17.out.few HN.out)) hp with ⟨s18,R18,HL18,rfl,HS18⟩ | ⟨er,a,rfl,HX,HY⟩
 rotate_left
 ·refine xE (P:=Tryz.prog) (fn:=Tryz.f156) rfl ?_;rw[HX.out];exact HY.out
 clear hp
 go_wp2_with fail
 go_end0;rw[HL18.out];exact xN.ok HS18.out.okp
theorem zAe {t:Bs}{k:Nat}(h:ZM t=some k):7≤k∧k≤19:=by
 unfold ZM at h
 cases hf:zJb.find? fun m=>m.1==t with
 | none=>rw[hf] at h; cases h
 | some m=>
  rw[hf] at h;injection h with h;subst h;have hm:=List.mem_of_find?_eq_some hf
  have ha:∀m ∈ zJb,7≤m.2∧m.2≤19:=by decide
  exact ha m hm
theorem zGX {k:Nat}(h:7≤k∧k≤19):k=7∨k=8∨k=9∨k=10∨k=11∨k=12∨k=13∨k=14∨k=15∨k=16∨k=17∨k=18∨k=19:=by omega
theorem zHe {k:Nat}(h:7≤k∧k≤19):∀args w,(callFunc (zMx k) args).run Tryz.prog w=.ok (.enter (zMx k) args) w:=by
 rcases zGX h with rfl | rfl | rfl | rfl | rfl | rfl | rfl | rfl | rfl | rfl | rfl | rfl | rfl
 ·exact enters_of Tryz.func148 (by kernel_rfl) rfl
 ·exact enters_of Tryz.func149 (by kernel_rfl) rfl
 ·exact enters_of Tryz.func150 (by kernel_rfl) rfl
 ·exact enters_of Tryz.func151 (by kernel_rfl) rfl
 ·exact enters_of Tryz.func152 (by kernel_rfl) rfl
 ·exact enters_of Tryz.func153 (by kernel_rfl) rfl
 ·exact enters_of Tryz.func154 (by kernel_rfl) rfl
 ·exact enters_of Tryz.func155 (by kernel_rfl) rfl
 ·exact enters_of Tryz.func156 (by kernel_rfl) rfl
 ·exact enters_of Tryz.func157 (by kernel_rfl) rfl
 ·exact enters_of Tryz.func158 (by kernel_rfl) rfl
 ·exact enters_of Tryz.func159 (by kernel_rfl) rfl
 ·exact enters_of Tryz.func159 (by kernel_rfl) rfl
theorem zJv (n:Nat)(st:Nat→Pm Unit)(hst:zAs 124 n st)(hfine:zDo n st)(h1:zJf n st)(k:Nat)(hk:7≤k∧k≤19):zAs (zMx k) (n+1) (VO st k):=by
 have hblk:=zKl n st hst hfine h1;intro w p B s R i h hG hi hbig hn
 rcases zGX hk with rfl | rfl | rfl | rfl | rfl | rfl | rfl | rfl | rfl | rfl | rfl | rfl | rfl
 ·exact zQl w p B s R i h hG hi hbig
 ·exact zRs w p B s R i h hG hi hbig
 ·exact zMO w p B s R i h hG hi hbig
 ·exact zI1 w p B s R i h hG hi hbig
 ·exact zQa w p B s R i h hG hi hbig
 ·exact zP7 w p B s R i h hG hi hbig
 ·exact zK8 w p B s R i h hG hi hbig
 ·exact zOm n st hblk hfine w p B s R i h hG hi hbig hn
 ·exact zRy n st hblk hfine w p B s R i h hG hi hbig hn
 ·exact zSb w p B s R i h hG hi hbig
 ·exact zAK w p B s R i h hG hi hbig
 ·exact zJV w p B s R i h
 ·exact zJV w p B s R i h
theorem zO0 {f i:Nat}{s:Ps}:YO (f+1) i s=match (if s.hd.kind=1 then ZM s.hd.text else none) with
  | none=>.err 50 s.hd.at_
  | some k=>(VO (YO f) k s.nd.length (s.xJ i k).adv).bind fun _ s=>if k=14∨k=15 then .ok () s else vW [59] s:=rfl
theorem zIz {f i:Nat}{s:Ps}(h:ZM s.hd.text=none∨s.hd.kind≠1):YO (f+1) i s=.err 50 s.hd.at_:=by
 rw[zO0]
 rcases h with h | h
 ·rw[h]; split <;> simp_all
 ·rw[if_neg h]
theorem zIV {f i k:Nat}{s:Ps}(h:ZM s.hd.text=some k)(h1:s.hd.kind=1):YO (f+1) i s=(VO (YO f) k s.nd.length (s.xJ i k).adv).bind fun _ s=>if k=14∨k=15 then .ok () s else vW [59] s:=by
 rw[zO0,if_pos h1,h]
theorem zFp:∀f,zJf f (YO f)
 | 0=>fun i s s' g hl h=>by cases h
 | f+1=>fun i s s' g hl h=>by
  by_cases h1:s.hd.kind=1
  ·cases hf:ZM s.hd.text with
   | none=>rw[zIz (.inl hf)] at h; cases h
   | some k=>
    rw[zIV hf h1] at h;have hp:=g.pos
    have h4:(s.xJ i k).hd.kind≠4:=by show s.hd.kind≠4; omega
    have ga:=(vM g i k).adv h4;have hal:=jX (s:=s.xJ i k);rw[YR] at hal;have hr:=zDt (zAD f) k s.nd.length (s.xJ i k).adv ga (by omega)
    cases hq:VO (YO f) k s.nd.length (s.xJ i k).adv with
    | err e p=>rw[hq] at h; cases h
    | ok a t=>
     rw[hq] at h hr;have ht:=hr.ts;have h':(if k=14∨k=15 then Res.ok () t else vW [59] t)=.ok () s':=h
     split at h'
     ·injection h' with _ e; subst e; omega
     ·have hf2:=xQ [59] t hr.xS;rw[h'] at hf2
      have:=hf2.ts
      omega
  ·rw[zIz (.inr h1)] at h; cases h
theorem zUj (f:Nat)(ih:zAs 124 f (YO f))(w:World)(p B:Nat)(s:Ps)(R:xV)(i:Nat)(h:PS w p B s R)(hG:Good s)(hi:i<s.nd.length)(hbig:s.phi≤1000000)(hn:s.ts.length≤f+1)(hfo:ZM s.hd.text=none) :
  Calls Tryz.prog 124 #[.pointer (some ⟨p,0,none⟩),.int .i64 (i:Int)] w (xN w p B R (YO (f+1) i s)):=by
 have HP:=yG h;have HG:=yG hG;have HI:=yG hi;have HBG:=yG hbig;have HN:=yG hn;have HIH:=yG ih;obtain⟨whole,HL0⟩:∃x,Hid (x=YO (f+1) i s):=⟨_,yG rfl⟩;rw[←HL0.out];have hm:=hmf;have hf0:=zC7;have hf3:=zAf;have HE:Hid (whole=.err 50 s.hd.at_):=yG (HL0.out.trans (zIz (.inl hfo)));have HFO:=yG hfo;clear hfo;clear h hG hi hbig hn ih
 go_enter Tryz.func124,Tryz.ntmps124
 go_wp2_with fail
 refine(ZE _ p s R HP.out.ts).mono ?_;rintro e w1 ⟨rfl,hx1⟩;have HX1:=yG hx1;have HP1:=yG (HP.out.ext hx1);clear hx1;unfold ZW
 go_wp2_with fail
 refine(zCo s.hd.text w1).mono ?_;rintro e w2 ⟨rfl,hx2⟩;have HX2:=yG (HX1.out.trans hx2);have HP2:=yG (HP1.out.ext hx2);clear hx2;rw[HFO.out];simp only[zJc,zJg,Option.elim,Option.isSome]
 go_wp2_with (refine vK rfl 218 (.tmp 4) (.tmp 12) rfl w2.heap.size #[.int .u8 0,.nilFunc] (by rfl) (by rfl) 218 #[.int .u8 0,.nilFunc] (Blk.new _ _ _) (by kernel_rfl) rfl rfl ?_; intro w3 ht3 hb3; have HX3:=yG (ht3.ext (HX2.out.trans (Ext.alloc w2 (.cells #[.int .u8 0,.nilFunc] 218))) HX2.out.size); have HB3:=yG hb3; clear ht3 hb3)
 refine(zBo _ p 50).mono ?_;rintro e w4 ⟨rfl,rfl⟩;have HF:Hid (xN w p B R whole (jW 50) w3):=yG (by rw[HE.out]; exact⟨rfl,s,rfl,HP.out.okp HX3.out⟩);exact xE (P:=Tryz.prog) (fn:=Tryz.f124) rfl HF.out
theorem zTN (f:Nat)(ih:zAs 124 f (YO f))(w:World)(p B:Nat)(s:Ps)(R:xV)(i:Nat)(h:PS w p B s R)(hG:Good s)(hi:i<s.nd.length)(hbig:s.phi≤1000000)(hn:s.ts.length≤f+1)(k:Nat)(hfo:ZM s.hd.text=some k)(hk:s.hd.kind≠1) :
  Calls Tryz.prog 124 #[.pointer (some ⟨p,0,none⟩),.int .i64 (i:Int)] w (xN w p B R (YO (f+1) i s)):=by
 have HP:=yG h;have HG:=yG hG;have HI:=yG hi;have HBG:=yG hbig;have HN:=yG hn;have HIH:=yG ih;obtain⟨whole,HL0⟩:∃x,Hid (x=YO (f+1) i s):=⟨_,yG rfl⟩;rw[←HL0.out];have hm:=hmf;have hf0:=zC7;have hf3:=zAf;have HE:Hid (whole=.err 50 s.hd.at_):=yG (HL0.out.trans (zIz (.inr hk)));have HFO:=yG hfo
 have b1:((s.hd.kind:Int) != 1)=true:=by rw[zE]; omega
 have b2:¬(s.hd.kind:Int)=1:=by omega
 clear hfo hk;clear h hG hi hbig hn ih
 go_enter Tryz.func124,Tryz.ntmps124
 go_wp2_with fail
 refine(ZE _ p s R HP.out.ts).mono ?_;rintro e w1 ⟨rfl,hx1⟩;have HX1:=yG hx1;have HP1:=yG (HP.out.ext hx1);clear hx1;unfold ZW
 go_wp2_with fail
 refine(zCo s.hd.text w1).mono ?_;rintro e w2 ⟨rfl,hx2⟩;have HX2:=yG (HX1.out.trans hx2);have HP2:=yG (HP1.out.ext hx2);clear hx2;rw[HFO.out];simp only[zJc,zJg,Option.elim,Option.isSome];generalize zMx k=K at *
 go_wp2_with (first
  | (refine vK rfl 218 (.tmp 4) (.tmp 12) rfl w2.heap.size #[.int .u8 (k:Int),.func (.func K) #[] #[]] (by rfl) (by rfl) 218 #[.int .u8 0,.nilFunc] (Blk.new _ _ _) (by kernel_rfl) rfl rfl ?_; intro w3 ht3 hb3; have HX3:=yG (ht3.ext (HX2.out.trans (Ext.alloc w2 (.cells #[.int .u8 0,.nilFunc] 218))) HX2.out.size); have HB3:=yG hb3; clear ht3 hb3)
  | (refine(ZE _ p s R (HP.out.ext HX3.out).ts).mono ?_; rintro e w4 ⟨rfl,hx4⟩; have HX4:=yG (HX3.out.trans hx4); clear hx4; unfold ZW))
 refine(zBo _ p 50).mono ?_;rintro e w5 ⟨rfl,rfl⟩;have HF:Hid (xN w p B R whole (jW 50) w4):=yG (by rw[HE.out]; exact⟨rfl,s,rfl,HP.out.okp HX4.out⟩);exact xE (P:=Tryz.prog) (fn:=Tryz.f124) rfl HF.out
theorem zUh (f:Nat)(ih:zAs 124 f (YO f))(w:World)(p B:Nat)(s:Ps)(R:xV)(i:Nat)(h:PS w p B s R)(hG:Good s)(hi:i<s.nd.length)(hbig:s.phi≤1000000)(hn:s.ts.length≤f+1)(k:Nat)(hfo:ZM s.hd.text=some k)(hk:s.hd.kind=1)(hk14:k=14∨k=15) :
  Calls Tryz.prog 124 #[.pointer (some ⟨p,0,none⟩),.int .i64 (i:Int)] w (xN w p B R (YO (f+1) i s)):=by
 have HP:=yG h;have HG:=yG hG;have HI:=yG hi;have HBG:=yG hbig;have HN:=yG hn;have HIH:=yG ih;obtain⟨whole,HL0⟩:∃x,Hid (x=YO (f+1) i s):=⟨_,yG rfl⟩;rw[←HL0.out];have hm:=hmf;have hf0:=zC7;have hf3:=zAf;have HL:=yG (HL0.out.trans (zIV hfo hk));have HFO:=yG hfo;have HK:=yG hk;have HKR:=yG (zAe hfo);have HK14:=yG hk14;have hps:=hG.pos;have HRD:=yG (zJv f (YO f) ih (zAD f) (zFp f) k (zAe hfo));have HFN:=yG (zHe (zAe hfo));have HGA:Hid (Good (s.xJ i k).adv):=yG ((vM hG i k).adv (by show s.hd.kind≠4; omega));have HTA:Hid ((s.xJ i k).adv.ts.length=s.ts.length-1):=yG (by rw[jX,YR]);have HNA:Hid ((s.xJ i k).adv.nd.length=s.nd.length+1):=yG (jT s i k);have HLT:Hid (ZI s (s.xJ i k).adv):=yG (JM.at (i:=i) (k:=k) (r:=.ok () (s.xJ i k).adv) (zC5 (vM hG i k) (by show s.hd.kind≠4; omega)));have HK4:Hid ((s.xJ i k).hd.kind≠4):=yG (by show s.hd.kind≠4; omega)
 have hd1:(s.hd.kind:Int)=1:=by omega
 clear hfo hk hk14;clear h hG hi hbig hn ih
 go_enter Tryz.func124,Tryz.ntmps124
 go_wp2_with fail
 refine(ZE _ p s R HP.out.ts).mono ?_;rintro e w1 ⟨rfl,hx1⟩;have HX1:=yG hx1;have HP1:=yG (HP.out.ext hx1);clear hx1;unfold ZW
 go_wp2_with fail
 refine(zCo s.hd.text w1).mono ?_;rintro e w2 ⟨rfl,hx2⟩;have HX2:=yG (HX1.out.trans hx2);have HP2:=yG (HP1.out.ext hx2);clear hx2;rw[HFO.out];simp only[zJc,zJg,Option.elim,Option.isSome];have he:=HFN.out;generalize zMx k=K at *
 go_wp2_with (first
  | (refine vK rfl 218 (.tmp 4) (.tmp 12) rfl w2.heap.size #[.int .u8 (k:Int),.func (.func K) #[] #[]] (by rfl) (by rfl) 218 #[.int .u8 0,.nilFunc] (Blk.new _ _ _) (by kernel_rfl) rfl rfl ?_; intro w3 ht3 hb3; have HX3:=yG (ht3.ext (HX2.out.trans (Ext.alloc w2 (.cells #[.int .u8 0,.nilFunc] 218))) HX2.out.size); have HB3:=yG hb3; clear ht3 hb3)
  | (refine(ZE _ p s R (HP.out.ext HX3.out).ts).mono ?_; rintro e w4 ⟨rfl,hx4⟩; have HX4:=yG (HX3.out.trans hx4); have HB4:=yG (HB3.out.ext hx4); have f0:w4.cell? ⟨w2.heap.size,0,none⟩=some (.int .u8 (k:Int)):=HB4.out.cell 0; clear hx4; unfold ZW))
 have HSF:Hid (Safe w4 (xL p R) w2.heap.size 218 #[.int .u8 (k:Int),.func (.func K) #[] #[]]):=yG ⟨HB4.out,fun h=>by
  have h1:=HP.out.ZU h;have h2:=HX2.out.size
  omega⟩
 obtain⟨gf,HGF⟩:∃gf,Hid (w2.heap.size=gf):=⟨_,yG rfl⟩;rw[HGF.out];rw[HGF.out] at HSF;clear f0 hd1;refine(zEK w4 p B s R i k (HP.out.ext HX4.out) HI.out (by have:=HBG.out; unfold Ps.phi at this; omega) HG.out).mono ?_;rintro e w5 ⟨rfl,R5,hp5,hm5⟩;have HP5:=yG hp5;have HM5:=yG ((xD.ext (M:=xL p R) HX4.out).trans hm5);have HSF5:=yG (HSF.out.xG hm5);have HP6:=yG (hp5.zTV HK4.out);have HM6:Hid (xD w5 (xL p R5) (w5.setCell ⟨p,0,none⟩ (.slice (some ⟨R5.bt,R5.ot+5,none⟩) ((s.xJ i k).ts.length-1) (R5.ct-1))) (xL p R5.adv)):=yG (xD.set (.inl rfl));have HS6:Hid (Ran w p B R s (w5.setCell ⟨p,0,none⟩ (.slice (some ⟨R5.bt,R5.ot+5,none⟩) ((s.xJ i k).ts.length-1) (R5.ct-1))) R5.adv (s.xJ i k).adv):=yG ⟨HP6.out,HM5.out.trans HM6.out,HLT.out⟩;clear HP6
 have h2:2≤(s.xJ i k).ts.length:=by
  have hg:=HGA.out.pos;rw[jX] at hg;omega
 have h3:=hp5.zJo;have x0:=hp5.x0;have z0:=hp5.blk.frozen 0;clear hp5 hm5;generalize (s.xJ i k).ts.length=nt at *;generalize R5.ct=ct at *
 go_upto_region 5 with fail
 generalize w5.setCell ⟨p,0,none⟩ (.slice (some ⟨R5.bt,R5.ot+5,none⟩) (nt-1) (ct-1))=w6 at *;have HSF6:=yG (HSF5.out.xG HM6.out);have f1:w6.cell? ⟨gf,1,none⟩=some (.func (.func K) #[] #[]):=HSF6.out.1.cell 1;clear x0 z0 h2 h3
 go_wp2_with fail
 refine(HRD.out w6 p B _ _ s.nd.length HS6.out.ps HGA.out (by rw[HNA.out]; omega) (HS6.out.phi HBG.out) (by rw[HTA.out]; have:=HN.out; omega)).mono ?_;intro e w7 hp;have hfine:=zDt (zAD f) k s.nd.length (s.xJ i k).adv HGA.out (by rw[HTA.out]; have:=HN.out; omega);have hsafe:∀ {R' w'},OkP w6 p B R5.adv R' w'→True:=fun _=>trivial
 cases hr:VO (YO f) k s.nd.length (s.xJ i k).adv with
 | err er a=>
  rw[hr] at hp;obtain⟨rfl,ho⟩:=hp;have HF:Hid (xN w p B R whole (jW er) w7):=yG (by rw[HL.out,hr]; exact VH.trans HS6.out.mv ⟨rfl,ho⟩);exact xE (P:=Tryz.prog) (fn:=Tryz.f124) rfl HF.out
 | ok a s7=>
  rw[hr] at hp hfine;obtain⟨rfl,R7,hp7,hm7⟩:=hp;have HS7:Hid (Ran w p B R s w7 R7 s7):=yG ⟨hp7,HS6.out.mv.trans hm7,HS6.out.lt.trans hfine⟩;have HSF7:=yG (HSF6.out.xG hm7);have f0:w7.cell? ⟨gf,0,none⟩=some (.int .u8 (k:Int)):=HSF7.out.1.cell 0;have HL7:Hid (whole=if k=14∨k=15 then .ok () s7 else vW [59] s7):=yG (by rw[HL.out,hr]; rfl);clear hr hp7 hm7 hfine f1 hsafe he;have HL8:Hid (whole=.ok () s7):=yG (by rw[HL7.out,if_pos HK14.out])
  rcases HK14.out with hk | hk
  ·subst hk
   go_wp2_with fail
   go_end0;rw[HL8.out];exact xN.ok HS7.out.okp
  ·subst hk
   go_wp2_with fail
   go_end0;rw[HL8.out];exact xN.ok HS7.out.okp
theorem zTy (f:Nat)(ih:zAs 124 f (YO f))(w:World)(p B:Nat)(s:Ps)(R:xV)(i:Nat)(h:PS w p B s R)(hG:Good s)(hi:i<s.nd.length)(hbig:s.phi≤1000000)(hn:s.ts.length≤f+1)(k:Nat)(hfo:ZM s.hd.text=some k)(hk:s.hd.kind=1)(hk14:¬(k=14∨k=15)) :
  Calls Tryz.prog 124 #[.pointer (some ⟨p,0,none⟩),.int .i64 (i:Int)] w (xN w p B R (YO (f+1) i s)):=by
 have HP:=yG h;have HG:=yG hG;have HI:=yG hi;have HBG:=yG hbig;have HN:=yG hn;have HIH:=yG ih;obtain⟨whole,HL0⟩:∃x,Hid (x=YO (f+1) i s):=⟨_,yG rfl⟩;rw[←HL0.out];have hm:=hmf;have hf0:=zC7;have hf3:=zAf;have HL:=yG (HL0.out.trans (zIV hfo hk));have HFO:=yG hfo;have HK:=yG hk;have HKR:=yG (zAe hfo);have HK14:=yG hk14;have hps:=hG.pos;have HRD:=yG (zJv f (YO f) ih (zAD f) (zFp f) k (zAe hfo));have HFN:=yG (zHe (zAe hfo));have HGA:Hid (Good (s.xJ i k).adv):=yG ((vM hG i k).adv (by show s.hd.kind≠4; omega));have HTA:Hid ((s.xJ i k).adv.ts.length=s.ts.length-1):=yG (by rw[jX,YR]);have HNA:Hid ((s.xJ i k).adv.nd.length=s.nd.length+1):=yG (jT s i k);have HLT:Hid (ZI s (s.xJ i k).adv):=yG (JM.at (i:=i) (k:=k) (r:=.ok () (s.xJ i k).adv) (zC5 (vM hG i k) (by show s.hd.kind≠4; omega)));have HK4:Hid ((s.xJ i k).hd.kind≠4):=yG (by show s.hd.kind≠4; omega)
 have hd1:(s.hd.kind:Int)=1:=by omega
 clear hfo hk hk14;clear h hG hi hbig hn ih
 go_enter Tryz.func124,Tryz.ntmps124
 go_wp2_with fail
 refine(ZE _ p s R HP.out.ts).mono ?_;rintro e w1 ⟨rfl,hx1⟩;have HX1:=yG hx1;have HP1:=yG (HP.out.ext hx1);clear hx1;unfold ZW
 go_wp2_with fail
 refine(zCo s.hd.text w1).mono ?_;rintro e w2 ⟨rfl,hx2⟩;have HX2:=yG (HX1.out.trans hx2);have HP2:=yG (HP1.out.ext hx2);clear hx2;rw[HFO.out];simp only[zJc,zJg,Option.elim,Option.isSome];have he:=HFN.out;generalize zMx k=K at *
 go_wp2_with (first
  | (refine vK rfl 218 (.tmp 4) (.tmp 12) rfl w2.heap.size #[.int .u8 (k:Int),.func (.func K) #[] #[]] (by rfl) (by rfl) 218 #[.int .u8 0,.nilFunc] (Blk.new _ _ _) (by kernel_rfl) rfl rfl ?_; intro w3 ht3 hb3; have HX3:=yG (ht3.ext (HX2.out.trans (Ext.alloc w2 (.cells #[.int .u8 0,.nilFunc] 218))) HX2.out.size); have HB3:=yG hb3; clear ht3 hb3)
  | (refine(ZE _ p s R (HP.out.ext HX3.out).ts).mono ?_; rintro e w4 ⟨rfl,hx4⟩; have HX4:=yG (HX3.out.trans hx4); have HB4:=yG (HB3.out.ext hx4); have f0:w4.cell? ⟨w2.heap.size,0,none⟩=some (.int .u8 (k:Int)):=HB4.out.cell 0; clear hx4; unfold ZW))
 have HSF:Hid (Safe w4 (xL p R) w2.heap.size 218 #[.int .u8 (k:Int),.func (.func K) #[] #[]]):=yG ⟨HB4.out,fun h=>by
  have h1:=HP.out.ZU h;have h2:=HX2.out.size
  omega⟩
 obtain⟨gf,HGF⟩:∃gf,Hid (w2.heap.size=gf):=⟨_,yG rfl⟩;rw[HGF.out];rw[HGF.out] at HSF;clear f0 hd1;refine(zEK w4 p B s R i k (HP.out.ext HX4.out) HI.out (by have:=HBG.out; unfold Ps.phi at this; omega) HG.out).mono ?_;rintro e w5 ⟨rfl,R5,hp5,hm5⟩;have HP5:=yG hp5;have HM5:=yG ((xD.ext (M:=xL p R) HX4.out).trans hm5);have HSF5:=yG (HSF.out.xG hm5);have HP6:=yG (hp5.zTV HK4.out);have HM6:Hid (xD w5 (xL p R5) (w5.setCell ⟨p,0,none⟩ (.slice (some ⟨R5.bt,R5.ot+5,none⟩) ((s.xJ i k).ts.length-1) (R5.ct-1))) (xL p R5.adv)):=yG (xD.set (.inl rfl));have HS6:Hid (Ran w p B R s (w5.setCell ⟨p,0,none⟩ (.slice (some ⟨R5.bt,R5.ot+5,none⟩) ((s.xJ i k).ts.length-1) (R5.ct-1))) R5.adv (s.xJ i k).adv):=yG ⟨HP6.out,HM5.out.trans HM6.out,HLT.out⟩;clear HP6
 have h2:2≤(s.xJ i k).ts.length:=by
  have hg:=HGA.out.pos;rw[jX] at hg;omega
 have h3:=hp5.zJo;have x0:=hp5.x0;have z0:=hp5.blk.frozen 0;clear hp5 hm5;generalize (s.xJ i k).ts.length=nt at *;generalize R5.ct=ct at *
 go_upto_region 5 with fail
 generalize w5.setCell ⟨p,0,none⟩ (.slice (some ⟨R5.bt,R5.ot+5,none⟩) (nt-1) (ct-1))=w6 at *;have HSF6:=yG (HSF5.out.xG HM6.out);have f1:w6.cell? ⟨gf,1,none⟩=some (.func (.func K) #[] #[]):=HSF6.out.1.cell 1;clear x0 z0 h2 h3
 go_wp2_with fail
 refine(HRD.out w6 p B _ _ s.nd.length HS6.out.ps HGA.out (by rw[HNA.out]; omega) (HS6.out.phi HBG.out) (by rw[HTA.out]; have:=HN.out; omega)).mono ?_;intro e w7 hp;have hfine:=zDt (zAD f) k s.nd.length (s.xJ i k).adv HGA.out (by rw[HTA.out]; have:=HN.out; omega);have hsafe:∀ {R' w'},OkP w6 p B R5.adv R' w'→True:=fun _=>trivial
 cases hr:VO (YO f) k s.nd.length (s.xJ i k).adv with
 | err er a=>
  rw[hr] at hp;obtain⟨rfl,ho⟩:=hp;have HF:Hid (xN w p B R whole (jW er) w7):=yG (by rw[HL.out,hr]; exact VH.trans HS6.out.mv ⟨rfl,ho⟩);exact xE (P:=Tryz.prog) (fn:=Tryz.f124) rfl HF.out
 | ok a s7=>
  rw[hr] at hp hfine;obtain⟨rfl,R7,hp7,hm7⟩:=hp;have HS7:Hid (Ran w p B R s w7 R7 s7):=yG ⟨hp7,HS6.out.mv.trans hm7,HS6.out.lt.trans hfine⟩;have HSF7:=yG (HSF6.out.xG hm7);have f0:w7.cell? ⟨gf,0,none⟩=some (.int .u8 (k:Int)):=HSF7.out.1.cell 0;have HL7:Hid (whole=if k=14∨k=15 then .ok () s7 else vW [59] s7):=yG (by rw[HL.out,hr]; rfl);clear hr hp7 hm7 hfine f1 hsafe he;have HL8:Hid (whole=(vW [59] s7).bind fun _ s=>.ok () s):=yG (ZF (by rw[HL7.out,if_neg HK14.out]))
  have n14:((k:Int) != 14)=true:=by rw[zE]; have:=HK14.out; omega
  have n15:((k:Int) != 15)=true:=by rw[zE]; have:=HK14.out; omega
  have m14:¬(k:Int)=14:=by have:=HK14.out; omega
  have m15:¬(k:Int)=15:=by have:=HK14.out; omega
  go_wp2_with fail
  refine(jH w7 p B s7 R7 [59] HS7.out.ps).mono ?_;intro e w8 hp
  rcases Ran.go HL8 HS7 (xQ _ _ HS7.out.lt.xS) hp with ⟨s8,R8,HL9,rfl,HS8⟩ | ⟨er,a,rfl,HX,HY⟩
  rotate_left
  ·refine xE (P:=Tryz.prog) (fn:=Tryz.f124) rfl ?_;rw[HX.out];exact HY.out
  try clear hp
  go_wp2_with fail
  go_end0;rw[HL9.out];exact xN.ok HS8.out.okp
theorem zDc:∀f,zAs 124 f (YO f)
 | 0=>fun w p B s R i h hG hi hbig hn=>absurd hG.pos (by omega)
 | f+1=>fun w p B s R i h hG hi hbig hn=>by
  cases hfo:ZM s.hd.text with
  | none=>exact zUj f (zDc f) w p B s R i h hG hi hbig hn hfo
  | some k=>
   by_cases hk:s.hd.kind=1
   ·by_cases h14:k=14∨k=15
    ·exact zUh f (zDc f) w p B s R i h hG hi hbig hn k hfo hk h14
    ·exact zTy f (zDc f) w p B s R i h hG hi hbig hn k hfo hk h14
   ·exact zTN f (zDc f) w p B s R i h hG hi hbig hn k hfo hk
theorem zI7 (w:World)(p B:Nat)(s:Ps)(R:xV)(i:Nat)(h:PS w p B s R)(hG:Good s)(hi:i<s.nd.length)(hbig:s.phi≤1000000) :
  Calls Tryz.prog 96 #[.pointer (some ⟨p,0,none⟩),.int .i64 (i:Int)] w (xN w p B R (zD3 i s)):=
 zKl s.ts.length (YO s.ts.length) (zDc _) (zAD _) (zFp _) w p B s R i h hG hi hbig (Nat.le_succ _)
end Go.Proofs.YtbadjmmjbpeocaaGreatDoor
