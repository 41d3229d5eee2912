/- The program's forms: which statement a word begins. (and what follows of it). The conditions stand at each lemma. -/
import Derived.Test.YtioffpjajhalaaaGreatDoorJaa
import Derived.Test.YtioffpjajhalaaaGreatDoorJas
import Derived.Test.YtioffpjajhalaaaGreatDoorJac
set_option linter.unusedVariables false
set_option linter.unusedSimpArgs false
set_option maxRecDepth 100000
set_option maxHeartbeats 16000000
namespace Go.Proofs.YtioffpjajhalaaaGreatDoor
open Go Go.RowKit
section
variable {P:Program}
theorem zH8 {w:World}{t kt et:TypeId}{r clock:Nat}{es:Array MapEntry}{n:ByteArray}{val:Value}(hm:P.underlying t=some (.map kt et))(hk:P.underlying kt=some .string)
  (hb:ZW w r es clock) (hf:Instr.findNow .string (.string n) es.toList 0=some none) :
  (Instr.mapUpdate t (.map (some r)) (.string n) val).run P w=.ok () { w with heap:=w.heap.setIfInBounds r (.map (es.push { key:=.string n,val:=val,born:=clock }) (clock+1)) }:=by
 have hc:(Instr.checkKey false 10000 kt (.string n)).run P w=.ok () w:=MapKept.run_checkKey (k:=.string n) hk (by simp[MapKept.IsKey]) false 9999;simp[Instr.mapUpdate,run_underlying hm,MapKept.run_getObj_map hb,hc,MapKept.run_findKey hk hf,MapKept.run_setObj_map _ hb,Result.andThen]
theorem vZ {ops:Array Oper}{rest:List Oper}{o:Oper}{a:Act}{w:World}{Q:Exit→Act→World→Prop}(hgd:o.guard=none)(t:TypeId)(m k x:Operand)(ho:o.op=.insert t m k x){kt et:TypeId}
  (hm:P.underlying t=some (.map kt et)) (hk:P.underlying kt=some .string) (r clock:Nat) (es:Array MapEntry) (n:ByteArray) (v:Value)
  (em:a.eval m=.map (some r)) (ek:a.eval k=.string n) (ex:a.eval x=v) (hb:ZW w r es clock) (hf:Instr.findNow .string (.string n) es.toList 0=some none)
  (h:∀w',Touch r w w'→ZW w' r (es.push { key:=.string n,val:=v,born:=clock }) (clock+1)→wpList P ops Q rest (a.put o.dst undef) w'):wpList P ops Q (o::rest) a w:=by
 refine wpList_plain hgd fun K hK=>?_;have AA:=zH8 (val:=v) hm hk hb hf;unfold Oper.wp execOp;simp only[ho,em,ek,ex,Sem.run_bind,Sem.run_pure,AA,Result.andThen_ok];refine hK _ _ (h _ ⟨rfl,rfl,rfl,by simp,fun q hq=>?_⟩ ?_)
 ·simp[Array.getElem?_setIfInBounds,Ne.symm hq]
 ·have AB:=hb.lt;unfold ZW;simp[AB]
theorem zGk {ops:Array Oper}{rest:List Oper}{o:Oper}{a:Act}{w:World}{Q:Exit→Act→World→Prop}(hgd:o.guard=none)(t:TypeId)(m k:Operand)(ho:o.op=.lookup t m k true){kt et:TypeId}
  (hm:P.underlying t=some (.map kt et)) (hk:P.underlying kt=some .string) (r clock:Nat) (es:Array MapEntry) (n:ByteArray) (res:Option (Nat × Value)) (z:Value)
  (em:a.eval m=.map (some r)) (ek:a.eval k=.string n) (hb:ZW w r es clock) (hf:Instr.findNow .string (.string n) es.toList 0=some res) (hz:(zeroValue et).run P w=.ok z w) (v:Value) (ok:Bool) (hv:(res.map Prod.snd).getD z=v) (hok:res.isSome=ok)
  (h:wpList P ops Q rest (a.put o.dst (.tuple #[v,.bool ok])) w):wpList P ops Q (o::rest) a w:=by
 subst hv hok;refine wpList_plain hgd fun K hK=>?_;have hc:(Instr.checkKey es.isEmpty 10000 kt (.string n)).run P w=.ok () w:=MapKept.run_checkKey (k:=.string n) hk (by simp[MapKept.IsKey]) _ 9999
 have AA:(Instr.lookup t (.map (some r)) (.string n) true).run P w=.ok (.tuple #[(res.map Prod.snd).getD z,.bool res.isSome]) w:=by
  cases res with
  | none=>simp[Instr.lookup,run_underlying hm,MapKept.run_getObj_map hb,hc,MapKept.run_findKey hk hf,Result.andThen,hz]
  | some x=>obtain⟨i,v⟩:=x; simp[Instr.lookup,run_underlying hm,MapKept.run_getObj_map hb,hc,MapKept.run_findKey hk hf,Result.andThen]
 unfold Oper.wp execOp;simp only[ho,em,ek,Sem.run_bind,Sem.run_pure,AA,Result.andThen_ok];exact hK _ _ h
end
def zNe (k:Nat):Nat:=if k=7 then 190 else if k=8 then 191 else if k=9 then 192 else if k=10 then 193 else if k=11 then 194 else if k=12 then 195 else if k=13 then 196 else if k=14 then 197 else if k=15 then 198 else if k=16 then 199 else if k=17 then 200 else 201
def zRR (k:Nat):Value:=.agg #[.int .u8 (k:Int),.func (.func (zNe k)) #[] #[]]
def zN8:List (Bs × Nat)→Nat→List MapEntry
 | [],_=>[]
 | m::l,j=>{ key:=.string (yX m.1),val:=zRR m.2,born:=j } :: zN8 l (j+1)
theorem zSg {a b:Bs}(h:yX a=yX b):a=b:=by
 have:=congrArg (fun x=>x.data.toList) h
 simpa [yX] using this
theorem zRD (x m:Bs):Instr.sameNow .string (.string (yX x)) (.string (yX m))=some (m==x):=by
 obtain⟨r,h1,h2⟩:=MapKept.sameNow_of_keys (d:=.string) (a:=.string (yX x)) (b:=.string (yX m)) trivial trivial;rw[h1]
 congr 1
 cases r with
 | true=>
  have:=h2.1 rfl
  injection this with this;rw[zSg this]
  simp
 | false=>
  cases hc:m==x with
  | false=>rfl
  | true=>
   rw[zN] at hc;subst hc;exact(h2.2 rfl)
theorem zF8 (x:Bs):∀(l:List (Bs × Nat)) (j i:Nat),∃i',Instr.findNow .string (.string (yX x)) (zN8 l j) i=some (((l.find? fun m=>m.1==x).map Prod.snd).map fun k=>(i',zRR k))
 | [],_,_=>⟨0,rfl⟩
 | m::l,j,i=>by
  have hs:Instr.sameNow .string (.string (yX x)) (.string (yX m.1))=some (m.1==x):=zRD x m.1
  cases hc:m.1==x with
  | true=>
   refine⟨i,?_⟩;rw[hc] at hs;rw[List.find?_cons,hc];simp only[zN8,Instr.findNow,hs]
   rfl
  | false=>
   obtain⟨i',h⟩:=zF8 x l (j+1) (i+1);refine⟨i',?_⟩;rw[hc] at hs;rw[List.find?_cons,hc];simp only[zN8,Instr.findNow,hs];exact h
theorem zRb (w:World):(zeroValue 216).run Tryz.prog w=.ok (.agg #[.int .u8 0,.nilFunc]) w:=by kernel_rfl
def zJx (k:Option Nat):Int:=k.elim 0 (fun k=>(k:Int))
def zJB (k:Option Nat):Value:=k.elim .nilFunc (fun k=>.func (.func (zNe k)) #[] #[])
theorem zCp (x:Bs)(w:World):Calls Tryz.prog 183 #[.string (yX x)] w fun e w'=>e=.returned (.tuple #[.agg #[.int .u8 (zJx (jN x)),zJB (jN x)],.bool (jN x).isSome])∧Ext w w':=by
 go_enter Tryz.func183,Tryz.ntmps183
 have HZ:=yD (Blk.new w 216 #[.int .u8 0,.nilFunc]);have BA:Hid (Ext w (w.alloc (.cells #[.int .u8 0,.nilFunc] 216))):=yD (Ext.alloc _ _)
 go_wp2_with (refine zEm rfl 226 rfl ?_)
 intro w1 Ac AX A9;obtain⟨gm,AW⟩:∃gm,gm=w.heap.size+1:=⟨_,rfl⟩
 have AB:(w.alloc (.cells #[.int .u8 0,.nilFunc] 216)).heap.size=gm:=by rw[AW]; simp
 first | rw[←AW] at AX | rw[AB] at AX
 have Al:=yD AX;have Ay:=yD (BA.out.trans Ac);have AA:Hid (w.heap.size≤gm∧w.heap.size≠gm):=yD (by omega);have As:=yD (HZ.out.ext Ac);have BG:=yD AB;have BE:Hid (w.heap.size+1=gm):=yD AW.symm;clear Ac AX A9 AW AB
 try simp only[Act.put,yA,yC,yB]
 try rw[BG.out]
 try rw[BE.out]
 go_wp2_with (refine vZ rfl 226 (.tmp 7) (.const (.string ⟨#[114,101,97,100]⟩)) (.tmp 8) rfl Tryz.underlying226 Tryz.underlying9 gm 0 _ ⟨#[114,101,97,100]⟩ (.agg #[.int .u8 7,.func (.func 190) #[] #[]]) rfl rfl rfl Al.out (by kernel_rfl) ?_)
 intro w2 ht hm;have Aw:=yD hm;have Ap:=yD (ht.ext Ay.out AA.out.1);have Am:=yD (ht.blk As.out AA.out.2);clear ht hm Al Ay As
 try simp only[Act.put,yA,yC,yB]
 go_wp2_with (refine vZ rfl 226 (.tmp 7) (.const (.string ⟨#[115,101,116]⟩)) (.tmp 9) rfl Tryz.underlying226 Tryz.underlying9 gm 1 _ ⟨#[115,101,116]⟩ (.agg #[.int .u8 8,.func (.func 191) #[] #[]]) rfl rfl rfl Aw.out (by kernel_rfl) ?_)
 intro w3 ht hm;have At:=yD hm;have Aj:=yD (ht.ext Ap.out AA.out.1);have Ah:=yD (ht.blk Am.out AA.out.2);clear ht hm Aw Ap Am
 try simp only[Act.put,yA,yC,yB]
 go_wp2_with (refine vZ rfl 226 (.tmp 7) (.const (.string ⟨#[112,117,116]⟩)) (.tmp 10) rfl Tryz.underlying226 Tryz.underlying9 gm 2 _ ⟨#[112,117,116]⟩ (.agg #[.int .u8 9,.func (.func 192) #[] #[]]) rfl rfl rfl At.out (by kernel_rfl) ?_)
 intro w4 ht hm;have Az:=yD hm;have A4:=yD (ht.ext Aj.out AA.out.1);have Ak:=yD (ht.blk Ah.out AA.out.2);clear ht hm At Aj Ah
 try simp only[Act.put,yA,yC,yB]
 go_wp2_with (refine vZ rfl 226 (.tmp 7) (.const (.string ⟨#[100,101,108,101,116,101]⟩)) (.tmp 11) rfl Tryz.underlying226 Tryz.underlying9 gm 3 _ ⟨#[100,101,108,101,116,101]⟩ (.agg #[.int .u8 10,.func (.func 193) #[] #[]]) rfl rfl rfl Az.out (by kernel_rfl) ?_)
 intro w5 ht hm;have Ae:=yD hm;have A1:=yD (ht.ext A4.out AA.out.1);have A3:=yD (ht.blk Ak.out AA.out.2);clear ht hm Az A4 Ak
 try simp only[Act.put,yA,yC,yB]
 go_wp2_with (refine vZ rfl 226 (.tmp 7) (.const (.string ⟨#[115,99,97,110]⟩)) (.tmp 12) rfl Tryz.underlying226 Tryz.underlying9 gm 4 _ ⟨#[115,99,97,110]⟩ (.agg #[.int .u8 11,.func (.func 194) #[] #[]]) rfl rfl rfl Ae.out (by kernel_rfl) ?_)
 intro w6 ht hm;have Af:=yD hm;have Ax:=yD (ht.ext A1.out AA.out.1);have A6:=yD (ht.blk A3.out AA.out.2);clear ht hm Ae A1 A3
 try simp only[Act.put,yA,yC,yB]
 go_wp2_with (refine vZ rfl 226 (.tmp 7) (.const (.string ⟨#[108,111,99,107]⟩)) (.tmp 13) rfl Tryz.underlying226 Tryz.underlying9 gm 5 _ ⟨#[108,111,99,107]⟩ (.agg #[.int .u8 12,.func (.func 195) #[] #[]]) rfl rfl rfl Af.out (by kernel_rfl) ?_)
 intro w7 ht hm;have A7:=yD hm;have A2:=yD (ht.ext Ax.out AA.out.1);have An:=yD (ht.blk A6.out AA.out.2);clear ht hm Af Ax A6
 try simp only[Act.put,yA,yC,yB]
 go_wp2_with (refine vZ rfl 226 (.tmp 7) (.const (.string ⟨#[114,101,108,101,97,115,101]⟩)) (.tmp 14) rfl Tryz.underlying226 Tryz.underlying9 gm 6 _ ⟨#[114,101,108,101,97,115,101]⟩ (.agg #[.int .u8 13,.func (.func 196) #[] #[]]) rfl rfl rfl A7.out (by kernel_rfl) ?_)
 intro w8 ht hm;have A8:=yD hm;have Aq:=yD (ht.ext A2.out AA.out.1);have A5:=yD (ht.blk An.out AA.out.2);clear ht hm A7 A2 An
 try simp only[Act.put,yA,yC,yB]
 go_wp2_with (refine vZ rfl 226 (.tmp 7) (.const (.string ⟨#[105,102]⟩)) (.tmp 15) rfl Tryz.underlying226 Tryz.underlying9 gm 7 _ ⟨#[105,102]⟩ (.agg #[.int .u8 14,.func (.func 197) #[] #[]]) rfl rfl rfl A8.out (by kernel_rfl) ?_)
 intro w9 ht hm;have Ag:=yD hm;have A0:=yD (ht.ext Aq.out AA.out.1);have Av:=yD (ht.blk A5.out AA.out.2);clear ht hm A8 Aq A5
 try simp only[Act.put,yA,yC,yB]
 go_wp2_with (refine vZ rfl 226 (.tmp 7) (.const (.string ⟨#[102,111,114]⟩)) (.tmp 16) rfl Tryz.underlying226 Tryz.underlying9 gm 8 _ ⟨#[102,111,114]⟩ (.agg #[.int .u8 15,.func (.func 198) #[] #[]]) rfl rfl rfl Ag.out (by kernel_rfl) ?_)
 intro BJ ht hm;have Ao:=yD hm;have AU:=yD (ht.ext A0.out AA.out.1);have AG:=yD (ht.blk Av.out AA.out.2);clear ht hm Ag A0 Av
 try simp only[Act.put,yA,yC,yB]
 go_wp2_with (refine vZ rfl 226 (.tmp 7) (.const (.string ⟨#[108,101,116]⟩)) (.tmp 17) rfl Tryz.underlying226 Tryz.underlying9 gm 9 _ ⟨#[108,101,116]⟩ (.agg #[.int .u8 16,.func (.func 199) #[] #[]]) rfl rfl rfl Ao.out (by kernel_rfl) ?_)
 intro BH ht hm;have AJ:=yD hm;have AP:=yD (ht.ext AU.out AA.out.1);have AT:=yD (ht.blk AG.out AA.out.2);clear ht hm Ao AU AG
 try simp only[Act.put,yA,yC,yB]
 go_wp2_with (refine vZ rfl 226 (.tmp 7) (.const (.string ⟨#[101,109,105,116]⟩)) (.tmp 18) rfl Tryz.underlying226 Tryz.underlying9 gm 10 _ ⟨#[101,109,105,116]⟩ (.agg #[.int .u8 17,.func (.func 200) #[] #[]]) rfl rfl rfl AJ.out (by kernel_rfl) ?_)
 intro BK ht hm;have AS:=yD hm;have AQ:=yD (ht.ext AP.out AA.out.1);have AI:=yD (ht.blk AT.out AA.out.2);clear ht hm AJ AP AT
 try simp only[Act.put,yA,yC,yB]
 go_wp2_with (refine vZ rfl 226 (.tmp 7) (.const (.string ⟨#[114,111,108,108,98,97,99,107]⟩)) (.tmp 19) rfl Tryz.underlying226 Tryz.underlying9 gm 11 _ ⟨#[114,111,108,108,98,97,99,107]⟩ (.agg #[.int .u8 18,.func (.func 201) #[] #[]]) rfl rfl rfl AS.out (by kernel_rfl) ?_)
 intro BI ht hm;have AM:=yD hm;have AR:=yD (ht.ext AQ.out AA.out.1);have AV:=yD (ht.blk AI.out AA.out.2);clear ht hm AS AQ AI
 try simp only[Act.put,yA,yC,yB]
 go_wp2_with (refine vZ rfl 226 (.tmp 7) (.const (.string ⟨#[99,104,111,112]⟩)) (.tmp 20) rfl Tryz.underlying226 Tryz.underlying9 gm 12 _ ⟨#[99,104,111,112]⟩ (.agg #[.int .u8 19,.func (.func 201) #[] #[]]) rfl rfl rfl AM.out (by kernel_rfl) ?_)
 intro AF ht hm;have AY:=yD hm;have AN:=yD (ht.ext AR.out AA.out.1);have AK:=yD (ht.blk AV.out AA.out.2);clear ht hm AM AR AV
 try simp only[Act.put,yA,yC,yB]
 obtain⟨i',Ai⟩:=zF8 x zGJ 0 0;have BF:Hid (Instr.findNow .string (.string (yX x)) _ 0=some ((jN x).map fun k=>(i',zRR k))):=yD Ai;clear Ai
 have HV:Hid ((((jN x).map fun k=>(i',zRR k)).map Prod.snd).getD (.agg #[.int .u8 0,.nilFunc])=.agg #[.int .u8 (zJx (jN x)),zJB (jN x)]):=yD (by cases jN x <;> rfl)
 have BB:Hid (((jN x).map fun k=>(i',zRR k)).isSome=(jN x).isSome):=yD (by cases jN x <;> rfl)
 generalize hok:(jN x).isSome=ok at *;generalize hfk:zJx (jN x)=fk at *;generalize hff:zJB (jN x)=ff at *
 have AH:Hid (ff.oneCell'=true):=yD (by rw[←hff]; cases jN x <;> rfl)
 have AZ:=yD (And.intro hok (And.intro hfk hff));clear hok hfk hff;have BC:=AH.out
 have AO:([.int .u8 fk,ff]:List Value).all (·.oneCell')=true:=by simp[AH.out]; rfl
 go_wp2_with (first
  | (refine zGk rfl 226 (.tmp 23) (.tmp 24) rfl Tryz.underlying226 Tryz.underlying9 gm 13 _ (yX x) ((jN x).map fun k=>(i',zRR k)) (.agg #[.int .u8 0,.nilFunc]) rfl rfl AY.out BF.out (zRb _) (.agg #[.int .u8 fk,ff]) ok HV.out BB.out ?_)
  | (refine vJ rfl 216 (.tmp 5) (.tmp 26) rfl AF.heap.size #[.int .u8 fk,ff] (by rfl) (by rfl) 216 #[.int .u8 0,.nilFunc] (Blk.new _ _ _) (by kernel_rfl) rfl AO ?_; intro Ar AE AC; have Aa:=yD (AE.ext (AN.out.trans (Ext.alloc AF (.cells #[.int .u8 0,.nilFunc] 216))) AN.out.size); have Ab:=yD (AE.blk (AK.out.ext (Ext.alloc AF (.cells #[.int .u8 0,.nilFunc] 216))) (Nat.ne_of_lt AK.out.lt)); have f0:Ar.cell? ⟨AF.heap.size,0,none⟩=some (.int .u8 fk):=AC.cell 0; have f1:Ar.cell? ⟨AF.heap.size,1,none⟩=some ff:=AC.cell 1; clear AE AC)
  | (refine vJ rfl 216 (.tmp 2) (.tmp 28) rfl w.heap.size #[.int .u8 fk,ff] (by rfl) (by rfl) 216 #[.int .u8 0,.nilFunc] Ab.out (by kernel_rfl) rfl AO ?_; intro Au AL AD; have Ad:=yD (AL.ext Aa.out (zU _)); have g0:Au.cell? ⟨w.heap.size,0,none⟩=some (.int .u8 fk):=AD.cell 0; have g1:Au.cell? ⟨w.heap.size,1,none⟩=some ff:=AD.cell 1; clear AL AD))
 refine bodyPost_ret (v:=.tuple #[.agg #[.int .u8 fk,ff],.bool ok]) (by simp[results,Tryz.results183,go_sem,g0,g1]) rfl ?_;rw[AZ.out.1,AZ.out.2.1,AZ.out.2.2];exact⟨rfl,Ad.out⟩
theorem zSE {i:Nat}{s:Ps}(h:Hid (isP [61,61] s=true)):zCN i s=.ok () (s.adv.num i 1):=by unfold zCN; rw[if_pos h.out]
theorem zUk {i:Nat}{s:Ps}(h:Hid (isP [61,61] s=false)):zCN i s=vE [60] s:=by unfold zCN; rw[h.out]; rfl
theorem zOZ (n:Nat)(st:Nat→Pm Unit)(hblk:zAC 135 (n+1) (XN st))(hfine:zDt n st):zAC 197 (n+1) (zAx st):=by
 intro w p B s R i h hG hi AS hn;have AN:=yD (Ran.refl h hG);have HI:=yD hi;have AH:=yD AS;have HN:=yD hn;have AU:=yD hblk;have AT:=yD hfine;obtain⟨Aa,Ab⟩:∃x,Hid (x=zAx st i s):=⟨_,yD rfl⟩;rw[←Ab.out];have hm:=hmf;clear h hG hi AS hn hblk hfine
 go_enter Tryz.func197,Tryz.ntmps197
 go_wp2_with fail
 refine(zAN _ p B s R i AN.out.ps AN.out.lt.xQ (AN.out.idx HI.out) (AN.out.phi AH.out)).mono ?_;intro e w1 hp
 rcases Ran.go Ab AN (YB i _ AN.out.lt.xQ) hp with ⟨s1,R1,Ac,rfl,AR⟩ | ⟨er,a,rfl,HX,HY⟩
 rotate_left
 ·refine yZ (P:=Tryz.prog) (fn:=Tryz.f197) rfl ?_;rw[HX.out];exact HY.out
 clear hp
 cases hi2:isP [61,61] s1 with
 | false=>
  have AO:=yD hi2;clear hi2;have AV:=yD (bind_eq Ac (zUk AO))
  go_wp2_with fail
  refine(zAQ _ p B s1 R1 [61,61] AO AR.out.ps).mono ?_;rintro e w2 ⟨rfl,hx⟩;have AF:=yD (AR.out.ext hx);clear hx
  go_wp2_with fail
  refine(vX _ p B s1 R1 [60] AF.out.ps).mono ?_;intro e w3 hp
  rcases Ran.go AV AF (xN _ _ AF.out.lt.xQ) hp with ⟨s3,R3,Aj,rfl,AL⟩ | ⟨er,a,rfl,HX,HY⟩
  rotate_left
  ·refine yZ (P:=Tryz.prog) (fn:=Tryz.f197) rfl ?_;rw[HX.out];exact HY.out
  clear hp
  go_wp2_with fail
  refine(zAN _ p B s3 R3 i AL.out.ps AL.out.lt.xQ (AL.out.idx HI.out) (AL.out.phi AH.out)).mono ?_;intro e w4 hp
  rcases Ran.go Aj AL (YB i _ AL.out.lt.xQ) hp with ⟨s4,R4,An,rfl,AE⟩ | ⟨er,a,rfl,HX,HY⟩
  rotate_left
  ·refine yZ (P:=Tryz.prog) (fn:=Tryz.f197) rfl ?_;rw[HX.out];exact HY.out
  clear hp
  go_wp2_with fail
  refine(AU.out _ p B s4 R4 i AE.out.ps AE.out.lt.xQ (AE.out.idx HI.out) (AE.out.phi AH.out) (AE.out.few HN.out)).mono ?_;intro e w5 hp
  rcases Ran.go An AE (VA AT.out i _ AE.out.lt.xQ (AE.out.few HN.out)) hp with ⟨s5,R5,Ad,rfl,AP⟩ | ⟨er,a,rfl,HX,HY⟩
  rotate_left
  ·refine yZ (P:=Tryz.prog) (fn:=Tryz.f197) rfl ?_;rw[HX.out];exact HY.out
  clear hp
  cases hi6:isP [101,108,115,101] s5 with
  | false=>
   have AM:=yD hi6;clear hi6;have AY:=yD (zKH (t:=[101,108,115,101]) (s:=s5) Ad AM)
   go_wp2_with fail
   refine(zAQ _ p B s5 R5 [101,108,115,101] AM AP.out.ps).mono ?_;rintro e w6 ⟨rfl,hx⟩;have AD:=yD (AP.out.ext hx);clear hx
   go_wp2_with fail
   go_end0;rw[AY.out];exact xI.ok AD.out.okp
  | true=>
   have AM:=yD hi6;clear hi6;have AY:=yD (zG8 (t:=[101,108,115,101]) (s:=s5) Ad AM)
   go_wp2_with fail
   refine(VO _ p B s5 R5 [101,108,115,101] AM AP.out.ps).mono ?_;rintro e w6 ⟨rfl,ho⟩;obtain⟨R6,hs⟩:=AP.out.then ho (zBw AP.out.lt.xQ AM);have AD:=yD hs;clear ho hs;have Ah:=yD (ZH AY.out)
   go_wp2_with fail
   refine(AU.out _ p B s5.adv R6 i AD.out.ps AD.out.lt.xQ (AD.out.idx HI.out) (AD.out.phi AH.out) (AD.out.few HN.out)).mono ?_;intro e w7 hp
   rcases Ran.go Ah AD (VA AT.out i _ AD.out.lt.xQ (AD.out.few HN.out)) hp with ⟨s7,R7,Al,rfl,Ak⟩ | ⟨er,a,rfl,HX,HY⟩
   rotate_left
   ·refine yZ (P:=Tryz.prog) (fn:=Tryz.f197) rfl ?_;rw[HX.out];exact HY.out
   clear hp
   go_wp2_with fail
   go_end0;rw[Al.out];exact xI.ok Ak.out.okp
 | true=>
  have AO:=yD hi2;clear hi2;have AV:=yD (bind_eq Ac (zSE AO))
  go_wp2_with fail
  refine(VO _ p B s1 R1 [61,61] AO AR.out.ps).mono ?_;rintro e w2 ⟨rfl,ho⟩;obtain⟨R2,hs⟩:=AR.out.then ho (zBw AR.out.lt.xQ AO);have AF:=yD hs;clear ho hs
  go_wp2_with fail
  refine(zCO _ p B s1.adv R2 i AF.out.ps (AF.out.idx HI.out)).mono ?_;intro e w8 hp
  rcases Ran.go AV AF (ZR.num AF.out.lt.xQ i 1) hp with ⟨s8,R8,Ai,rfl,AJ⟩ | ⟨er,a,rfl,HX,HY⟩
  rotate_left
  ·refine yZ (P:=Tryz.prog) (fn:=Tryz.f197) rfl ?_;rw[HX.out];exact HY.out
  clear hp
  go_wp2_with fail
  refine(zAN _ p B s8 R8 i AJ.out.ps AJ.out.lt.xQ (AJ.out.idx HI.out) (AJ.out.phi AH.out)).mono ?_;intro e w9 hp
  rcases Ran.go Ai AJ (YB i _ AJ.out.lt.xQ) hp with ⟨s9,R9,Ag,rfl,AG⟩ | ⟨er,a,rfl,HX,HY⟩
  rotate_left
  ·refine yZ (P:=Tryz.prog) (fn:=Tryz.f197) rfl ?_;rw[HX.out];exact HY.out
  clear hp
  go_wp2_with fail
  refine(AU.out _ p B s9 R9 i AG.out.ps AG.out.lt.xQ (AG.out.idx HI.out) (AG.out.phi AH.out) (AG.out.few HN.out)).mono ?_;intro e Aq hp
  rcases Ran.go Ag AG (VA AT.out i _ AG.out.lt.xQ (AG.out.few HN.out)) hp with ⟨AK,Ae,AQ,rfl,AC⟩ | ⟨er,a,rfl,HX,HY⟩
  rotate_left
  ·refine yZ (P:=Tryz.prog) (fn:=Tryz.f197) rfl ?_;rw[HX.out];exact HY.out
  clear hp
  cases hi11:isP [101,108,115,101] AK with
  | false=>
   have AB:=yD hi11;clear hi11;have AI:=yD (zKH (t:=[101,108,115,101]) (s:=AK) AQ AB)
   go_wp2_with fail
   refine(zAQ _ p B AK Ae [101,108,115,101] AB AC.out.ps).mono ?_;rintro e Af ⟨rfl,hx⟩;have AA:=yD (AC.out.ext hx);clear hx
   go_wp2_with fail
   go_end0;rw[AI.out];exact xI.ok AA.out.okp
  | true=>
   have AB:=yD hi11;clear hi11;have AI:=yD (zG8 (t:=[101,108,115,101]) (s:=AK) AQ AB)
   go_wp2_with fail
   refine(VO _ p B AK Ae [101,108,115,101] AB AC.out.ps).mono ?_;rintro e Af ⟨rfl,ho⟩;obtain⟨Am,hs⟩:=AC.out.then ho (zBw AC.out.lt.xQ AB);have AA:=yD hs;clear ho hs;have AX:=yD (ZH AI.out)
   go_wp2_with fail
   refine(AU.out _ p B AK.adv Am i AA.out.ps AA.out.lt.xQ (AA.out.idx HI.out) (AA.out.phi AH.out) (AA.out.few HN.out)).mono ?_;intro e Ar hp
   rcases Ran.go AX AA (VA AT.out i _ AA.out.lt.xQ (AA.out.few HN.out)) hp with ⟨Ap,Ao,AW,rfl,AZ⟩ | ⟨er,a,rfl,HX,HY⟩
   rotate_left
   ·refine yZ (P:=Tryz.prog) (fn:=Tryz.f197) rfl ?_;rw[HX.out];exact HY.out
   clear hp
   go_wp2_with fail
   go_end0;rw[AW.out];exact xI.ok AZ.out.okp
theorem zSe (n:Nat)(st:Nat→Pm Unit)(hblk:zAC 135 (n+1) (XN st))(hfine:zDt n st):zAC 198 (n+1) (zDC st):=by
 intro w p B s R i h hG hi AF hn;have AG:=yD (Ran.refl h hG);have HI:=yD hi;have AL:=yD AF;have HN:=yD hn;have Ab:=yD hblk;have AX:=yD hfine;obtain⟨AR,AQ⟩:∃x,Hid (x=zDC st i s):=⟨_,yD rfl⟩;rw[←AQ.out];have hm:=hmf;clear h hG hi AF hn hblk hfine
 go_enter Tryz.func198,Tryz.ntmps198
 go_wp2_with fail
 refine(VC _ p B s R i AG.out.ps (AG.out.idx HI.out)).mono ?_;intro e Ai hp
 rcases Ran.go AQ AG (ZY i _ AG.out.lt.xQ) hp with ⟨AV,Aa,AJ,rfl,AE⟩ | ⟨er,a,rfl,HX,HY⟩
 rotate_left
 ·refine yZ (P:=Tryz.prog) (fn:=Tryz.f198) rfl ?_;rw[HX.out];exact HY.out
 clear hp
 go_wp2_with fail
 refine(vX _ p B AV Aa [61] AE.out.ps).mono ?_;intro e Ae hp
 rcases Ran.go AJ AE (xN _ _ AE.out.lt.xQ) hp with ⟨Ac,AS,AH,rfl,AC⟩ | ⟨er,a,rfl,HX,HY⟩
 rotate_left
 ·refine yZ (P:=Tryz.prog) (fn:=Tryz.f198) rfl ?_;rw[HX.out];exact HY.out
 clear hp
 go_wp2_with fail
 refine(zHg _ p B Ac AS i AC.out.ps AC.out.lt.xQ (AC.out.idx HI.out) (AC.out.nd AL.out)).mono ?_;intro e Aj hp
 rcases Ran.go AH AC (zCR i _ AC.out.lt.xQ) hp with ⟨AT,Ad,AM,rfl,AD⟩ | ⟨er,a,rfl,HX,HY⟩
 rotate_left
 ·refine yZ (P:=Tryz.prog) (fn:=Tryz.f198) rfl ?_;rw[HX.out];exact HY.out
 clear hp
 go_wp2_with fail
 refine(vX _ p B AT Ad [116,111] AD.out.ps).mono ?_;intro e Al hp
 rcases Ran.go AM AD (xN _ _ AD.out.lt.xQ) hp with ⟨AZ,AY,AP,rfl,AB⟩ | ⟨er,a,rfl,HX,HY⟩
 rotate_left
 ·refine yZ (P:=Tryz.prog) (fn:=Tryz.f198) rfl ?_;rw[HX.out];exact HY.out
 clear hp
 go_wp2_with fail
 refine(zHg _ p B AZ AY i AB.out.ps AB.out.lt.xQ (AB.out.idx HI.out) (AB.out.nd AL.out)).mono ?_;intro e Af hp
 rcases Ran.go AP AB (zCR i _ AB.out.lt.xQ) hp with ⟨AU,AW,AK,rfl,AA⟩ | ⟨er,a,rfl,HX,HY⟩
 rotate_left
 ·refine yZ (P:=Tryz.prog) (fn:=Tryz.f198) rfl ?_;rw[HX.out];exact HY.out
 clear hp;have AI:=yD (ZH AK.out)
 go_wp2_with fail
 refine(Ab.out _ p B AU AW i AA.out.ps AA.out.lt.xQ (AA.out.idx HI.out) (AA.out.phi AL.out) (AA.out.few HN.out)).mono ?_;intro e Ak hp
 rcases Ran.go AI AA (VA AX.out i _ AA.out.lt.xQ (AA.out.few HN.out)) hp with ⟨Ah,Ag,AO,rfl,AN⟩ | ⟨er,a,rfl,HX,HY⟩
 rotate_left
 ·refine yZ (P:=Tryz.prog) (fn:=Tryz.f198) rfl ?_;rw[HX.out];exact HY.out
 clear hp
 go_wp2_with fail
 go_end0;rw[AO.out];exact xI.ok AN.out.okp
theorem zAg {t:Bs}{k:Nat}(h:jN t=some k):7≤k∧k≤19:=by
 unfold jN at h
 cases hf:zGJ.find? fun m=>m.1==t with
 | none=>rw[hf] at h; cases h
 | some m=>
  rw[hf] at h;injection h with h;subst h;have hm:=List.mem_of_find?_eq_some hf
  have ha:∀m ∈ zGJ,7≤m.2∧m.2≤19:=by decide
  exact ha m hm
theorem zHi {k:Nat}(h:7≤k∧k≤19):k=7∨k=8∨k=9∨k=10∨k=11∨k=12∨k=13∨k=14∨k=15∨k=16∨k=17∨k=18∨k=19:=by omega
theorem zHC {k:Nat}(h:7≤k∧k≤19):∀args w,(callFunc (zNe k) args).run Tryz.prog w=.ok (.enter (zNe k) args) w:=by
 rcases zHi h with rfl | rfl | rfl | rfl | rfl | rfl | rfl | rfl | rfl | rfl | rfl | rfl | rfl
 ·exact enters_of Tryz.func190 (by kernel_rfl) rfl
 ·exact enters_of Tryz.func191 (by kernel_rfl) rfl
 ·exact enters_of Tryz.func192 (by kernel_rfl) rfl
 ·exact enters_of Tryz.func193 (by kernel_rfl) rfl
 ·exact enters_of Tryz.func194 (by kernel_rfl) rfl
 ·exact enters_of Tryz.func195 (by kernel_rfl) rfl
 ·exact enters_of Tryz.func196 (by kernel_rfl) rfl
 ·exact enters_of Tryz.func197 (by kernel_rfl) rfl
 ·exact enters_of Tryz.func198 (by kernel_rfl) rfl
 ·exact enters_of Tryz.func199 (by kernel_rfl) rfl
 ·exact enters_of Tryz.func200 (by kernel_rfl) rfl
 ·exact enters_of Tryz.func201 (by kernel_rfl) rfl
 ·exact enters_of Tryz.func201 (by kernel_rfl) rfl
theorem zJ1 (n:Nat)(st:Nat→Pm Unit)(hst:zAC 165 n st)(hfine:zDt n st)(h1:zJA n st)(k:Nat)(hk:7≤k∧k≤19):zAC (zNe k) (n+1) (YO st k):=by
 have AB:=zKO n st hst hfine h1;intro w p B s R i h hG hi AA hn
 rcases zHi hk with rfl | rfl | rfl | rfl | rfl | rfl | rfl | rfl | rfl | rfl | rfl | rfl | rfl
 ·exact zQ5 w p B s R i h hG hi AA
 ·exact zR8 w p B s R i h hG hi AA
 ·exact zNv w p B s R i h hG hi AA
 ·exact zJi w p B s R i h hG hi AA
 ·exact zQR w p B s R i h hG hi AA
 ·exact zQM w p B s R i h hG hi AA
 ·exact zLE w p B s R i h hG hi AA
 ·exact zOZ n st AB hfine w p B s R i h hG hi AA hn
 ·exact zSe n st AB hfine w p B s R i h hG hi AA hn
 ·exact zSV w p B s R i h hG hi AA
 ·exact zAN w p B s R i h hG hi AA
 ·exact zKo w p B s R i h
 ·exact zKo w p B s R i h
theorem zPE {f i:Nat}{s:Ps}:jO (f+1) i s=match (if s.hd.kind=1 then jN s.hd.text else none) with
  | none=>.err 50 s.hd.at_
  | some k=>(YO (jO f) k s.nd.length (s.xB i k).adv).bind fun _ s=>if k=14∨k=15 then .ok () s else vE [59] s:=rfl
theorem zIQ {f i:Nat}{s:Ps}(h:jN s.hd.text=none∨s.hd.kind≠1):jO (f+1) i s=.err 50 s.hd.at_:=by
 rw[zPE]
 rcases h with h | h
 ·rw[h]; split <;> simp_all
 ·rw[if_neg h]
theorem zJc {f i k:Nat}{s:Ps}(h:jN s.hd.text=some k)(h1:s.hd.kind=1):jO (f+1) i s=(YO (jO f) k s.nd.length (s.xB i k).adv).bind fun _ s=>if k=14∨k=15 then .ok () s else vE [59] s:=by
 rw[zPE,if_pos h1,h]
theorem zFr:∀f,zJA f (jO f)
 | 0=>fun i s s' g hl h=>by cases h
 | f+1=>fun i s s' g hl h=>by
  by_cases h1:s.hd.kind=1
  ·cases hf:jN s.hd.text with
   | none=>rw[zIQ (.inl hf)] at h; cases h
   | some k=>
    rw[zJc hf h1] at h;have hp:=g.pos
    have h4:(s.xB i k).hd.kind≠4:=by show s.hd.kind≠4; omega
    have ga:=(vH g i k).adv h4;have AB:=jX (s:=s.xB i k);rw[YY] at AB;have hr:=zDz (zAL f) k s.nd.length (s.xB i k).adv ga (by omega)
    cases hq:YO (jO f) k s.nd.length (s.xB i k).adv with
    | err e p=>rw[hq] at h; cases h
    | ok a t=>
     rw[hq] at h hr;have ht:=hr.ts;have h':(if k=14∨k=15 then Res.ok () t else vE [59] t)=.ok () s':=h
     split at h'
     ·injection h' with _ e; subst e; omega
     ·have AA:=xN [59] t hr.xQ;rw[h'] at AA
      have:=AA.ts
      omega
  ·rw[zIQ (.inr h1)] at h; cases h
theorem zVd (f:Nat)(ih:zAC 165 f (jO f))(w:World)(p B:Nat)(s:Ps)(R:xS)(i:Nat)(h:PS w p B s R)(hG:Good s)(hi:i<s.nd.length)(hbig:s.phi≤1000000)(hn:s.ts.length≤f+1)(hfo:jN s.hd.text=none) :
  Calls Tryz.prog 165 #[.pointer (some ⟨p,0,none⟩),.int .i64 (i:Int)] w (xI w p B R (jO (f+1) i s)):=by
 have HP:=yD h;have HG:=yD hG;have HI:=yD hi;have AN:=yD hbig;have HN:=yD hn;have AO:=yD ih;obtain⟨AA,AF⟩:∃x,Hid (x=jO (f+1) i s):=⟨_,yD rfl⟩;rw[←AF.out];have hm:=hmf;have AP:=zDb;have AL:=zAh;have HE:Hid (AA=.err 50 s.hd.at_):=yD (AF.out.trans (zIQ (.inl hfo)));have AI:=yD hfo;clear hfo;clear h hG hi hbig hn ih
 go_enter Tryz.func165,Tryz.ntmps165
 go_wp2_with fail
 refine(ZG _ p s R HP.out.ts).mono ?_;rintro e w1 ⟨rfl,AB⟩;have AH:=yD AB;have AK:=yD (HP.out.ext AB);clear AB;unfold YC
 go_wp2_with fail
 refine(zCp s.hd.text w1).mono ?_;rintro e w2 ⟨rfl,AC⟩;have AD:=yD (AH.out.trans AC);have AM:=yD (AK.out.ext AC);clear AC;rw[AI.out];simp only[zJx,zJB,Option.elim,Option.isSome]
 go_wp2_with (refine vJ rfl 216 (.tmp 4) (.tmp 12) rfl w2.heap.size #[.int .u8 0,.nilFunc] (by rfl) (by rfl) 216 #[.int .u8 0,.nilFunc] (Blk.new _ _ _) (by kernel_rfl) rfl rfl ?_; intro w3 AE AG; have AJ:=yD (AE.ext (AD.out.trans (Ext.alloc w2 (.cells #[.int .u8 0,.nilFunc] 216))) AD.out.size); have AQ:=yD AG; clear AE AG)
 refine(zBx _ p 50).mono ?_;rintro e w4 ⟨rfl,rfl⟩;have HF:Hid (xI w p B R AA (jW 50) w3):=yD (by rw[HE.out]; exact⟨rfl,s,rfl,HP.out.okp AJ.out⟩);exact yZ (P:=Tryz.prog) (fn:=Tryz.f165) rfl HF.out
theorem zUI (f:Nat)(ih:zAC 165 f (jO f))(w:World)(p B:Nat)(s:Ps)(R:xS)(i:Nat)(h:PS w p B s R)(hG:Good s)(hi:i<s.nd.length)(hbig:s.phi≤1000000)(hn:s.ts.length≤f+1)(k:Nat)(hfo:jN s.hd.text=some k)(hk:s.hd.kind≠1) :
  Calls Tryz.prog 165 #[.pointer (some ⟨p,0,none⟩),.int .i64 (i:Int)] w (xI w p B R (jO (f+1) i s)):=by
 have HP:=yD h;have HG:=yD hG;have HI:=yD hi;have AP:=yD hbig;have HN:=yD hn;have AQ:=yD ih;obtain⟨AA,AF⟩:∃x,Hid (x=jO (f+1) i s):=⟨_,yD rfl⟩;rw[←AF.out];have hm:=hmf;have AN:=zDb;have AR:=zAh;have HE:Hid (AA=.err 50 s.hd.at_):=yD (AF.out.trans (zIQ (.inr hk)));have AK:=yD hfo
 have b1:((s.hd.kind:Int) != 1)=true:=by rw[zD]; omega
 have b2:¬(s.hd.kind:Int)=1:=by omega
 clear hfo hk;clear h hG hi hbig hn ih
 go_enter Tryz.func165,Tryz.ntmps165
 go_wp2_with fail
 refine(ZG _ p s R HP.out.ts).mono ?_;rintro e w1 ⟨rfl,AB⟩;have AJ:=yD AB;have AM:=yD (HP.out.ext AB);clear AB;unfold YC
 go_wp2_with fail
 refine(zCp s.hd.text w1).mono ?_;rintro e w2 ⟨rfl,AC⟩;have AH:=yD (AJ.out.trans AC);have AO:=yD (AM.out.ext AC);clear AC;rw[AK.out];simp only[zJx,zJB,Option.elim,Option.isSome];generalize zNe k=K at *
 go_wp2_with (first
  | (refine vJ rfl 216 (.tmp 4) (.tmp 12) rfl w2.heap.size #[.int .u8 (k:Int),.func (.func K) #[] #[]] (by rfl) (by rfl) 216 #[.int .u8 0,.nilFunc] (Blk.new _ _ _) (by kernel_rfl) rfl rfl ?_; intro w3 AD AG; have AE:=yD (AD.ext (AH.out.trans (Ext.alloc w2 (.cells #[.int .u8 0,.nilFunc] 216))) AH.out.size); have AS:=yD AG; clear AD AG)
  | (refine(ZG _ p s R (HP.out.ext AE.out).ts).mono ?_; rintro e w4 ⟨rfl,AI⟩; have AL:=yD (AE.out.trans AI); clear AI; unfold YC))
 refine(zBx _ p 50).mono ?_;rintro e w5 ⟨rfl,rfl⟩;have HF:Hid (xI w p B R AA (jW 50) w4):=yD (by rw[HE.out]; exact⟨rfl,s,rfl,HP.out.okp AL.out⟩);exact yZ (P:=Tryz.prog) (fn:=Tryz.f165) rfl HF.out
theorem zVc (f:Nat)(ih:zAC 165 f (jO f))(w:World)(p B:Nat)(s:Ps)(R:xS)(i:Nat)(h:PS w p B s R)(hG:Good s)(hi:i<s.nd.length)(hbig:s.phi≤1000000)(hn:s.ts.length≤f+1)(k:Nat)(hfo:jN s.hd.text=some k)(hk:s.hd.kind=1)(hk14:k=14∨k=15) :
  Calls Tryz.prog 165 #[.pointer (some ⟨p,0,none⟩),.int .i64 (i:Int)] w (xI w p B R (jO (f+1) i s)):=by
 have HP:=yD h;have HG:=yD hG;have HI:=yD hi;have AY:=yD hbig;have HN:=yD hn;have Av:=yD ih;obtain⟨AA,AV⟩:∃x,Hid (x=jO (f+1) i s):=⟨_,yD rfl⟩;rw[←AV.out];have hm:=hmf;have Ax:=zDb;have As:=zAh;have HL:=yD (AV.out.trans (zJc hfo hk));have Am:=yD hfo;have HK:=yD hk;have Aw:=yD (zAg hfo);have AD:=yD hk14;have At:=hG.pos;have Aq:=yD (zJ1 f (jO f) ih (zAL f) (zFr f) k (zAg hfo));have An:=yD (zHC (zAg hfo));have AL:Hid (Good (s.xB i k).adv):=yD ((vH hG i k).adv (by show s.hd.kind≠4; omega));have Ac:Hid ((s.xB i k).adv.ts.length=s.ts.length-1):=yD (by rw[jX,YY]);have Ap:Hid ((s.xB i k).adv.nd.length=s.nd.length+1):=yD (jR s i k);have Ag:Hid (ZR s (s.xB i k).adv):=yD (JV.at (i:=i) (k:=k) (r:=.ok () (s.xB i k).adv) (zC8 (vH hG i k) (by show s.hd.kind≠4; omega)));have Ak:Hid ((s.xB i k).hd.kind≠4):=yD (by show s.hd.kind≠4; omega)
 have Aj:(s.hd.kind:Int)=1:=by omega
 clear hfo hk hk14;clear h hG hi hbig hn ih
 go_enter Tryz.func165,Tryz.ntmps165
 go_wp2_with fail
 refine(ZG _ p s R HP.out.ts).mono ?_;rintro e w1 ⟨rfl,AO⟩;have Al:=yD AO;have Ah:=yD (HP.out.ext AO);clear AO;unfold YC
 go_wp2_with fail
 refine(zCp s.hd.text w1).mono ?_;rintro e w2 ⟨rfl,AP⟩;have AJ:=yD (Al.out.trans AP);have Au:=yD (Ah.out.ext AP);clear AP;rw[Am.out];simp only[zJx,zJB,Option.elim,Option.isSome];have he:=An.out;generalize zNe k=K at *
 go_wp2_with (first
  | (refine vJ rfl 216 (.tmp 4) (.tmp 12) rfl w2.heap.size #[.int .u8 (k:Int),.func (.func K) #[] #[]] (by rfl) (by rfl) 216 #[.int .u8 0,.nilFunc] (Blk.new _ _ _) (by kernel_rfl) rfl rfl ?_; intro w3 AU Aa; have AQ:=yD (AU.ext (AJ.out.trans (Ext.alloc w2 (.cells #[.int .u8 0,.nilFunc] 216))) AJ.out.size); have Ai:=yD Aa; clear AU Aa)
  | (refine(ZG _ p s R (HP.out.ext AQ.out).ts).mono ?_; rintro e w4 ⟨rfl,AK⟩; have AX:=yD (AQ.out.trans AK); have Ae:=yD (Ai.out.ext AK); have f0:w4.cell? ⟨w2.heap.size,0,none⟩=some (.int .u8 (k:Int)):=Ae.out.cell 0; clear AK; unfold YC))
 have Ad:Hid (Safe w4 (xG p R) w2.heap.size 216 #[.int .u8 (k:Int),.func (.func K) #[] #[]]):=yD ⟨Ae.out,fun h=>by
  have h1:=HP.out.zDL h;have h2:=AJ.out.size
  omega⟩
 obtain⟨gf,AW⟩:∃gf,Hid (w2.heap.size=gf):=⟨_,yD rfl⟩;rw[AW.out];rw[AW.out] at Ad;clear f0 Aj;refine(zEN w4 p B s R i k (HP.out.ext AX.out) HI.out (by have:=AY.out; unfold Ps.phi at this; omega) HG.out).mono ?_;rintro e w5 ⟨rfl,R5,AC,AN⟩;have Ar:=yD AC;have Af:=yD ((xH.ext (M:=xG p R) AX.out).trans AN);have AM:=yD (Ad.out.xJ AN);have AS:=yD (AC.zUT Ak.out);have Ab:Hid (xH w5 (xG p R5) (w5.setCell ⟨p,0,none⟩ (.slice (some ⟨R5.bt,R5.ot+5,none⟩) ((s.xB i k).ts.length-1) (R5.ct-1))) (xG p R5.adv)):=yD (xH.set (.inl rfl));have AF:Hid (Ran w p B R s (w5.setCell ⟨p,0,none⟩ (.slice (some ⟨R5.bt,R5.ot+5,none⟩) ((s.xB i k).ts.length-1) (R5.ct-1))) R5.adv (s.xB i k).adv):=yD ⟨AS.out,Af.out.trans Ab.out,Ag.out⟩;clear AS
 have h2:2≤(s.xB i k).ts.length:=by
  have hg:=AL.out.pos;rw[jX] at hg;omega
 have h3:=AC.zJS;have x0:=AC.x0;have z0:=AC.blk.frozen 0;clear AC AN;generalize (s.xB i k).ts.length=nt at *;generalize R5.ct=ct at *
 go_upto_region 5 with fail
 generalize w5.setCell ⟨p,0,none⟩ (.slice (some ⟨R5.bt,R5.ot+5,none⟩) (nt-1) (ct-1))=w6 at *;have AG:=yD (AM.out.xJ Ab.out);have f1:w6.cell? ⟨gf,1,none⟩=some (.func (.func K) #[] #[]):=AG.out.1.cell 1;clear x0 z0 h2 h3
 go_wp2_with fail
 refine(Aq.out w6 p B _ _ s.nd.length AF.out.ps AL.out (by rw[Ap.out]; omega) (AF.out.phi AY.out) (by rw[Ac.out]; have:=HN.out; omega)).mono ?_;intro e w7 hp;have AB:=zDz (zAL f) k s.nd.length (s.xB i k).adv AL.out (by rw[Ac.out]; have:=HN.out; omega);have AE:∀ {R' w'},OkP w6 p B R5.adv R' w'→True:=fun _=>trivial
 cases hr:YO (jO f) k s.nd.length (s.xB i k).adv with
 | err er a=>
  rw[hr] at hp;obtain⟨rfl,ho⟩:=hp;have HF:Hid (xI w p B R AA (jW er) w7):=yD (by rw[HL.out,hr]; exact VK.trans AF.out.mv ⟨rfl,ho⟩);exact yZ (P:=Tryz.prog) (fn:=Tryz.f165) rfl HF.out
 | ok a s7=>
  rw[hr] at hp AB;obtain⟨rfl,R7,AR,AI⟩:=hp;have AZ:Hid (Ran w p B R s w7 R7 s7):=yD ⟨AR,AF.out.mv.trans AI,AF.out.lt.trans AB⟩;have AH:=yD (AG.out.xJ AI);have f0:w7.cell? ⟨gf,0,none⟩=some (.int .u8 (k:Int)):=AH.out.1.cell 0;have Ao:Hid (AA=if k=14∨k=15 then .ok () s7 else vE [59] s7):=yD (by rw[HL.out,hr]; rfl);clear hr AR AI AB f1 AE he;have AT:Hid (AA=.ok () s7):=yD (by rw[Ao.out,if_pos AD.out])
  rcases AD.out with hk | hk
  ·subst hk
   go_wp2_with fail
   go_end0;rw[AT.out];exact xI.ok AZ.out.okp
  ·subst hk
   go_wp2_with fail
   go_end0;rw[AT.out];exact xI.ok AZ.out.okp
theorem zUr (f:Nat)(ih:zAC 165 f (jO f))(w:World)(p B:Nat)(s:Ps)(R:xS)(i:Nat)(h:PS w p B s R)(hG:Good s)(hi:i<s.nd.length)(hbig:s.phi≤1000000)(hn:s.ts.length≤f+1)(k:Nat)(hfo:jN s.hd.text=some k)(hk:s.hd.kind=1)(hk14:¬(k=14∨k=15)) :
  Calls Tryz.prog 165 #[.pointer (some ⟨p,0,none⟩),.int .i64 (i:Int)] w (xI w p B R (jO (f+1) i s)):=by
 have HP:=yD h;have HG:=yD hG;have HI:=yD hi;have AY:=yD hbig;have HN:=yD hn;have Az:=yD ih;obtain⟨AA,AV⟩:∃x,Hid (x=jO (f+1) i s):=⟨_,yD rfl⟩;rw[←AV.out];have hm:=hmf;have A3:=zDb;have Av:=zAh;have HL:=yD (AV.out.trans (zJc hfo hk));have Ao:=yD hfo;have HK:=yD hk;have A2:=yD (zAg hfo);have AB:=yD hk14;have Ax:=hG.pos;have As:=yD (zJ1 f (jO f) ih (zAL f) (zFr f) k (zAg hfo));have Ap:=yD (zHC (zAg hfo));have AL:Hid (Good (s.xB i k).adv):=yD ((vH hG i k).adv (by show s.hd.kind≠4; omega));have Ab:Hid ((s.xB i k).adv.ts.length=s.ts.length-1):=yD (by rw[jX,YY]);have Ar:Hid ((s.xB i k).adv.nd.length=s.nd.length+1):=yD (jR s i k);have Ah:Hid (ZR s (s.xB i k).adv):=yD (JV.at (i:=i) (k:=k) (r:=.ok () (s.xB i k).adv) (zC8 (vH hG i k) (by show s.hd.kind≠4; omega)));have Al:Hid ((s.xB i k).hd.kind≠4):=yD (by show s.hd.kind≠4; omega)
 have Ak:(s.hd.kind:Int)=1:=by omega
 clear hfo hk hk14;clear h hG hi hbig hn ih
 go_enter Tryz.func165,Tryz.ntmps165
 go_wp2_with fail
 refine(ZG _ p s R HP.out.ts).mono ?_;rintro e w1 ⟨rfl,AO⟩;have An:=yD AO;have Ai:=yD (HP.out.ext AO);clear AO;unfold YC
 go_wp2_with fail
 refine(zCp s.hd.text w1).mono ?_;rintro e w2 ⟨rfl,AQ⟩;have AJ:=yD (An.out.trans AQ);have Ay:=yD (Ai.out.ext AQ);clear AQ;rw[Ao.out];simp only[zJx,zJB,Option.elim,Option.isSome];have he:=Ap.out;generalize zNe k=K at *
 go_wp2_with (first
  | (refine vJ rfl 216 (.tmp 4) (.tmp 12) rfl w2.heap.size #[.int .u8 (k:Int),.func (.func K) #[] #[]] (by rfl) (by rfl) 216 #[.int .u8 0,.nilFunc] (Blk.new _ _ _) (by kernel_rfl) rfl rfl ?_; intro w3 AU AZ; have AR:=yD (AU.ext (AJ.out.trans (Ext.alloc w2 (.cells #[.int .u8 0,.nilFunc] 216))) AJ.out.size); have Aj:=yD AZ; clear AU AZ)
  | (refine(ZG _ p s R (HP.out.ext AR.out).ts).mono ?_; rintro e w4 ⟨rfl,AK⟩; have AX:=yD (AR.out.trans AK); have Ad:=yD (Aj.out.ext AK); have f0:w4.cell? ⟨w2.heap.size,0,none⟩=some (.int .u8 (k:Int)):=Ad.out.cell 0; clear AK; unfold YC))
 have Ac:Hid (Safe w4 (xG p R) w2.heap.size 216 #[.int .u8 (k:Int),.func (.func K) #[] #[]]):=yD ⟨Ad.out,fun h=>by
  have h1:=HP.out.zDL h;have h2:=AJ.out.size
  omega⟩
 obtain⟨gf,AW⟩:∃gf,Hid (w2.heap.size=gf):=⟨_,yD rfl⟩;rw[AW.out];rw[AW.out] at Ac;clear f0 Ak;refine(zEN w4 p B s R i k (HP.out.ext AX.out) HI.out (by have:=AY.out; unfold Ps.phi at this; omega) HG.out).mono ?_;rintro e w5 ⟨rfl,R5,AD,AN⟩;have Au:=yD AD;have Ae:=yD ((xH.ext (M:=xG p R) AX.out).trans AN);have AM:=yD (Ac.out.xJ AN);have AT:=yD (AD.zUT Al.out);have Aa:Hid (xH w5 (xG p R5) (w5.setCell ⟨p,0,none⟩ (.slice (some ⟨R5.bt,R5.ot+5,none⟩) ((s.xB i k).ts.length-1) (R5.ct-1))) (xG p R5.adv)):=yD (xH.set (.inl rfl));have AF:Hid (Ran w p B R s (w5.setCell ⟨p,0,none⟩ (.slice (some ⟨R5.bt,R5.ot+5,none⟩) ((s.xB i k).ts.length-1) (R5.ct-1))) R5.adv (s.xB i k).adv):=yD ⟨AT.out,Ae.out.trans Aa.out,Ah.out⟩;clear AT
 have h2:2≤(s.xB i k).ts.length:=by
  have hg:=AL.out.pos;rw[jX] at hg;omega
 have h3:=AD.zJS;have x0:=AD.x0;have z0:=AD.blk.frozen 0;clear AD AN;generalize (s.xB i k).ts.length=nt at *;generalize R5.ct=ct at *
 go_upto_region 5 with fail
 generalize w5.setCell ⟨p,0,none⟩ (.slice (some ⟨R5.bt,R5.ot+5,none⟩) (nt-1) (ct-1))=w6 at *;have AG:=yD (AM.out.xJ Aa.out);have f1:w6.cell? ⟨gf,1,none⟩=some (.func (.func K) #[] #[]):=AG.out.1.cell 1;clear x0 z0 h2 h3
 go_wp2_with fail
 refine(As.out w6 p B _ _ s.nd.length AF.out.ps AL.out (by rw[Ar.out]; omega) (AF.out.phi AY.out) (by rw[Ab.out]; have:=HN.out; omega)).mono ?_;intro e w7 hp;have AC:=zDz (zAL f) k s.nd.length (s.xB i k).adv AL.out (by rw[Ab.out]; have:=HN.out; omega);have AE:∀ {R' w'},OkP w6 p B R5.adv R' w'→True:=fun _=>trivial
 cases hr:YO (jO f) k s.nd.length (s.xB i k).adv with
 | err er a=>
  rw[hr] at hp;obtain⟨rfl,ho⟩:=hp;have HF:Hid (xI w p B R AA (jW er) w7):=yD (by rw[HL.out,hr]; exact VK.trans AF.out.mv ⟨rfl,ho⟩);exact yZ (P:=Tryz.prog) (fn:=Tryz.f165) rfl HF.out
 | ok a s7=>
  rw[hr] at hp AC;obtain⟨rfl,R7,AS,AI⟩:=hp;have AP:Hid (Ran w p B R s w7 R7 s7):=yD ⟨AS,AF.out.mv.trans AI,AF.out.lt.trans AC⟩;have AH:=yD (AG.out.xJ AI);have f0:w7.cell? ⟨gf,0,none⟩=some (.int .u8 (k:Int)):=AH.out.1.cell 0;have Aq:Hid (AA=if k=14∨k=15 then .ok () s7 else vE [59] s7):=yD (by rw[HL.out,hr]; rfl);clear hr AS AI AC f1 AE he;have Am:Hid (AA=(vE [59] s7).bind fun _ s=>.ok () s):=yD (ZH (by rw[Aq.out,if_neg AB.out]))
  have A1:((k:Int) != 14)=true:=by rw[zD]; have:=AB.out; omega
  have At:((k:Int) != 15)=true:=by rw[zD]; have:=AB.out; omega
  have Aw:¬(k:Int)=14:=by have:=AB.out; omega
  have A0:¬(k:Int)=15:=by have:=AB.out; omega
  go_wp2_with fail
  refine(vX w7 p B s7 R7 [59] AP.out.ps).mono ?_;intro e w8 hp
  rcases Ran.go Am AP (xN _ _ AP.out.lt.xQ) hp with ⟨s8,R8,Ag,rfl,Af⟩ | ⟨er,a,rfl,HX,HY⟩
  rotate_left
  ·refine yZ (P:=Tryz.prog) (fn:=Tryz.f165) rfl ?_;rw[HX.out];exact HY.out
  try clear hp
  go_wp2_with fail
  go_end0;rw[Ag.out];exact xI.ok Af.out.okp
theorem zDj:∀f,zAC 165 f (jO f)
 | 0=>fun w p B s R i h hG hi AA hn=>absurd hG.pos (by omega)
 | f+1=>fun w p B s R i h hG hi AA hn=>by
  cases hfo:jN s.hd.text with
  | none=>exact zVd f (zDj f) w p B s R i h hG hi AA hn hfo
  | some k=>
   by_cases hk:s.hd.kind=1
   ·by_cases AB:k=14∨k=15
    ·exact zVc f (zDj f) w p B s R i h hG hi AA hn k hfo hk AB
    ·exact zUr f (zDj f) w p B s R i h hG hi AA hn k hfo hk AB
   ·exact zUI f (zDj f) w p B s R i h hG hi AA hn k hfo hk
theorem zJr (w:World)(p B:Nat)(s:Ps)(R:xS)(i:Nat)(h:PS w p B s R)(hG:Good s)(hi:i<s.nd.length)(hbig:s.phi≤1000000) :
  Calls Tryz.prog 135 #[.pointer (some ⟨p,0,none⟩),.int .i64 (i:Int)] w (xI w p B R (zD4 i s)):=
 zKO s.ts.length (jO s.ts.length) (zDj _) (zAL _) (zFr _) w p B s R i h hG hi hbig (Nat.le_succ _)
end Go.Proofs.YtioffpjajhalaaaGreatDoor
