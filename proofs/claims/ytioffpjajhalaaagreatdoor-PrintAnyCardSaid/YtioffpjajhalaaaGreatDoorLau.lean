/- The program's forms: which statement a word begins. (and what follows of it). The conditions stand at each lemma. -/
import Derived.Test.YtioffpjajhalaaaGreatDoorLaa
import Derived.Test.YtioffpjajhalaaaGreatDoorLat
import Derived.Test.YtioffpjajhalaaaGreatDoorLac
set_option linter.unusedVariables false
set_option linter.unusedSimpArgs false
set_option maxRecDepth 100000
set_option maxHeartbeats 16000000
namespace Go.Proofs.YtioffpjajhalaaaGreatDoor
open Go Go.RowKit
section
variable {P:Program}
theorem zF4 {w:World}{t kt et:TypeId}{r clock:Nat}{es:Array MapEntry}{n:ByteArray}{val:Value}(hm:P.underlying t=some (.map kt et))(hk:P.underlying kt=some .string)
  (hb:ZG w r es clock) (hf:Instr.findNow .string (.string n) es.toList 0=some none) :
  (Instr.mapUpdate t (.map (some r)) (.string n) val).run P w=.ok () { w with heap:=w.heap.setIfInBounds r (.map (es.push { key:=.string n,val:=val,born:=clock }) (clock+1)) }:=by
 have hc:(Instr.checkKey false 10000 kt (.string n)).run P w=.ok () w:=MapKept.run_checkKey (k:=.string n) hk (by simp[MapKept.IsKey]) false 9999;simp[Instr.mapUpdate,run_underlying hm,MapKept.run_getObj_map hb,hc,MapKept.run_findKey hk hf,MapKept.run_setObj_map _ hb,Result.andThen]
theorem vU {ops:Array Oper}{rest:List Oper}{o:Oper}{a:Act}{w:World}{Q:Exit→Act→World→Prop}(hgd:o.guard=none)(t:TypeId)(m k x:Operand)(ho:o.op=.insert t m k x){kt et:TypeId}
  (hm:P.underlying t=some (.map kt et)) (hk:P.underlying kt=some .string) (r clock:Nat) (es:Array MapEntry) (n:ByteArray) (v:Value)
  (em:a.eval m=.map (some r)) (ek:a.eval k=.string n) (ex:a.eval x=v) (hb:ZG w r es clock) (hf:Instr.findNow .string (.string n) es.toList 0=some none)
  (h:∀w',Touch r w w'→ZG w' r (es.push { key:=.string n,val:=v,born:=clock }) (clock+1)→wpList P ops Q rest (a.put o.dst undef) w'):wpList P ops Q (o::rest) a w:=by
 refine wpList_plain hgd fun K hK=>?_;have AA:=zF4 (val:=v) hm hk hb hf;unfold Oper.wp execOp;simp only[ho,em,ek,ex,Sem.run_bind,Sem.run_pure,AA,Result.andThen_ok];refine hK _ _ (h _ ⟨rfl,rfl,rfl,by simp,fun q hq=>?_⟩ ?_)
 ·simp[Array.getElem?_setIfInBounds,Ne.symm hq]
 ·have AB:=hb.lt;unfold ZG;simp[AB]
theorem zEu {ops:Array Oper}{rest:List Oper}{o:Oper}{a:Act}{w:World}{Q:Exit→Act→World→Prop}(hgd:o.guard=none)(t:TypeId)(m k:Operand)(ho:o.op=.lookup t m k true){kt et:TypeId}
  (hm:P.underlying t=some (.map kt et)) (hk:P.underlying kt=some .string) (r clock:Nat) (es:Array MapEntry) (n:ByteArray) (res:Option (Nat × Value)) (z:Value)
  (em:a.eval m=.map (some r)) (ek:a.eval k=.string n) (hb:ZG w r es clock) (hf:Instr.findNow .string (.string n) es.toList 0=some res) (hz:(zeroValue et).run P w=.ok z w) (v:Value) (ok:Bool) (hv:(res.map Prod.snd).getD z=v) (hok:res.isSome=ok)
  (h:wpList P ops Q rest (a.put o.dst (.tuple #[v,.bool ok])) w):wpList P ops Q (o::rest) a w:=by
 subst hv hok;refine wpList_plain hgd fun K hK=>?_;have hc:(Instr.checkKey es.isEmpty 10000 kt (.string n)).run P w=.ok () w:=MapKept.run_checkKey (k:=.string n) hk (by simp[MapKept.IsKey]) _ 9999
 have AA:(Instr.lookup t (.map (some r)) (.string n) true).run P w=.ok (.tuple #[(res.map Prod.snd).getD z,.bool res.isSome]) w:=by
  cases res with
  | none=>simp[Instr.lookup,run_underlying hm,MapKept.run_getObj_map hb,hc,MapKept.run_findKey hk hf,Result.andThen,hz]
  | some x=>obtain⟨i,v⟩:=x; simp[Instr.lookup,run_underlying hm,MapKept.run_getObj_map hb,hc,MapKept.run_findKey hk hf,Result.andThen]
 unfold Oper.wp execOp;simp only[ho,em,ek,Sem.run_bind,Sem.run_pure,AA,Result.andThen_ok];exact hK _ _ h
end
def zKf (k:Nat):Nat:=if k=7 then 190 else if k=8 then 191 else if k=9 then 192 else if k=10 then 193 else if k=11 then 194 else if k=12 then 195 else if k=13 then 196 else if k=14 then 197 else if k=15 then 198 else if k=16 then 199 else if k=17 then 200 else 201
def zPq (k:Nat):Value:=.agg #[.int .u8 (k:Int),.func (.func (zKf k)) #[] #[]]
def zLc:List (Bs × Nat)→Nat→List MapEntry
 | [],_=>[]
 | m::l,j=>{ key:=.string (yX m.1),val:=zPq m.2,born:=j } :: zLc l (j+1)
theorem zPO {a b:Bs}(h:yX a=yX b):a=b:=by
 have:=congrArg (fun x=>x.data.toList) h
 simpa [yX] using this
theorem zO6 (x m:Bs):Instr.sameNow .string (.string (yX x)) (.string (yX m))=some (m==x):=by
 obtain⟨r,h1,h2⟩:=MapKept.sameNow_of_keys (d:=.string) (a:=.string (yX x)) (b:=.string (yX m)) trivial trivial;rw[h1]
 congr 1
 cases r with
 | true=>
  have:=h2.1 rfl
  injection this with this;rw[zPO this]
  simp
 | false=>
  cases hc:m==x with
  | false=>rfl
  | true=>
   rw[zN] at hc;subst hc;exact(h2.2 rfl)
theorem zEl (x:Bs):∀(l:List (Bs × Nat)) (j i:Nat),∃i',Instr.findNow .string (.string (yX x)) (zLc l j) i=some (((l.find? fun m=>m.1==x).map Prod.snd).map fun k=>(i',zPq k))
 | [],_,_=>⟨0,rfl⟩
 | m::l,j,i=>by
  have hs:Instr.sameNow .string (.string (yX x)) (.string (yX m.1))=some (m.1==x):=zO6 x m.1
  cases hc:m.1==x with
  | true=>
   refine⟨i,?_⟩;rw[hc] at hs;rw[List.find?_cons,hc];simp only[zLc,Instr.findNow,hs]
   rfl
  | false=>
   obtain⟨i',h⟩:=zEl x l (j+1) (i+1);refine⟨i',?_⟩;rw[hc] at hs;rw[List.find?_cons,hc];simp only[zLc,Instr.findNow,hs];exact h
theorem zOy (w:World):(zeroValue 216).run Tryz.prog w=.ok (.agg #[.int .u8 0,.nilFunc]) w:=by kernel_rfl
def zHs (k:Option Nat):Int:=k.elim 0 (fun k=>(k:Int))
def zHv (k:Option Nat):Value:=k.elim .nilFunc (fun k=>.func (.func (zKf k)) #[] #[])
theorem zBl (x:Bs)(w:World):Calls Tryz.prog 183 #[.string (yX x)] w fun e w'=>e=.returned (.tuple #[.agg #[.int .u8 (zHs (ZO x)),zHv (ZO x)],.bool (ZO x).isSome])∧Ext w w':=by
 go_enter Tryz.func183,Tryz.ntmps183
 have HZ:=yD (Blk.new w 216 #[.int .u8 0,.nilFunc]);have BB:Hid (Ext w (w.alloc (.cells #[.int .u8 0,.nilFunc] 216))):=yD (Ext.alloc _ _)
 go_wp2_with (refine zCU rfl 226 rfl ?_)
 intro w1 Aa AW BD;obtain⟨gm,AX⟩:∃gm,gm=w.heap.size+1:=⟨_,rfl⟩
 have AE:(w.alloc (.cells #[.int .u8 0,.nilFunc] 216)).heap.size=gm:=by rw[AX]; simp
 first | rw[←AX] at AW | rw[AE] at AW
 have Ae:=yD AW;have A3:=yD (BB.out.trans Aa);have AA:Hid (w.heap.size≤gm∧w.heap.size≠gm):=yD (by omega);have Ar:=yD (HZ.out.ext Aa);have BF:=yD AE;have A9:Hid (w.heap.size+1=gm):=yD AX.symm;clear Aa AW BD AX AE
 try simp only[Act.put,yA,yC,yB]
 try rw[BF.out]
 try rw[A9.out]
 go_wp2_with (refine vU rfl 226 (.tmp 7) (.const (.string ⟨#[114,101,97,100]⟩)) (.tmp 8) rfl Tryz.underlying226 Tryz.underlying9 gm 0 _ ⟨#[114,101,97,100]⟩ (.agg #[.int .u8 7,.func (.func 190) #[] #[]]) rfl rfl rfl Ae.out (by kernel_rfl) ?_)
 intro w2 ht hm;have A4:=yD hm;have Ax:=yD (ht.ext A3.out AA.out.1);have Ai:=yD (ht.blk Ar.out AA.out.2);clear ht hm Ae A3 Ar
 try simp only[Act.put,yA,yC,yB]
 go_wp2_with (refine vU rfl 226 (.tmp 7) (.const (.string ⟨#[115,101,116]⟩)) (.tmp 9) rfl Tryz.underlying226 Tryz.underlying9 gm 1 _ ⟨#[115,101,116]⟩ (.agg #[.int .u8 8,.func (.func 191) #[] #[]]) rfl rfl rfl A4.out (by kernel_rfl) ?_)
 intro w3 ht hm;have Ay:=yD hm;have An:=yD (ht.ext Ax.out AA.out.1);have A8:=yD (ht.blk Ai.out AA.out.2);clear ht hm A4 Ax Ai
 try simp only[Act.put,yA,yC,yB]
 go_wp2_with (refine vU rfl 226 (.tmp 7) (.const (.string ⟨#[112,117,116]⟩)) (.tmp 10) rfl Tryz.underlying226 Tryz.underlying9 gm 2 _ ⟨#[112,117,116]⟩ (.agg #[.int .u8 9,.func (.func 192) #[] #[]]) rfl rfl rfl Ay.out (by kernel_rfl) ?_)
 intro w4 ht hm;have A2:=yD hm;have Aq:=yD (ht.ext An.out AA.out.1);have A6:=yD (ht.blk A8.out AA.out.2);clear ht hm Ay An A8
 try simp only[Act.put,yA,yC,yB]
 go_wp2_with (refine vU rfl 226 (.tmp 7) (.const (.string ⟨#[100,101,108,101,116,101]⟩)) (.tmp 11) rfl Tryz.underlying226 Tryz.underlying9 gm 3 _ ⟨#[100,101,108,101,116,101]⟩ (.agg #[.int .u8 10,.func (.func 193) #[] #[]]) rfl rfl rfl A2.out (by kernel_rfl) ?_)
 intro w5 ht hm;have Ak:=yD hm;have Au:=yD (ht.ext Aq.out AA.out.1);have A0:=yD (ht.blk A6.out AA.out.2);clear ht hm A2 Aq A6
 try simp only[Act.put,yA,yC,yB]
 go_wp2_with (refine vU rfl 226 (.tmp 7) (.const (.string ⟨#[115,99,97,110]⟩)) (.tmp 12) rfl Tryz.underlying226 Tryz.underlying9 gm 4 _ ⟨#[115,99,97,110]⟩ (.agg #[.int .u8 11,.func (.func 194) #[] #[]]) rfl rfl rfl Ak.out (by kernel_rfl) ?_)
 intro w6 ht hm;have Aw:=yD hm;have At:=yD (ht.ext Au.out AA.out.1);have Ap:=yD (ht.blk A0.out AA.out.2);clear ht hm Ak Au A0
 try simp only[Act.put,yA,yC,yB]
 go_wp2_with (refine vU rfl 226 (.tmp 7) (.const (.string ⟨#[108,111,99,107]⟩)) (.tmp 13) rfl Tryz.underlying226 Tryz.underlying9 gm 5 _ ⟨#[108,111,99,107]⟩ (.agg #[.int .u8 12,.func (.func 195) #[] #[]]) rfl rfl rfl Aw.out (by kernel_rfl) ?_)
 intro w7 ht hm;have A7:=yD hm;have Af:=yD (ht.ext At.out AA.out.1);have Ao:=yD (ht.blk Ap.out AA.out.2);clear ht hm Aw At Ap
 try simp only[Act.put,yA,yC,yB]
 go_wp2_with (refine vU rfl 226 (.tmp 7) (.const (.string ⟨#[114,101,108,101,97,115,101]⟩)) (.tmp 14) rfl Tryz.underlying226 Tryz.underlying9 gm 6 _ ⟨#[114,101,108,101,97,115,101]⟩ (.agg #[.int .u8 13,.func (.func 196) #[] #[]]) rfl rfl rfl A7.out (by kernel_rfl) ?_)
 intro w8 ht hm;have Ah:=yD hm;have Ag:=yD (ht.ext Af.out AA.out.1);have A5:=yD (ht.blk Ao.out AA.out.2);clear ht hm A7 Af Ao
 try simp only[Act.put,yA,yC,yB]
 go_wp2_with (refine vU rfl 226 (.tmp 7) (.const (.string ⟨#[105,102]⟩)) (.tmp 15) rfl Tryz.underlying226 Tryz.underlying9 gm 7 _ ⟨#[105,102]⟩ (.agg #[.int .u8 14,.func (.func 197) #[] #[]]) rfl rfl rfl Ah.out (by kernel_rfl) ?_)
 intro w9 ht hm;have Al:=yD hm;have As:=yD (ht.ext Ag.out AA.out.1);have Aj:=yD (ht.blk A5.out AA.out.2);clear ht hm Ah Ag A5
 try simp only[Act.put,yA,yC,yB]
 go_wp2_with (refine vU rfl 226 (.tmp 7) (.const (.string ⟨#[102,111,114]⟩)) (.tmp 16) rfl Tryz.underlying226 Tryz.underlying9 gm 8 _ ⟨#[102,111,114]⟩ (.agg #[.int .u8 15,.func (.func 198) #[] #[]]) rfl rfl rfl Al.out (by kernel_rfl) ?_)
 intro BI ht hm;have Av:=yD hm;have AS:=yD (ht.ext As.out AA.out.1);have AR:=yD (ht.blk Aj.out AA.out.2);clear ht hm Al As Aj
 try simp only[Act.put,yA,yC,yB]
 go_wp2_with (refine vU rfl 226 (.tmp 7) (.const (.string ⟨#[108,101,116]⟩)) (.tmp 17) rfl Tryz.underlying226 Tryz.underlying9 gm 9 _ ⟨#[108,101,116]⟩ (.agg #[.int .u8 16,.func (.func 199) #[] #[]]) rfl rfl rfl Av.out (by kernel_rfl) ?_)
 intro BG ht hm;have AT:=yD hm;have AL:=yD (ht.ext AS.out AA.out.1);have AF:=yD (ht.blk AR.out AA.out.2);clear ht hm Av AS AR
 try simp only[Act.put,yA,yC,yB]
 go_wp2_with (refine vU rfl 226 (.tmp 7) (.const (.string ⟨#[101,109,105,116]⟩)) (.tmp 18) rfl Tryz.underlying226 Tryz.underlying9 gm 10 _ ⟨#[101,109,105,116]⟩ (.agg #[.int .u8 17,.func (.func 200) #[] #[]]) rfl rfl rfl AT.out (by kernel_rfl) ?_)
 intro BH ht hm;have AJ:=yD hm;have AV:=yD (ht.ext AL.out AA.out.1);have AM:=yD (ht.blk AF.out AA.out.2);clear ht hm AT AL AF
 try simp only[Act.put,yA,yC,yB]
 go_wp2_with (refine vU rfl 226 (.tmp 7) (.const (.string ⟨#[114,111,108,108,98,97,99,107]⟩)) (.tmp 19) rfl Tryz.underlying226 Tryz.underlying9 gm 11 _ ⟨#[114,111,108,108,98,97,99,107]⟩ (.agg #[.int .u8 18,.func (.func 201) #[] #[]]) rfl rfl rfl AJ.out (by kernel_rfl) ?_)
 intro BJ ht hm;have AQ:=yD hm;have AO:=yD (ht.ext AV.out AA.out.1);have AI:=yD (ht.blk AM.out AA.out.2);clear ht hm AJ AV AM
 try simp only[Act.put,yA,yC,yB]
 go_wp2_with (refine vU rfl 226 (.tmp 7) (.const (.string ⟨#[99,104,111,112]⟩)) (.tmp 20) rfl Tryz.underlying226 Tryz.underlying9 gm 12 _ ⟨#[99,104,111,112]⟩ (.agg #[.int .u8 19,.func (.func 201) #[] #[]]) rfl rfl rfl AQ.out (by kernel_rfl) ?_)
 intro AG ht hm;have AY:=yD hm;have AK:=yD (ht.ext AO.out AA.out.1);have AP:=yD (ht.blk AI.out AA.out.2);clear ht hm AQ AO AI
 try simp only[Act.put,yA,yC,yB]
 obtain⟨i',Am⟩:=zEl x zI7 0 0;have BE:Hid (Instr.findNow .string (.string (yX x)) _ 0=some ((ZO x).map fun k=>(i',zPq k))):=yD Am;clear Am
 have HV:Hid ((((ZO x).map fun k=>(i',zPq k)).map Prod.snd).getD (.agg #[.int .u8 0,.nilFunc])=.agg #[.int .u8 (zHs (ZO x)),zHv (ZO x)]):=yD (by cases ZO x <;> rfl)
 have BA:Hid (((ZO x).map fun k=>(i',zPq k)).isSome=(ZO x).isSome):=yD (by cases ZO x <;> rfl)
 generalize hok:(ZO x).isSome=ok at *;generalize hfk:zHs (ZO x)=fk at *;generalize hff:zHv (ZO x)=ff at *
 have AH:Hid (ff.oneCell'=true):=yD (by rw[←hff]; cases ZO x <;> rfl)
 have AZ:=yD (And.intro hok (And.intro hfk hff));clear hok hfk hff;have BC:=AH.out
 have AN:([.int .u8 fk,ff]:List Value).all (·.oneCell')=true:=by simp[AH.out]; rfl
 go_wp2_with (first
  | (refine zEu rfl 226 (.tmp 23) (.tmp 24) rfl Tryz.underlying226 Tryz.underlying9 gm 13 _ (yX x) ((ZO x).map fun k=>(i',zPq k)) (.agg #[.int .u8 0,.nilFunc]) rfl rfl AY.out BE.out (zOy _) (.agg #[.int .u8 fk,ff]) ok HV.out BA.out ?_)
  | (refine vF rfl 216 (.tmp 5) (.tmp 26) rfl AG.heap.size #[.int .u8 fk,ff] (by rfl) (by rfl) 216 #[.int .u8 0,.nilFunc] (Blk.new _ _ _) (by kernel_rfl) rfl AN ?_; intro Az AD AC; have Ad:=yD (AD.ext (AK.out.trans (Ext.alloc AG (.cells #[.int .u8 0,.nilFunc] 216))) AK.out.size); have Ac:=yD (AD.blk (AP.out.ext (Ext.alloc AG (.cells #[.int .u8 0,.nilFunc] 216))) (Nat.ne_of_lt AP.out.lt)); have f0:Az.cell? ⟨AG.heap.size,0,none⟩=some (.int .u8 fk):=AC.cell 0; have f1:Az.cell? ⟨AG.heap.size,1,none⟩=some ff:=AC.cell 1; clear AD AC)
  | (refine vF rfl 216 (.tmp 2) (.tmp 28) rfl w.heap.size #[.int .u8 fk,ff] (by rfl) (by rfl) 216 #[.int .u8 0,.nilFunc] Ac.out (by kernel_rfl) rfl AN ?_; intro A1 AU AB; have Ab:=yD (AU.ext Ad.out (zU _)); have g0:A1.cell? ⟨w.heap.size,0,none⟩=some (.int .u8 fk):=AB.cell 0; have g1:A1.cell? ⟨w.heap.size,1,none⟩=some ff:=AB.cell 1; clear AU AB))
 refine bodyPost_ret (v:=.tuple #[.agg #[.int .u8 fk,ff],.bool ok]) (by simp[results,Tryz.results183,go_sem,g0,g1]) rfl ?_;rw[AZ.out.1,AZ.out.2.1,AZ.out.2.2];exact⟨rfl,Ab.out⟩
theorem zP6 {i:Nat}{s:Ps}(h:Hid (isP [61,61] s=true)):zEc i s=.ok () (s.adv.num i 1):=by unfold zEc; rw[if_pos h.out]
theorem zRq {i:Nat}{s:Ps}(h:Hid (isP [61,61] s=false)):zEc i s=vJ [60] s:=by unfold zEc; rw[h.out]; rfl
theorem zL5 (n:Nat)(st:Nat→Pm Unit)(hblk:VO 135 (n+1) (zAK st))(hfine:zCi n st):VO 197 (n+1) (zC0 st):=by
 intro w p B s R i h hG hi AR hn;have AK:=yD (Ran.refl h hG);have HI:=yD hi;have AH:=yD AR;have HN:=yD hn;have AU:=yD hblk;have AT:=yD hfine;obtain⟨Aa,Ae⟩:∃x,Hid (x=zC0 st i s):=⟨_,yD rfl⟩;rw[←Ae.out];have hm:=hmf;clear h hG hi AR hn hblk hfine
 go_enter Tryz.func197,Tryz.ntmps197
 go_wp2_with fail
 refine(zAd _ p B s R i AK.out.ps AK.out.lt.xU (AK.out.idx HI.out) (AK.out.phi AH.out)).mono ?_;intro e w1 hp
 rcases Ran.go Ae AK (ZL i _ AK.out.lt.xU) hp with ⟨s1,R1,Ac,rfl,AS⟩ | ⟨er,a,rfl,HX,HY⟩
 rotate_left
 ·refine xA (P:=Tryz.prog) (fn:=Tryz.f197) rfl ?_;rw[HX.out];exact HY.out
 clear hp
 cases hi2:isP [61,61] s1 with
 | false=>
  have AL:=yD hi2;clear hi2;have AX:=yD (bind_eq Ac (zRq AL))
  go_wp2_with fail
  refine(zAg _ p B s1 R1 [61,61] AL AS.out.ps).mono ?_;rintro e w2 ⟨rfl,hx⟩;have AF:=yD (AS.out.ext hx);clear hx
  go_wp2_with fail
  refine(vT _ p B s1 R1 [60] AF.out.ps).mono ?_;intro e w3 hp
  rcases Ran.go AX AF (xS _ _ AF.out.lt.xU) hp with ⟨s3,R3,Al,rfl,AM⟩ | ⟨er,a,rfl,HX,HY⟩
  rotate_left
  ·refine xA (P:=Tryz.prog) (fn:=Tryz.f197) rfl ?_;rw[HX.out];exact HY.out
  clear hp
  go_wp2_with fail
  refine(zAd _ p B s3 R3 i AM.out.ps AM.out.lt.xU (AM.out.idx HI.out) (AM.out.phi AH.out)).mono ?_;intro e w4 hp
  rcases Ran.go Al AM (ZL i _ AM.out.lt.xU) hp with ⟨s4,R4,Ak,rfl,AG⟩ | ⟨er,a,rfl,HX,HY⟩
  rotate_left
  ·refine xA (P:=Tryz.prog) (fn:=Tryz.f197) rfl ?_;rw[HX.out];exact HY.out
  clear hp
  go_wp2_with fail
  refine(AU.out _ p B s4 R4 i AG.out.ps AG.out.lt.xU (AG.out.idx HI.out) (AG.out.phi AH.out) (AG.out.few HN.out)).mono ?_;intro e w5 hp
  rcases Ran.go Ak AG (XV AT.out i _ AG.out.lt.xU (AG.out.few HN.out)) hp with ⟨s5,R5,Ab,rfl,AQ⟩ | ⟨er,a,rfl,HX,HY⟩
  rotate_left
  ·refine xA (P:=Tryz.prog) (fn:=Tryz.f197) rfl ?_;rw[HX.out];exact HY.out
  clear hp
  cases hi6:isP [101,108,115,101] s5 with
  | false=>
   have AN:=yD hi6;clear hi6;have AW:=yD (zIg (t:=[101,108,115,101]) (s:=s5) Ab AN)
   go_wp2_with fail
   refine(zAg _ p B s5 R5 [101,108,115,101] AN AQ.out.ps).mono ?_;rintro e w6 ⟨rfl,hx⟩;have AD:=yD (AQ.out.ext hx);clear hx
   go_wp2_with fail
   go_end0;rw[AW.out];exact xM.ok AD.out.okp
  | true=>
   have AN:=yD hi6;clear hi6;have AW:=yD (zE4 (t:=[101,108,115,101]) (s:=s5) Ab AN)
   go_wp2_with fail
   refine(JG _ p B s5 R5 [101,108,115,101] AN AQ.out.ps).mono ?_;rintro e w6 ⟨rfl,ho⟩;obtain⟨R6,hs⟩:=AQ.out.then ho (zAD AQ.out.lt.xU AN);have AD:=yD hs;clear ho hs;have Am:=yD (jT AW.out)
   go_wp2_with fail
   refine(AU.out _ p B s5.adv R6 i AD.out.ps AD.out.lt.xU (AD.out.idx HI.out) (AD.out.phi AH.out) (AD.out.few HN.out)).mono ?_;intro e w7 hp
   rcases Ran.go Am AD (XV AT.out i _ AD.out.lt.xU (AD.out.few HN.out)) hp with ⟨s7,R7,Af,rfl,An⟩ | ⟨er,a,rfl,HX,HY⟩
   rotate_left
   ·refine xA (P:=Tryz.prog) (fn:=Tryz.f197) rfl ?_;rw[HX.out];exact HY.out
   clear hp
   go_wp2_with fail
   go_end0;rw[Af.out];exact xM.ok An.out.okp
 | true=>
  have AL:=yD hi2;clear hi2;have AX:=yD (bind_eq Ac (zP6 AL))
  go_wp2_with fail
  refine(JG _ p B s1 R1 [61,61] AL AS.out.ps).mono ?_;rintro e w2 ⟨rfl,ho⟩;obtain⟨R2,hs⟩:=AS.out.then ho (zAD AS.out.lt.xU AL);have AF:=yD hs;clear ho hs
  go_wp2_with fail
  refine(zBM _ p B s1.adv R2 i AF.out.ps (AF.out.idx HI.out)).mono ?_;intro e w8 hp
  rcases Ran.go AX AF (ZE.num AF.out.lt.xU i 1) hp with ⟨s8,R8,Ag,rfl,AJ⟩ | ⟨er,a,rfl,HX,HY⟩
  rotate_left
  ·refine xA (P:=Tryz.prog) (fn:=Tryz.f197) rfl ?_;rw[HX.out];exact HY.out
  clear hp
  go_wp2_with fail
  refine(zAd _ p B s8 R8 i AJ.out.ps AJ.out.lt.xU (AJ.out.idx HI.out) (AJ.out.phi AH.out)).mono ?_;intro e w9 hp
  rcases Ran.go Ag AJ (ZL i _ AJ.out.lt.xU) hp with ⟨s9,R9,Ai,rfl,AE⟩ | ⟨er,a,rfl,HX,HY⟩
  rotate_left
  ·refine xA (P:=Tryz.prog) (fn:=Tryz.f197) rfl ?_;rw[HX.out];exact HY.out
  clear hp
  go_wp2_with fail
  refine(AU.out _ p B s9 R9 i AE.out.ps AE.out.lt.xU (AE.out.idx HI.out) (AE.out.phi AH.out) (AE.out.few HN.out)).mono ?_;intro e Ar hp
  rcases Ran.go Ai AE (XV AT.out i _ AE.out.lt.xU (AE.out.few HN.out)) hp with ⟨AO,Ad,AP,rfl,AC⟩ | ⟨er,a,rfl,HX,HY⟩
  rotate_left
  ·refine xA (P:=Tryz.prog) (fn:=Tryz.f197) rfl ?_;rw[HX.out];exact HY.out
  clear hp
  cases hi11:isP [101,108,115,101] AO with
  | false=>
   have AB:=yD hi11;clear hi11;have AI:=yD (zIg (t:=[101,108,115,101]) (s:=AO) AP AB)
   go_wp2_with fail
   refine(zAg _ p B AO Ad [101,108,115,101] AB AC.out.ps).mono ?_;rintro e Aj ⟨rfl,hx⟩;have AA:=yD (AC.out.ext hx);clear hx
   go_wp2_with fail
   go_end0;rw[AI.out];exact xM.ok AA.out.okp
  | true=>
   have AB:=yD hi11;clear hi11;have AI:=yD (zE4 (t:=[101,108,115,101]) (s:=AO) AP AB)
   go_wp2_with fail
   refine(JG _ p B AO Ad [101,108,115,101] AB AC.out.ps).mono ?_;rintro e Aj ⟨rfl,ho⟩;obtain⟨Ah,hs⟩:=AC.out.then ho (zAD AC.out.lt.xU AB);have AA:=yD hs;clear ho hs;have AY:=yD (jT AI.out)
   go_wp2_with fail
   refine(AU.out _ p B AO.adv Ah i AA.out.ps AA.out.lt.xU (AA.out.idx HI.out) (AA.out.phi AH.out) (AA.out.few HN.out)).mono ?_;intro e Ap hp
   rcases Ran.go AY AA (XV AT.out i _ AA.out.lt.xU (AA.out.few HN.out)) hp with ⟨Aq,Ao,AZ,rfl,AV⟩ | ⟨er,a,rfl,HX,HY⟩
   rotate_left
   ·refine xA (P:=Tryz.prog) (fn:=Tryz.f197) rfl ?_;rw[HX.out];exact HY.out
   clear hp
   go_wp2_with fail
   go_end0;rw[AZ.out];exact xM.ok AV.out.okp
theorem zPN (n:Nat)(st:Nat→Pm Unit)(hblk:VO 135 (n+1) (zAK st))(hfine:zCi n st):VO 198 (n+1) (zHf st):=by
 intro w p B s R i h hG hi AF hn;have AG:=yD (Ran.refl h hG);have HI:=yD hi;have AO:=yD AF;have HN:=yD hn;have AZ:=yD hblk;have Ab:=yD hfine;obtain⟨AQ,AR⟩:∃x,Hid (x=zHf st i s):=⟨_,yD rfl⟩;rw[←AR.out];have hm:=hmf;clear h hG hi AF hn hblk hfine
 go_enter Tryz.func198,Tryz.ntmps198
 go_wp2_with fail
 refine(XW _ p B s R i AG.out.ps (AG.out.idx HI.out)).mono ?_;intro e Aj hp
 rcases Ran.go AR AG (ZI i _ AG.out.lt.xU) hp with ⟨AW,Ac,AJ,rfl,AD⟩ | ⟨er,a,rfl,HX,HY⟩
 rotate_left
 ·refine xA (P:=Tryz.prog) (fn:=Tryz.f198) rfl ?_;rw[HX.out];exact HY.out
 clear hp
 go_wp2_with fail
 refine(vT _ p B AW Ac [61] AD.out.ps).mono ?_;intro e Af hp
 rcases Ran.go AJ AD (xS _ _ AD.out.lt.xU) hp with ⟨AT,AY,AK,rfl,AB⟩ | ⟨er,a,rfl,HX,HY⟩
 rotate_left
 ·refine xA (P:=Tryz.prog) (fn:=Tryz.f198) rfl ?_;rw[HX.out];exact HY.out
 clear hp
 go_wp2_with fail
 refine(zE8 _ p B AT AY i AB.out.ps AB.out.lt.xU (AB.out.idx HI.out) (AB.out.nd AO.out)).mono ?_;intro e Ag hp
 rcases Ran.go AK AB (zBR i _ AB.out.lt.xU) hp with ⟨AV,Aa,AN,rfl,AE⟩ | ⟨er,a,rfl,HX,HY⟩
 rotate_left
 ·refine xA (P:=Tryz.prog) (fn:=Tryz.f198) rfl ?_;rw[HX.out];exact HY.out
 clear hp
 go_wp2_with fail
 refine(vT _ p B AV Aa [116,111] AE.out.ps).mono ?_;intro e Ai hp
 rcases Ran.go AN AE (xS _ _ AE.out.lt.xU) hp with ⟨Ad,AS,AI,rfl,AC⟩ | ⟨er,a,rfl,HX,HY⟩
 rotate_left
 ·refine xA (P:=Tryz.prog) (fn:=Tryz.f198) rfl ?_;rw[HX.out];exact HY.out
 clear hp
 go_wp2_with fail
 refine(zE8 _ p B Ad AS i AC.out.ps AC.out.lt.xU (AC.out.idx HI.out) (AC.out.nd AO.out)).mono ?_;intro e Ak hp
 rcases Ran.go AI AC (zBR i _ AC.out.lt.xU) hp with ⟨AX,AU,AM,rfl,AA⟩ | ⟨er,a,rfl,HX,HY⟩
 rotate_left
 ·refine xA (P:=Tryz.prog) (fn:=Tryz.f198) rfl ?_;rw[HX.out];exact HY.out
 clear hp;have AP:=yD (jT AM.out)
 go_wp2_with fail
 refine(AZ.out _ p B AX AU i AA.out.ps AA.out.lt.xU (AA.out.idx HI.out) (AA.out.phi AO.out) (AA.out.few HN.out)).mono ?_;intro e Al hp
 rcases Ran.go AP AA (XV Ab.out i _ AA.out.lt.xU (AA.out.few HN.out)) hp with ⟨Ae,Ah,AH,rfl,AL⟩ | ⟨er,a,rfl,HX,HY⟩
 rotate_left
 ·refine xA (P:=Tryz.prog) (fn:=Tryz.f198) rfl ?_;rw[HX.out];exact HY.out
 clear hp
 go_wp2_with fail
 go_end0;rw[AH.out];exact xM.ok AL.out.okp
theorem JZ {t:Bs}{k:Nat}(h:ZO t=some k):7≤k∧k≤19:=by
 unfold ZO at h
 cases hf:zI7.find? fun m=>m.1==t with
 | none=>rw[hf] at h; cases h
 | some m=>
  rw[hf] at h;injection h with h;subst h;have hm:=List.mem_of_find?_eq_some hf
  have ha:∀m ∈ zI7,7≤m.2∧m.2≤19:=by decide
  exact ha m hm
theorem zFa {k:Nat}(h:7≤k∧k≤19):k=7∨k=8∨k=9∨k=10∨k=11∨k=12∨k=13∨k=14∨k=15∨k=16∨k=17∨k=18∨k=19:=by omega
theorem zFt {k:Nat}(h:7≤k∧k≤19):∀args w,(callFunc (zKf k) args).run Tryz.prog w=.ok (.enter (zKf k) args) w:=by
 rcases zFa h with rfl | rfl | rfl | rfl | rfl | rfl | rfl | rfl | rfl | rfl | rfl | rfl | rfl
 ·exact enters_of Tryz.func190 (by kernel_rfl) rfl
 ·exact enters_of Tryz.func191 (by kernel_rfl) rfl
 ·exact enters_of Tryz.func192 (by kernel_rfl) rfl
 ·exact enters_of Tryz.func193 (by kernel_rfl) rfl
 ·exact enters_of Tryz.func194 (by kernel_rfl) rfl
 ·exact enters_of Tryz.func195 (by kernel_rfl) rfl
 ·exact enters_of Tryz.func196 (by kernel_rfl) rfl
 ·exact enters_of Tryz.func197 (by kernel_rfl) rfl
 ·exact enters_of Tryz.func198 (by kernel_rfl) rfl
 ·exact enters_of Tryz.func199 (by kernel_rfl) rfl
 ·exact enters_of Tryz.func200 (by kernel_rfl) rfl
 ·exact enters_of Tryz.func201 (by kernel_rfl) rfl
 ·exact enters_of Tryz.func201 (by kernel_rfl) rfl
theorem zHL (n:Nat)(st:Nat→Pm Unit)(hst:VO 165 n st)(hfine:zCi n st)(h1:zHu n st)(k:Nat)(hk:7≤k∧k≤19):VO (zKf k) (n+1) (VL st k):=by
 have AB:=zIk n st hst hfine h1;intro w p B s R i h hG hi AA hn
 rcases zFa hk with rfl | rfl | rfl | rfl | rfl | rfl | rfl | rfl | rfl | rfl | rfl | rfl | rfl
 ·exact zOq w p B s R i h hG hi AA
 ·exact zPH w p B s R i h hG hi AA
 ·exact zKx w p B s R i h hG hi AA
 ·exact zHd w p B s R i h hG hi AA
 ·exact zOa w p B s R i h hG hi AA
 ·exact zN4 w p B s R i h hG hi AA
 ·exact zIV w p B s R i h hG hi AA
 ·exact zL5 n st AB hfine w p B s R i h hG hi AA hn
 ·exact zPN n st AB hfine w p B s R i h hG hi AA hn
 ·exact zQk w p B s R i h hG hi AA
 ·exact zAd w p B s R i h hG hi AA
 ·exact zH2 w p B s R i h
 ·exact zH2 w p B s R i h
theorem zM6 {f i:Nat}{s:Ps}:YG (f+1) i s=match (if s.hd.kind=1 then ZO s.hd.text else none) with
  | none=>.err 50 s.hd.at_
  | some k=>(VL (YG f) k s.nd.length (s.xH i k).adv).bind fun _ s=>if k=14∨k=15 then .ok () s else vJ [59] s:=rfl
theorem zGM {f i:Nat}{s:Ps}(h:ZO s.hd.text=none∨s.hd.kind≠1):YG (f+1) i s=.err 50 s.hd.at_:=by
 rw[zM6]
 rcases h with h | h
 ·rw[h]; split <;> simp_all
 ·rw[if_neg h]
theorem zG7 {f i k:Nat}{s:Ps}(h:ZO s.hd.text=some k)(h1:s.hd.kind=1):YG (f+1) i s=(VL (YG f) k s.nd.length (s.xH i k).adv).bind fun _ s=>if k=14∨k=15 then .ok () s else vJ [59] s:=by
 rw[zM6,if_pos h1,h]
theorem zDQ:∀f,zHu f (YG f)
 | 0=>fun i s s' g hl h=>by cases h
 | f+1=>fun i s s' g hl h=>by
  by_cases h1:s.hd.kind=1
  ·cases hf:ZO s.hd.text with
   | none=>rw[zGM (.inl hf)] at h; cases h
   | some k=>
    rw[zG7 hf h1] at h;have hp:=g.pos
    have h4:(s.xH i k).hd.kind≠4:=by show s.hd.kind≠4; omega
    have ga:=(vC g i k).adv h4;have AB:=jN (s:=s.xH i k);rw[YB] at AB;have hr:=zCn (zAb f) k s.nd.length (s.xH i k).adv ga (by omega)
    cases hq:VL (YG f) k s.nd.length (s.xH i k).adv with
    | err e p=>rw[hq] at h; cases h
    | ok a t=>
     rw[hq] at h hr;have ht:=hr.ts;have h':(if k=14∨k=15 then Res.ok () t else vJ [59] t)=.ok () s':=h
     split at h'
     ·injection h' with _ e; subst e; omega
     ·have AA:=xS [59] t hr.xU;rw[h'] at AA
      have:=AA.ts
      omega
  ·rw[zGM (.inr h1)] at h; cases h
theorem zR5 (f:Nat)(ih:VO 165 f (YG f))(w:World)(p B:Nat)(s:Ps)(R:xW)(i:Nat)(h:PS w p B s R)(hG:Good s)(hi:i<s.nd.length)(hbig:s.phi≤1000000)(hn:s.ts.length≤f+1)(hfo:ZO s.hd.text=none) :
  Calls Tryz.prog 165 #[.pointer (some ⟨p,0,none⟩),.int .i64 (i:Int)] w (xM w p B R (YG (f+1) i s)):=by
 have HP:=yD h;have HG:=yD hG;have HI:=yD hi;have AO:=yD hbig;have HN:=yD hn;have AN:=yD ih;obtain⟨AA,AD⟩:∃x,Hid (x=YG (f+1) i s):=⟨_,yD rfl⟩;rw[←AD.out];have hm:=hmf;have AL:=zB1;have AQ:=VA;have HE:Hid (AA=.err 50 s.hd.at_):=yD (AD.out.trans (zGM (.inl hfo)));have AI:=yD hfo;clear hfo;clear h hG hi hbig hn ih
 go_enter Tryz.func165,Tryz.ntmps165
 go_wp2_with fail
 refine(jS _ p s R HP.out.ts).mono ?_;rintro e w1 ⟨rfl,AB⟩;have AH:=yD AB;have AK:=yD (HP.out.ext AB);clear AB;unfold ZM
 go_wp2_with fail
 refine(zBl s.hd.text w1).mono ?_;rintro e w2 ⟨rfl,AC⟩;have AF:=yD (AH.out.trans AC);have AP:=yD (AK.out.ext AC);clear AC;rw[AI.out];simp only[zHs,zHv,Option.elim,Option.isSome]
 go_wp2_with (refine vF rfl 216 (.tmp 4) (.tmp 12) rfl w2.heap.size #[.int .u8 0,.nilFunc] (by rfl) (by rfl) 216 #[.int .u8 0,.nilFunc] (Blk.new _ _ _) (by kernel_rfl) rfl rfl ?_; intro w3 AE AG; have AJ:=yD (AE.ext (AF.out.trans (Ext.alloc w2 (.cells #[.int .u8 0,.nilFunc] 216))) AF.out.size); have AM:=yD AG; clear AE AG)
 refine(zAE _ p 50).mono ?_;rintro e w4 ⟨rfl,rfl⟩;have HF:Hid (xM w p B R AA (jL 50) w3):=yD (by rw[HE.out]; exact⟨rfl,s,rfl,HP.out.okp AJ.out⟩);exact xA (P:=Tryz.prog) (fn:=Tryz.f165) rfl HF.out
theorem zRE (f:Nat)(ih:VO 165 f (YG f))(w:World)(p B:Nat)(s:Ps)(R:xW)(i:Nat)(h:PS w p B s R)(hG:Good s)(hi:i<s.nd.length)(hbig:s.phi≤1000000)(hn:s.ts.length≤f+1)(k:Nat)(hfo:ZO s.hd.text=some k)(hk:s.hd.kind≠1) :
  Calls Tryz.prog 165 #[.pointer (some ⟨p,0,none⟩),.int .i64 (i:Int)] w (xM w p B R (YG (f+1) i s)):=by
 have HP:=yD h;have HG:=yD hG;have HI:=yD hi;have AQ:=yD hbig;have HN:=yD hn;have AP:=yD ih;obtain⟨AA,AD⟩:∃x,Hid (x=YG (f+1) i s):=⟨_,yD rfl⟩;rw[←AD.out];have hm:=hmf;have AN:=zB1;have AS:=VA;have HE:Hid (AA=.err 50 s.hd.at_):=yD (AD.out.trans (zGM (.inr hk)));have AJ:=yD hfo
 have b1:((s.hd.kind:Int) != 1)=true:=by rw[zD]; omega
 have b2:¬(s.hd.kind:Int)=1:=by omega
 clear hfo hk;clear h hG hi hbig hn ih
 go_enter Tryz.func165,Tryz.ntmps165
 go_wp2_with fail
 refine(jS _ p s R HP.out.ts).mono ?_;rintro e w1 ⟨rfl,AC⟩;have AL:=yD AC;have AK:=yD (HP.out.ext AC);clear AC;unfold ZM
 go_wp2_with fail
 refine(zBl s.hd.text w1).mono ?_;rintro e w2 ⟨rfl,AB⟩;have AE:=yD (AL.out.trans AB);have AR:=yD (AK.out.ext AB);clear AB;rw[AJ.out];simp only[zHs,zHv,Option.elim,Option.isSome];generalize zKf k=K at *
 go_wp2_with (first
  | (refine vF rfl 216 (.tmp 4) (.tmp 12) rfl w2.heap.size #[.int .u8 (k:Int),.func (.func K) #[] #[]] (by rfl) (by rfl) 216 #[.int .u8 0,.nilFunc] (Blk.new _ _ _) (by kernel_rfl) rfl rfl ?_; intro w3 AG AI; have AH:=yD (AG.ext (AE.out.trans (Ext.alloc w2 (.cells #[.int .u8 0,.nilFunc] 216))) AE.out.size); have AO:=yD AI; clear AG AI)
  | (refine(jS _ p s R (HP.out.ext AH.out).ts).mono ?_; rintro e w4 ⟨rfl,AF⟩; have AM:=yD (AH.out.trans AF); clear AF; unfold ZM))
 refine(zAE _ p 50).mono ?_;rintro e w5 ⟨rfl,rfl⟩;have HF:Hid (xM w p B R AA (jL 50) w4):=yD (by rw[HE.out]; exact⟨rfl,s,rfl,HP.out.okp AM.out⟩);exact xA (P:=Tryz.prog) (fn:=Tryz.f165) rfl HF.out
theorem zR3 (f:Nat)(ih:VO 165 f (YG f))(w:World)(p B:Nat)(s:Ps)(R:xW)(i:Nat)(h:PS w p B s R)(hG:Good s)(hi:i<s.nd.length)(hbig:s.phi≤1000000)(hn:s.ts.length≤f+1)(k:Nat)(hfo:ZO s.hd.text=some k)(hk:s.hd.kind=1)(hk14:k=14∨k=15) :
  Calls Tryz.prog 165 #[.pointer (some ⟨p,0,none⟩),.int .i64 (i:Int)] w (xM w p B R (YG (f+1) i s)):=by
 have HP:=yD h;have HG:=yD hG;have HI:=yD hi;have AW:=yD hbig;have HN:=yD hn;have At:=yD ih;obtain⟨AB,Aa⟩:∃x,Hid (x=YG (f+1) i s):=⟨_,yD rfl⟩;rw[←Aa.out];have hm:=hmf;have Av:=zB1;have Ax:=VA;have HL:=yD (Aa.out.trans (zG7 hfo hk));have Aj:=yD hfo;have HK:=yD hk;have Au:=yD (JZ hfo);have AE:=yD hk14;have Ar:=hG.pos;have Ak:=yD (zHL f (YG f) ih (zAb f) (zDQ f) k (JZ hfo));have Aq:=yD (zFt (JZ hfo));have AP:Hid (Good (s.xH i k).adv):=yD ((vC hG i k).adv (by show s.hd.kind≠4; omega));have Ac:Hid ((s.xH i k).adv.ts.length=s.ts.length-1):=yD (by rw[jN,YB]);have Am:Hid ((s.xH i k).adv.nd.length=s.nd.length+1):=yD (jH s i k);have Ap:Hid (ZE s (s.xH i k).adv):=yD (XR.at (i:=i) (k:=k) (r:=.ok () (s.xH i k).adv) (zBY (vC hG i k) (by show s.hd.kind≠4; omega)));have Ag:Hid ((s.xH i k).hd.kind≠4):=yD (by show s.hd.kind≠4; omega)
 have Ah:(s.hd.kind:Int)=1:=by omega
 clear hfo hk hk14;clear h hG hi hbig hn ih
 go_enter Tryz.func165,Tryz.ntmps165
 go_wp2_with fail
 refine(jS _ p s R HP.out.ts).mono ?_;rintro e w1 ⟨rfl,AO⟩;have Ao:=yD AO;have Al:=yD (HP.out.ext AO);clear AO;unfold ZM
 go_wp2_with fail
 refine(zBl s.hd.text w1).mono ?_;rintro e w2 ⟨rfl,AN⟩;have AL:=yD (Ao.out.trans AN);have Aw:=yD (Al.out.ext AN);clear AN;rw[Aj.out];simp only[zHs,zHv,Option.elim,Option.isSome];have he:=Aq.out;generalize zKf k=K at *
 go_wp2_with (first
  | (refine vF rfl 216 (.tmp 4) (.tmp 12) rfl w2.heap.size #[.int .u8 (k:Int),.func (.func K) #[] #[]] (by rfl) (by rfl) 216 #[.int .u8 0,.nilFunc] (Blk.new _ _ _) (by kernel_rfl) rfl rfl ?_; intro w3 Ab AZ; have AV:=yD (Ab.ext (AL.out.trans (Ext.alloc w2 (.cells #[.int .u8 0,.nilFunc] 216))) AL.out.size); have An:=yD AZ; clear Ab AZ)
  | (refine(jS _ p s R (HP.out.ext AV.out).ts).mono ?_; rintro e w4 ⟨rfl,AJ⟩; have AX:=yD (AV.out.trans AJ); have AU:=yD (An.out.ext AJ); have f0:w4.cell? ⟨w2.heap.size,0,none⟩=some (.int .u8 (k:Int)):=AU.out.cell 0; clear AJ; unfold ZM))
 have AQ:Hid (Safe w4 (xJ p R) w2.heap.size 216 #[.int .u8 (k:Int),.func (.func K) #[] #[]]):=yD ⟨AU.out,fun h=>by
  have h1:=HP.out.zCy h;have h2:=AL.out.size
  omega⟩
 obtain⟨gf,AS⟩:∃gf,Hid (w2.heap.size=gf):=⟨_,yD rfl⟩;rw[AS.out];rw[AS.out] at AQ;clear f0 Ah;refine(zDf w4 p B s R i k (HP.out.ext AX.out) HI.out (by have:=AW.out; unfold Ps.phi at this; omega) HG.out).mono ?_;rintro e w5 ⟨rfl,R5,AC,AK⟩;have As:=yD AC;have Ai:=yD ((xK.ext (M:=xJ p R) AX.out).trans AK);have AH:=yD (AQ.out.xO AK);have AT:=yD (AC.zRP Ag.out);have Ae:Hid (xK w5 (xJ p R5) (w5.setCell ⟨p,0,none⟩ (.slice (some ⟨R5.bt,R5.ot+5,none⟩) ((s.xH i k).ts.length-1) (R5.ct-1))) (xJ p R5.adv)):=yD (xK.set (.inl rfl));have AG:Hid (Ran w p B R s (w5.setCell ⟨p,0,none⟩ (.slice (some ⟨R5.bt,R5.ot+5,none⟩) ((s.xH i k).ts.length-1) (R5.ct-1))) R5.adv (s.xH i k).adv):=yD ⟨AT.out,Ai.out.trans Ae.out,Ap.out⟩;clear AT
 have h2:2≤(s.xH i k).ts.length:=by
  have hg:=AP.out.pos;rw[jN] at hg;omega
 have h3:=AC.zHF;have x0:=AC.x0;have z0:=AC.blk.frozen 0;clear AC AK;generalize (s.xH i k).ts.length=nt at *;generalize R5.ct=ct at *
 go_upto_region 5 with fail
 generalize w5.setCell ⟨p,0,none⟩ (.slice (some ⟨R5.bt,R5.ot+5,none⟩) (nt-1) (ct-1))=w6 at *;have AD:=yD (AH.out.xO Ae.out);have f1:w6.cell? ⟨gf,1,none⟩=some (.func (.func K) #[] #[]):=AD.out.1.cell 1;clear x0 z0 h2 h3
 go_wp2_with fail
 refine(Ak.out w6 p B _ _ s.nd.length AG.out.ps AP.out (by rw[Am.out]; omega) (AG.out.phi AW.out) (by rw[Ac.out]; have:=HN.out; omega)).mono ?_;intro e w7 hp;have AA:=zCn (zAb f) k s.nd.length (s.xH i k).adv AP.out (by rw[Ac.out]; have:=HN.out; omega);have AF:∀ {R' w'},OkP w6 p B R5.adv R' w'→True:=fun _=>trivial
 cases hr:VL (YG f) k s.nd.length (s.xH i k).adv with
 | err er a=>
  rw[hr] at hp;obtain⟨rfl,ho⟩:=hp;have HF:Hid (xM w p B R AB (jL er) w7):=yD (by rw[HL.out,hr]; exact JE.trans AG.out.mv ⟨rfl,ho⟩);exact xA (P:=Tryz.prog) (fn:=Tryz.f165) rfl HF.out
 | ok a s7=>
  rw[hr] at hp AA;obtain⟨rfl,R7,AY,AM⟩:=hp;have Ad:Hid (Ran w p B R s w7 R7 s7):=yD ⟨AY,AG.out.mv.trans AM,AG.out.lt.trans AA⟩;have AI:=yD (AD.out.xO AM);have f0:w7.cell? ⟨gf,0,none⟩=some (.int .u8 (k:Int)):=AI.out.1.cell 0;have Af:Hid (AB=if k=14∨k=15 then .ok () s7 else vJ [59] s7):=yD (by rw[HL.out,hr]; rfl);clear hr AY AM AA f1 AF he;have AR:Hid (AB=.ok () s7):=yD (by rw[Af.out,if_pos AE.out])
  rcases AE.out with hk | hk
  ·subst hk
   go_wp2_with fail
   go_end0;rw[AR.out];exact xM.ok Ad.out.okp
  ·subst hk
   go_wp2_with fail
   go_end0;rw[AR.out];exact xM.ok Ad.out.okp
theorem zRv (f:Nat)(ih:VO 165 f (YG f))(w:World)(p B:Nat)(s:Ps)(R:xW)(i:Nat)(h:PS w p B s R)(hG:Good s)(hi:i<s.nd.length)(hbig:s.phi≤1000000)(hn:s.ts.length≤f+1)(k:Nat)(hfo:ZO s.hd.text=some k)(hk:s.hd.kind=1)(hk14:¬(k=14∨k=15)) :
  Calls Tryz.prog 165 #[.pointer (some ⟨p,0,none⟩),.int .i64 (i:Int)] w (xM w p B R (YG (f+1) i s)):=by
 have HP:=yD h;have HG:=yD hG;have HI:=yD hi;have AW:=yD hbig;have HN:=yD hn;have Ay:=yD ih;obtain⟨AC,Aa⟩:∃x,Hid (x=YG (f+1) i s):=⟨_,yD rfl⟩;rw[←Aa.out];have hm:=hmf;have A1:=zB1;have A3:=VA;have HL:=yD (Aa.out.trans (zG7 hfo hk));have Al:=yD hfo;have HK:=yD hk;have A0:=yD (JZ hfo);have AA:=yD hk14;have Au:=hG.pos;have Am:=yD (zHL f (YG f) ih (zAb f) (zDQ f) k (JZ hfo));have As:=yD (zFt (JZ hfo));have AP:Hid (Good (s.xH i k).adv):=yD ((vC hG i k).adv (by show s.hd.kind≠4; omega));have Ac:Hid ((s.xH i k).adv.ts.length=s.ts.length-1):=yD (by rw[jN,YB]);have Ao:Hid ((s.xH i k).adv.nd.length=s.nd.length+1):=yD (jH s i k);have Ar:Hid (ZE s (s.xH i k).adv):=yD (XR.at (i:=i) (k:=k) (r:=.ok () (s.xH i k).adv) (zBY (vC hG i k) (by show s.hd.kind≠4; omega)));have Ag:Hid ((s.xH i k).hd.kind≠4):=yD (by show s.hd.kind≠4; omega)
 have Aj:(s.hd.kind:Int)=1:=by omega
 clear hfo hk hk14;clear h hG hi hbig hn ih
 go_enter Tryz.func165,Tryz.ntmps165
 go_wp2_with fail
 refine(jS _ p s R HP.out.ts).mono ?_;rintro e w1 ⟨rfl,AO⟩;have Aq:=yD AO;have An:=yD (HP.out.ext AO);clear AO;unfold ZM
 go_wp2_with fail
 refine(zBl s.hd.text w1).mono ?_;rintro e w2 ⟨rfl,AN⟩;have AL:=yD (Aq.out.trans AN);have A2:=yD (An.out.ext AN);clear AN;rw[Al.out];simp only[zHs,zHv,Option.elim,Option.isSome];have he:=As.out;generalize zKf k=K at *
 go_wp2_with (first
  | (refine vF rfl 216 (.tmp 4) (.tmp 12) rfl w2.heap.size #[.int .u8 (k:Int),.func (.func K) #[] #[]] (by rfl) (by rfl) 216 #[.int .u8 0,.nilFunc] (Blk.new _ _ _) (by kernel_rfl) rfl rfl ?_; intro w3 Ab AY; have AV:=yD (Ab.ext (AL.out.trans (Ext.alloc w2 (.cells #[.int .u8 0,.nilFunc] 216))) AL.out.size); have Ap:=yD AY; clear Ab AY)
  | (refine(jS _ p s R (HP.out.ext AV.out).ts).mono ?_; rintro e w4 ⟨rfl,AJ⟩; have AX:=yD (AV.out.trans AJ); have AU:=yD (Ap.out.ext AJ); have f0:w4.cell? ⟨w2.heap.size,0,none⟩=some (.int .u8 (k:Int)):=AU.out.cell 0; clear AJ; unfold ZM))
 have AR:Hid (Safe w4 (xJ p R) w2.heap.size 216 #[.int .u8 (k:Int),.func (.func K) #[] #[]]):=yD ⟨AU.out,fun h=>by
  have h1:=HP.out.zCy h;have h2:=AL.out.size
  omega⟩
 obtain⟨gf,AS⟩:∃gf,Hid (w2.heap.size=gf):=⟨_,yD rfl⟩;rw[AS.out];rw[AS.out] at AR;clear f0 Aj;refine(zDf w4 p B s R i k (HP.out.ext AX.out) HI.out (by have:=AW.out; unfold Ps.phi at this; omega) HG.out).mono ?_;rintro e w5 ⟨rfl,R5,AD,AK⟩;have Av:=yD AD;have Ak:=yD ((xK.ext (M:=xJ p R) AX.out).trans AK);have AH:=yD (AR.out.xO AK);have AT:=yD (AD.zRP Ag.out);have Ad:Hid (xK w5 (xJ p R5) (w5.setCell ⟨p,0,none⟩ (.slice (some ⟨R5.bt,R5.ot+5,none⟩) ((s.xH i k).ts.length-1) (R5.ct-1))) (xJ p R5.adv)):=yD (xK.set (.inl rfl));have AG:Hid (Ran w p B R s (w5.setCell ⟨p,0,none⟩ (.slice (some ⟨R5.bt,R5.ot+5,none⟩) ((s.xH i k).ts.length-1) (R5.ct-1))) R5.adv (s.xH i k).adv):=yD ⟨AT.out,Ak.out.trans Ad.out,Ar.out⟩;clear AT
 have h2:2≤(s.xH i k).ts.length:=by
  have hg:=AP.out.pos;rw[jN] at hg;omega
 have h3:=AD.zHF;have x0:=AD.x0;have z0:=AD.blk.frozen 0;clear AD AK;generalize (s.xH i k).ts.length=nt at *;generalize R5.ct=ct at *
 go_upto_region 5 with fail
 generalize w5.setCell ⟨p,0,none⟩ (.slice (some ⟨R5.bt,R5.ot+5,none⟩) (nt-1) (ct-1))=w6 at *;have AE:=yD (AH.out.xO Ad.out);have f1:w6.cell? ⟨gf,1,none⟩=some (.func (.func K) #[] #[]):=AE.out.1.cell 1;clear x0 z0 h2 h3
 go_wp2_with fail
 refine(Am.out w6 p B _ _ s.nd.length AG.out.ps AP.out (by rw[Ao.out]; omega) (AG.out.phi AW.out) (by rw[Ac.out]; have:=HN.out; omega)).mono ?_;intro e w7 hp;have AB:=zCn (zAb f) k s.nd.length (s.xH i k).adv AP.out (by rw[Ac.out]; have:=HN.out; omega);have AF:∀ {R' w'},OkP w6 p B R5.adv R' w'→True:=fun _=>trivial
 cases hr:VL (YG f) k s.nd.length (s.xH i k).adv with
 | err er a=>
  rw[hr] at hp;obtain⟨rfl,ho⟩:=hp;have HF:Hid (xM w p B R AC (jL er) w7):=yD (by rw[HL.out,hr]; exact JE.trans AG.out.mv ⟨rfl,ho⟩);exact xA (P:=Tryz.prog) (fn:=Tryz.f165) rfl HF.out
 | ok a s7=>
  rw[hr] at hp AB;obtain⟨rfl,R7,AZ,AM⟩:=hp;have AQ:Hid (Ran w p B R s w7 R7 s7):=yD ⟨AZ,AG.out.mv.trans AM,AG.out.lt.trans AB⟩;have AI:=yD (AE.out.xO AM);have f0:w7.cell? ⟨gf,0,none⟩=some (.int .u8 (k:Int)):=AI.out.1.cell 0;have Ae:Hid (AC=if k=14∨k=15 then .ok () s7 else vJ [59] s7):=yD (by rw[HL.out,hr]; rfl);clear hr AZ AM AB f1 AF he;have Ah:Hid (AC=(vJ [59] s7).bind fun _ s=>.ok () s):=yD (jT (by rw[Ae.out,if_neg AA.out]))
  have Az:((k:Int) != 14)=true:=by rw[zD]; have:=AA.out; omega
  have Ax:((k:Int) != 15)=true:=by rw[zD]; have:=AA.out; omega
  have At:¬(k:Int)=14:=by have:=AA.out; omega
  have Aw:¬(k:Int)=15:=by have:=AA.out; omega
  go_wp2_with fail
  refine(vT w7 p B s7 R7 [59] AQ.out.ps).mono ?_;intro e w8 hp
  rcases Ran.go Ah AQ (xS _ _ AQ.out.lt.xU) hp with ⟨s8,R8,Ai,rfl,Af⟩ | ⟨er,a,rfl,HX,HY⟩
  rotate_left
  ·refine xA (P:=Tryz.prog) (fn:=Tryz.f165) rfl ?_;rw[HX.out];exact HY.out
  try clear hp
  go_wp2_with fail
  go_end0;rw[Ai.out];exact xM.ok Af.out.okp
theorem zB7:∀f,VO 165 f (YG f)
 | 0=>fun w p B s R i h hG hi AA hn=>absurd hG.pos (by omega)
 | f+1=>fun w p B s R i h hG hi AA hn=>by
  cases hfo:ZO s.hd.text with
  | none=>exact zR5 f (zB7 f) w p B s R i h hG hi AA hn hfo
  | some k=>
   by_cases hk:s.hd.kind=1
   ·by_cases AB:k=14∨k=15
    ·exact zR3 f (zB7 f) w p B s R i h hG hi AA hn k hfo hk AB
    ·exact zRv f (zB7 f) w p B s R i h hG hi AA hn k hfo hk AB
   ·exact zRE f (zB7 f) w p B s R i h hG hi AA hn k hfo hk
theorem zHj (w:World)(p B:Nat)(s:Ps)(R:xW)(i:Nat)(h:PS w p B s R)(hG:Good s)(hi:i<s.nd.length)(hbig:s.phi≤1000000) :
  Calls Tryz.prog 135 #[.pointer (some ⟨p,0,none⟩),.int .i64 (i:Int)] w (xM w p B R (zDz i s)):=
 zIk s.ts.length (YG s.ts.length) (zB7 _) (zAb _) (zDQ _) w p B s R i h hG hi hbig (Nat.le_succ _)
end Go.Proofs.YtioffpjajhalaaaGreatDoor
