/- The program's forms: which statement a word begins. (and what follows of it). The conditions stand at each lemma. -/
import Derived.Test.YtioffpjajhalaaaGreatDoorKaa
import Derived.Test.YtioffpjajhalaaaGreatDoorKao
import Derived.Test.YtioffpjajhalaaaGreatDoorKac
set_option linter.unusedVariables false
set_option linter.unusedSimpArgs false
set_option maxRecDepth 100000
set_option maxHeartbeats 16000000
namespace Go.Proofs.YtioffpjajhalaaaGreatDoor
open Go Go.RowKit
section
variable {P:Program}
theorem zIq {w:World}{t kt et:TypeId}{r clock:Nat}{es:Array MapEntry}{n:ByteArray}{val:Value}(hm:P.underlying t=some (.map kt et))(hk:P.underlying kt=some .string)
  (hb:YH w r es clock) (hf:Instr.findNow .string (.string n) es.toList 0=some none) :
  (Instr.mapUpdate t (.map (some r)) (.string n) val).run P w=.ok () { w with heap:=w.heap.setIfInBounds r (.map (es.push { key:=.string n,val:=val,born:=clock }) (clock+1)) }:=by
 have hc:(Instr.checkKey false 10000 kt (.string n)).run P w=.ok () w:=MapKept.run_checkKey (k:=.string n) hk (by simp[MapKept.IsKey]) false 9999;simp[Instr.mapUpdate,run_underlying hm,MapKept.run_getObj_map hb,hc,MapKept.run_findKey hk hf,MapKept.run_setObj_map _ hb,Result.andThen]
theorem jR {ops:Array Oper}{rest:List Oper}{o:Oper}{a:Act}{w:World}{Q:Exit→Act→World→Prop}(hgd:o.guard=none)(t:TypeId)(m k x:Operand)(ho:o.op=.insert t m k x){kt et:TypeId}
  (hm:P.underlying t=some (.map kt et)) (hk:P.underlying kt=some .string) (r clock:Nat) (es:Array MapEntry) (n:ByteArray) (v:Value)
  (em:a.eval m=.map (some r)) (ek:a.eval k=.string n) (ex:a.eval x=v) (hb:YH w r es clock) (hf:Instr.findNow .string (.string n) es.toList 0=some none)
  (h:∀w',Touch r w w'→YH w' r (es.push { key:=.string n,val:=v,born:=clock }) (clock+1)→wpList P ops Q rest (a.put o.dst undef) w'):wpList P ops Q (o::rest) a w:=by
 refine wpList_plain hgd fun K hK=>?_;have AA:=zIq (val:=v) hm hk hb hf;unfold Oper.wp execOp;simp only[ho,em,ek,ex,Sem.run_bind,Sem.run_pure,AA,Result.andThen_ok];refine hK _ _ (h _ ⟨rfl,rfl,rfl,by simp,fun q hq=>?_⟩ ?_)
 ·simp[Array.getElem?_setIfInBounds,Ne.symm hq]
 ·have AB:=hb.lt;unfold YH;simp[AB]
theorem zGK {ops:Array Oper}{rest:List Oper}{o:Oper}{a:Act}{w:World}{Q:Exit→Act→World→Prop}(hgd:o.guard=none)(t:TypeId)(m k:Operand)(ho:o.op=.lookup t m k true){kt et:TypeId}
  (hm:P.underlying t=some (.map kt et)) (hk:P.underlying kt=some .string) (r clock:Nat) (es:Array MapEntry) (n:ByteArray) (res:Option (Nat × Value)) (z:Value)
  (em:a.eval m=.map (some r)) (ek:a.eval k=.string n) (hb:YH w r es clock) (hf:Instr.findNow .string (.string n) es.toList 0=some res) (hz:(zeroValue et).run P w=.ok z w) (v:Value) (ok:Bool) (hv:(res.map Prod.snd).getD z=v) (hok:res.isSome=ok)
  (h:wpList P ops Q rest (a.put o.dst (.tuple #[v,.bool ok])) w):wpList P ops Q (o::rest) a w:=by
 subst hv hok;refine wpList_plain hgd fun K hK=>?_;have hc:(Instr.checkKey es.isEmpty 10000 kt (.string n)).run P w=.ok () w:=MapKept.run_checkKey (k:=.string n) hk (by simp[MapKept.IsKey]) _ 9999
 have AA:(Instr.lookup t (.map (some r)) (.string n) true).run P w=.ok (.tuple #[(res.map Prod.snd).getD z,.bool res.isSome]) w:=by
  cases res with
  | none=>simp[Instr.lookup,run_underlying hm,MapKept.run_getObj_map hb,hc,MapKept.run_findKey hk hf,Result.andThen,hz]
  | some x=>obtain⟨i,v⟩:=x; simp[Instr.lookup,run_underlying hm,MapKept.run_getObj_map hb,hc,MapKept.run_findKey hk hf,Result.andThen]
 unfold Oper.wp execOp;simp only[ho,em,ek,Sem.run_bind,Sem.run_pure,AA,Result.andThen_ok];exact hK _ _ h
end
def zM0 (k:Nat):Nat:=if k=7 then 190 else if k=8 then 191 else if k=9 then 192 else if k=10 then 193 else if k=11 then 194 else if k=12 then 195 else if k=13 then 196 else if k=14 then 197 else if k=15 then 198 else if k=16 then 199 else if k=17 then 200 else 201
def zRp (k:Nat):Value:=.agg #[.int .u8 (k:Int),.func (.func (zM0 k)) #[] #[]]
def zNS:List (Bs × Nat)→Nat→List MapEntry
 | [],_=>[]
 | m::l,j=>{ key:=.string (xE m.1),val:=zRp m.2,born:=j } :: zNS l (j+1)
theorem zRI {a b:Bs}(h:xE a=xE b):a=b:=by
 have:=congrArg (fun x=>x.data.toList) h
 simpa [xE] using this
theorem zQ4 (x m:Bs):Instr.sameNow .string (.string (xE x)) (.string (xE m))=some (m==x):=by
 obtain⟨r,h1,h2⟩:=MapKept.sameNow_of_keys (d:=.string) (a:=.string (xE x)) (b:=.string (xE m)) trivial trivial;rw[h1]
 congr 1
 cases r with
 | true=>
  have:=h2.1 rfl
  injection this with this;rw[zRI this]
  simp
 | false=>
  cases hc:m==x with
  | false=>rfl
  | true=>
   rw[zN] at hc;subst hc;exact(h2.2 rfl)
theorem zGw (x:Bs):∀(l:List (Bs × Nat)) (j i:Nat),∃i',Instr.findNow .string (.string (xE x)) (zNS l j) i=some (((l.find? fun m=>m.1==x).map Prod.snd).map fun k=>(i',zRp k))
 | [],_,_=>⟨0,rfl⟩
 | m::l,j,i=>by
  have hs:Instr.sameNow .string (.string (xE x)) (.string (xE m.1))=some (m.1==x):=zQ4 x m.1
  cases hc:m.1==x with
  | true=>
   refine⟨i,?_⟩;rw[hc] at hs;rw[List.find?_cons,hc];simp only[zNS,Instr.findNow,hs]
   rfl
  | false=>
   obtain⟨i',h⟩:=zGw x l (j+1) (i+1);refine⟨i',?_⟩;rw[hc] at hs;rw[List.find?_cons,hc];simp only[zNS,Instr.findNow,hs];exact h
theorem zQB (w:World):(zeroValue 216).run Tryz.prog w=.ok (.agg #[.int .u8 0,.nilFunc]) w:=by kernel_rfl
def zJP (k:Option Nat):Int:=k.elim 0 (fun k=>(k:Int))
def zJS (k:Option Nat):Value:=k.elim .nilFunc (fun k=>.func (.func (zM0 k)) #[] #[])
theorem zCA (x:Bs)(w:World):Calls Tryz.prog 183 #[.string (xE x)] w fun e w'=>e=.returned (.tuple #[.agg #[.int .u8 (zJP (vP x)),zJS (vP x)],.bool (vP x).isSome])∧Ext w w':=by
 go_enter Tryz.func183,Tryz.ntmps183
 have HZ:=yE (Blk.new w 216 #[.int .u8 0,.nilFunc]);have BA:Hid (Ext w (w.alloc (.cells #[.int .u8 0,.nilFunc] 216))):=yE (Ext.alloc _ _)
 go_wp2_with (refine zEI rfl 226 rfl ?_)
 intro w1 Ad AX BE;obtain⟨gm,AW⟩:∃gm,gm=w.heap.size+1:=⟨_,rfl⟩
 have AD:(w.alloc (.cells #[.int .u8 0,.nilFunc] 216)).heap.size=gm:=by rw[AW]; simp
 first | rw[←AW] at AX | rw[AD] at AX
 have An:=yE AX;have A3:=yE (BA.out.trans Ad);have AA:Hid (w.heap.size≤gm∧w.heap.size≠gm):=yE (by omega);have Aq:=yE (HZ.out.ext Ad);have BB:=yE AD;have BD:Hid (w.heap.size+1=gm):=yE AW.symm;clear Ad AX BE AW AD
 try simp only[Act.put,yB,yD,yC]
 try rw[BB.out]
 try rw[BD.out]
 go_wp2_with (refine jR rfl 226 (.tmp 7) (.const (.string ⟨#[114,101,97,100]⟩)) (.tmp 8) rfl Tryz.underlying226 Tryz.underlying9 gm 0 _ ⟨#[114,101,97,100]⟩ (.agg #[.int .u8 7,.func (.func 190) #[] #[]]) rfl rfl rfl An.out (by kernel_rfl) ?_)
 intro w2 ht hm;have Am:=yE hm;have Ag:=yE (ht.ext A3.out AA.out.1);have A8:=yE (ht.blk Aq.out AA.out.2);clear ht hm An A3 Aq
 try simp only[Act.put,yB,yD,yC]
 go_wp2_with (refine jR rfl 226 (.tmp 7) (.const (.string ⟨#[115,101,116]⟩)) (.tmp 9) rfl Tryz.underlying226 Tryz.underlying9 gm 1 _ ⟨#[115,101,116]⟩ (.agg #[.int .u8 8,.func (.func 191) #[] #[]]) rfl rfl rfl Am.out (by kernel_rfl) ?_)
 intro w3 ht hm;have Av:=yE hm;have Ae:=yE (ht.ext Ag.out AA.out.1);have Az:=yE (ht.blk A8.out AA.out.2);clear ht hm Am Ag A8
 try simp only[Act.put,yB,yD,yC]
 go_wp2_with (refine jR rfl 226 (.tmp 7) (.const (.string ⟨#[112,117,116]⟩)) (.tmp 10) rfl Tryz.underlying226 Tryz.underlying9 gm 2 _ ⟨#[112,117,116]⟩ (.agg #[.int .u8 9,.func (.func 192) #[] #[]]) rfl rfl rfl Av.out (by kernel_rfl) ?_)
 intro w4 ht hm;have Aj:=yE hm;have Ax:=yE (ht.ext Ae.out AA.out.1);have A2:=yE (ht.blk Az.out AA.out.2);clear ht hm Av Ae Az
 try simp only[Act.put,yB,yD,yC]
 go_wp2_with (refine jR rfl 226 (.tmp 7) (.const (.string ⟨#[100,101,108,101,116,101]⟩)) (.tmp 11) rfl Tryz.underlying226 Tryz.underlying9 gm 3 _ ⟨#[100,101,108,101,116,101]⟩ (.agg #[.int .u8 10,.func (.func 193) #[] #[]]) rfl rfl rfl Aj.out (by kernel_rfl) ?_)
 intro w5 ht hm;have Ap:=yE hm;have Ah:=yE (ht.ext Ax.out AA.out.1);have Ar:=yE (ht.blk A2.out AA.out.2);clear ht hm Aj Ax A2
 try simp only[Act.put,yB,yD,yC]
 go_wp2_with (refine jR rfl 226 (.tmp 7) (.const (.string ⟨#[115,99,97,110]⟩)) (.tmp 12) rfl Tryz.underlying226 Tryz.underlying9 gm 4 _ ⟨#[115,99,97,110]⟩ (.agg #[.int .u8 11,.func (.func 194) #[] #[]]) rfl rfl rfl Ap.out (by kernel_rfl) ?_)
 intro w6 ht hm;have Af:=yE hm;have Al:=yE (ht.ext Ah.out AA.out.1);have Ay:=yE (ht.blk Ar.out AA.out.2);clear ht hm Ap Ah Ar
 try simp only[Act.put,yB,yD,yC]
 go_wp2_with (refine jR rfl 226 (.tmp 7) (.const (.string ⟨#[108,111,99,107]⟩)) (.tmp 13) rfl Tryz.underlying226 Tryz.underlying9 gm 5 _ ⟨#[108,111,99,107]⟩ (.agg #[.int .u8 12,.func (.func 195) #[] #[]]) rfl rfl rfl Af.out (by kernel_rfl) ?_)
 intro w7 ht hm;have Ai:=yE hm;have Ak:=yE (ht.ext Al.out AA.out.1);have A1:=yE (ht.blk Ay.out AA.out.2);clear ht hm Af Al Ay
 try simp only[Act.put,yB,yD,yC]
 go_wp2_with (refine jR rfl 226 (.tmp 7) (.const (.string ⟨#[114,101,108,101,97,115,101]⟩)) (.tmp 14) rfl Tryz.underlying226 Tryz.underlying9 gm 6 _ ⟨#[114,101,108,101,97,115,101]⟩ (.agg #[.int .u8 13,.func (.func 196) #[] #[]]) rfl rfl rfl Ai.out (by kernel_rfl) ?_)
 intro w8 ht hm;have A4:=yE hm;have At:=yE (ht.ext Ak.out AA.out.1);have A6:=yE (ht.blk A1.out AA.out.2);clear ht hm Ai Ak A1
 try simp only[Act.put,yB,yD,yC]
 go_wp2_with (refine jR rfl 226 (.tmp 7) (.const (.string ⟨#[105,102]⟩)) (.tmp 15) rfl Tryz.underlying226 Tryz.underlying9 gm 7 _ ⟨#[105,102]⟩ (.agg #[.int .u8 14,.func (.func 197) #[] #[]]) rfl rfl rfl A4.out (by kernel_rfl) ?_)
 intro w9 ht hm;have A7:=yE hm;have Au:=yE (ht.ext At.out AA.out.1);have Aw:=yE (ht.blk A6.out AA.out.2);clear ht hm A4 At A6
 try simp only[Act.put,yB,yD,yC]
 go_wp2_with (refine jR rfl 226 (.tmp 7) (.const (.string ⟨#[102,111,114]⟩)) (.tmp 16) rfl Tryz.underlying226 Tryz.underlying9 gm 8 _ ⟨#[102,111,114]⟩ (.agg #[.int .u8 15,.func (.func 198) #[] #[]]) rfl rfl rfl A7.out (by kernel_rfl) ?_)
 intro BI ht hm;have A5:=yE hm;have AO:=yE (ht.ext Au.out AA.out.1);have AU:=yE (ht.blk Aw.out AA.out.2);clear ht hm A7 Au Aw
 try simp only[Act.put,yB,yD,yC]
 go_wp2_with (refine jR rfl 226 (.tmp 7) (.const (.string ⟨#[108,101,116]⟩)) (.tmp 17) rfl Tryz.underlying226 Tryz.underlying9 gm 9 _ ⟨#[108,101,116]⟩ (.agg #[.int .u8 16,.func (.func 199) #[] #[]]) rfl rfl rfl A5.out (by kernel_rfl) ?_)
 intro BH ht hm;have AT:=yE hm;have AN:=yE (ht.ext AO.out AA.out.1);have AH:=yE (ht.blk AU.out AA.out.2);clear ht hm A5 AO AU
 try simp only[Act.put,yB,yD,yC]
 go_wp2_with (refine jR rfl 226 (.tmp 7) (.const (.string ⟨#[101,109,105,116]⟩)) (.tmp 18) rfl Tryz.underlying226 Tryz.underlying9 gm 10 _ ⟨#[101,109,105,116]⟩ (.agg #[.int .u8 17,.func (.func 200) #[] #[]]) rfl rfl rfl AT.out (by kernel_rfl) ?_)
 intro BG ht hm;have AP:=yE hm;have AV:=yE (ht.ext AN.out AA.out.1);have AR:=yE (ht.blk AH.out AA.out.2);clear ht hm AT AN AH
 try simp only[Act.put,yB,yD,yC]
 go_wp2_with (refine jR rfl 226 (.tmp 7) (.const (.string ⟨#[114,111,108,108,98,97,99,107]⟩)) (.tmp 19) rfl Tryz.underlying226 Tryz.underlying9 gm 11 _ ⟨#[114,111,108,108,98,97,99,107]⟩ (.agg #[.int .u8 18,.func (.func 201) #[] #[]]) rfl rfl rfl AP.out (by kernel_rfl) ?_)
 intro BJ ht hm;have AM:=yE hm;have AK:=yE (ht.ext AV.out AA.out.1);have AS:=yE (ht.blk AR.out AA.out.2);clear ht hm AP AV AR
 try simp only[Act.put,yB,yD,yC]
 go_wp2_with (refine jR rfl 226 (.tmp 7) (.const (.string ⟨#[99,104,111,112]⟩)) (.tmp 20) rfl Tryz.underlying226 Tryz.underlying9 gm 12 _ ⟨#[99,104,111,112]⟩ (.agg #[.int .u8 19,.func (.func 201) #[] #[]]) rfl rfl rfl AM.out (by kernel_rfl) ?_)
 intro AQ ht hm;have AZ:=yE hm;have AJ:=yE (ht.ext AK.out AA.out.1);have AI:=yE (ht.blk AS.out AA.out.2);clear ht hm AM AK AS
 try simp only[Act.put,yB,yD,yC]
 obtain⟨i',Ao⟩:=zGw x YV 0 0;have A9:Hid (Instr.findNow .string (.string (xE x)) _ 0=some ((vP x).map fun k=>(i',zRp k))):=yE Ao;clear Ao
 have HV:Hid ((((vP x).map fun k=>(i',zRp k)).map Prod.snd).getD (.agg #[.int .u8 0,.nilFunc])=.agg #[.int .u8 (zJP (vP x)),zJS (vP x)]):=yE (by cases vP x <;> rfl)
 have BF:Hid (((vP x).map fun k=>(i',zRp k)).isSome=(vP x).isSome):=yE (by cases vP x <;> rfl)
 generalize hok:(vP x).isSome=ok at *;generalize hfk:zJP (vP x)=fk at *;generalize hff:zJS (vP x)=ff at *
 have AL:Hid (ff.oneCell'=true):=yE (by rw[←hff]; cases vP x <;> rfl)
 have Aa:=yE (And.intro hok (And.intro hfk hff));clear hok hfk hff;have BC:=AL.out
 have AG:([.int .u8 fk,ff]:List Value).all (·.oneCell')=true:=by simp[AL.out]; rfl
 go_wp2_with (first
  | (refine zGK rfl 226 (.tmp 23) (.tmp 24) rfl Tryz.underlying226 Tryz.underlying9 gm 13 _ (xE x) ((vP x).map fun k=>(i',zRp k)) (.agg #[.int .u8 0,.nilFunc]) rfl rfl AZ.out A9.out (zQB _) (.agg #[.int .u8 fk,ff]) ok HV.out BF.out ?_)
  | (refine vD rfl 216 (.tmp 5) (.tmp 26) rfl AQ.heap.size #[.int .u8 fk,ff] (by rfl) (by rfl) 216 #[.int .u8 0,.nilFunc] (Blk.new _ _ _) (by kernel_rfl) rfl AG ?_; intro A0 AB AE; have AY:=yE (AB.ext (AJ.out.trans (Ext.alloc AQ (.cells #[.int .u8 0,.nilFunc] 216))) AJ.out.size); have Ab:=yE (AB.blk (AI.out.ext (Ext.alloc AQ (.cells #[.int .u8 0,.nilFunc] 216))) (Nat.ne_of_lt AI.out.lt)); have f0:A0.cell? ⟨AQ.heap.size,0,none⟩=some (.int .u8 fk):=AE.cell 0; have f1:A0.cell? ⟨AQ.heap.size,1,none⟩=some ff:=AE.cell 1; clear AB AE)
  | (refine vD rfl 216 (.tmp 2) (.tmp 28) rfl w.heap.size #[.int .u8 fk,ff] (by rfl) (by rfl) 216 #[.int .u8 0,.nilFunc] Ab.out (by kernel_rfl) rfl AG ?_; intro As AF AC; have Ac:=yE (AF.ext AY.out (zU _)); have g0:As.cell? ⟨w.heap.size,0,none⟩=some (.int .u8 fk):=AC.cell 0; have g1:As.cell? ⟨w.heap.size,1,none⟩=some ff:=AC.cell 1; clear AF AC))
 refine bodyPost_ret (v:=.tuple #[.agg #[.int .u8 fk,ff],.bool ok]) (by simp[results,Tryz.results183,go_sem,g0,g1]) rfl ?_;rw[Aa.out.1,Aa.out.2.1,Aa.out.2.2];exact⟨rfl,Ac.out⟩
theorem zR9 {i:Nat}{s:Ps}(h:Hid (isP [61,61] s=true)):zCR i s=.ok () (s.adv.num i 1):=by unfold zCR; rw[if_pos h.out]
theorem zTl {i:Nat}{s:Ps}(h:Hid (isP [61,61] s=false)):zCR i s=xY [60] s:=by unfold zCR; rw[h.out]; rfl
theorem zOG (n:Nat)(st:Nat→Pm Unit)(hblk:zAN 135 (n+1) (ZC st))(hfine:zDS n st):zAN 197 (n+1) (zBi st):=by
 intro w p B s R i h hG hi AR hn;have AN:=yE (Ran.refl h hG);have HI:=yE hi;have AH:=yE AR;have HN:=yE hn;have AT:=yE hblk;have AU:=yE hfine;obtain⟨Ab,Aa⟩:∃x,Hid (x=zBi st i s):=⟨_,yE rfl⟩;rw[←Aa.out];have hm:=hmf;clear h hG hi AR hn hblk hfine
 go_enter Tryz.func197,Tryz.ntmps197
 go_wp2_with fail
 refine(zA0 _ p B s R i AN.out.ps AN.out.lt.yY (AN.out.idx HI.out) (AN.out.phi AH.out)).mono ?_;intro e w1 hp
 rcases Ran.go Aa AN (YS i _ AN.out.lt.yY) hp with ⟨s1,R1,Ac,rfl,AQ⟩ | ⟨er,a,rfl,HX,HY⟩
 rotate_left
 ·refine xB (P:=Tryz.prog) (fn:=Tryz.f197) rfl ?_;rw[HX.out];exact HY.out
 clear hp
 cases hi2:isP [61,61] s1 with
 | false=>
  have AL:=yE hi2;clear hi2;have AW:=yE (bind_eq Ac (zTl AL))
  go_wp2_with fail
  refine(zA4 _ p B s1 R1 [61,61] AL AQ.out.ps).mono ?_;rintro e w2 ⟨rfl,hx⟩;have AG:=yE (AQ.out.ext hx);clear hx
  go_wp2_with fail
  refine(jN _ p B s1 R1 [60] AG.out.ps).mono ?_;intro e w3 hp
  rcases Ran.go AW AG (vA _ _ AG.out.lt.yY) hp with ⟨s3,R3,An,rfl,AM⟩ | ⟨er,a,rfl,HX,HY⟩
  rotate_left
  ·refine xB (P:=Tryz.prog) (fn:=Tryz.f197) rfl ?_;rw[HX.out];exact HY.out
  clear hp
  go_wp2_with fail
  refine(zA0 _ p B s3 R3 i AM.out.ps AM.out.lt.yY (AM.out.idx HI.out) (AM.out.phi AH.out)).mono ?_;intro e w4 hp
  rcases Ran.go An AM (YS i _ AM.out.lt.yY) hp with ⟨s4,R4,Am,rfl,AE⟩ | ⟨er,a,rfl,HX,HY⟩
  rotate_left
  ·refine xB (P:=Tryz.prog) (fn:=Tryz.f197) rfl ?_;rw[HX.out];exact HY.out
  clear hp
  go_wp2_with fail
  refine(AT.out _ p B s4 R4 i AE.out.ps AE.out.lt.yY (AE.out.idx HI.out) (AE.out.phi AH.out) (AE.out.few HN.out)).mono ?_;intro e w5 hp
  rcases Ran.go Am AE (VQ AU.out i _ AE.out.lt.yY (AE.out.few HN.out)) hp with ⟨s5,R5,Ae,rfl,AP⟩ | ⟨er,a,rfl,HX,HY⟩
  rotate_left
  ·refine xB (P:=Tryz.prog) (fn:=Tryz.f197) rfl ?_;rw[HX.out];exact HY.out
  clear hp
  cases hi6:isP [101,108,115,101] s5 with
  | false=>
   have AK:=yE hi6;clear hi6;have AY:=yE (zKR (t:=[101,108,115,101]) (s:=s5) Ae AK)
   go_wp2_with fail
   refine(zA4 _ p B s5 R5 [101,108,115,101] AK AP.out.ps).mono ?_;rintro e w6 ⟨rfl,hx⟩;have AD:=yE (AP.out.ext hx);clear hx
   go_wp2_with fail
   go_end0;rw[AY.out];exact xQ.ok AD.out.okp
  | true=>
   have AK:=yE hi6;clear hi6;have AY:=yE (zHq (t:=[101,108,115,101]) (s:=s5) Ae AK)
   go_wp2_with fail
   refine(zAf _ p B s5 R5 [101,108,115,101] AK AP.out.ps).mono ?_;rintro e w6 ⟨rfl,ho⟩;obtain⟨R6,hs⟩:=AP.out.then ho (zBD AP.out.lt.yY AK);have AD:=yE hs;clear ho hs;have Ag:=yE (ZT AY.out)
   go_wp2_with fail
   refine(AT.out _ p B s5.adv R6 i AD.out.ps AD.out.lt.yY (AD.out.idx HI.out) (AD.out.phi AH.out) (AD.out.few HN.out)).mono ?_;intro e w7 hp
   rcases Ran.go Ag AD (VQ AU.out i _ AD.out.lt.yY (AD.out.few HN.out)) hp with ⟨s7,R7,Ah,rfl,Aj⟩ | ⟨er,a,rfl,HX,HY⟩
   rotate_left
   ·refine xB (P:=Tryz.prog) (fn:=Tryz.f197) rfl ?_;rw[HX.out];exact HY.out
   clear hp
   go_wp2_with fail
   go_end0;rw[Ah.out];exact xQ.ok Aj.out.okp
 | true=>
  have AL:=yE hi2;clear hi2;have AW:=yE (bind_eq Ac (zR9 AL))
  go_wp2_with fail
  refine(zAf _ p B s1 R1 [61,61] AL AQ.out.ps).mono ?_;rintro e w2 ⟨rfl,ho⟩;obtain⟨R2,hs⟩:=AQ.out.then ho (zBD AQ.out.lt.yY AL);have AG:=yE hs;clear ho hs
  go_wp2_with fail
  refine(zDd _ p B s1.adv R2 i AG.out.ps (AG.out.idx HI.out)).mono ?_;intro e w8 hp
  rcases Ran.go AW AG (ZY.num AG.out.lt.yY i 1) hp with ⟨s8,R8,Ak,rfl,AO⟩ | ⟨er,a,rfl,HX,HY⟩
  rotate_left
  ·refine xB (P:=Tryz.prog) (fn:=Tryz.f197) rfl ?_;rw[HX.out];exact HY.out
  clear hp
  go_wp2_with fail
  refine(zA0 _ p B s8 R8 i AO.out.ps AO.out.lt.yY (AO.out.idx HI.out) (AO.out.phi AH.out)).mono ?_;intro e w9 hp
  rcases Ran.go Ak AO (YS i _ AO.out.lt.yY) hp with ⟨s9,R9,Al,rfl,AF⟩ | ⟨er,a,rfl,HX,HY⟩
  rotate_left
  ·refine xB (P:=Tryz.prog) (fn:=Tryz.f197) rfl ?_;rw[HX.out];exact HY.out
  clear hp
  go_wp2_with fail
  refine(AT.out _ p B s9 R9 i AF.out.ps AF.out.lt.yY (AF.out.idx HI.out) (AF.out.phi AH.out) (AF.out.few HN.out)).mono ?_;intro e Aq hp
  rcases Ran.go Al AF (VQ AU.out i _ AF.out.lt.yY (AF.out.few HN.out)) hp with ⟨AJ,Ad,AS,rfl,AC⟩ | ⟨er,a,rfl,HX,HY⟩
  rotate_left
  ·refine xB (P:=Tryz.prog) (fn:=Tryz.f197) rfl ?_;rw[HX.out];exact HY.out
  clear hp
  cases hi11:isP [101,108,115,101] AJ with
  | false=>
   have AB:=yE hi11;clear hi11;have AI:=yE (zKR (t:=[101,108,115,101]) (s:=AJ) AS AB)
   go_wp2_with fail
   refine(zA4 _ p B AJ Ad [101,108,115,101] AB AC.out.ps).mono ?_;rintro e Ai ⟨rfl,hx⟩;have AA:=yE (AC.out.ext hx);clear hx
   go_wp2_with fail
   go_end0;rw[AI.out];exact xQ.ok AA.out.okp
  | true=>
   have AB:=yE hi11;clear hi11;have AI:=yE (zHq (t:=[101,108,115,101]) (s:=AJ) AS AB)
   go_wp2_with fail
   refine(zAf _ p B AJ Ad [101,108,115,101] AB AC.out.ps).mono ?_;rintro e Ai ⟨rfl,ho⟩;obtain⟨Af,hs⟩:=AC.out.then ho (zBD AC.out.lt.yY AB);have AA:=yE hs;clear ho hs;have AZ:=yE (ZT AI.out)
   go_wp2_with fail
   refine(AT.out _ p B AJ.adv Af i AA.out.ps AA.out.lt.yY (AA.out.idx HI.out) (AA.out.phi AH.out) (AA.out.few HN.out)).mono ?_;intro e Ap hp
   rcases Ran.go AZ AA (VQ AU.out i _ AA.out.lt.yY (AA.out.few HN.out)) hp with ⟨Ar,Ao,AV,rfl,AX⟩ | ⟨er,a,rfl,HX,HY⟩
   rotate_left
   ·refine xB (P:=Tryz.prog) (fn:=Tryz.f197) rfl ?_;rw[HX.out];exact HY.out
   clear hp
   go_wp2_with fail
   go_end0;rw[AV.out];exact xQ.ok AX.out.okp
theorem zRH (n:Nat)(st:Nat→Pm Unit)(hblk:zAN 135 (n+1) (ZC st))(hfine:zDS n st):zAN 198 (n+1) (zD7 st):=by
 intro w p B s R i h hG hi AF hn;have AG:=yE (Ran.refl h hG);have HI:=yE hi;have AL:=yE AF;have HN:=yE hn;have Aa:=yE hblk;have Ab:=yE hfine;obtain⟨AR,AQ⟩:∃x,Hid (x=zD7 st i s):=⟨_,yE rfl⟩;rw[←AQ.out];have hm:=hmf;clear h hG hi AF hn hblk hfine
 go_enter Tryz.func198,Tryz.ntmps198
 go_wp2_with fail
 refine(VR _ p B s R i AG.out.ps (AG.out.idx HI.out)).mono ?_;intro e Af hp
 rcases Ran.go AQ AG (YN i _ AG.out.lt.yY) hp with ⟨Ac,AS,AO,rfl,AE⟩ | ⟨er,a,rfl,HX,HY⟩
 rotate_left
 ·refine xB (P:=Tryz.prog) (fn:=Tryz.f198) rfl ?_;rw[HX.out];exact HY.out
 clear hp
 go_wp2_with fail
 refine(jN _ p B Ac AS [61] AE.out.ps).mono ?_;intro e Ag hp
 rcases Ran.go AO AE (vA _ _ AE.out.lt.yY) hp with ⟨AU,AT,AN,rfl,AB⟩ | ⟨er,a,rfl,HX,HY⟩
 rotate_left
 ·refine xB (P:=Tryz.prog) (fn:=Tryz.f198) rfl ?_;rw[HX.out];exact HY.out
 clear hp
 go_wp2_with fail
 refine(zHy _ p B AU AT i AB.out.ps AB.out.lt.yY (AB.out.idx HI.out) (AB.out.nd AL.out)).mono ?_;intro e Ak hp
 rcases Ran.go AN AB (zDk i _ AB.out.lt.yY) hp with ⟨AZ,AY,AM,rfl,AD⟩ | ⟨er,a,rfl,HX,HY⟩
 rotate_left
 ·refine xB (P:=Tryz.prog) (fn:=Tryz.f198) rfl ?_;rw[HX.out];exact HY.out
 clear hp
 go_wp2_with fail
 refine(jN _ p B AZ AY [116,111] AD.out.ps).mono ?_;intro e Ah hp
 rcases Ran.go AM AD (vA _ _ AD.out.lt.yY) hp with ⟨AV,Ad,AH,rfl,AC⟩ | ⟨er,a,rfl,HX,HY⟩
 rotate_left
 ·refine xB (P:=Tryz.prog) (fn:=Tryz.f198) rfl ?_;rw[HX.out];exact HY.out
 clear hp
 go_wp2_with fail
 refine(zHy _ p B AV Ad i AC.out.ps AC.out.lt.yY (AC.out.idx HI.out) (AC.out.nd AL.out)).mono ?_;intro e Al hp
 rcases Ran.go AH AC (zDk i _ AC.out.lt.yY) hp with ⟨AW,AX,AI,rfl,AA⟩ | ⟨er,a,rfl,HX,HY⟩
 rotate_left
 ·refine xB (P:=Tryz.prog) (fn:=Tryz.f198) rfl ?_;rw[HX.out];exact HY.out
 clear hp;have AJ:=yE (ZT AI.out)
 go_wp2_with fail
 refine(Aa.out _ p B AW AX i AA.out.ps AA.out.lt.yY (AA.out.idx HI.out) (AA.out.phi AL.out) (AA.out.few HN.out)).mono ?_;intro e Ai hp
 rcases Ran.go AJ AA (VQ Ab.out i _ AA.out.lt.yY (AA.out.few HN.out)) hp with ⟨Ae,Aj,AP,rfl,AK⟩ | ⟨er,a,rfl,HX,HY⟩
 rotate_left
 ·refine xB (P:=Tryz.prog) (fn:=Tryz.f198) rfl ?_;rw[HX.out];exact HY.out
 clear hp
 go_wp2_with fail
 go_end0;rw[AP.out];exact xQ.ok AK.out.okp
theorem zAw {t:Bs}{k:Nat}(h:vP t=some k):7≤k∧k≤19:=by
 unfold vP at h
 cases hf:YV.find? fun m=>m.1==t with
 | none=>rw[hf] at h; cases h
 | some m=>
  rw[hf] at h;injection h with h;subst h;have hm:=List.mem_of_find?_eq_some hf
  have ha:∀m ∈ YV,7≤m.2∧m.2≤19:=by decide
  exact ha m hm
theorem zHA {k:Nat}(h:7≤k∧k≤19):k=7∨k=8∨k=9∨k=10∨k=11∨k=12∨k=13∨k=14∨k=15∨k=16∨k=17∨k=18∨k=19:=by omega
theorem zHT {k:Nat}(h:7≤k∧k≤19):∀args w,(callFunc (zM0 k) args).run Tryz.prog w=.ok (.enter (zM0 k) args) w:=by
 rcases zHA h with rfl | rfl | rfl | rfl | rfl | rfl | rfl | rfl | rfl | rfl | rfl | rfl | rfl
 ·exact enters_of Tryz.func190 (by kernel_rfl) rfl
 ·exact enters_of Tryz.func191 (by kernel_rfl) rfl
 ·exact enters_of Tryz.func192 (by kernel_rfl) rfl
 ·exact enters_of Tryz.func193 (by kernel_rfl) rfl
 ·exact enters_of Tryz.func194 (by kernel_rfl) rfl
 ·exact enters_of Tryz.func195 (by kernel_rfl) rfl
 ·exact enters_of Tryz.func196 (by kernel_rfl) rfl
 ·exact enters_of Tryz.func197 (by kernel_rfl) rfl
 ·exact enters_of Tryz.func198 (by kernel_rfl) rfl
 ·exact enters_of Tryz.func199 (by kernel_rfl) rfl
 ·exact enters_of Tryz.func200 (by kernel_rfl) rfl
 ·exact enters_of Tryz.func201 (by kernel_rfl) rfl
 ·exact enters_of Tryz.func201 (by kernel_rfl) rfl
theorem zKe (n:Nat)(st:Nat→Pm Unit)(hst:zAN 165 n st)(hfine:zDS n st)(h1:zJR n st)(k:Nat)(hk:7≤k∧k≤19):zAN (zM0 k) (n+1) (JB st k):=by
 have AB:=zKX n st hst hfine h1;intro w p B s R i h hG hi AA hn
 rcases zHA hk with rfl | rfl | rfl | rfl | rfl | rfl | rfl | rfl | rfl | rfl | rfl | rfl | rfl
 ·exact zQx w p B s R i h hG hi AA
 ·exact zRE w p B s R i h hG hi AA
 ·exact zNi w p B s R i h hG hi AA
 ·exact zJE w p B s R i h hG hi AA
 ·exact zQk w p B s R i h hG hi AA
 ·exact zQe w p B s R i h hG hi AA
 ·exact zLE w p B s R i h hG hi AA
 ·exact zOG n st AB hfine w p B s R i h hG hi AA hn
 ·exact zRH n st AB hfine w p B s R i h hG hi AA hn
 ·exact zSo w p B s R i h hG hi AA
 ·exact zA0 w p B s R i h hG hi AA
 ·exact zKE w p B s R i h
 ·exact zKE w p B s R i h
theorem zPf {f i:Nat}{s:Ps}:YK (f+1) i s=match (if s.hd.kind=1 then vP s.hd.text else none) with
  | none=>.err 50 s.hd.at_
  | some k=>(JB (YK f) k s.nd.length (s.yX i k).adv).bind fun _ s=>if k=14∨k=15 then .ok () s else xY [59] s:=rfl
theorem zI9 {f i:Nat}{s:Ps}(h:vP s.hd.text=none∨s.hd.kind≠1):YK (f+1) i s=.err 50 s.hd.at_:=by
 rw[zPf]
 rcases h with h | h
 ·rw[h]; split <;> simp_all
 ·rw[if_neg h]
theorem zJx {f i k:Nat}{s:Ps}(h:vP s.hd.text=some k)(h1:s.hd.kind=1):YK (f+1) i s=(JB (YK f) k s.nd.length (s.yX i k).adv).bind fun _ s=>if k=14∨k=15 then .ok () s else xY [59] s:=by
 rw[zPf,if_pos h1,h]
theorem zFQ:∀f,zJR f (YK f)
 | 0=>fun i s s' g hl h=>by cases h
 | f+1=>fun i s s' g hl h=>by
  by_cases h1:s.hd.kind=1
  ·cases hf:vP s.hd.text with
   | none=>rw[zI9 (.inl hf)] at h; cases h
   | some k=>
    rw[zJx hf h1] at h;have hp:=g.pos
    have h4:(s.yX i k).hd.kind≠4:=by show s.hd.kind≠4; omega
    have ga:=(vT g i k).adv h4;have AB:=ZF (s:=s.yX i k);rw[ZZ] at AB;have hr:=zD3 (zAV f) k s.nd.length (s.yX i k).adv ga (by omega)
    cases hq:JB (YK f) k s.nd.length (s.yX i k).adv with
    | err e p=>rw[hq] at h; cases h
    | ok a t=>
     rw[hq] at h hr;have ht:=hr.ts;have h':(if k=14∨k=15 then Res.ok () t else xY [59] t)=.ok () s':=h
     split at h'
     ·injection h' with _ e; subst e; omega
     ·have AA:=vA [59] t hr.yY;rw[h'] at AA
      have:=AA.ts
      omega
  ·rw[zI9 (.inr h1)] at h; cases h
theorem zT8 (f:Nat)(ih:zAN 165 f (YK f))(w:World)(p B:Nat)(s:Ps)(R:vC)(i:Nat)(h:PS w p B s R)(hG:Good s)(hi:i<s.nd.length)(hbig:s.phi≤1000000)(hn:s.ts.length≤f+1)(hfo:vP s.hd.text=none) :
  Calls Tryz.prog 165 #[.pointer (some ⟨p,0,none⟩),.int .i64 (i:Int)] w (xQ w p B R (YK (f+1) i s)):=by
 have HP:=yE h;have HG:=yE hG;have HI:=yE hi;have AO:=yE hbig;have HN:=yE hn;have AP:=yE ih;obtain⟨AA,AG⟩:∃x,Hid (x=YK (f+1) i s):=⟨_,yE rfl⟩;rw[←AG.out];have hm:=hmf;have AN:=zDA;have AL:=zAx;have HE:Hid (AA=.err 50 s.hd.at_):=yE (AG.out.trans (zI9 (.inl hfo)));have AI:=yE hfo;clear hfo;clear h hG hi hbig hn ih
 go_enter Tryz.func165,Tryz.ntmps165
 go_wp2_with fail
 refine(ZP _ p s R HP.out.ts).mono ?_;rintro e w1 ⟨rfl,AC⟩;have AJ:=yE AC;have AK:=yE (HP.out.ext AC);clear AC;unfold xS
 go_wp2_with fail
 refine(zCA s.hd.text w1).mono ?_;rintro e w2 ⟨rfl,AB⟩;have AE:=yE (AJ.out.trans AB);have AM:=yE (AK.out.ext AB);clear AB;rw[AI.out];simp only[zJP,zJS,Option.elim,Option.isSome]
 go_wp2_with (refine vD rfl 216 (.tmp 4) (.tmp 12) rfl w2.heap.size #[.int .u8 0,.nilFunc] (by rfl) (by rfl) 216 #[.int .u8 0,.nilFunc] (Blk.new _ _ _) (by kernel_rfl) rfl rfl ?_; intro w3 AF AD; have AH:=yE (AF.ext (AE.out.trans (Ext.alloc w2 (.cells #[.int .u8 0,.nilFunc] 216))) AE.out.size); have AQ:=yE AD; clear AF AD)
 refine(zBE _ p 50).mono ?_;rintro e w4 ⟨rfl,rfl⟩;have HF:Hid (xQ w p B R AA (ZH 50) w3):=yE (by rw[HE.out]; exact⟨rfl,s,rfl,HP.out.okp AH.out⟩);exact xB (P:=Tryz.prog) (fn:=Tryz.f165) rfl HF.out
theorem zTw (f:Nat)(ih:zAN 165 f (YK f))(w:World)(p B:Nat)(s:Ps)(R:vC)(i:Nat)(h:PS w p B s R)(hG:Good s)(hi:i<s.nd.length)(hbig:s.phi≤1000000)(hn:s.ts.length≤f+1)(k:Nat)(hfo:vP s.hd.text=some k)(hk:s.hd.kind≠1) :
  Calls Tryz.prog 165 #[.pointer (some ⟨p,0,none⟩),.int .i64 (i:Int)] w (xQ w p B R (YK (f+1) i s)):=by
 have HP:=yE h;have HG:=yE hG;have HI:=yE hi;have AP:=yE hbig;have HN:=yE hn;have AQ:=yE ih;obtain⟨AA,AF⟩:∃x,Hid (x=YK (f+1) i s):=⟨_,yE rfl⟩;rw[←AF.out];have hm:=hmf;have AO:=zDA;have AN:=zAx;have HE:Hid (AA=.err 50 s.hd.at_):=yE (AF.out.trans (zI9 (.inr hk)));have AJ:=yE hfo
 have b1:((s.hd.kind:Int) != 1)=true:=by rw[zD]; omega
 have b2:¬(s.hd.kind:Int)=1:=by omega
 clear hfo hk;clear h hG hi hbig hn ih
 go_enter Tryz.func165,Tryz.ntmps165
 go_wp2_with fail
 refine(ZP _ p s R HP.out.ts).mono ?_;rintro e w1 ⟨rfl,AC⟩;have AL:=yE AC;have AM:=yE (HP.out.ext AC);clear AC;unfold xS
 go_wp2_with fail
 refine(zCA s.hd.text w1).mono ?_;rintro e w2 ⟨rfl,AB⟩;have AE:=yE (AL.out.trans AB);have AS:=yE (AM.out.ext AB);clear AB;rw[AJ.out];simp only[zJP,zJS,Option.elim,Option.isSome];generalize zM0 k=K at *
 go_wp2_with (first
  | (refine vD rfl 216 (.tmp 4) (.tmp 12) rfl w2.heap.size #[.int .u8 (k:Int),.func (.func K) #[] #[]] (by rfl) (by rfl) 216 #[.int .u8 0,.nilFunc] (Blk.new _ _ _) (by kernel_rfl) rfl rfl ?_; intro w3 AH AG; have AD:=yE (AH.ext (AE.out.trans (Ext.alloc w2 (.cells #[.int .u8 0,.nilFunc] 216))) AE.out.size); have AR:=yE AG; clear AH AG)
  | (refine(ZP _ p s R (HP.out.ext AD.out).ts).mono ?_; rintro e w4 ⟨rfl,AI⟩; have AK:=yE (AD.out.trans AI); clear AI; unfold xS))
 refine(zBE _ p 50).mono ?_;rintro e w5 ⟨rfl,rfl⟩;have HF:Hid (xQ w p B R AA (ZH 50) w4):=yE (by rw[HE.out]; exact⟨rfl,s,rfl,HP.out.okp AK.out⟩);exact xB (P:=Tryz.prog) (fn:=Tryz.f165) rfl HF.out
theorem zT5 (f:Nat)(ih:zAN 165 f (YK f))(w:World)(p B:Nat)(s:Ps)(R:vC)(i:Nat)(h:PS w p B s R)(hG:Good s)(hi:i<s.nd.length)(hbig:s.phi≤1000000)(hn:s.ts.length≤f+1)(k:Nat)(hfo:vP s.hd.text=some k)(hk:s.hd.kind=1)(hk14:k=14∨k=15) :
  Calls Tryz.prog 165 #[.pointer (some ⟨p,0,none⟩),.int .i64 (i:Int)] w (xQ w p B R (YK (f+1) i s)):=by
 have HP:=yE h;have HG:=yE hG;have HI:=yE hi;have Ac:=yE hbig;have HN:=yE hn;have At:=yE ih;obtain⟨AA,AW⟩:∃x,Hid (x=YK (f+1) i s):=⟨_,yE rfl⟩;rw[←AW.out];have hm:=hmf;have Aw:=zDA;have Av:=zAx;have HL:=yE (AW.out.trans (zJx hfo hk));have Ak:=yE hfo;have HK:=yE hk;have Ar:=yE (zAw hfo);have AD:=yE hk14;have Au:=hG.pos;have Aq:=yE (zKe f (YK f) ih (zAV f) (zFQ f) k (zAw hfo));have Af:=yE (zHT (zAw hfo));have AN:Hid (Good (s.yX i k).adv):=yE ((vT hG i k).adv (by show s.hd.kind≠4; omega));have AS:Hid ((s.yX i k).adv.ts.length=s.ts.length-1):=yE (by rw[ZF,ZZ]);have An:Hid ((s.yX i k).adv.nd.length=s.nd.length+1):=yE (xR s i k);have Al:Hid (ZY s (s.yX i k).adv):=yE (VM.at (i:=i) (k:=k) (r:=.ok () (s.yX i k).adv) (zDx (vT hG i k) (by show s.hd.kind≠4; omega)));have Aj:Hid ((s.yX i k).hd.kind≠4):=yE (by show s.hd.kind≠4; omega)
 have Ah:(s.hd.kind:Int)=1:=by omega
 clear hfo hk hk14;clear h hG hi hbig hn ih
 go_enter Tryz.func165,Tryz.ntmps165
 go_wp2_with fail
 refine(ZP _ p s R HP.out.ts).mono ?_;rintro e w1 ⟨rfl,AO⟩;have Ao:=yE AO;have Ap:=yE (HP.out.ext AO);clear AO;unfold xS
 go_wp2_with fail
 refine(zCA s.hd.text w1).mono ?_;rintro e w2 ⟨rfl,AI⟩;have AH:=yE (Ao.out.trans AI);have Ax:=yE (Ap.out.ext AI);clear AI;rw[Ak.out];simp only[zJP,zJS,Option.elim,Option.isSome];have he:=Af.out;generalize zM0 k=K at *
 go_wp2_with (first
  | (refine vD rfl 216 (.tmp 4) (.tmp 12) rfl w2.heap.size #[.int .u8 (k:Int),.func (.func K) #[] #[]] (by rfl) (by rfl) 216 #[.int .u8 0,.nilFunc] (Blk.new _ _ _) (by kernel_rfl) rfl rfl ?_; intro w3 Ae AY; have AR:=yE (Ae.ext (AH.out.trans (Ext.alloc w2 (.cells #[.int .u8 0,.nilFunc] 216))) AH.out.size); have Am:=yE AY; clear Ae AY)
  | (refine(ZP _ p s R (HP.out.ext AR.out).ts).mono ?_; rintro e w4 ⟨rfl,AL⟩; have Ad:=yE (AR.out.trans AL); have AX:=yE (Am.out.ext AL); have f0:w4.cell? ⟨w2.heap.size,0,none⟩=some (.int .u8 (k:Int)):=AX.out.cell 0; clear AL; unfold xS))
 have AU:Hid (Safe w4 (xO p R) w2.heap.size 216 #[.int .u8 (k:Int),.func (.func K) #[] #[]]):=yE ⟨AX.out,fun h=>by
  have h1:=HP.out.zBM h;have h2:=AH.out.size
  omega⟩
 obtain⟨gf,AZ⟩:∃gf,Hid (w2.heap.size=gf):=⟨_,yE rfl⟩;rw[AZ.out];rw[AZ.out] at AU;clear f0 Ah;refine(zFd w4 p B s R i k (HP.out.ext Ad.out) HI.out (by have:=Ac.out; unfold Ps.phi at this; omega) HG.out).mono ?_;rintro e w5 ⟨rfl,R5,AC,AK⟩;have As:=yE AC;have Ag:=yE ((yZ.ext (M:=xO p R) Ad.out).trans AK);have AP:=yE (AU.out.xC AK);have AV:=yE (AC.zTL Aj.out);have AT:Hid (yZ w5 (xO p R5) (w5.setCell ⟨p,0,none⟩ (.slice (some ⟨R5.bt,R5.ot+5,none⟩) ((s.yX i k).ts.length-1) (R5.ct-1))) (xO p R5.adv)):=yE (yZ.set (.inl rfl));have AE:Hid (Ran w p B R s (w5.setCell ⟨p,0,none⟩ (.slice (some ⟨R5.bt,R5.ot+5,none⟩) ((s.yX i k).ts.length-1) (R5.ct-1))) R5.adv (s.yX i k).adv):=yE ⟨AV.out,Ag.out.trans AT.out,Al.out⟩;clear AV
 have h2:2≤(s.yX i k).ts.length:=by
  have hg:=AN.out.pos;rw[ZF] at hg;omega
 have h3:=AC.zJ3;have x0:=AC.x0;have z0:=AC.blk.frozen 0;clear AC AK;generalize (s.yX i k).ts.length=nt at *;generalize R5.ct=ct at *
 go_upto_region 5 with fail
 generalize w5.setCell ⟨p,0,none⟩ (.slice (some ⟨R5.bt,R5.ot+5,none⟩) (nt-1) (ct-1))=w6 at *;have AF:=yE (AP.out.xC AT.out);have f1:w6.cell? ⟨gf,1,none⟩=some (.func (.func K) #[] #[]):=AF.out.1.cell 1;clear x0 z0 h2 h3
 go_wp2_with fail
 refine(Aq.out w6 p B _ _ s.nd.length AE.out.ps AN.out (by rw[An.out]; omega) (AE.out.phi Ac.out) (by rw[AS.out]; have:=HN.out; omega)).mono ?_;intro e w7 hp;have AB:=zD3 (zAV f) k s.nd.length (s.yX i k).adv AN.out (by rw[AS.out]; have:=HN.out; omega);have AG:∀ {R' w'},OkP w6 p B R5.adv R' w'→True:=fun _=>trivial
 cases hr:JB (YK f) k s.nd.length (s.yX i k).adv with
 | err er a=>
  rw[hr] at hp;obtain⟨rfl,ho⟩:=hp;have HF:Hid (xQ w p B R AA (ZH er) w7):=yE (by rw[HL.out,hr]; exact zAa.trans AE.out.mv ⟨rfl,ho⟩);exact xB (P:=Tryz.prog) (fn:=Tryz.f165) rfl HF.out
 | ok a s7=>
  rw[hr] at hp AB;obtain⟨rfl,R7,AQ,AM⟩:=hp;have Aa:Hid (Ran w p B R s w7 R7 s7):=yE ⟨AQ,AE.out.mv.trans AM,AE.out.lt.trans AB⟩;have AJ:=yE (AF.out.xC AM);have f0:w7.cell? ⟨gf,0,none⟩=some (.int .u8 (k:Int)):=AJ.out.1.cell 0;have Ai:Hid (AA=if k=14∨k=15 then .ok () s7 else xY [59] s7):=yE (by rw[HL.out,hr]; rfl);clear hr AQ AM AB f1 AG he;have Ab:Hid (AA=.ok () s7):=yE (by rw[Ai.out,if_pos AD.out])
  rcases AD.out with hk | hk
  ·subst hk
   go_wp2_with fail
   go_end0;rw[Ab.out];exact xQ.ok Aa.out.okp
  ·subst hk
   go_wp2_with fail
   go_end0;rw[Ab.out];exact xQ.ok Aa.out.okp
theorem zTo (f:Nat)(ih:zAN 165 f (YK f))(w:World)(p B:Nat)(s:Ps)(R:vC)(i:Nat)(h:PS w p B s R)(hG:Good s)(hi:i<s.nd.length)(hbig:s.phi≤1000000)(hn:s.ts.length≤f+1)(k:Nat)(hfo:vP s.hd.text=some k)(hk:s.hd.kind=1)(hk14:¬(k=14∨k=15)) :
  Calls Tryz.prog 165 #[.pointer (some ⟨p,0,none⟩),.int .i64 (i:Int)] w (xQ w p B R (YK (f+1) i s)):=by
 have HP:=yE h;have HG:=yE hG;have HI:=yE hi;have Ab:=yE hbig;have HN:=yE hn;have Av:=yE ih;obtain⟨AB,AX⟩:∃x,Hid (x=YK (f+1) i s):=⟨_,yE rfl⟩;rw[←AX.out];have hm:=hmf;have Az:=zDA;have Ax:=zAx;have HL:=yE (AX.out.trans (zJx hfo hk));have Aj:=yE hfo;have HK:=yE hk;have At:=yE (zAw hfo);have AA:=yE hk14;have Aw:=hG.pos;have As:=yE (zKe f (YK f) ih (zAV f) (zFQ f) k (zAw hfo));have Ae:=yE (zHT (zAw hfo));have AO:Hid (Good (s.yX i k).adv):=yE ((vT hG i k).adv (by show s.hd.kind≠4; omega));have AT:Hid ((s.yX i k).adv.ts.length=s.ts.length-1):=yE (by rw[ZF,ZZ]);have Ao:Hid ((s.yX i k).adv.nd.length=s.nd.length+1):=yE (xR s i k);have Ak:Hid (ZY s (s.yX i k).adv):=yE (VM.at (i:=i) (k:=k) (r:=.ok () (s.yX i k).adv) (zDx (vT hG i k) (by show s.hd.kind≠4; omega)));have Ai:Hid ((s.yX i k).hd.kind≠4):=yE (by show s.hd.kind≠4; omega)
 have Ag:(s.hd.kind:Int)=1:=by omega
 clear hfo hk hk14;clear h hG hi hbig hn ih
 go_enter Tryz.func165,Tryz.ntmps165
 go_wp2_with fail
 refine(ZP _ p s R HP.out.ts).mono ?_;rintro e w1 ⟨rfl,AP⟩;have Ap:=yE AP;have Ar:=yE (HP.out.ext AP);clear AP;unfold xS
 go_wp2_with fail
 refine(zCA s.hd.text w1).mono ?_;rintro e w2 ⟨rfl,AI⟩;have AH:=yE (Ap.out.trans AI);have A2:=yE (Ar.out.ext AI);clear AI;rw[Aj.out];simp only[zJP,zJS,Option.elim,Option.isSome];have he:=Ae.out;generalize zM0 k=K at *
 go_wp2_with (first
  | (refine vD rfl 216 (.tmp 4) (.tmp 12) rfl w2.heap.size #[.int .u8 (k:Int),.func (.func K) #[] #[]] (by rfl) (by rfl) 216 #[.int .u8 0,.nilFunc] (Blk.new _ _ _) (by kernel_rfl) rfl rfl ?_; intro w3 Ad AZ; have AS:=yE (Ad.ext (AH.out.trans (Ext.alloc w2 (.cells #[.int .u8 0,.nilFunc] 216))) AH.out.size); have An:=yE AZ; clear Ad AZ)
  | (refine(ZP _ p s R (HP.out.ext AS.out).ts).mono ?_; rintro e w4 ⟨rfl,AL⟩; have Ac:=yE (AS.out.trans AL); have AY:=yE (An.out.ext AL); have f0:w4.cell? ⟨w2.heap.size,0,none⟩=some (.int .u8 (k:Int)):=AY.out.cell 0; clear AL; unfold xS))
 have AV:Hid (Safe w4 (xO p R) w2.heap.size 216 #[.int .u8 (k:Int),.func (.func K) #[] #[]]):=yE ⟨AY.out,fun h=>by
  have h1:=HP.out.zBM h;have h2:=AH.out.size
  omega⟩
 obtain⟨gf,Aa⟩:∃gf,Hid (w2.heap.size=gf):=⟨_,yE rfl⟩;rw[Aa.out];rw[Aa.out] at AV;clear f0 Ag;refine(zFd w4 p B s R i k (HP.out.ext Ac.out) HI.out (by have:=Ab.out; unfold Ps.phi at this; omega) HG.out).mono ?_;rintro e w5 ⟨rfl,R5,AD,AK⟩;have Au:=yE AD;have Af:=yE ((yZ.ext (M:=xO p R) Ac.out).trans AK);have AQ:=yE (AV.out.xC AK);have AW:=yE (AD.zTL Ai.out);have AU:Hid (yZ w5 (xO p R5) (w5.setCell ⟨p,0,none⟩ (.slice (some ⟨R5.bt,R5.ot+5,none⟩) ((s.yX i k).ts.length-1) (R5.ct-1))) (xO p R5.adv)):=yE (yZ.set (.inl rfl));have AE:Hid (Ran w p B R s (w5.setCell ⟨p,0,none⟩ (.slice (some ⟨R5.bt,R5.ot+5,none⟩) ((s.yX i k).ts.length-1) (R5.ct-1))) R5.adv (s.yX i k).adv):=yE ⟨AW.out,Af.out.trans AU.out,Ak.out⟩;clear AW
 have h2:2≤(s.yX i k).ts.length:=by
  have hg:=AO.out.pos;rw[ZF] at hg;omega
 have h3:=AD.zJ3;have x0:=AD.x0;have z0:=AD.blk.frozen 0;clear AD AK;generalize (s.yX i k).ts.length=nt at *;generalize R5.ct=ct at *
 go_upto_region 5 with fail
 generalize w5.setCell ⟨p,0,none⟩ (.slice (some ⟨R5.bt,R5.ot+5,none⟩) (nt-1) (ct-1))=w6 at *;have AF:=yE (AQ.out.xC AU.out);have f1:w6.cell? ⟨gf,1,none⟩=some (.func (.func K) #[] #[]):=AF.out.1.cell 1;clear x0 z0 h2 h3
 go_wp2_with fail
 refine(As.out w6 p B _ _ s.nd.length AE.out.ps AO.out (by rw[Ao.out]; omega) (AE.out.phi Ab.out) (by rw[AT.out]; have:=HN.out; omega)).mono ?_;intro e w7 hp;have AC:=zD3 (zAV f) k s.nd.length (s.yX i k).adv AO.out (by rw[AT.out]; have:=HN.out; omega);have AG:∀ {R' w'},OkP w6 p B R5.adv R' w'→True:=fun _=>trivial
 cases hr:JB (YK f) k s.nd.length (s.yX i k).adv with
 | err er a=>
  rw[hr] at hp;obtain⟨rfl,ho⟩:=hp;have HF:Hid (xQ w p B R AB (ZH er) w7):=yE (by rw[HL.out,hr]; exact zAa.trans AE.out.mv ⟨rfl,ho⟩);exact xB (P:=Tryz.prog) (fn:=Tryz.f165) rfl HF.out
 | ok a s7=>
  rw[hr] at hp AC;obtain⟨rfl,R7,AR,AN⟩:=hp;have AM:Hid (Ran w p B R s w7 R7 s7):=yE ⟨AR,AE.out.mv.trans AN,AE.out.lt.trans AC⟩;have AJ:=yE (AF.out.xC AN);have f0:w7.cell? ⟨gf,0,none⟩=some (.int .u8 (k:Int)):=AJ.out.1.cell 0;have Ah:Hid (AB=if k=14∨k=15 then .ok () s7 else xY [59] s7):=yE (by rw[HL.out,hr]; rfl);clear hr AR AN AC f1 AG he;have Al:Hid (AB=(xY [59] s7).bind fun _ s=>.ok () s):=yE (ZT (by rw[Ah.out,if_neg AA.out]))
  have A0:((k:Int) != 14)=true:=by rw[zD]; have:=AA.out; omega
  have Ay:((k:Int) != 15)=true:=by rw[zD]; have:=AA.out; omega
  have A1:¬(k:Int)=14:=by have:=AA.out; omega
  have A3:¬(k:Int)=15:=by have:=AA.out; omega
  go_wp2_with fail
  refine(jN w7 p B s7 R7 [59] AM.out.ps).mono ?_;intro e w8 hp
  rcases Ran.go Al AM (vA _ _ AM.out.lt.yY) hp with ⟨s8,R8,Am,rfl,Aq⟩ | ⟨er,a,rfl,HX,HY⟩
  rotate_left
  ·refine xB (P:=Tryz.prog) (fn:=Tryz.f165) rfl ?_;rw[HX.out];exact HY.out
  try clear hp
  go_wp2_with fail
  go_end0;rw[Am.out];exact xQ.ok Aq.out.okp
theorem zDJ:∀f,zAN 165 f (YK f)
 | 0=>fun w p B s R i h hG hi AA hn=>absurd hG.pos (by omega)
 | f+1=>fun w p B s R i h hG hi AA hn=>by
  cases hfo:vP s.hd.text with
  | none=>exact zT8 f (zDJ f) w p B s R i h hG hi AA hn hfo
  | some k=>
   by_cases hk:s.hd.kind=1
   ·by_cases AB:k=14∨k=15
    ·exact zT5 f (zDJ f) w p B s R i h hG hi AA hn k hfo hk AB
    ·exact zTo f (zDJ f) w p B s R i h hG hi AA hn k hfo hk AB
   ·exact zTw f (zDJ f) w p B s R i h hG hi AA hn k hfo hk
theorem zJL (w:World)(p B:Nat)(s:Ps)(R:vC)(i:Nat)(h:PS w p B s R)(hG:Good s)(hi:i<s.nd.length)(hbig:s.phi≤1000000) :
  Calls Tryz.prog 135 #[.pointer (some ⟨p,0,none⟩),.int .i64 (i:Int)] w (xQ w p B R (VN i s)):=
 zKX s.ts.length (YK s.ts.length) (zDJ _) (zAV _) (zFQ _) w p B s R i h hG hi hbig (Nat.le_succ _)
end Go.Proofs.YtioffpjajhalaaaGreatDoor
