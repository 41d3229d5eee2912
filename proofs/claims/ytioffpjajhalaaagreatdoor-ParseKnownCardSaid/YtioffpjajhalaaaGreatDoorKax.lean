/- tree.forms, walked. (and what follows of it). The conditions stand at each lemma. -/
import Derived.Test.YtioffpjajhalaaaGreatDoorKaa
import Derived.Test.YtioffpjajhalaaaGreatDoorKau
import Derived.Test.YtioffpjajhalaaaGreatDoorKaw
set_option linter.unusedVariables false
set_option linter.unusedSimpArgs false
set_option maxRecDepth 100000
set_option maxHeartbeats 16000000
namespace Go.Proofs.YtioffpjajhalaaaGreatDoor.TT
open Go Go.RowKit
theorem zCA (k:Int)(w:World):Calls Tryz.prog 92 #[.int .u8 k] w fun e w'=>∃v,e=.returned v∧zBF w' (zCZ k) v∧Ext w w':=by
 have hz:∀w,(zeroValue 143).run Tryz.prog w=.ok (.slice none 0 0) w:=fun w=>by kernel_rfl
 have HZ:=yE hz;clear hz;have A2:=@run_makeMap Tryz.prog;have h4:Blk (((((w.alloc (.cells #[.int .u8 20] 5)).alloc (.cells #[.int .u8 5] 5)).alloc (.cells #[.int .u8 6] 5)).alloc (.cells #[.int .u8 21] 5)).alloc (.map #[] 0)) w.heap.size 5 #[.int .u8 20]:=((((Blk.new w 5 #[.int .u8 20]).alloc _).alloc _).alloc _).alloc _;have h5:Blk (((((w.alloc (.cells #[.int .u8 20] 5)).alloc (.cells #[.int .u8 5] 5)).alloc (.cells #[.int .u8 6] 5)).alloc (.cells #[.int .u8 21] 5)).alloc (.map #[] 0)) (w.heap.size+1) 5 #[.int .u8 5]:=(((Blk.newAt (by simp)).alloc _).alloc _).alloc _;have h6:Blk (((((w.alloc (.cells #[.int .u8 20] 5)).alloc (.cells #[.int .u8 5] 5)).alloc (.cells #[.int .u8 6] 5)).alloc (.cells #[.int .u8 21] 5)).alloc (.map #[] 0)) (w.heap.size+1+1) 5 #[.int .u8 6]:=((Blk.newAt (by simp)).alloc _).alloc _;have h7:Blk (((((w.alloc (.cells #[.int .u8 20] 5)).alloc (.cells #[.int .u8 5] 5)).alloc (.cells #[.int .u8 6] 5)).alloc (.cells #[.int .u8 21] 5)).alloc (.map #[] 0)) (w.heap.size+1+1+1) 5 #[.int .u8 21]:=(Blk.newAt (by simp)).alloc _
 have Ar:YH (((((w.alloc (.cells #[.int .u8 20] 5)).alloc (.cells #[.int .u8 5] 5)).alloc (.cells #[.int .u8 6] 5)).alloc (.cells #[.int .u8 21] 5)).alloc (.map #[] 0)) (w.heap.size+1+1+1+1) #[] 0:=by
  have:=YH.new ((((w.alloc (.cells #[.int .u8 20] 5)).alloc (.cells #[.int .u8 5] 5)).alloc (.cells #[.int .u8 6] 5)).alloc (.cells #[.int .u8 21] 5))
  simpa using this
 have Av:Hid (FSt w (((((w.alloc (.cells #[.int .u8 20] 5)).alloc (.cells #[.int .u8 5] 5)).alloc (.cells #[.int .u8 6] 5)).alloc (.cells #[.int .u8 21] 5)).alloc (.map #[] 0)) (w.heap.size+1+1+1+1) [] [] w.heap.size (w.heap.size+1) (w.heap.size+1+1) (w.heap.size+1+1+1)):=yE ⟨Ar,rfl,(fun x hx=>by cases hx),((((Ext.alloc _ _).trans (Ext.alloc _ _)).trans (Ext.alloc _ _)).trans (Ext.alloc _ _)).trans (Ext.alloc _ _),by omega,h4,h5,h6,h7⟩;clear h4 h5 h6 h7 Ar
 go_enter Tryz.func92,Tryz.ntmps92
 go_upto_region 3 with (go_at_call 141; refine(zJe _ _).mono ?_; rintro e w' ⟨rfl,rfl⟩)
 simp only[List.append_eq,zZ,List.nil_append]
 go_wp2_with (first | (go_at_call 141; refine(zJe _ _).mono ?_; rintro e w' ⟨rfl,rfl⟩) | (refine zB3 rfl (.tmp 13) (.const (.int .u8 1)) (.tmp 16) 1 _ rfl rfl rfl rfl (Av.out.mono (Ext.alloc _ _)) (by exact vX rfl rfl (Blk.newAt (by simp)) zAt rfl) rfl ?_))
 intro w1 l1 Az;have AF:=yE Az;clear Az Av;clear A2;generalize w.heap.size+1+1+1+1+1=r1 at *;generalize w.heap.size+1+1+1+1=r at *;generalize w.heap.size+1+1+1=g7 at *;generalize w.heap.size+1+1=g6 at *;generalize w.heap.size+1=g5 at *;generalize w.heap.size=g4 at *
 try simp only[Act.put]
 go_wp2_with ((refine zB3 rfl (.tmp 13) (.const (.int .u8 2)) (.tmp 21) 2 _ rfl rfl rfl rfl (AF.out.mono ((Ext.alloc _ _).trans (Ext.alloc _ _))) (by exact vX rfl rfl (Blk.newAt (by simp)) (zCv ((Blk.newAt (by simp)).alloc _) ⟨_,rfl,(AF.out.mono ((Ext.alloc _ _).trans (Ext.alloc _ _))).k5⟩) ⟨_,rfl,(AF.out.mono ((Ext.alloc _ _).trans (Ext.alloc _ _))).k5⟩) rfl ?_))
 intro w2 l2 Ap;have Am:=yE Ap;clear Ap AF
 try simp only[Act.put]
 go_wp2_with (first | (go_at_call 141; refine(zJe _ _).mono ?_; rintro e w' ⟨rfl,rfl⟩) | (refine zB3 rfl (.tmp 13) (.const (.int .u8 3)) (.tmp 26) 3 _ rfl rfl rfl rfl (Am.out.mono (((Ext.alloc _ _).trans (Ext.alloc _ _)).trans (Ext.alloc _ _))) (by exact vX rfl rfl (Blk.newAt (by simp)) (zEb ((Blk.newAt (by simp)).alloc _) ⟨_,rfl,(((Blk.newAt (by simp)).alloc _).alloc _)⟩ ⟨_,rfl,(Am.out.mono (((Ext.alloc _ _).trans (Ext.alloc _ _)).trans (Ext.alloc _ _))).k6⟩) rfl) rfl ?_))
 intro w3 l3 Au;have An:=yE Au;clear Au Am
 try simp only[Act.put]
 go_wp2_with ((refine zB3 rfl (.tmp 13) (.const (.int .u8 4)) (.tmp 29) 4 _ rfl rfl rfl rfl (An.out.mono (Ext.alloc _ _)) (by exact vX rfl rfl (Blk.newAt (by simp)) zAt ⟨_,rfl,(An.out.mono (Ext.alloc _ _)).k5⟩) rfl ?_))
 intro w4 l4 At;have Aw:=yE At;clear At An
 try simp only[Act.put]
 go_wp2_with ((refine zB3 rfl (.tmp 13) (.const (.int .u8 5)) (.tmp 31) 5 _ rfl rfl rfl rfl (Aw.out.mono (Ext.alloc _ _)) (by exact vX rfl rfl (Blk.newAt (by simp)) zAt rfl) rfl ?_))
 intro w5 l5 Ax;have A0:=yE Ax;clear Ax Aw
 try simp only[Act.put]
 go_wp2_with ((refine zB3 rfl (.tmp 13) (.const (.int .u8 6)) (.tmp 33) 6 _ rfl rfl rfl rfl (A0.out.mono (Ext.alloc _ _)) (by exact vX rfl rfl (Blk.newAt (by simp)) zAt rfl) rfl ?_))
 intro w6 l6 Aq;have AG:=yE Aq;clear Aq A0
 try simp only[Act.put]
 go_wp2_with ((refine zB3 rfl (.tmp 13) (.const (.int .u8 7)) (.tmp 38) 7 _ rfl rfl rfl rfl (AG.out.mono ((Ext.alloc _ _).trans (Ext.alloc _ _))) (by exact vX rfl rfl (Blk.newAt (by simp)) (zEb ((Blk.newAt (by simp)).alloc _) ⟨_,rfl,(AG.out.mono ((Ext.alloc _ _).trans (Ext.alloc _ _))).k4⟩ ⟨_,rfl,(AG.out.mono ((Ext.alloc _ _).trans (Ext.alloc _ _))).k5⟩) rfl) rfl ?_))
 intro w7 l7 As;have AH:=yE As;clear As AG
 try simp only[Act.put]
 go_wp2_with ((refine zB3 rfl (.tmp 13) (.const (.int .u8 8)) (.tmp 43) 8 _ rfl rfl rfl rfl (AH.out.mono ((Ext.alloc _ _).trans (Ext.alloc _ _))) (by exact vX rfl rfl (Blk.newAt (by simp)) (zLT ((Blk.newAt (by simp)).alloc _) ⟨_,rfl,(AH.out.mono ((Ext.alloc _ _).trans (Ext.alloc _ _))).k4⟩ ⟨_,rfl,(AH.out.mono ((Ext.alloc _ _).trans (Ext.alloc _ _))).k5⟩ (rfl)) rfl) rfl ?_))
 intro w8 l8 Ay;have Ao:=yE Ay;clear Ay AH
 try simp only[Act.put]
 go_wp2_with ((refine zB3 rfl (.tmp 13) (.const (.int .u8 9)) (.tmp 47) 9 _ rfl rfl rfl rfl (Ao.out.mono ((Ext.alloc _ _).trans (Ext.alloc _ _))) (by exact vX rfl rfl (Blk.newAt (by simp)) (zEb ((Blk.newAt (by simp)).alloc _) ⟨_,rfl,(Ao.out.mono ((Ext.alloc _ _).trans (Ext.alloc _ _))).k4⟩ (rfl)) rfl) rfl ?_))
 intro w9 l9 A1;have Al:=yE A1;clear A1 Ao
 try simp only[Act.put]
 go_wp2_with ((refine zB3 rfl (.tmp 13) (.const (.int .u8 10)) (.tmp 51) 10 _ rfl rfl rfl rfl (Al.out.mono ((Ext.alloc _ _).trans (Ext.alloc _ _))) (by exact vX rfl rfl (Blk.newAt (by simp)) (zCv ((Blk.newAt (by simp)).alloc _) ⟨_,rfl,(Al.out.mono ((Ext.alloc _ _).trans (Ext.alloc _ _))).k4⟩) rfl) rfl ?_))
 intro BI BJ AL;have AC:=yE AL;clear AL Al
 try simp only[Act.put]
 go_wp2_with ((refine zB3 rfl (.tmp 13) (.const (.int .u8 11)) (.tmp 56) 11 _ rfl rfl rfl rfl (AC.out.mono ((Ext.alloc _ _).trans (Ext.alloc _ _))) (by exact vX rfl rfl (Blk.newAt (by simp)) (zEb ((Blk.newAt (by simp)).alloc _) ⟨_,rfl,(AC.out.mono ((Ext.alloc _ _).trans (Ext.alloc _ _))).k5⟩ ⟨_,rfl,(AC.out.mono ((Ext.alloc _ _).trans (Ext.alloc _ _))).k5⟩) rfl) rfl ?_))
 intro BD BQ Af;have AE:=yE Af;clear Af AC
 try simp only[Act.put]
 go_wp2_with ((refine zB3 rfl (.tmp 13) (.const (.int .u8 12)) (.tmp 60) 12 _ rfl rfl rfl rfl (AE.out.mono ((Ext.alloc _ _).trans (Ext.alloc _ _))) (by exact vX rfl rfl (Blk.newAt (by simp)) (zCv ((Blk.newAt (by simp)).alloc _) ⟨_,rfl,(AE.out.mono ((Ext.alloc _ _).trans (Ext.alloc _ _))).k5⟩) rfl) rfl ?_))
 intro A9 BU AW;have AD:=yE AW;clear AW AE
 try simp only[Act.put]
 go_wp2_with ((refine zB3 rfl (.tmp 13) (.const (.int .u8 13)) (.tmp 67) 13 _ rfl rfl rfl rfl (AD.out.mono (((Ext.alloc _ _).trans (Ext.alloc _ _)).trans (Ext.alloc _ _))) (by exact zKj rfl rfl rfl rfl (Blk.newAt (by simp)) (zCv (((Blk.newAt (by simp)).alloc _).alloc _) ⟨_,rfl,(AD.out.mono (((Ext.alloc _ _).trans (Ext.alloc _ _)).trans (Ext.alloc _ _))).k5⟩) rfl (zCv ((Blk.newAt (by simp)).alloc _) ⟨_,rfl,(AD.out.mono (((Ext.alloc _ _).trans (Ext.alloc _ _)).trans (Ext.alloc _ _))).k4⟩) rfl) rfl ?_))
 intro BO BW Aa;have AA:=yE Aa;clear Aa AD
 try simp only[Act.put]
 go_wp2_with ((refine zB3 rfl (.tmp 13) (.const (.int .u8 14)) (.tmp 75) 14 _ rfl rfl rfl rfl (AA.out.mono (((Ext.alloc _ _).trans (Ext.alloc _ _)).trans (Ext.alloc _ _))) (by exact zKj rfl rfl rfl rfl (Blk.newAt (by simp)) (zLT (((Blk.newAt (by simp)).alloc _).alloc _) (rfl) (rfl) ⟨_,rfl,(AA.out.mono (((Ext.alloc _ _).trans (Ext.alloc _ _)).trans (Ext.alloc _ _))).k6⟩) rfl (zTb ((Blk.newAt (by simp)).alloc _) (rfl) (rfl) ⟨_,rfl,(AA.out.mono (((Ext.alloc _ _).trans (Ext.alloc _ _)).trans (Ext.alloc _ _))).k6⟩ ⟨_,rfl,(AA.out.mono (((Ext.alloc _ _).trans (Ext.alloc _ _)).trans (Ext.alloc _ _))).k6⟩) rfl) rfl ?_))
 intro BP BA Ab;have AB:=yE Ab;clear Ab AA
 try simp only[Act.put]
 go_wp2_with ((refine zB3 rfl (.tmp 13) (.const (.int .u8 15)) (.tmp 81) 15 _ rfl rfl rfl rfl (AB.out.mono ((Ext.alloc _ _).trans (Ext.alloc _ _))) (by exact vX rfl rfl (Blk.newAt (by simp)) (zLT ((Blk.newAt (by simp)).alloc _) ⟨_,rfl,(AB.out.mono ((Ext.alloc _ _).trans (Ext.alloc _ _))).k7⟩ ⟨_,rfl,(AB.out.mono ((Ext.alloc _ _).trans (Ext.alloc _ _))).k7⟩ ⟨_,rfl,(AB.out.mono ((Ext.alloc _ _).trans (Ext.alloc _ _))).k6⟩) rfl) rfl ?_))
 intro BT A6 Ag;have AU:=yE Ag;clear Ag AB
 try simp only[Act.put]
 go_wp2_with ((refine zB3 rfl (.tmp 13) (.const (.int .u8 16)) (.tmp 84) 16 _ rfl rfl rfl rfl (AU.out.mono ((Ext.alloc _ _).trans (Ext.alloc _ _))) (by exact vX rfl rfl (Blk.newAt (by simp)) (zCv ((Blk.newAt (by simp)).alloc _) (rfl)) rfl) rfl ?_))
 intro BR A7 AM;have AS:=yE AM;clear AM AU
 try simp only[Act.put]
 go_wp2_with ((refine zB3 rfl (.tmp 13) (.const (.int .u8 17)) (.tmp 87) 17 _ rfl rfl rfl rfl (AS.out.mono ((Ext.alloc _ _).trans (Ext.alloc _ _))) (by exact vX rfl rfl (Blk.newAt (by simp)) (zCv ((Blk.newAt (by simp)).alloc _) (rfl)) rfl) rfl ?_))
 intro BZ BB AR;have AO:=yE AR;clear AR AS
 try simp only[Act.put]
 go_wp2_with ((refine zB3 rfl (.tmp 13) (.const (.int .u8 18)) (.tmp 89) 18 _ rfl rfl rfl rfl (AO.out.mono (Ext.alloc _ _)) (by exact vX rfl rfl (Blk.newAt (by simp)) zAt rfl) rfl ?_))
 intro A8 BG AJ;have Ai:=yE AJ;clear AJ AO
 try simp only[Act.put]
 go_wp2_with ((refine zB3 rfl (.tmp 13) (.const (.int .u8 19)) (.tmp 91) 19 _ rfl rfl rfl rfl (Ai.out.mono (Ext.alloc _ _)) (by exact vX rfl rfl (Blk.newAt (by simp)) zAt rfl) rfl ?_))
 intro BV BX AT;have AQ:=yE AT;clear AT Ai
 try simp only[Act.put]
 go_wp2_with ((refine zB3 rfl (.tmp 13) (.const (.int .u8 20)) (.tmp 94) 20 _ rfl rfl rfl rfl (AQ.out.mono ((Ext.alloc _ _).trans (Ext.alloc _ _))) (by exact vX rfl rfl (Blk.newAt (by simp)) (zCv ((Blk.newAt (by simp)).alloc _) (rfl)) rfl) rfl ?_))
 intro BN BH AX;have Ah:=yE AX;clear AX AQ
 try simp only[Act.put]
 go_wp2_with ((refine zB3 rfl (.tmp 13) (.const (.int .u8 21)) (.tmp 96) 21 _ rfl rfl rfl rfl (Ah.out.mono (Ext.alloc _ _)) (by exact vX rfl rfl (Blk.newAt (by simp)) zAt rfl) rfl ?_))
 intro BC BE Ae;have AY:=yE Ae;clear Ae Ah
 try simp only[Act.put]
 go_wp2_with ((refine zB3 rfl (.tmp 13) (.const (.int .u8 22)) (.tmp 98) 22 _ rfl rfl rfl rfl (AY.out.mono (Ext.alloc _ _)) (by exact vX rfl rfl (Blk.newAt (by simp)) zAt rfl) rfl ?_))
 intro BF BY AI;have AP:=yE AI;clear AI AY
 try simp only[Act.put]
 go_wp2_with ((refine zB3 rfl (.tmp 13) (.const (.int .u8 23)) (.tmp 101) 23 _ rfl rfl rfl rfl (AP.out.mono ((Ext.alloc _ _).trans (Ext.alloc _ _))) (by exact vX rfl rfl (Blk.newAt (by simp)) (zEb ((Blk.newAt (by simp)).alloc _) (rfl) (rfl)) rfl) rfl ?_))
 intro BL BM AN;have AZ:=yE AN;clear AN AP
 try simp only[Act.put]
 go_wp2_with ((refine zB3 rfl (.tmp 13) (.const (.int .u8 24)) (.tmp 104) 24 _ rfl rfl rfl rfl (AZ.out.mono ((Ext.alloc _ _).trans (Ext.alloc _ _))) (by exact vX rfl rfl (Blk.newAt (by simp)) (zEb ((Blk.newAt (by simp)).alloc _) (rfl) (rfl)) rfl) rfl ?_))
 intro A3 BK Aj;have Ak:=yE Aj;clear Aj AZ
 try simp only[Act.put]
 go_wp2_with ((refine zB3 rfl (.tmp 13) (.const (.int .u8 25)) (.tmp 107) 25 _ rfl rfl rfl rfl (Ak.out.mono ((Ext.alloc _ _).trans (Ext.alloc _ _))) (by exact vX rfl rfl (Blk.newAt (by simp)) (zEb ((Blk.newAt (by simp)).alloc _) (rfl) (rfl)) rfl) rfl ?_))
 intro A4 BS AK;have AV:=yE AK;clear AK Ak
 try simp only[Act.put]
 go_wp2_with ((refine zB3 rfl (.tmp 13) (.const (.int .u8 26)) (.tmp 110) 26 _ rfl rfl rfl rfl (AV.out.mono ((Ext.alloc _ _).trans (Ext.alloc _ _))) (by exact vX rfl rfl (Blk.newAt (by simp)) (zCv ((Blk.newAt (by simp)).alloc _) (rfl)) rfl) rfl ?_))
 intro Ba A5 Ac;have Ad:=yE Ac;clear Ac AV
 try simp only[Act.put]
 go_wp2_with (refine zUV rfl (.tmp 112) (.tmp 113) k rfl rfl rfl Ad.out HZ.out ?_)
 intro v hv;have HV:=yE hv;clear hv
 try simp only[Act.put]
 go_wp2_with fail
 go_ret;exact⟨v,rfl,HV.out,Ad.out.ext⟩
end Go.Proofs.YtioffpjajhalaaaGreatDoor.TT
namespace Go.Proofs.YtioffpjajhalaaaGreatDoor.TT
def zB7 (k:Int):Int:=if k=6∨k=20 then 1 else 0
def exD (k:Int):Int:=if zA3 k=true then 1 else 0
def vV (v:Int):List Int→List Int→List Int
 | [],D=>D
 | k::r,D=>vV v r (D.set k.toNat v)
theorem zCE (v:Int)(l:List Int):∀D,(vV v l D).length=D.length:=by
 induction l with
 | nil=>intro D; rfl
 | cons k r ih=>intro D; unfold vV; rw[ih]; simp
theorem zDo (v:Int)(l:List Int)(k:Int):∀D,vV v (l++[k]) D=(vV v l D).set k.toNat v:=by
 induction l with
 | nil=>intro D; rfl
 | cons x r ih=>intro D; exact ih _
theorem zDN (D:List Int)(i j:Nat)(v:Int):(D.set i v).getD j 0=if i=j∧j<D.length then v else D.getD j 0:=by
 simp only[yF,List.getElem?_set]
 by_cases h:i=j
 ·subst h
  by_cases h2:i<D.length
  ·simp[h2]
  ·simp[h2]
 ·simp[h]
theorem zEd (v:Int)(l:List Int):∀(D:List Int) (j:Nat),(∀k ∈ l,k.toNat≠j)→(vV v l D).getD j 0=D.getD j 0:=by
 induction l with
 | nil=>intro D j _; rfl
 | cons k r ih=>
  intro D j h;unfold vV;rw[ih _ j (fun x hx=>h x (by simp[hx])),zDN,if_neg (fun hh=>h k (by simp) hh.1)]
def zEu (kd:List Int)(ks:List (List Int))(i:Nat)(st:List Int × Int):List Int × Int:=
 (vV (st.1.getD i 0+zB7 (kd.getD i 0)+exD (kd.getD i 0)) (ks.getD i []) (st.1.set i (st.1.getD i 0+zB7 (kd.getD i 0))),max st.2 (st.1.getD i 0+zB7 (kd.getD i 0)))
def runs (kd:List Int)(ks:List (List Int)):Nat→Nat→List Int × Int→List Int × Int
 | 0,_,st=>st
 | c+1,i,st=>runs kd ks c (i+1) (zEu kd ks i st)
theorem zR1 (kd:List Int)(ks:List (List Int)):∀(a b i:Nat) (st:List Int × Int),runs kd ks (a+b) i st=runs kd ks b (i+a) (runs kd ks a i st):=by
 intro a
 induction a with
 | zero=>intro b i st; rw[Nat.zero_add]; rfl
 | succ a ih=>
  intro b i st;rw[show a+1+b=(a+b)+1 from by omega]
  show runs kd ks (a+b) (i+1) _=_
  rw[ih,show i+1+a=i+(a+1) from by omega]
  rfl
def zDT (kd:List Int)(ks:List (List Int))(i:Nat):List Int × Int:=runs kd ks i 0 (List.replicate ks.length 0,0)
theorem zJ5 (kd:List Int)(ks:List (List Int))(i:Nat):zDT kd ks (i+1)=zEu kd ks i (zDT kd ks i):=by
 unfold zDT;rw[zR1,Nat.zero_add]
 rfl
theorem zRW (kd:List Int)(ks:List (List Int)):∀(c i:Nat) (st:List Int × Int),(runs kd ks c i st).1.length=st.1.length:=by
 intro c
 induction c with
 | zero=>intro i st; rfl
 | succ c ih=>
  intro i st;unfold runs;rw[ih];unfold zEu;simp only[zCE,zB]
def zR5 (kd:List Int)(ks:List (List Int)):Int:=(zDT kd ks ks.length).2
def zDZ (l:List vI)(k:Int):Int:=match l[k.toNat]? with | some x=>x.kind | none=>0
def XL (l:List vI)(ks:List Int):List Int:=ks.map (zDZ l)
def zI0 (l:List vI)(ks:List Int):Prop:=∀k ∈ ks,∃a:Nat,k=(a:Int)∧a<l.length
theorem zLh {l:List vI}{a:Nat}(h:a<l.length):zDZ l (a:Int)=l[a].kind:=by
 unfold zDZ;rw[zH,yH h]
def zBG (l:List vI):List (List Int):=l.map (·.kids)
def zJZ (l:List vI):List Int:=l.map (·.kind)
theorem JG (l:List vI):(zBG l).length=l.length:=by simp[zBG]
theorem zFl (l:List vI)(i:Nat)(h:i<l.length):(zBG l).getD i []=l[i].kids:=by simp[zBG,yF,h]
theorem zQl (l:List vI)(i:Nat)(h:i<l.length):(zJZ l).getD i 0=l[i].kind:=by simp[zJZ,yF,h]
def zCF (l:List vI)(x:vI):Bool:=zJo x.kind x.num x.text.data.toList (XL l x.kids)
def zA9 (l:List vI):Bool:=(zDR (zBG l)).isSome&&(zDZ l 0==1&&l.all (zCF l))
def zN0 (l:List vI):Bool:=(List.range l.length).all fun i=>((zBG l).getD i []).all fun k=>decide ((i:Int)<k)&&decide (k<(l.length:Int))
theorem zFT (l:List vI):zN0 l=true↔∀i,i<l.length→∀k ∈ (zBG l).getD i [],(i:Int)<k∧k<(l.length:Int):=by
 unfold zN0;rw[zG];simp only[List.mem_range,zG,zF,zE]
theorem zJY {l:List vI}{Z:List Nat}(h:zDR (zBG l)=some Z):zN0 l=true:=by
 rw[zFT];obtain⟨_,_,_,hz⟩:=zKN h;intro i hi k hk;obtain⟨a,h1,h2,h3⟩:=zOR (hz i (by rw[JG]; exact hi)) k hk;rw[JG] at h3;omega
theorem zJ0 {l:List vI}(h:zA9 l=true):∃Z,zDR (zBG l)=some Z:=by
 unfold zA9 at h;rw[zF] at h;exact Option.isSome_iff_exists.1 h.1
theorem zFA {l:List vI}{Z:List Nat}(h:zDR (zBG l)=some Z):∀x ∈ l,zI0 l x.kids:=by
 intro x hx k hk;obtain⟨i,hi,rfl⟩:=List.getElem_of_mem hx;have h1:=(zFT l).1 (zJY h) i hi k (by rw[zFl l i hi]; exact hk);exact⟨k.toNat,by omega,by omega⟩
def zGt (l:List vI):Int:=if zA9 l=true then zR5 (zJZ l) (zBG l) else 0
def jV (x y:vI):Bool:=x.kind==y.kind&&(x.text.toList==y.text.toList&&(x.num==y.num&&x.kids==y.kids))
def zAC:List vI→List vI→Bool
 | [],[]=>true
 | x::l,y::m=>jV x y&&zAC l m
 | _,_=>false
theorem zFs:∀ {l m:List vI},l.length≠m.length→zAC l m=false
 | [],[],h=>absurd rfl h
 | [],_::_,_=>rfl
 | _::_,[],_=>rfl
 | x::l,y::m,h=>by
  show(jV x y&&zAC l m)=false
  rw[zFs (l:=l) (m:=m) (fun e=>h (by simp[e])),Bool.and_false]
theorem zFg:∀ {l m:List vI},l.length=m.length→(∀i (h1:i<l.length) (h2:i<m.length),jV l[i] m[i]=true)→zAC l m=true
 | [],[],_,_=>rfl
 | x::l,y::m,h,ha=>by
  show(jV x y&&zAC l m)=true
  rw[show jV x y=true from ha 0 (by simp) (by simp),zFg (l:=l) (m:=m) (by simpa using h) (fun i h1 h2=>ha (i+1) (by simpa using h1) (by simpa using h2)),Bool.and_true]
theorem zGA:∀ {l m:List vI} (i:Nat) (h1:i<l.length) (h2:i<m.length),jV l[i] m[i]=false→zAC l m=false
 | x::l,y::m,0,_,_,h=>by
  show(jV x y&&zAC l m)=false
  rw[show jV x y=false from h,Bool.false_and]
 | x::l,y::m,i+1,h1,h2,h=>by
  show(jV x y&&zAC l m)=false
  rw[zGA (l:=l) (m:=m) i (by simpa using h1) (by simpa using h2) h,Bool.and_false]
theorem zND {ks:List (List Int)}{j:Nat}(h:zAg ks j=none):∀m,j≤m→zAg ks m=none:=by
 intro m
 induction m with
 | zero=>intro hm; rw[show j=0 from by omega] at h; exact h
 | succ m ih=>
  intro hm
  by_cases he:j=m+1
  ·rw[←he]; exact h
  ·unfold zAg;rw[ih (by omega)]
theorem zJV {ks:List (List Int)}{j:Nat}(hj:j≤ks.length)(h:zAg ks j=none):zDR ks=none:=by
 unfold zDR;rw[zND h _ hj]
end Go.Proofs.YtioffpjajhalaaaGreatDoor.TT
namespace Go.Proofs.YtioffpjajhalaaaGreatDoor.TT
open Go Go.RowKit
theorem zOF:(Tryz.prog.info? 5).map (fun i=>(i.zero,i.size,i.bytes))=some (some (.int .u8 0),1,1):=by kernel_rfl
theorem zNF (l:List Int)(x:Int):xL (l++[x])=xL l++[.int .u8 x]:=by simp[xL]
structure KSt (w0 W:World)(gt gn gk:Nat)(tv:Value)(nc:Array Value)(ls:List Int)(A:Option Addr)(c:Nat):Prop where
 t:Blk W gt 39 #[tv]
 n:Blk W gn 48 nc
 k:Blk W gk 22 #[.slice A ls.length c]
 own:W.ownsRow w0.heap.size 5 1 (.slice A ls.length c) ls.length (xL ls)
 ext:Ext w0 W
 low:w0.heap.size≤gk
 nil:A=none→c=0
theorem KSt.mono {w0 W W':World}{gt gn gk:Nat}{tv:Value}{nc:Array Value}{ls:List Int}{A:Option Addr}{c:Nat}(h:KSt w0 W gt gn gk tv nc ls A c)(hx:Ext W W'):KSt w0 W' gt gn gk tv nc ls A c:=
 ⟨h.t.ext hx,h.n.ext hx,h.k.ext hx,zFi h.own hx,h.ext.trans hx,h.low,h.nil⟩
theorem zSe {W:World}{b:Nat}{e:TypeId}{size n:Nat}{v:Value}{xs:List Value}(h:W.ownsRow b e size v n xs):∀k,v.ownBlock=some k→b≤k:=by
 intro k hk
 rcases h.2 with ⟨rfl,_⟩ | ⟨g',AA,AB,rfl,hb,hh,_⟩
 ·simp[Value.ownBlock] at hk
 ·simp[Value.ownBlock] at hk;omega
theorem zSy {W:World}{b:Nat}{e:TypeId}{v:Value}{n m:Nat}{xs ys:List Value}(h:W.ownsRow b e 1 v n xs)(hn:n=m)(hx:xs=ys):W.ownsRow b e 1 v m ys:=by subst hn hx; exact h
theorem KSt.step {w0 W W':World}{gt gn gk:Nat}{tv:Value}{nc:Array Value}{ls:List Int}{A A':Option Addr}{c c':Nat}{x:Int}(h:KSt w0 W gt gn gk tv nc ls A c)
  (ho:W'.ownsRow w0.heap.size 5 1 (.slice A' (ls.length+1) c') (ls.length+1) (xL ls++[.int .u8 x])) (hg:W.grownBy W' (Value.slice A ls.length c).ownBlock) (hn:A'=none→c'=0) :
  KSt w0 (W'.setCell ⟨gk,0,none⟩ (.slice A' (ls.length+1) c')) gt gn gk tv nc (ls++[x]) A' c':=by
 have d1:(Value.slice A ls.length c).ownBlock≠some gt:=JM h.own h.t (by decide);have d2:(Value.slice A ls.length c).ownBlock≠some gn:=JM h.own h.n (by decide);have d3:(Value.slice A ls.length c).ownBlock≠some gk:=JM h.own h.k (by decide);have t1:=h.t.grown hg (Ne.symm d1);have n1:=h.n.grown hg (Ne.symm d2);have k1:=h.k.grown hg (Ne.symm d3);have e1:gt≠gk:=h.t.differ h.k (by decide);have e2:gn≠gk:=h.n.differ h.k (by decide)
 have hl:(ls++[x]).length=ls.length+1:=by simp
 refine⟨t1.far e1 _,n1.far e2 _,?_,?_,?_,h.low,hn⟩
 ·rw[hl]; exact k1.put 0 _
 ·rw[hl];have d4:(Value.slice A' (ls.length+1) c').ownBlock≠some gk:=JM ho k1 (by decide);exact zSy (zPH ho (p:=⟨gk,0,none⟩) d4 _) rfl (zNF ls x).symm
 ·have hb:Below w0.heap.size w0 W':=Below.grown h.ext hg h.ext.size (zSe h.own);exact hb.setCell (p:=⟨gk,0,none⟩) h.low _
theorem zOx (k:Int):(zCZ k).length≤10:=by
 by_cases hk:1≤k∧k≤26
 ·have hc:k=1∨k=2∨k=3∨k=4∨k=5∨k=6∨k=7∨k=8∨k=9∨k=10∨k=11∨k=12∨k=13∨k=14∨k=15∨k=16∨k=17∨k=18∨k=19∨k=20∨k=21∨k=22∨k=23∨k=24∨k=25∨k=26:=by omega
  rcases hc with rfl | rfl | rfl | rfl | rfl | rfl | rfl | rfl | rfl | rfl | rfl | rfl | rfl | rfl | rfl | rfl | rfl | rfl | rfl | rfl | rfl | rfl | rfl | rfl | rfl | rfl <;> decide
 ·have h0:zCZ k=[]:=by
   unfold zCZ
   repeat (rw[if_neg (by omega)])
  rw[h0]
  decide
theorem zRm (l:List vI)(A:Option Addr)(n c:Nat)(x:vI)(w:World)(hn:n=l.length)(ht:VZ w A l)(hlen:l.length≤9000)(hx:x.text.size≤9000)(hkl:x.kids.length≤9000)(hxo:zAm w x)(hin:zI0 l x.kids) :
  Calls Tryz.prog 54 #[.agg #[.slice A n c],.agg (Array.mk x.cells)] w fun e w'=>e=.returned (.bool (zJo x.kind x.num x.text.data.toList (XL l x.kids)))∧Ext w w':=by
 subst hn;obtain⟨i0,hi,An,Aj,Ag⟩:=info_parts zOF;have HT:=yE ht;have Ai:=yE hxo;have Af:=yE hin;clear ht hxo hin;obtain⟨kind,pos,text,num,kA,kc,AA⟩:=x
 simp only at hx hkl
 obtain⟨fs,AG⟩:∃fs,zCZ kind=fs:=⟨_,rfl⟩;have Ah:Hid (fs.length≤10):=yE (by rw[←AG]; exact zOx kind);have AP:Hid (zJo kind num text.data.toList (XL l AA)=fs.any fun f=>JN f num text.data.toList (XL l AA)):=yE (by unfold zJo; rw[AG]);have Ao:=yE AG;clear AG
 show Calls Tryz.prog 54 #[.agg #[.slice A l.length c],.agg #[.int .u8 kind,.int .i64 pos,.string text,.int .i64 num,.slice kA AA.length kc]] w fun e w'=>e=.returned (.bool (zJo kind num text.data.toList (XL l AA)))∧Ext w w'
 have AO:Hid (KSt w (((w.alloc (.cells #[.slice A l.length c] 39)).alloc (.cells #[.int .u8 kind,.int .i64 pos,.string text,.int .i64 num,.slice kA AA.length kc] 48)).alloc (.cells #[.slice none 0 0] 22)) w.heap.size (w.heap.size+1) (w.heap.size+1+1) (.slice A l.length c) #[.int .u8 kind,.int .i64 pos,.string text,.int .i64 num,.slice kA AA.length kc] [] none 0):=
  yE ⟨((Blk.newAt rfl).alloc _).alloc _,(Blk.newAt (by simp)).alloc _,Blk.newAt (by simp),zP _ _ _ _,((Ext.alloc _ _).trans (Ext.alloc _ _)).trans (Ext.alloc _ _),by omega,fun _=>rfl⟩
 go_enter Tryz.func54,Tryz.ntmps54
 have y0:=AO.out.n.cell 4
 go_wp2_with fail
 clear y0;generalize ((w.alloc (.cells #[.slice A l.length c] 39)).alloc (.cells #[.int .u8 kind,.int .i64 pos,.string text,.int .i64 num,.slice kA AA.length kc] 48)).alloc (.cells #[.slice none 0 0] 22)=wz at *;generalize w.heap.size+1+1=gk at *;generalize w.heap.size+1=gn at *;obtain⟨gt,AI⟩:∃gt,gt=w.heap.size:=⟨_,rfl⟩;rw[←AI] at AO ⊢;have Au:=yE AI;clear AI
 go_loopw [11] (fun i wr=>∃(k:Nat) (A':Option Addr) (c':Nat),k≤AA.length∧i=.int .i64 k∧Hid (KSt w wr gt gn gk (.slice A l.length c) #[.int .u8 kind,.int .i64 pos,.string text,.int .i64 num,.slice kA AA.length kc] (XL l (AA.take k)) A' c')) (fun i _=>AA.length-(intOf i).toNat)
 case atStart=>exact⟨0,none,0,zT _,rfl,AO⟩
 case round=>
  obtain⟨k,A',c',hk,rfl,HS⟩:=hrel;obtain⟨wa,rfl⟩:∃wa:World,wa=wr:=⟨_,rfl⟩
  by_cases AK:k<AA.length
  ·have d0:decide ((k:Int)<(AA.length:Int))=true:=yQ (by omega);obtain⟨b,As,rfl,hb,AW⟩:=zCw (Ai.out.kids.ext HS.out.ext) k AK;obtain⟨a,ha,AR⟩:=Af.out AA[k] (yM AK)
   have Al:Hid (XL l (AA.take (k+1))=XL l (AA.take k)++[l[a].kind]):=yE (by
    unfold XL;rw[zW AK,List.map_append,ha];simp only[List.map_cons,List.map_nil]
    rw[zLh AR])
   rw[ha] at AW;clear ha
   go_upto_region 5 with fail
   obtain⟨b2,AC,rfl,Am,AU⟩:=(HT.out.ext HS.out.ext).at_ a AR;have AS:wa.cell? ⟨b2,AC+a*5,none⟩=some (.int .u8 l[a].kind):=AU 0 (by omega);have Ad:=yE AS;clear AS AU AW
   have AH:(XL l (AA.take k)).length=k:=by simp[XL]; omega
   generalize XL l (AA.take k)=ls at *;generalize l[a].kind=ka at *
   have q0:(0:Int)≤(a:Int):=by omega
   have q1:(a:Int)<(l.length:Int):=by omega
   apply jJ 8 (by kernel_rfl) (by kernel_rfl) (by kernel_rfl);dsimp only[List.take_succ_cons,List.take_zero,List.drop_succ_cons,List.drop_zero];apply xN (.slice A' ls.length c') rfl rfl rfl
   ·intro w' AE hH;clear hH;have c0:=(HS.out.k.ext AE).cell 0;simp[xH,go_sem,c0];exact Ext.refl _
   apply sQ (.pointer (some ⟨gt,0,none⟩));apply xN (.slice (some ⟨b2,AC,none⟩) l.length c) rfl rfl rfl
   ·intro w' AE hH;clear hH;have c0:=(HS.out.t.ext AE).cell 0;simp[xH,go_sem,c0];exact Ext.refl _
   apply sQ (.int .i64 (a:Int));apply xN (.pointer (some ⟨b2,AC+a*5,none⟩)) rfl rfl rfl
   ·intro w' AE hH;clear hH;simp[xH,go_sem,q0,q1];exact Ext.refl _
   apply sQ (.pointer (some ⟨b2,AC+a*5,none⟩));apply xN (.int .u8 ka) rfl rfl rfl
   ·intro w' AE hH;clear hH;have c0:=(AE.cell (p:=⟨b2,AC+a*5,none⟩) Am).trans Ad.out;simp[xH,go_sem,c0];exact Ext.refl _
   apply ZK (zM8 5 #[.int .u8 ka]) (fun v a b h k=>zM8.ext v a b h k) rfl rfl rfl
   ·intro w' AE hH;clear hH;simp[xH,go_sem];exact⟨⟨_,rfl,Blk.new _ _ _⟩,Ext.alloc _ _⟩
   intro vl;apply ZQ;intro w2 AM hH;have AJ:=hH _ (List.mem_cons_self);obtain⟨gl,Ak,AX⟩:=AJ;subst Ak;clear hH;have Aa:=HS.out.mono AM;have AD:=yE Aa;have AY:=yE AX;have Ar:=yE AM;clear Aa AX AM
   try simp only[Act.put]
   refine YT rfl (.tmp 15) (.tmp 22) 22 rfl w.heap.size 5 i0 (.int .u8 0) 1 1 Tryz.underlying22 hi An Aj Ag rfl (by decide) (.slice A' ls.length c') ls.length (xL ls) (by kernel_rfl) AD.out.own (some ⟨gl,0,none⟩) 1 1 [.int .u8 ka] (by kernel_rfl) (fun h=>by cases h) rfl ?c1 ?c2 ?c3 ?c4 ?c5 ?_
   case c1=>exact .inr ⟨gl,0,rfl,AY.out.lt,fun j hj=>by
    have:j=0:=by simp at hj; omega
    subst this
    exact(AY.out.cell 0)⟩
   case c2=>intro u hu; simp at hu; subst hu; rfl
   case c3=>unfold maxLen; omega
   case c4=>omega
   case c5=>exact AD.out.ext.size
   intro A3 c3 w3 AT AZ AN;have Ap:=yE (AD.out.step AZ AN AT);have AL:Blk w3 gk 22 #[.slice A' ls.length c']:=AD.out.k.grown AN (Ne.symm (JM AD.out.own AD.out.k (by decide)));have y0:=AL.cell 0;have y1:=AL.frozen 0;clear AZ AN AT AL
   try simp only[Act.put]
   go_wp2_with fail
   go_roundw
   case rel=>exact⟨k+1,A3,c3,by omega,by go_num,yE (by rw[Al.out]; have:=Ap.out; rw[AH] at this; exact this)⟩
   case measure=>simp[intOf]; omega
  ·obtain rfl:k=AA.length:=by omega
   have d0:decide ((AA.length:Int)<(AA.length:Int))=false:=by simp
   have Ab:Hid (KSt w wa gt gn gk (.slice A l.length c) #[.int .u8 kind,.int .i64 pos,.string text,.int .i64 num,.slice kA AA.length kc] (XL l AA) A' c'):=yE (by have:=HS.out; rw[List.take_length] at this; exact this);clear HS;have y0:=Ab.out.n.cell 0
   go_wp2_with fail
   refine(zCA kind wa).mono ?_;rintro e w2 ⟨v,rfl,hv,AQ⟩;have AD:=yE (Ab.out.mono AQ);have HV:=yE hv;clear hv AQ y0
   go_wp2_with fail
   have AH:(XL l AA).length≤9000:=by simp[XL]; omega
   have AV:=HV.out;rw[Ao.out] at AV;have Aq:Blk w2 gn 48 (Array.mk (vI.cells ⟨kind,pos,text,num,kA,kc,AA⟩)):=AD.out.n;have AB:=zMi fs v A' (XL l AA) c' gk gn ⟨kind,pos,text,num,kA,kc,AA⟩ w2 AV Ah.out (Cells.own AD.out.own) AH hx AD.out.k Aq;rw[show(fs.any fun f=>JN f (vI.mk kind pos text num kA kc AA).num (vI.mk kind pos text num kA kc AA).text.data.toList (XL l AA))=zJo kind num text.data.toList (XL l AA) from AP.out.symm] at AB;obtain⟨At,AF⟩:∃r,Hid (zJo kind num text.data.toList (XL l AA)=r):=⟨_,yE rfl⟩;rw[AF.out] at AB;refine AB.mono ?_;clear AB;rintro e w3 ⟨rfl,Ac⟩;have Ae:Hid (Ext w w3):=yE (AD.out.ext.trans Ac);clear Ac
   go_wp2_with fail
   go_ret;exact⟨jB AF.out.symm,Ae.out⟩
structure zGh (l:List vI)(x:vI):Prop where
 text:x.text.size≤9000
 kids:x.kids.length≤9000
 range:zI0 l x.kids
theorem zTB (l:List vI)(A:Option Addr)(n c:Nat)(x:vI)(w:World)(hn:n=l.length)(ht:VZ w A l)(hlen:l.length≤9000)(hf:zGh l x)(hxo:zAm w x)(b:Bool)(hb:zCF l x=b) :
  Calls Tryz.prog 54 #[.agg #[.slice A n c],.agg (Array.mk x.cells)] w fun e w'=>e=.returned (.bool b)∧Ext w w':=by
 subst hb;exact zRm l A n c x w hn ht hlen hf.text hf.kids hxo hf.range
theorem zJB (l:List vI)(A:Option Addr)(n c gt:Nat)(x:vI)(w:World)(hn:n=l.length)(ht:VZ w A l)(hlen:l.length≤9000)(hf:zGh l x)(hxo:zAm w x)(hg:Blk w gt 39 #[.slice A n c])(b:Bool)(hb:(!zCF l x)=b) :
  Calls Tryz.prog 53 #[.agg (Array.mk x.cells),.pointer (some ⟨gt,0,none⟩)] w fun e w'=>e=.returned (.bool b)∧Ext w w':=by
 subst hn;obtain⟨d,hd⟩:∃d,zCF l x=d:=⟨_,rfl⟩;have HD:=yE hd;rw[hd] at hb;have HB:=yE hb;have HT:=yE ht;have AD:=yE hxo;have HF:=yE hf;have HG:=yE hg;clear hb hd ht hxo hf hg;obtain⟨kind,pos,text,num,kA,kc,AA⟩:=x;have AB:Hid (Ext w (w.alloc (.cells #[.int .u8 kind,.int .i64 pos,.string text,.int .i64 num,.slice kA AA.length kc] 48))):=yE (Ext.alloc _ _);have y0:=(HG.out.ext AB.out).cell 0
 show Calls Tryz.prog 53 #[.agg #[.int .u8 kind,.int .i64 pos,.string text,.int .i64 num,.slice kA AA.length kc],.pointer (some ⟨gt,0,none⟩)] w fun e w'=>e=.returned (.bool b)∧Ext w w'
 go_enter Tryz.func53,Tryz.ntmps53
 go_wp2_with fail
 refine(zTB l A l.length c ⟨kind,pos,text,num,kA,kc,AA⟩ _ rfl (HT.out.ext AB.out) hlen HF.out (AD.out.ext AB.out) d HD.out).mono ?_;rintro e w2 ⟨rfl,AC⟩;have AE:Hid (Ext w w2):=yE (AB.out.trans AC);clear AC y0
 go_wp2_with fail
 go_ret;exact⟨jB HB.out,AE.out⟩
def zES:vI:=⟨0,0,⟨#[]⟩,0,none,0,[]⟩
theorem zNh (l:List vI)(A:Option Addr)(n c gt:Nat)(w:World)(hn:n=l.length)(ht:VZ w A l)(hlen:l.length≤9000)(hf:∀x ∈ l,zGh l x)(hg:Blk w gt 39 #[.slice A n c]) :
  Calls Tryz.prog 90 #[.slice A n c,.func (.func 53) #[] #[.pointer (some ⟨gt,0,none⟩)]] w fun e w'=>∃r:Int,e=.returned (.int .i64 r)∧decide (0≤r)=(List.range l.length).any (fun i=>!zCF l (l.getD i zES))∧Ext w w':=by
 subst hn;have HT:=yE ht;have HG:=yE hg;have HF:=yE hf;clear ht hg hf;obtain⟨q,HQ⟩:∃q:Nat→Bool,Hid ((fun i=>!zCF l (l.getD i zES))=q):=⟨_,yE rfl⟩;rw[HQ.out]
 go_enter Tryz.func90,Tryz.ntmps90
 go_wp2_with fail
 go_loopw [8] (fun i wr=>∃k:Nat,k≤l.length∧i=.int .i64 k∧Hid (Ext w wr)∧Hid (∀j,j<k→q j=false)) (fun i _=>l.length-(intOf i).toNat)
 case atStart=>exact⟨0,zT _,rfl,yE (Ext.refl _),yE fun j hj=>by omega⟩
 case round=>
  obtain⟨k,hk,rfl,HX,HR⟩:=hrel;obtain⟨wa,rfl⟩:∃wa:World,wa=wr:=⟨_,rfl⟩
  by_cases AE:k<l.length
  ·have d0:decide ((k:Int)<(l.length:Int))=true:=yQ (by omega);obtain⟨b,hb⟩:∃b,q k=b:=⟨_,rfl⟩;have HB:=yE hb
   have AK:l.getD k zES=l[k]:=by simp[yF,AE]
   have AH:Hid ((!zCF l l[k])=b):=yE (by rw[←hb,←HQ.out,←AK]);have AF:=yE (HT.out.ext HX.out);have AI:=yE (HG.out.ext HX.out);have AJ:Hid (zAm wa l[k]):=yE (AF.out.ok _ (yM AE));have AL:Hid (zGh l l[k]):=yE (HF.out _ (yM AE));obtain⟨g,AD,rfl,AN,AA⟩:=AF.out.at_ k AE;clear hb AK;generalize l[k]=x at *;obtain⟨kind,pos,text,num,kA,kc,AB⟩:=x;have c0:wa.cell? ⟨g,AD+k*5,none⟩=some (.int .u8 kind):=AA 0 (by omega);have c1:wa.cell? ⟨g,AD+k*5+1,none⟩=some (.int .i64 pos):=AA 1 (by omega);have c2:wa.cell? ⟨g,AD+k*5+2,none⟩=some (.string text):=AA 2 (by omega);have c3:wa.cell? ⟨g,AD+k*5+3,none⟩=some (.int .i64 num):=AA 3 (by omega);have c4:wa.cell? ⟨g,AD+k*5+4,none⟩=some (.slice kA AB.length kc):=AA 4 (by omega);clear AA
   cases b with
   | true=>
    go_wp2_with (refine(zJB l _ l.length c gt ⟨kind,pos,text,num,kA,kc,AB⟩ _ rfl AF.out hlen AL.out AJ.out AI.out true AH.out).mono ?_; rintro e w2 ⟨rfl,AC⟩; have AG:Hid (Ext w w2):=yE (HX.out.trans AC); clear AC)
    go_ret;exact⟨_,rfl,by rw[yQ (by omega)]; exact(any_some k AE HB.out).symm,AG.out⟩
   | false=>
    go_wp2_with (refine(zJB l _ l.length c gt ⟨kind,pos,text,num,kA,kc,AB⟩ _ rfl AF.out hlen AL.out AJ.out AI.out false AH.out).mono ?_; rintro e w2 ⟨rfl,AC⟩; have AG:Hid (Ext w w2):=yE (HX.out.trans AC); clear AC)
    go_roundw
    case rel=>exact⟨k+1,by omega,by go_num,AG,yE fun j hj=>by
     by_cases AM:j=k
     ·subst AM; exact HB.out
     ·exact HR.out j (by omega)⟩
    case measure=>simp[intOf]; omega
  ·obtain rfl:k=l.length:=by omega
   have d0:decide ((l.length:Int)<(l.length:Int))=false:=by simp
   go_wp2_with fail
   go_ret;exact⟨_,rfl,by rw[any_none HR.out]; rfl,HX.out⟩
theorem zTj (l:List vI)(p:vI→Bool):(!(l.any fun x=>!p x))=l.all p:=by
 induction l with
 | nil=>rfl
 | cons x l ih=>rw[List.any_cons,List.all_cons,←ih]; cases p x <;> simp
theorem zL8 (l:List vI)(A:Option Addr)(n c gt:Nat)(w:World)(hn:n=l.length)(ht:VZ w A l)(hlen:l.length≤9000)(hf:∀x ∈ l,zGh l x)(hg:Blk w gt 39 #[.slice A n c])(b:Bool)(hb:Hid ((!l.all (zCF l))=b)) :
  Calls Tryz.prog 52 #[.slice A n c,.func (.func 53) #[] #[.pointer (some ⟨gt,0,none⟩)]] w fun e w'=>e=.returned (.bool b)∧Ext w w':=by
 subst hn;have AB:Hid ((List.range l.length).any (fun i=>!zCF l (l.getD i zES))=b):=yE (by rw[←hb.out,←zTj,Bool.not_not]; exact zLr l (fun x=>!zCF l x) zES)
 go_enter Tryz.func52,Tryz.ntmps52
 go_wp2_with fail
 refine(zNh l A l.length c gt w rfl ht hlen hf hg).mono ?_;rintro e w2 ⟨r,rfl,hr,AA⟩;have AD:=yE hr;have AC:=yE AA;clear hr AA
 go_wp2_with fail
 go_ret;exact⟨jB (by rw[AD.out,AB.out]),AC.out⟩
end Go.Proofs.YtioffpjajhalaaaGreatDoor.TT
