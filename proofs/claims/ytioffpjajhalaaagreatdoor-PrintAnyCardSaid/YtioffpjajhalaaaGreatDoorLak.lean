/- tree.forms, walked. (and what follows of it). The conditions stand at each lemma. -/
import Derived.Test.YtioffpjajhalaaaGreatDoorLaa
import Derived.Test.YtioffpjajhalaaaGreatDoorLah
import Derived.Test.YtioffpjajhalaaaGreatDoorLag
import Derived.Test.YtioffpjajhalaaaGreatDoorLaj
set_option linter.unusedVariables false
set_option linter.unusedSimpArgs false
set_option maxRecDepth 100000
set_option maxHeartbeats 16000000
namespace Go.Proofs.YtioffpjajhalaaaGreatDoor.TT
open Go Go.RowKit
theorem zBl (k:Int)(w:World):Calls Tryz.prog 92 #[.int .u8 k] w fun e w'=>∃v,e=.returned v∧zAF w' (VU k) v∧Ext w w':=by
 have hz:∀w,(zeroValue 143).run Tryz.prog w=.ok (.slice none 0 0) w:=fun w=>by kernel_rfl
 have HZ:=yD hz;clear hz;have A2:=@run_makeMap Tryz.prog;have h4:Blk (((((w.alloc (.cells #[.int .u8 20] 5)).alloc (.cells #[.int .u8 5] 5)).alloc (.cells #[.int .u8 6] 5)).alloc (.cells #[.int .u8 21] 5)).alloc (.map #[] 0)) w.heap.size 5 #[.int .u8 20]:=((((Blk.new w 5 #[.int .u8 20]).alloc _).alloc _).alloc _).alloc _;have h5:Blk (((((w.alloc (.cells #[.int .u8 20] 5)).alloc (.cells #[.int .u8 5] 5)).alloc (.cells #[.int .u8 6] 5)).alloc (.cells #[.int .u8 21] 5)).alloc (.map #[] 0)) (w.heap.size+1) 5 #[.int .u8 5]:=(((Blk.newAt (by simp)).alloc _).alloc _).alloc _;have h6:Blk (((((w.alloc (.cells #[.int .u8 20] 5)).alloc (.cells #[.int .u8 5] 5)).alloc (.cells #[.int .u8 6] 5)).alloc (.cells #[.int .u8 21] 5)).alloc (.map #[] 0)) (w.heap.size+1+1) 5 #[.int .u8 6]:=((Blk.newAt (by simp)).alloc _).alloc _;have h7:Blk (((((w.alloc (.cells #[.int .u8 20] 5)).alloc (.cells #[.int .u8 5] 5)).alloc (.cells #[.int .u8 6] 5)).alloc (.cells #[.int .u8 21] 5)).alloc (.map #[] 0)) (w.heap.size+1+1+1) 5 #[.int .u8 21]:=(Blk.newAt (by simp)).alloc _
 have Ar:ZG (((((w.alloc (.cells #[.int .u8 20] 5)).alloc (.cells #[.int .u8 5] 5)).alloc (.cells #[.int .u8 6] 5)).alloc (.cells #[.int .u8 21] 5)).alloc (.map #[] 0)) (w.heap.size+1+1+1+1) #[] 0:=by
  have:=ZG.new ((((w.alloc (.cells #[.int .u8 20] 5)).alloc (.cells #[.int .u8 5] 5)).alloc (.cells #[.int .u8 6] 5)).alloc (.cells #[.int .u8 21] 5))
  simpa using this
 have Aw:Hid (FSt w (((((w.alloc (.cells #[.int .u8 20] 5)).alloc (.cells #[.int .u8 5] 5)).alloc (.cells #[.int .u8 6] 5)).alloc (.cells #[.int .u8 21] 5)).alloc (.map #[] 0)) (w.heap.size+1+1+1+1) [] [] w.heap.size (w.heap.size+1) (w.heap.size+1+1) (w.heap.size+1+1+1)):=yD ⟨Ar,rfl,(fun x hx=>by cases hx),((((Ext.alloc _ _).trans (Ext.alloc _ _)).trans (Ext.alloc _ _)).trans (Ext.alloc _ _)).trans (Ext.alloc _ _),by omega,h4,h5,h6,h7⟩;clear h4 h5 h6 h7 Ar
 go_enter Tryz.func92,Tryz.ntmps92
 go_upto_region 3 with (go_at_call 141; refine(zGS _ _).mono ?_; rintro e w' ⟨rfl,rfl⟩)
 simp only[List.append_eq,zZ,List.nil_append]
 go_wp2_with (first | (go_at_call 141; refine(zGS _ _).mono ?_; rintro e w' ⟨rfl,rfl⟩) | (refine zAX rfl (.tmp 13) (.const (.int .u8 1)) (.tmp 16) 1 _ rfl rfl rfl rfl (Aw.out.mono (Ext.alloc _ _)) (by exact vH rfl rfl (Blk.newAt (by simp)) JR rfl) rfl ?_))
 intro w1 l1 Aq;have AH:=yD Aq;clear Aq Aw;clear A2;generalize w.heap.size+1+1+1+1+1=r1 at *;generalize w.heap.size+1+1+1+1=r at *;generalize w.heap.size+1+1+1=g7 at *;generalize w.heap.size+1+1=g6 at *;generalize w.heap.size+1=g5 at *;generalize w.heap.size=g4 at *
 try simp only[Act.put]
 go_wp2_with ((refine zAX rfl (.tmp 13) (.const (.int .u8 2)) (.tmp 21) 2 _ rfl rfl rfl rfl (AH.out.mono ((Ext.alloc _ _).trans (Ext.alloc _ _))) (by exact vH rfl rfl (Blk.newAt (by simp)) (zBj ((Blk.newAt (by simp)).alloc _) ⟨_,rfl,(AH.out.mono ((Ext.alloc _ _).trans (Ext.alloc _ _))).k5⟩) ⟨_,rfl,(AH.out.mono ((Ext.alloc _ _).trans (Ext.alloc _ _))).k5⟩) rfl ?_))
 intro w2 l2 Ap;have Al:=yD Ap;clear Ap AH
 try simp only[Act.put]
 go_wp2_with (first | (go_at_call 141; refine(zGS _ _).mono ?_; rintro e w' ⟨rfl,rfl⟩) | (refine zAX rfl (.tmp 13) (.const (.int .u8 3)) (.tmp 26) 3 _ rfl rfl rfl rfl (Al.out.mono (((Ext.alloc _ _).trans (Ext.alloc _ _)).trans (Ext.alloc _ _))) (by exact vH rfl rfl (Blk.newAt (by simp)) (zCv ((Blk.newAt (by simp)).alloc _) ⟨_,rfl,(((Blk.newAt (by simp)).alloc _).alloc _)⟩ ⟨_,rfl,(Al.out.mono (((Ext.alloc _ _).trans (Ext.alloc _ _)).trans (Ext.alloc _ _))).k6⟩) rfl) rfl ?_))
 intro w3 l3 As;have An:=yD As;clear As Al
 try simp only[Act.put]
 go_wp2_with ((refine zAX rfl (.tmp 13) (.const (.int .u8 4)) (.tmp 29) 4 _ rfl rfl rfl rfl (An.out.mono (Ext.alloc _ _)) (by exact vH rfl rfl (Blk.newAt (by simp)) JR ⟨_,rfl,(An.out.mono (Ext.alloc _ _)).k5⟩) rfl ?_))
 intro w4 l4 A0;have Ax:=yD A0;clear A0 An
 try simp only[Act.put]
 go_wp2_with ((refine zAX rfl (.tmp 13) (.const (.int .u8 5)) (.tmp 31) 5 _ rfl rfl rfl rfl (Ax.out.mono (Ext.alloc _ _)) (by exact vH rfl rfl (Blk.newAt (by simp)) JR rfl) rfl ?_))
 intro w5 l5 Ay;have Az:=yD Ay;clear Ay Ax
 try simp only[Act.put]
 go_wp2_with ((refine zAX rfl (.tmp 13) (.const (.int .u8 6)) (.tmp 33) 6 _ rfl rfl rfl rfl (Az.out.mono (Ext.alloc _ _)) (by exact vH rfl rfl (Blk.newAt (by simp)) JR rfl) rfl ?_))
 intro w6 l6 A1;have AF:=yD A1;clear A1 Az
 try simp only[Act.put]
 go_wp2_with ((refine zAX rfl (.tmp 13) (.const (.int .u8 7)) (.tmp 38) 7 _ rfl rfl rfl rfl (AF.out.mono ((Ext.alloc _ _).trans (Ext.alloc _ _))) (by exact vH rfl rfl (Blk.newAt (by simp)) (zCv ((Blk.newAt (by simp)).alloc _) ⟨_,rfl,(AF.out.mono ((Ext.alloc _ _).trans (Ext.alloc _ _))).k4⟩ ⟨_,rfl,(AF.out.mono ((Ext.alloc _ _).trans (Ext.alloc _ _))).k5⟩) rfl) rfl ?_))
 intro w7 l7 Av;have AG:=yD Av;clear Av AF
 try simp only[Act.put]
 go_wp2_with ((refine zAX rfl (.tmp 13) (.const (.int .u8 8)) (.tmp 43) 8 _ rfl rfl rfl rfl (AG.out.mono ((Ext.alloc _ _).trans (Ext.alloc _ _))) (by exact vH rfl rfl (Blk.newAt (by simp)) (zI8 ((Blk.newAt (by simp)).alloc _) ⟨_,rfl,(AG.out.mono ((Ext.alloc _ _).trans (Ext.alloc _ _))).k4⟩ ⟨_,rfl,(AG.out.mono ((Ext.alloc _ _).trans (Ext.alloc _ _))).k5⟩ (rfl)) rfl) rfl ?_))
 intro w8 l8 At;have Am:=yD At;clear At AG
 try simp only[Act.put]
 go_wp2_with ((refine zAX rfl (.tmp 13) (.const (.int .u8 9)) (.tmp 47) 9 _ rfl rfl rfl rfl (Am.out.mono ((Ext.alloc _ _).trans (Ext.alloc _ _))) (by exact vH rfl rfl (Blk.newAt (by simp)) (zCv ((Blk.newAt (by simp)).alloc _) ⟨_,rfl,(Am.out.mono ((Ext.alloc _ _).trans (Ext.alloc _ _))).k4⟩ (rfl)) rfl) rfl ?_))
 intro w9 l9 Au;have Ao:=yD Au;clear Au Am
 try simp only[Act.put]
 go_wp2_with ((refine zAX rfl (.tmp 13) (.const (.int .u8 10)) (.tmp 51) 10 _ rfl rfl rfl rfl (Ao.out.mono ((Ext.alloc _ _).trans (Ext.alloc _ _))) (by exact vH rfl rfl (Blk.newAt (by simp)) (zBj ((Blk.newAt (by simp)).alloc _) ⟨_,rfl,(Ao.out.mono ((Ext.alloc _ _).trans (Ext.alloc _ _))).k4⟩) rfl) rfl ?_))
 intro BP BC AV;have AD:=yD AV;clear AV Ao
 try simp only[Act.put]
 go_wp2_with ((refine zAX rfl (.tmp 13) (.const (.int .u8 11)) (.tmp 56) 11 _ rfl rfl rfl rfl (AD.out.mono ((Ext.alloc _ _).trans (Ext.alloc _ _))) (by exact vH rfl rfl (Blk.newAt (by simp)) (zCv ((Blk.newAt (by simp)).alloc _) ⟨_,rfl,(AD.out.mono ((Ext.alloc _ _).trans (Ext.alloc _ _))).k5⟩ ⟨_,rfl,(AD.out.mono ((Ext.alloc _ _).trans (Ext.alloc _ _))).k5⟩) rfl) rfl ?_))
 intro BJ A4 AM;have AE:=yD AM;clear AM AD
 try simp only[Act.put]
 go_wp2_with ((refine zAX rfl (.tmp 13) (.const (.int .u8 12)) (.tmp 60) 12 _ rfl rfl rfl rfl (AE.out.mono ((Ext.alloc _ _).trans (Ext.alloc _ _))) (by exact vH rfl rfl (Blk.newAt (by simp)) (zBj ((Blk.newAt (by simp)).alloc _) ⟨_,rfl,(AE.out.mono ((Ext.alloc _ _).trans (Ext.alloc _ _))).k5⟩) rfl) rfl ?_))
 intro BL BG AZ;have AC:=yD AZ;clear AZ AE
 try simp only[Act.put]
 go_wp2_with ((refine zAX rfl (.tmp 13) (.const (.int .u8 13)) (.tmp 67) 13 _ rfl rfl rfl rfl (AC.out.mono (((Ext.alloc _ _).trans (Ext.alloc _ _)).trans (Ext.alloc _ _))) (by exact zHM rfl rfl rfl rfl (Blk.newAt (by simp)) (zBj (((Blk.newAt (by simp)).alloc _).alloc _) ⟨_,rfl,(AC.out.mono (((Ext.alloc _ _).trans (Ext.alloc _ _)).trans (Ext.alloc _ _))).k5⟩) rfl (zBj ((Blk.newAt (by simp)).alloc _) ⟨_,rfl,(AC.out.mono (((Ext.alloc _ _).trans (Ext.alloc _ _)).trans (Ext.alloc _ _))).k4⟩) rfl) rfl ?_))
 intro BR BD AR;have AB:=yD AR;clear AR AC
 try simp only[Act.put]
 go_wp2_with ((refine zAX rfl (.tmp 13) (.const (.int .u8 14)) (.tmp 75) 14 _ rfl rfl rfl rfl (AB.out.mono (((Ext.alloc _ _).trans (Ext.alloc _ _)).trans (Ext.alloc _ _))) (by exact zHM rfl rfl rfl rfl (Blk.newAt (by simp)) (zI8 (((Blk.newAt (by simp)).alloc _).alloc _) (rfl) (rfl) ⟨_,rfl,(AB.out.mono (((Ext.alloc _ _).trans (Ext.alloc _ _)).trans (Ext.alloc _ _))).k6⟩) rfl (zRi ((Blk.newAt (by simp)).alloc _) (rfl) (rfl) ⟨_,rfl,(AB.out.mono (((Ext.alloc _ _).trans (Ext.alloc _ _)).trans (Ext.alloc _ _))).k6⟩ ⟨_,rfl,(AB.out.mono (((Ext.alloc _ _).trans (Ext.alloc _ _)).trans (Ext.alloc _ _))).k6⟩) rfl) rfl ?_))
 intro A6 BH AK;have AA:=yD AK;clear AK AB
 try simp only[Act.put]
 go_wp2_with ((refine zAX rfl (.tmp 13) (.const (.int .u8 15)) (.tmp 81) 15 _ rfl rfl rfl rfl (AA.out.mono ((Ext.alloc _ _).trans (Ext.alloc _ _))) (by exact vH rfl rfl (Blk.newAt (by simp)) (zI8 ((Blk.newAt (by simp)).alloc _) ⟨_,rfl,(AA.out.mono ((Ext.alloc _ _).trans (Ext.alloc _ _))).k7⟩ ⟨_,rfl,(AA.out.mono ((Ext.alloc _ _).trans (Ext.alloc _ _))).k7⟩ ⟨_,rfl,(AA.out.mono ((Ext.alloc _ _).trans (Ext.alloc _ _))).k6⟩) rfl) rfl ?_))
 intro BN A7 Ak;have Af:=yD Ak;clear Ak AA
 try simp only[Act.put]
 go_wp2_with ((refine zAX rfl (.tmp 13) (.const (.int .u8 16)) (.tmp 84) 16 _ rfl rfl rfl rfl (Af.out.mono ((Ext.alloc _ _).trans (Ext.alloc _ _))) (by exact vH rfl rfl (Blk.newAt (by simp)) (zBj ((Blk.newAt (by simp)).alloc _) (rfl)) rfl) rfl ?_))
 intro BQ BO Aa;have Ae:=yD Aa;clear Aa Af
 try simp only[Act.put]
 go_wp2_with ((refine zAX rfl (.tmp 13) (.const (.int .u8 17)) (.tmp 87) 17 _ rfl rfl rfl rfl (Ae.out.mono ((Ext.alloc _ _).trans (Ext.alloc _ _))) (by exact vH rfl rfl (Blk.newAt (by simp)) (zBj ((Blk.newAt (by simp)).alloc _) (rfl)) rfl) rfl ?_))
 intro BU BF AU;have Ad:=yD AU;clear AU Ae
 try simp only[Act.put]
 go_wp2_with ((refine zAX rfl (.tmp 13) (.const (.int .u8 18)) (.tmp 89) 18 _ rfl rfl rfl rfl (Ad.out.mono (Ext.alloc _ _)) (by exact vH rfl rfl (Blk.newAt (by simp)) JR rfl) rfl ?_))
 intro BV BE AP;have AL:=yD AP;clear AP Ad
 try simp only[Act.put]
 go_wp2_with ((refine zAX rfl (.tmp 13) (.const (.int .u8 19)) (.tmp 91) 19 _ rfl rfl rfl rfl (AL.out.mono (Ext.alloc _ _)) (by exact vH rfl rfl (Blk.newAt (by simp)) JR rfl) rfl ?_))
 intro BA BY Ac;have AI:=yD Ac;clear Ac AL
 try simp only[Act.put]
 go_wp2_with ((refine zAX rfl (.tmp 13) (.const (.int .u8 20)) (.tmp 94) 20 _ rfl rfl rfl rfl (AI.out.mono ((Ext.alloc _ _).trans (Ext.alloc _ _))) (by exact vH rfl rfl (Blk.newAt (by simp)) (zBj ((Blk.newAt (by simp)).alloc _) (rfl)) rfl) rfl ?_))
 intro BS BK AS;have AT:=yD AS;clear AS AI
 try simp only[Act.put]
 go_wp2_with ((refine zAX rfl (.tmp 13) (.const (.int .u8 21)) (.tmp 96) 21 _ rfl rfl rfl rfl (AT.out.mono (Ext.alloc _ _)) (by exact vH rfl rfl (Blk.newAt (by simp)) JR rfl) rfl ?_))
 intro BZ A3 Ah;have AO:=yD Ah;clear Ah AT
 try simp only[Act.put]
 go_wp2_with ((refine zAX rfl (.tmp 13) (.const (.int .u8 22)) (.tmp 98) 22 _ rfl rfl rfl rfl (AO.out.mono (Ext.alloc _ _)) (by exact vH rfl rfl (Blk.newAt (by simp)) JR rfl) rfl ?_))
 intro BB BM AY;have AQ:=yD AY;clear AY AO
 try simp only[Act.put]
 go_wp2_with ((refine zAX rfl (.tmp 13) (.const (.int .u8 23)) (.tmp 101) 23 _ rfl rfl rfl rfl (AQ.out.mono ((Ext.alloc _ _).trans (Ext.alloc _ _))) (by exact vH rfl rfl (Blk.newAt (by simp)) (zCv ((Blk.newAt (by simp)).alloc _) (rfl) (rfl)) rfl) rfl ?_))
 intro BI BW AN;have AJ:=yD AN;clear AN AQ
 try simp only[Act.put]
 go_wp2_with ((refine zAX rfl (.tmp 13) (.const (.int .u8 24)) (.tmp 104) 24 _ rfl rfl rfl rfl (AJ.out.mono ((Ext.alloc _ _).trans (Ext.alloc _ _))) (by exact vH rfl rfl (Blk.newAt (by simp)) (zCv ((Blk.newAt (by simp)).alloc _) (rfl) (rfl)) rfl) rfl ?_))
 intro Ba BT AW;have Ai:=yD AW;clear AW AJ
 try simp only[Act.put]
 go_wp2_with ((refine zAX rfl (.tmp 13) (.const (.int .u8 25)) (.tmp 107) 25 _ rfl rfl rfl rfl (Ai.out.mono ((Ext.alloc _ _).trans (Ext.alloc _ _))) (by exact vH rfl rfl (Blk.newAt (by simp)) (zCv ((Blk.newAt (by simp)).alloc _) (rfl) (rfl)) rfl) rfl ?_))
 intro BX A5 Aj;have Ab:=yD Aj;clear Aj Ai
 try simp only[Act.put]
 go_wp2_with ((refine zAX rfl (.tmp 13) (.const (.int .u8 26)) (.tmp 110) 26 _ rfl rfl rfl rfl (Ab.out.mono ((Ext.alloc _ _).trans (Ext.alloc _ _))) (by exact vH rfl rfl (Blk.newAt (by simp)) (zBj ((Blk.newAt (by simp)).alloc _) (rfl)) rfl) rfl ?_))
 intro A9 A8 Ag;have AX:=yD Ag;clear Ag Ab
 try simp only[Act.put]
 go_wp2_with (refine zSW rfl (.tmp 112) (.tmp 113) k rfl rfl rfl AX.out HZ.out ?_)
 intro v hv;have HV:=yD hv;clear hv
 try simp only[Act.put]
 go_wp2_with fail
 go_ret;exact⟨v,rfl,HV.out,AX.out.ext⟩
end Go.Proofs.YtioffpjajhalaaaGreatDoor.TT
namespace Go.Proofs.YtioffpjajhalaaaGreatDoor.TT

def JH (l:List xB)(k:Int):Int:=match l[k.toNat]? with | some x=>x.kind | none=>0
def vG (l:List xB)(ks:List Int):List Int:=ks.map (JH l)
def zDd (l:List xB)(ks:List Int):Prop:=∀k ∈ ks,∃a:Nat,k=(a:Int)∧a<l.length
theorem zDl {l:List xB}{a:Nat}(h:a<l.length):JH l (a:Int)=l[a].kind:=by
 unfold JH;rw[zH,yG h]
def XE (l:List xB):List (List Int):=l.map (·.kids)
theorem ZH (l:List xB):(XE l).length=l.length:=by simp[XE]
theorem zAA (l:List xB)(i:Nat)(h:i<l.length):(XE l).getD i []=l[i].kids:=by simp[XE,yE,h]
def zAM (l:List xB)(x:xB):Bool:=zBZ x.kind x.num x.text.data.toList (vG l x.kids)
def XL (l:List xB):Bool:=(zBf (XE l)).isSome&&(JH l 0==1&&l.all (zAM l))
def zBU (l:List xB):Bool:=(List.range l.length).all fun i=>((XE l).getD i []).all fun k=>decide ((i:Int)<k)&&decide (k<(l.length:Int))
def zDu (l:List xB)(x:xB):Bool:=decide (1≤x.kind)&&(decide (x.kind≤26)&&(vL x.kind x.num x.text.data.toList&&vY x.kind (vG l x.kids)))
def JN (l:List xB):Bool:=decide (0<l.length)&&(JH l 0==1&&(zBU l&&(decide (XD (XE l) 0=some l.length)&&l.all (zDu l))))
theorem zBA (l:List xB):zBU l=true↔∀i,i<l.length→∀k ∈ (XE l).getD i [],(i:Int)<k∧k<(l.length:Int):=by
 unfold zBU;rw[zG];simp only[List.mem_range,zG,zF,zE]
theorem zHz {l:List xB}{Z:List Nat}(h:zBf (XE l)=some Z):zBU l=true:=by
 rw[zBA];obtain⟨_,_,_,hz⟩:=zEE h;intro i hi k hk;obtain⟨a,h1,h2,h3⟩:=zMj (hz i (by rw[ZH]; exact hi)) k hk;rw[ZH] at h3;omega
theorem zQr (l:List xB):(zBf (XE l)).isSome=(decide (0<l.length)&&(zBU l&&decide (XD (XE l) 0=some l.length))):=by
 cases h:zBf (XE l) with
 | none=>
  have:=zO4 h
  rw[ZH] at this;rw[yO this]
  simp
 | some Z=>
  obtain⟨h1,h2,h3,_⟩:=zEE h;rw[ZH] at h2 h3;rw[zHz h,yP h3,yP (by omega)]
  rfl
theorem zP3 (l:List xB)(x:xB):zAM l x=zDu l x:=zQI _ _ _ _
theorem zIe (l:List xB):XL l=JN l:=by
 unfold XL JN;rw[zQr,show zAM l=zDu l from funext (zP3 l)]
 cases decide (0<l.length) <;> cases (JH l 0==1) <;> cases zBU l <;> cases decide (XD (XE l) 0=some l.length) <;> simp
theorem zH0 {l:List xB}{Z:List Nat}(h:zBf (XE l)=some Z):∀x ∈ l,zDd l x.kids:=by
 intro x hx k hk;obtain⟨i,hi,rfl⟩:=List.getElem_of_mem hx;have h1:=(zBA l).1 (zHz h) i hi k (by rw[zAA l i hi]; exact hk);exact⟨k.toNat,by omega,by omega⟩
def zHx (x y:xB):Bool:=x.kind==y.kind&&(x.text.toList==y.text.toList&&(x.num==y.num&&x.kids==y.kids))
def zM4:List xB→List xB→Bool
 | [],[]=>true
 | x::l,y::m=>zHx x y&&zM4 l m
 | _,_=>false
theorem zKU {ks:List (List Int)}{j:Nat}(h:XK ks j=none):∀m,j≤m→XK ks m=none:=by
 intro m
 induction m with
 | zero=>intro hm; rw[show j=0 from by omega] at h; exact h
 | succ m ih=>
  intro hm
  by_cases he:j=m+1
  ·rw[←he]; exact h
  ·unfold XK;rw[ih (by omega)]
theorem zHy {ks:List (List Int)}{j:Nat}(hj:j≤ks.length)(h:XK ks j=none):zBf ks=none:=by
 unfold zBf;rw[zKU h _ hj]
end Go.Proofs.YtioffpjajhalaaaGreatDoor.TT
namespace Go.Proofs.YtioffpjajhalaaaGreatDoor.TT
open Go Go.RowKit
theorem zQe:(Tryz.prog.info? 5).map (fun i=>(i.zero,i.size,i.bytes))=some (some (.int .u8 0),1,1):=by kernel_rfl
theorem zFu (l:List Int)(x:Int):xL (l++[x])=xL l++[.int .u8 x]:=by simp[xL]
structure KSt (w0 W:World)(gt gn gk:Nat)(tv:Value)(nc:Array Value)(ls:List Int)(A:Option Addr)(c:Nat):Prop where
 t:Blk W gt 39 #[tv]
 n:Blk W gn 48 nc
 k:Blk W gk 22 #[.slice A ls.length c]
 own:W.ownsRow w0.heap.size 5 1 (.slice A ls.length c) ls.length (xL ls)
 ext:Ext w0 W
 low:w0.heap.size≤gk
 nil:A=none→c=0
theorem KSt.mono {w0 W W':World}{gt gn gk:Nat}{tv:Value}{nc:Array Value}{ls:List Int}{A:Option Addr}{c:Nat}(h:KSt w0 W gt gn gk tv nc ls A c)(hx:Ext W W'):KSt w0 W' gt gn gk tv nc ls A c:=
 ⟨h.t.ext hx,h.n.ext hx,h.k.ext hx,zCs h.own hx,h.ext.trans hx,h.low,h.nil⟩
theorem zKl {W:World}{b:Nat}{e:TypeId}{size n:Nat}{v:Value}{xs:List Value}(h:W.ownsRow b e size v n xs):∀k,v.ownBlock=some k→b≤k:=by
 intro k hk
 rcases h.2 with ⟨rfl,_⟩ | ⟨g',AB,AA,rfl,hb,hh,_⟩
 ·simp[Value.ownBlock] at hk
 ·simp[Value.ownBlock] at hk;omega
theorem zQA {W:World}{b:Nat}{e:TypeId}{v:Value}{n m:Nat}{xs ys:List Value}(h:W.ownsRow b e 1 v n xs)(hn:n=m)(hx:xs=ys):W.ownsRow b e 1 v m ys:=by subst hn hx; exact h
theorem KSt.step {w0 W W':World}{gt gn gk:Nat}{tv:Value}{nc:Array Value}{ls:List Int}{A A':Option Addr}{c c':Nat}{x:Int}(h:KSt w0 W gt gn gk tv nc ls A c)
  (ho:W'.ownsRow w0.heap.size 5 1 (.slice A' (ls.length+1) c') (ls.length+1) (xL ls++[.int .u8 x])) (hg:W.grownBy W' (Value.slice A ls.length c).ownBlock) (hn:A'=none→c'=0) :
  KSt w0 (W'.setCell ⟨gk,0,none⟩ (.slice A' (ls.length+1) c')) gt gn gk tv nc (ls++[x]) A' c':=by
 have d1:(Value.slice A ls.length c).ownBlock≠some gt:=YX h.own h.t (by decide);have d2:(Value.slice A ls.length c).ownBlock≠some gn:=YX h.own h.n (by decide);have d3:(Value.slice A ls.length c).ownBlock≠some gk:=YX h.own h.k (by decide);have t1:=h.t.grown hg (Ne.symm d1);have n1:=h.n.grown hg (Ne.symm d2);have k1:=h.k.grown hg (Ne.symm d3);have e1:gt≠gk:=h.t.differ h.k (by decide);have e2:gn≠gk:=h.n.differ h.k (by decide)
 have hl:(ls++[x]).length=ls.length+1:=by simp
 refine⟨t1.far e1 _,n1.far e2 _,?_,?_,?_,h.low,hn⟩
 ·rw[hl]; exact k1.put 0 _
 ·rw[hl];have d4:(Value.slice A' (ls.length+1) c').ownBlock≠some gk:=YX ho k1 (by decide);exact zQA (zNz ho (p:=⟨gk,0,none⟩) d4 _) rfl (zFu ls x).symm
 ·have hb:Below w0.heap.size w0 W':=Below.grown h.ext hg h.ext.size (zKl h.own);exact hb.setCell (p:=⟨gk,0,none⟩) h.low _
theorem zLY (k:Int):(VU k).length≤10:=by
 by_cases hk:1≤k∧k≤26
 ·have hc:k=1∨k=2∨k=3∨k=4∨k=5∨k=6∨k=7∨k=8∨k=9∨k=10∨k=11∨k=12∨k=13∨k=14∨k=15∨k=16∨k=17∨k=18∨k=19∨k=20∨k=21∨k=22∨k=23∨k=24∨k=25∨k=26:=by omega
  rcases hc with rfl | rfl | rfl | rfl | rfl | rfl | rfl | rfl | rfl | rfl | rfl | rfl | rfl | rfl | rfl | rfl | rfl | rfl | rfl | rfl | rfl | rfl | rfl | rfl | rfl | rfl <;> decide
 ·have h0:VU k=[]:=by
   unfold VU
   repeat (rw[if_neg (by omega)])
  rw[h0]
  decide
theorem zPm (l:List xB)(A:Option Addr)(n c:Nat)(x:xB)(w:World)(hn:n=l.length)(ht:vV w A l)(hlen:l.length≤9000)(hx:x.text.size≤9000)(hkl:x.kids.length≤9000)(hxo:VQ w x)(hin:zDd l x.kids) :
  Calls Tryz.prog 54 #[.agg #[.slice A n c],.agg (Array.mk x.cells)] w fun e w'=>e=.returned (.bool (zBZ x.kind x.num x.text.data.toList (vG l x.kids)))∧Ext w w':=by
 subst hn;obtain⟨i0,hi,Am,Af,Ak⟩:=info_parts zQe;have HT:=yD ht;have An:=yD hxo;have Aq:=yD hin;clear ht hxo hin;obtain⟨kind,pos,text,num,kA,kc,AA⟩:=x
 simp only at hx hkl
 obtain⟨fs,AG⟩:∃fs,VU kind=fs:=⟨_,rfl⟩;have Ah:Hid (fs.length≤10):=yD (by rw[←AG]; exact zLY kind);have AM:Hid (zBZ kind num text.data.toList (vG l AA)=fs.any fun f=>YL f num text.data.toList (vG l AA)):=yD (by unfold zBZ; rw[AG]);have Ag:=yD AG;clear AG
 show Calls Tryz.prog 54 #[.agg #[.slice A l.length c],.agg #[.int .u8 kind,.int .i64 pos,.string text,.int .i64 num,.slice kA AA.length kc]] w fun e w'=>e=.returned (.bool (zBZ kind num text.data.toList (vG l AA)))∧Ext w w'
 have AH:Hid (KSt w (((w.alloc (.cells #[.slice A l.length c] 39)).alloc (.cells #[.int .u8 kind,.int .i64 pos,.string text,.int .i64 num,.slice kA AA.length kc] 48)).alloc (.cells #[.slice none 0 0] 22)) w.heap.size (w.heap.size+1) (w.heap.size+1+1) (.slice A l.length c) #[.int .u8 kind,.int .i64 pos,.string text,.int .i64 num,.slice kA AA.length kc] [] none 0):=
  yD ⟨((Blk.newAt rfl).alloc _).alloc _,(Blk.newAt (by simp)).alloc _,Blk.newAt (by simp),zP _ _ _ _,((Ext.alloc _ _).trans (Ext.alloc _ _)).trans (Ext.alloc _ _),by omega,fun _=>rfl⟩
 go_enter Tryz.func54,Tryz.ntmps54
 have y0:=AH.out.n.cell 4
 go_wp2_with fail
 clear y0;generalize ((w.alloc (.cells #[.slice A l.length c] 39)).alloc (.cells #[.int .u8 kind,.int .i64 pos,.string text,.int .i64 num,.slice kA AA.length kc] 48)).alloc (.cells #[.slice none 0 0] 22)=wz at *;generalize w.heap.size+1+1=gk at *;generalize w.heap.size+1=gn at *;obtain⟨gt,AK⟩:∃gt,gt=w.heap.size:=⟨_,rfl⟩;rw[←AK] at AH ⊢;have As:=yD AK;clear AK
 go_loopw [11] (fun i wr=>∃(k:Nat) (A':Option Addr) (c':Nat),k≤AA.length∧i=.int .i64 k∧Hid (KSt w wr gt gn gk (.slice A l.length c) #[.int .u8 kind,.int .i64 pos,.string text,.int .i64 num,.slice kA AA.length kc] (vG l (AA.take k)) A' c')) (fun i _=>AA.length-(intOf i).toNat)
 case atStart=>exact⟨0,none,0,zT _,rfl,AH⟩
 case round=>
  obtain⟨k,A',c',hk,rfl,HS⟩:=hrel;obtain⟨wa,rfl⟩:∃wa:World,wa=wr:=⟨_,rfl⟩
  by_cases AO:k<AA.length
  ·have d0:decide ((k:Int)<(AA.length:Int))=true:=yP (by omega);obtain⟨b,At,rfl,hb,AY⟩:=zCC (An.out.kids.ext HS.out.ext) k AO;obtain⟨a,ha,AR⟩:=Aq.out AA[k] (yL AO)
   have Al:Hid (vG l (AA.take (k+1))=vG l (AA.take k)++[l[a].kind]):=yD (by
    unfold vG;rw[zW AO,List.map_append,ha];simp only[List.map_cons,List.map_nil]
    rw[zDl AR])
   rw[ha] at AY;clear ha
   go_upto_region 5 with fail
   obtain⟨b2,AC,rfl,Ad,AV⟩:=(HT.out.ext HS.out.ext).at_ a AR;have AQ:wa.cell? ⟨b2,AC+a*5,none⟩=some (.int .u8 l[a].kind):=AV 0 (by omega);have Ae:=yD AQ;clear AQ AV AY
   have AL:(vG l (AA.take k)).length=k:=by simp[vG]; omega
   generalize vG l (AA.take k)=ls at *;generalize l[a].kind=ka at *
   have q0:(0:Int)≤(a:Int):=by omega
   have q1:(a:Int)<(l.length:Int):=by omega
   apply xI 8 (by kernel_rfl) (by kernel_rfl) (by kernel_rfl);dsimp only[List.take_succ_cons,List.take_zero,List.drop_succ_cons,List.drop_zero];apply yZ (.slice A' ls.length c') rfl rfl rfl
   ·intro w' AE hH;clear hH;have c0:=(HS.out.k.ext AE).cell 0;simp[yY,go_sem,c0];exact Ext.refl _
   apply sQ (.pointer (some ⟨gt,0,none⟩));apply yZ (.slice (some ⟨b2,AC,none⟩) l.length c) rfl rfl rfl
   ·intro w' AE hH;clear hH;have c0:=(HS.out.t.ext AE).cell 0;simp[yY,go_sem,c0];exact Ext.refl _
   apply sQ (.int .i64 (a:Int));apply yZ (.pointer (some ⟨b2,AC+a*5,none⟩)) rfl rfl rfl
   ·intro w' AE hH;clear hH;simp[yY,go_sem,q0,q1];exact Ext.refl _
   apply sQ (.pointer (some ⟨b2,AC+a*5,none⟩));apply yZ (.int .u8 ka) rfl rfl rfl
   ·intro w' AE hH;clear hH;have c0:=(AE.cell (p:=⟨b2,AC+a*5,none⟩) Ad).trans Ae.out;simp[yY,go_sem,c0];exact Ext.refl _
   apply vA (zKm 5 #[.int .u8 ka]) (fun v a b h k=>zKm.ext v a b h k) rfl rfl rfl
   ·intro w' AE hH;clear hH;simp[yY,go_sem];exact⟨⟨_,rfl,Blk.new _ _ _⟩,Ext.alloc _ _⟩
   intro vl;apply xN;intro w2 AP hH;have AN:=hH _ (List.mem_cons_self);obtain⟨gl,Aj,Ac⟩:=AN;subst Aj;clear hH;have AW:=HS.out.mono AP;have AD:=yD AW;have AS:=yD Ac;have Au:=yD AP;clear AW Ac AP
   try simp only[Act.put]
   refine XP rfl (.tmp 15) (.tmp 22) 22 rfl w.heap.size 5 i0 (.int .u8 0) 1 1 Tryz.underlying22 hi Am Af Ak rfl (by decide) (.slice A' ls.length c') ls.length (xL ls) (by kernel_rfl) AD.out.own (some ⟨gl,0,none⟩) 1 1 [.int .u8 ka] (by kernel_rfl) (fun h=>by cases h) rfl ?c1 ?c2 ?c3 ?c4 ?c5 ?_
   case c1=>exact .inr ⟨gl,0,rfl,AS.out.lt,fun j hj=>by
    have:j=0:=by simp at hj; omega
    subst this
    exact(AS.out.cell 0)⟩
   case c2=>intro u hu; simp at hu; subst hu; rfl
   case c3=>unfold maxLen; omega
   case c4=>omega
   case c5=>exact AD.out.ext.size
   intro A3 c3 w3 AT Ab AJ;have Ao:=yD (AD.out.step Ab AJ AT);have AI:Blk w3 gk 22 #[.slice A' ls.length c']:=AD.out.k.grown AJ (Ne.symm (YX AD.out.own AD.out.k (by decide)));have y0:=AI.cell 0;have y1:=AI.frozen 0;clear Ab AJ AT AI
   try simp only[Act.put]
   go_wp2_with fail
   go_roundw
   case rel=>exact⟨k+1,A3,c3,by omega,by go_num,yD (by rw[Al.out]; have:=Ao.out; rw[AL] at this; exact this)⟩
   case measure=>simp[intOf]; omega
  ·obtain rfl:k=AA.length:=by omega
   have d0:decide ((AA.length:Int)<(AA.length:Int))=false:=by simp
   have AU:Hid (KSt w wa gt gn gk (.slice A l.length c) #[.int .u8 kind,.int .i64 pos,.string text,.int .i64 num,.slice kA AA.length kc] (vG l AA) A' c'):=yD (by have:=HS.out; rw[List.take_length] at this; exact this);clear HS;have y0:=AU.out.n.cell 0
   go_wp2_with fail
   refine(zBl kind wa).mono ?_;rintro e w2 ⟨v,rfl,hv,Aa⟩;have AD:=yD (AU.out.mono Aa);have HV:=yD hv;clear hv Aa y0
   go_wp2_with fail
   have AL:(vG l AA).length≤9000:=by simp[vG]; omega
   have AX:=HV.out;rw[Ag.out] at AX;have Ap:Blk w2 gn 48 (Array.mk (xB.cells ⟨kind,pos,text,num,kA,kc,AA⟩)):=AD.out.n;have AB:=zJu fs v A' (vG l AA) c' gk gn ⟨kind,pos,text,num,kA,kc,AA⟩ w2 AX Ah.out (Cells.own AD.out.own) AL hx AD.out.k Ap;rw[show(fs.any fun f=>YL f (xB.mk kind pos text num kA kc AA).num (xB.mk kind pos text num kA kc AA).text.data.toList (vG l AA))=zBZ kind num text.data.toList (vG l AA) from AM.out.symm] at AB;obtain⟨Ar,AF⟩:∃r,Hid (zBZ kind num text.data.toList (vG l AA)=r):=⟨_,yD rfl⟩;rw[AF.out] at AB;refine AB.mono ?_;clear AB;rintro e w3 ⟨rfl,AZ⟩;have Ai:Hid (Ext w w3):=yD (AD.out.ext.trans AZ);clear AZ
   go_wp2_with fail
   go_ret;exact⟨xE AF.out.symm,Ai.out⟩
structure zD8 (l:List xB)(x:xB):Prop where
 text:x.text.size≤9000
 kids:x.kids.length≤9000
 range:zDd l x.kids
theorem zRH (l:List xB)(A:Option Addr)(n c:Nat)(x:xB)(w:World)(hn:n=l.length)(ht:vV w A l)(hlen:l.length≤9000)(hf:zD8 l x)(hxo:VQ w x)(b:Bool)(hb:zAM l x=b) :
  Calls Tryz.prog 54 #[.agg #[.slice A n c],.agg (Array.mk x.cells)] w fun e w'=>e=.returned (.bool b)∧Ext w w':=by
 subst hb;exact zPm l A n c x w hn ht hlen hf.text hf.kids hxo hf.range
theorem zHa (l:List xB)(A:Option Addr)(n c gt:Nat)(x:xB)(w:World)(hn:n=l.length)(ht:vV w A l)(hlen:l.length≤9000)(hf:zD8 l x)(hxo:VQ w x)(hg:Blk w gt 39 #[.slice A n c])(b:Bool)(hb:(!zAM l x)=b) :
  Calls Tryz.prog 53 #[.agg (Array.mk x.cells),.pointer (some ⟨gt,0,none⟩)] w fun e w'=>e=.returned (.bool b)∧Ext w w':=by
 subst hn;obtain⟨d,hd⟩:∃d,zAM l x=d:=⟨_,rfl⟩;have HD:=yD hd;rw[hd] at hb;have HB:=yD hb;have HT:=yD ht;have AE:=yD hxo;have HF:=yD hf;have HG:=yD hg;clear hb hd ht hxo hf hg;obtain⟨kind,pos,text,num,kA,kc,AA⟩:=x;have AB:Hid (Ext w (w.alloc (.cells #[.int .u8 kind,.int .i64 pos,.string text,.int .i64 num,.slice kA AA.length kc] 48))):=yD (Ext.alloc _ _);have y0:=(HG.out.ext AB.out).cell 0
 show Calls Tryz.prog 53 #[.agg #[.int .u8 kind,.int .i64 pos,.string text,.int .i64 num,.slice kA AA.length kc],.pointer (some ⟨gt,0,none⟩)] w fun e w'=>e=.returned (.bool b)∧Ext w w'
 go_enter Tryz.func53,Tryz.ntmps53
 go_wp2_with fail
 refine(zRH l A l.length c ⟨kind,pos,text,num,kA,kc,AA⟩ _ rfl (HT.out.ext AB.out) hlen HF.out (AE.out.ext AB.out) d HD.out).mono ?_;rintro e w2 ⟨rfl,AC⟩;have AD:Hid (Ext w w2):=yD (AB.out.trans AC);clear AC y0
 go_wp2_with fail
 go_ret;exact⟨xE HB.out,AD.out⟩
def zC2:xB:=⟨0,0,⟨#[]⟩,0,none,0,[]⟩
theorem zKw (l:List xB)(A:Option Addr)(n c gt:Nat)(w:World)(hn:n=l.length)(ht:vV w A l)(hlen:l.length≤9000)(hf:∀x ∈ l,zD8 l x)(hg:Blk w gt 39 #[.slice A n c]) :
  Calls Tryz.prog 90 #[.slice A n c,.func (.func 53) #[] #[.pointer (some ⟨gt,0,none⟩)]] w fun e w'=>∃r:Int,e=.returned (.int .i64 r)∧decide (0≤r)=(List.range l.length).any (fun i=>!zAM l (l.getD i zC2))∧Ext w w':=by
 subst hn;have HT:=yD ht;have HG:=yD hg;have HF:=yD hf;clear ht hg hf;obtain⟨q,HQ⟩:∃q:Nat→Bool,Hid ((fun i=>!zAM l (l.getD i zC2))=q):=⟨_,yD rfl⟩;rw[HQ.out]
 go_enter Tryz.func90,Tryz.ntmps90
 go_wp2_with fail
 go_loopw [8] (fun i wr=>∃k:Nat,k≤l.length∧i=.int .i64 k∧Hid (Ext w wr)∧Hid (∀j,j<k→q j=false)) (fun i _=>l.length-(intOf i).toNat)
 case atStart=>exact⟨0,zT _,rfl,yD (Ext.refl _),yD fun j hj=>by omega⟩
 case round=>
  obtain⟨k,hk,rfl,HX,HR⟩:=hrel;obtain⟨wa,rfl⟩:∃wa:World,wa=wr:=⟨_,rfl⟩
  by_cases AD:k<l.length
  ·have d0:decide ((k:Int)<(l.length:Int))=true:=yP (by omega);obtain⟨b,hb⟩:∃b,q k=b:=⟨_,rfl⟩;have HB:=yD hb
   have AK:l.getD k zC2=l[k]:=by simp[yE,AD]
   have AH:Hid ((!zAM l l[k])=b):=yD (by rw[←hb,←HQ.out,←AK]);have AF:=yD (HT.out.ext HX.out);have AI:=yD (HG.out.ext HX.out);have AJ:Hid (VQ wa l[k]):=yD (AF.out.ok _ (yL AD));have AL:Hid (zD8 l l[k]):=yD (HF.out _ (yL AD));obtain⟨g,AE,rfl,AN,AA⟩:=AF.out.at_ k AD;clear hb AK;generalize l[k]=x at *;obtain⟨kind,pos,text,num,kA,kc,AB⟩:=x;have c0:wa.cell? ⟨g,AE+k*5,none⟩=some (.int .u8 kind):=AA 0 (by omega);have c1:wa.cell? ⟨g,AE+k*5+1,none⟩=some (.int .i64 pos):=AA 1 (by omega);have c2:wa.cell? ⟨g,AE+k*5+2,none⟩=some (.string text):=AA 2 (by omega);have c3:wa.cell? ⟨g,AE+k*5+3,none⟩=some (.int .i64 num):=AA 3 (by omega);have c4:wa.cell? ⟨g,AE+k*5+4,none⟩=some (.slice kA AB.length kc):=AA 4 (by omega);clear AA
   cases b with
   | true=>
    go_wp2_with (refine(zHa l _ l.length c gt ⟨kind,pos,text,num,kA,kc,AB⟩ _ rfl AF.out hlen AL.out AJ.out AI.out true AH.out).mono ?_; rintro e w2 ⟨rfl,AC⟩; have AG:Hid (Ext w w2):=yD (HX.out.trans AC); clear AC)
    go_ret;exact⟨_,rfl,by rw[yP (by omega)]; exact(any_some k AD HB.out).symm,AG.out⟩
   | false=>
    go_wp2_with (refine(zHa l _ l.length c gt ⟨kind,pos,text,num,kA,kc,AB⟩ _ rfl AF.out hlen AL.out AJ.out AI.out false AH.out).mono ?_; rintro e w2 ⟨rfl,AC⟩; have AG:Hid (Ext w w2):=yD (HX.out.trans AC); clear AC)
    go_roundw
    case rel=>exact⟨k+1,by omega,by go_num,AG,yD fun j hj=>by
     by_cases AM:j=k
     ·subst AM; exact HB.out
     ·exact HR.out j (by omega)⟩
    case measure=>simp[intOf]; omega
  ·obtain rfl:k=l.length:=by omega
   have d0:decide ((l.length:Int)<(l.length:Int))=false:=by simp
   go_wp2_with fail
   go_ret;exact⟨_,rfl,by rw[any_none HR.out]; rfl,HX.out⟩
theorem zRo (l:List xB)(p:xB→Bool):(!(l.any fun x=>!p x))=l.all p:=by
 induction l with
 | nil=>rfl
 | cons x l ih=>rw[List.any_cons,List.all_cons,←ih]; cases p x <;> simp
theorem zJk (l:List xB)(A:Option Addr)(n c gt:Nat)(w:World)(hn:n=l.length)(ht:vV w A l)(hlen:l.length≤9000)(hf:∀x ∈ l,zD8 l x)(hg:Blk w gt 39 #[.slice A n c])(b:Bool)(hb:Hid ((!l.all (zAM l))=b)) :
  Calls Tryz.prog 52 #[.slice A n c,.func (.func 53) #[] #[.pointer (some ⟨gt,0,none⟩)]] w fun e w'=>e=.returned (.bool b)∧Ext w w':=by
 subst hn;have AD:Hid ((List.range l.length).any (fun i=>!zAM l (l.getD i zC2))=b):=yD (by rw[←hb.out,←zRo,Bool.not_not]; exact zIH l (fun x=>!zAM l x) zC2)
 go_enter Tryz.func52,Tryz.ntmps52
 go_wp2_with fail
 refine(zKw l A l.length c gt w rfl ht hlen hf hg).mono ?_;rintro e w2 ⟨r,rfl,hr,AA⟩;have AC:=yD hr;have AB:=yD AA;clear hr AA
 go_wp2_with fail
 go_ret;exact⟨xE (by rw[AC.out,AD.out]),AB.out⟩
end Go.Proofs.YtioffpjajhalaaaGreatDoor.TT
