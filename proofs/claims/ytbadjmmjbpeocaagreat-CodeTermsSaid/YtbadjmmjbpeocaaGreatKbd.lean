/- tree.forms, walked. (and what follows of it). The conditions stand at each lemma. -/
import Derived.Test.YtbadjmmjbpeocaaGreatKaa
import Derived.Test.YtbadjmmjbpeocaaGreatKba
import Derived.Test.YtbadjmmjbpeocaaGreatKam
import Derived.Test.YtbadjmmjbpeocaaGreatKbc
set_option linter.unusedVariables false
set_option linter.unusedSimpArgs false
set_option maxRecDepth 100000
set_option maxHeartbeats 16000000
namespace Go.Proofs.YtbadjmmjbpeocaaGreat.TT
open Go Go.RowKit
theorem zCa (k:Int)(w:World):Calls Tryz.prog 115 #[.int .u8 k] w fun e w'=>∃v,e=.returned v∧zBl w' (JA k) v∧Ext w w':=by
 have hz:∀w,(zeroValue 190).run Tryz.prog w=.ok (.slice none 0 0) w:=fun w=>by kernel_rfl
 have HZ:=yG hz;clear hz;have hmm:=@run_makeMap Tryz.prog;have h4:Blk (((((w.alloc (.cells #[.int .u8 20] 5)).alloc (.cells #[.int .u8 5] 5)).alloc (.cells #[.int .u8 6] 5)).alloc (.cells #[.int .u8 21] 5)).alloc (.map #[] 0)) w.heap.size 5 #[.int .u8 20]:=((((Blk.new w 5 #[.int .u8 20]).alloc _).alloc _).alloc _).alloc _;have h5:Blk (((((w.alloc (.cells #[.int .u8 20] 5)).alloc (.cells #[.int .u8 5] 5)).alloc (.cells #[.int .u8 6] 5)).alloc (.cells #[.int .u8 21] 5)).alloc (.map #[] 0)) (w.heap.size+1) 5 #[.int .u8 5]:=(((Blk.newAt (by simp)).alloc _).alloc _).alloc _;have h6:Blk (((((w.alloc (.cells #[.int .u8 20] 5)).alloc (.cells #[.int .u8 5] 5)).alloc (.cells #[.int .u8 6] 5)).alloc (.cells #[.int .u8 21] 5)).alloc (.map #[] 0)) (w.heap.size+1+1) 5 #[.int .u8 6]:=((Blk.newAt (by simp)).alloc _).alloc _;have h7:Blk (((((w.alloc (.cells #[.int .u8 20] 5)).alloc (.cells #[.int .u8 5] 5)).alloc (.cells #[.int .u8 6] 5)).alloc (.cells #[.int .u8 21] 5)).alloc (.map #[] 0)) (w.heap.size+1+1+1) 5 #[.int .u8 21]:=(Blk.newAt (by simp)).alloc _
 have hmap:ZO (((((w.alloc (.cells #[.int .u8 20] 5)).alloc (.cells #[.int .u8 5] 5)).alloc (.cells #[.int .u8 6] 5)).alloc (.cells #[.int .u8 21] 5)).alloc (.map #[] 0)) (w.heap.size+1+1+1+1) #[] 0:=by
  have:=ZO.new ((((w.alloc (.cells #[.int .u8 20] 5)).alloc (.cells #[.int .u8 5] 5)).alloc (.cells #[.int .u8 6] 5)).alloc (.cells #[.int .u8 21] 5))
  simpa using this
 have HST0:Hid (FSt w (((((w.alloc (.cells #[.int .u8 20] 5)).alloc (.cells #[.int .u8 5] 5)).alloc (.cells #[.int .u8 6] 5)).alloc (.cells #[.int .u8 21] 5)).alloc (.map #[] 0)) (w.heap.size+1+1+1+1) [] [] w.heap.size (w.heap.size+1) (w.heap.size+1+1) (w.heap.size+1+1+1)):=yG ⟨hmap,rfl,(fun x hx=>by cases hx),((((Ext.alloc _ _).trans (Ext.alloc _ _)).trans (Ext.alloc _ _)).trans (Ext.alloc _ _)).trans (Ext.alloc _ _),by omega,h4,h5,h6,h7⟩;clear h4 h5 h6 h7 hmap
 go_enter Tryz.func115,Tryz.ntmps115
 go_upto_region 3 with (go_at_call 146; refine(zHW _ _).mono ?_; rintro e w' ⟨rfl,rfl⟩)
 simp only[List.append_eq,yC,List.nil_append]
 go_wp2_with (first | (go_at_call 146; refine(zHW _ _).mono ?_; rintro e w' ⟨rfl,rfl⟩) | (refine zBL rfl (.tmp 13) (.const (.int .u8 1)) (.tmp 16) 1 _ rfl rfl rfl rfl (HST0.out.mono (Ext.alloc _ _)) (by exact vS rfl rfl (Blk.newAt (by simp)) VV rfl) rfl ?_))
 intro w1 l1 hst1;have HST1:=yG hst1;clear hst1 HST0;clear hmm;generalize w.heap.size+1+1+1+1+1=r1 at *;generalize w.heap.size+1+1+1+1=r at *;generalize w.heap.size+1+1+1=g7 at *;generalize w.heap.size+1+1=g6 at *;generalize w.heap.size+1=g5 at *;generalize w.heap.size=g4 at *
 try simp only[Act.put]
 go_wp2_with ((refine zBL rfl (.tmp 13) (.const (.int .u8 2)) (.tmp 21) 2 _ rfl rfl rfl rfl (HST1.out.mono ((Ext.alloc _ _).trans (Ext.alloc _ _))) (by exact vS rfl rfl (Blk.newAt (by simp)) (zB7 ((Blk.newAt (by simp)).alloc _) ⟨_,rfl,(HST1.out.mono ((Ext.alloc _ _).trans (Ext.alloc _ _))).k5⟩) ⟨_,rfl,(HST1.out.mono ((Ext.alloc _ _).trans (Ext.alloc _ _))).k5⟩) rfl ?_))
 intro w2 l2 hst2;have HST2:=yG hst2;clear hst2 HST1
 try simp only[Act.put]
 go_wp2_with (first | (go_at_call 146; refine(zHW _ _).mono ?_; rintro e w' ⟨rfl,rfl⟩) | (refine zBL rfl (.tmp 13) (.const (.int .u8 3)) (.tmp 26) 3 _ rfl rfl rfl rfl (HST2.out.mono (((Ext.alloc _ _).trans (Ext.alloc _ _)).trans (Ext.alloc _ _))) (by exact vS rfl rfl (Blk.newAt (by simp)) (zDI ((Blk.newAt (by simp)).alloc _) ⟨_,rfl,(((Blk.newAt (by simp)).alloc _).alloc _)⟩ ⟨_,rfl,(HST2.out.mono (((Ext.alloc _ _).trans (Ext.alloc _ _)).trans (Ext.alloc _ _))).k6⟩) rfl) rfl ?_))
 intro w3 l3 hst3;have HST3:=yG hst3;clear hst3 HST2
 try simp only[Act.put]
 go_wp2_with ((refine zBL rfl (.tmp 13) (.const (.int .u8 4)) (.tmp 29) 4 _ rfl rfl rfl rfl (HST3.out.mono (Ext.alloc _ _)) (by exact vS rfl rfl (Blk.newAt (by simp)) VV ⟨_,rfl,(HST3.out.mono (Ext.alloc _ _)).k5⟩) rfl ?_))
 intro w4 l4 hst4;have HST4:=yG hst4;clear hst4 HST3
 try simp only[Act.put]
 go_wp2_with ((refine zBL rfl (.tmp 13) (.const (.int .u8 5)) (.tmp 31) 5 _ rfl rfl rfl rfl (HST4.out.mono (Ext.alloc _ _)) (by exact vS rfl rfl (Blk.newAt (by simp)) VV rfl) rfl ?_))
 intro w5 l5 hst5;have HST5:=yG hst5;clear hst5 HST4
 try simp only[Act.put]
 go_wp2_with ((refine zBL rfl (.tmp 13) (.const (.int .u8 6)) (.tmp 33) 6 _ rfl rfl rfl rfl (HST5.out.mono (Ext.alloc _ _)) (by exact vS rfl rfl (Blk.newAt (by simp)) VV rfl) rfl ?_))
 intro w6 l6 hst6;have HST6:=yG hst6;clear hst6 HST5
 try simp only[Act.put]
 go_wp2_with ((refine zBL rfl (.tmp 13) (.const (.int .u8 7)) (.tmp 38) 7 _ rfl rfl rfl rfl (HST6.out.mono ((Ext.alloc _ _).trans (Ext.alloc _ _))) (by exact vS rfl rfl (Blk.newAt (by simp)) (zDI ((Blk.newAt (by simp)).alloc _) ⟨_,rfl,(HST6.out.mono ((Ext.alloc _ _).trans (Ext.alloc _ _))).k4⟩ ⟨_,rfl,(HST6.out.mono ((Ext.alloc _ _).trans (Ext.alloc _ _))).k5⟩) rfl) rfl ?_))
 intro w7 l7 hst7;have HST7:=yG hst7;clear hst7 HST6
 try simp only[Act.put]
 go_wp2_with ((refine zBL rfl (.tmp 13) (.const (.int .u8 8)) (.tmp 43) 8 _ rfl rfl rfl rfl (HST7.out.mono ((Ext.alloc _ _).trans (Ext.alloc _ _))) (by exact vS rfl rfl (Blk.newAt (by simp)) (zLT ((Blk.newAt (by simp)).alloc _) ⟨_,rfl,(HST7.out.mono ((Ext.alloc _ _).trans (Ext.alloc _ _))).k4⟩ ⟨_,rfl,(HST7.out.mono ((Ext.alloc _ _).trans (Ext.alloc _ _))).k5⟩ (rfl)) rfl) rfl ?_))
 intro w8 l8 hst8;have HST8:=yG hst8;clear hst8 HST7
 try simp only[Act.put]
 go_wp2_with ((refine zBL rfl (.tmp 13) (.const (.int .u8 9)) (.tmp 47) 9 _ rfl rfl rfl rfl (HST8.out.mono ((Ext.alloc _ _).trans (Ext.alloc _ _))) (by exact vS rfl rfl (Blk.newAt (by simp)) (zDI ((Blk.newAt (by simp)).alloc _) ⟨_,rfl,(HST8.out.mono ((Ext.alloc _ _).trans (Ext.alloc _ _))).k4⟩ (rfl)) rfl) rfl ?_))
 intro w9 l9 hst9;have HST9:=yG hst9;clear hst9 HST8
 try simp only[Act.put]
 go_wp2_with ((refine zBL rfl (.tmp 13) (.const (.int .u8 10)) (.tmp 51) 10 _ rfl rfl rfl rfl (HST9.out.mono ((Ext.alloc _ _).trans (Ext.alloc _ _))) (by exact vS rfl rfl (Blk.newAt (by simp)) (zB7 ((Blk.newAt (by simp)).alloc _) ⟨_,rfl,(HST9.out.mono ((Ext.alloc _ _).trans (Ext.alloc _ _))).k4⟩) rfl) rfl ?_))
 intro w10 l10 hst10;have HST10:=yG hst10;clear hst10 HST9
 try simp only[Act.put]
 go_wp2_with ((refine zBL rfl (.tmp 13) (.const (.int .u8 11)) (.tmp 56) 11 _ rfl rfl rfl rfl (HST10.out.mono ((Ext.alloc _ _).trans (Ext.alloc _ _))) (by exact vS rfl rfl (Blk.newAt (by simp)) (zDI ((Blk.newAt (by simp)).alloc _) ⟨_,rfl,(HST10.out.mono ((Ext.alloc _ _).trans (Ext.alloc _ _))).k5⟩ ⟨_,rfl,(HST10.out.mono ((Ext.alloc _ _).trans (Ext.alloc _ _))).k5⟩) rfl) rfl ?_))
 intro w11 l11 hst11;have HST11:=yG hst11;clear hst11 HST10
 try simp only[Act.put]
 go_wp2_with ((refine zBL rfl (.tmp 13) (.const (.int .u8 12)) (.tmp 60) 12 _ rfl rfl rfl rfl (HST11.out.mono ((Ext.alloc _ _).trans (Ext.alloc _ _))) (by exact vS rfl rfl (Blk.newAt (by simp)) (zB7 ((Blk.newAt (by simp)).alloc _) ⟨_,rfl,(HST11.out.mono ((Ext.alloc _ _).trans (Ext.alloc _ _))).k5⟩) rfl) rfl ?_))
 intro w12 l12 hst12;have HST12:=yG hst12;clear hst12 HST11
 try simp only[Act.put]
 go_wp2_with ((refine zBL rfl (.tmp 13) (.const (.int .u8 13)) (.tmp 67) 13 _ rfl rfl rfl rfl (HST12.out.mono (((Ext.alloc _ _).trans (Ext.alloc _ _)).trans (Ext.alloc _ _))) (by exact zIQ rfl rfl rfl rfl (Blk.newAt (by simp)) (zB7 (((Blk.newAt (by simp)).alloc _).alloc _) ⟨_,rfl,(HST12.out.mono (((Ext.alloc _ _).trans (Ext.alloc _ _)).trans (Ext.alloc _ _))).k5⟩) rfl (zB7 ((Blk.newAt (by simp)).alloc _) ⟨_,rfl,(HST12.out.mono (((Ext.alloc _ _).trans (Ext.alloc _ _)).trans (Ext.alloc _ _))).k4⟩) rfl) rfl ?_))
 intro w13 l13 hst13;have HST13:=yG hst13;clear hst13 HST12
 try simp only[Act.put]
 go_wp2_with ((refine zBL rfl (.tmp 13) (.const (.int .u8 14)) (.tmp 75) 14 _ rfl rfl rfl rfl (HST13.out.mono (((Ext.alloc _ _).trans (Ext.alloc _ _)).trans (Ext.alloc _ _))) (by exact zIQ rfl rfl rfl rfl (Blk.newAt (by simp)) (zLT (((Blk.newAt (by simp)).alloc _).alloc _) (rfl) (rfl) ⟨_,rfl,(HST13.out.mono (((Ext.alloc _ _).trans (Ext.alloc _ _)).trans (Ext.alloc _ _))).k6⟩) rfl (zS7 ((Blk.newAt (by simp)).alloc _) (rfl) (rfl) ⟨_,rfl,(HST13.out.mono (((Ext.alloc _ _).trans (Ext.alloc _ _)).trans (Ext.alloc _ _))).k6⟩ ⟨_,rfl,(HST13.out.mono (((Ext.alloc _ _).trans (Ext.alloc _ _)).trans (Ext.alloc _ _))).k6⟩) rfl) rfl ?_))
 intro w14 l14 hst14;have HST14:=yG hst14;clear hst14 HST13
 try simp only[Act.put]
 go_wp2_with ((refine zBL rfl (.tmp 13) (.const (.int .u8 15)) (.tmp 81) 15 _ rfl rfl rfl rfl (HST14.out.mono ((Ext.alloc _ _).trans (Ext.alloc _ _))) (by exact vS rfl rfl (Blk.newAt (by simp)) (zLT ((Blk.newAt (by simp)).alloc _) ⟨_,rfl,(HST14.out.mono ((Ext.alloc _ _).trans (Ext.alloc _ _))).k7⟩ ⟨_,rfl,(HST14.out.mono ((Ext.alloc _ _).trans (Ext.alloc _ _))).k7⟩ ⟨_,rfl,(HST14.out.mono ((Ext.alloc _ _).trans (Ext.alloc _ _))).k6⟩) rfl) rfl ?_))
 intro w15 l15 hst15;have HST15:=yG hst15;clear hst15 HST14
 try simp only[Act.put]
 go_wp2_with ((refine zBL rfl (.tmp 13) (.const (.int .u8 16)) (.tmp 84) 16 _ rfl rfl rfl rfl (HST15.out.mono ((Ext.alloc _ _).trans (Ext.alloc _ _))) (by exact vS rfl rfl (Blk.newAt (by simp)) (zB7 ((Blk.newAt (by simp)).alloc _) (rfl)) rfl) rfl ?_))
 intro w16 l16 hst16;have HST16:=yG hst16;clear hst16 HST15
 try simp only[Act.put]
 go_wp2_with ((refine zBL rfl (.tmp 13) (.const (.int .u8 17)) (.tmp 87) 17 _ rfl rfl rfl rfl (HST16.out.mono ((Ext.alloc _ _).trans (Ext.alloc _ _))) (by exact vS rfl rfl (Blk.newAt (by simp)) (zB7 ((Blk.newAt (by simp)).alloc _) (rfl)) rfl) rfl ?_))
 intro w17 l17 hst17;have HST17:=yG hst17;clear hst17 HST16
 try simp only[Act.put]
 go_wp2_with ((refine zBL rfl (.tmp 13) (.const (.int .u8 18)) (.tmp 89) 18 _ rfl rfl rfl rfl (HST17.out.mono (Ext.alloc _ _)) (by exact vS rfl rfl (Blk.newAt (by simp)) VV rfl) rfl ?_))
 intro w18 l18 hst18;have HST18:=yG hst18;clear hst18 HST17
 try simp only[Act.put]
 go_wp2_with ((refine zBL rfl (.tmp 13) (.const (.int .u8 19)) (.tmp 91) 19 _ rfl rfl rfl rfl (HST18.out.mono (Ext.alloc _ _)) (by exact vS rfl rfl (Blk.newAt (by simp)) VV rfl) rfl ?_))
 intro w19 l19 hst19;have HST19:=yG hst19;clear hst19 HST18
 try simp only[Act.put]
 go_wp2_with ((refine zBL rfl (.tmp 13) (.const (.int .u8 20)) (.tmp 94) 20 _ rfl rfl rfl rfl (HST19.out.mono ((Ext.alloc _ _).trans (Ext.alloc _ _))) (by exact vS rfl rfl (Blk.newAt (by simp)) (zB7 ((Blk.newAt (by simp)).alloc _) (rfl)) rfl) rfl ?_))
 intro w20 l20 hst20;have HST20:=yG hst20;clear hst20 HST19
 try simp only[Act.put]
 go_wp2_with ((refine zBL rfl (.tmp 13) (.const (.int .u8 21)) (.tmp 96) 21 _ rfl rfl rfl rfl (HST20.out.mono (Ext.alloc _ _)) (by exact vS rfl rfl (Blk.newAt (by simp)) VV rfl) rfl ?_))
 intro w21 l21 hst21;have HST21:=yG hst21;clear hst21 HST20
 try simp only[Act.put]
 go_wp2_with ((refine zBL rfl (.tmp 13) (.const (.int .u8 22)) (.tmp 98) 22 _ rfl rfl rfl rfl (HST21.out.mono (Ext.alloc _ _)) (by exact vS rfl rfl (Blk.newAt (by simp)) VV rfl) rfl ?_))
 intro w22 l22 hst22;have HST22:=yG hst22;clear hst22 HST21
 try simp only[Act.put]
 go_wp2_with ((refine zBL rfl (.tmp 13) (.const (.int .u8 23)) (.tmp 101) 23 _ rfl rfl rfl rfl (HST22.out.mono ((Ext.alloc _ _).trans (Ext.alloc _ _))) (by exact vS rfl rfl (Blk.newAt (by simp)) (zDI ((Blk.newAt (by simp)).alloc _) (rfl) (rfl)) rfl) rfl ?_))
 intro w23 l23 hst23;have HST23:=yG hst23;clear hst23 HST22
 try simp only[Act.put]
 go_wp2_with ((refine zBL rfl (.tmp 13) (.const (.int .u8 24)) (.tmp 104) 24 _ rfl rfl rfl rfl (HST23.out.mono ((Ext.alloc _ _).trans (Ext.alloc _ _))) (by exact vS rfl rfl (Blk.newAt (by simp)) (zDI ((Blk.newAt (by simp)).alloc _) (rfl) (rfl)) rfl) rfl ?_))
 intro w24 l24 hst24;have HST24:=yG hst24;clear hst24 HST23
 try simp only[Act.put]
 go_wp2_with ((refine zBL rfl (.tmp 13) (.const (.int .u8 25)) (.tmp 107) 25 _ rfl rfl rfl rfl (HST24.out.mono ((Ext.alloc _ _).trans (Ext.alloc _ _))) (by exact vS rfl rfl (Blk.newAt (by simp)) (zDI ((Blk.newAt (by simp)).alloc _) (rfl) (rfl)) rfl) rfl ?_))
 intro w25 l25 hst25;have HST25:=yG hst25;clear hst25 HST24
 try simp only[Act.put]
 go_wp2_with ((refine zBL rfl (.tmp 13) (.const (.int .u8 26)) (.tmp 110) 26 _ rfl rfl rfl rfl (HST25.out.mono ((Ext.alloc _ _).trans (Ext.alloc _ _))) (by exact vS rfl rfl (Blk.newAt (by simp)) (zB7 ((Blk.newAt (by simp)).alloc _) (rfl)) rfl) rfl ?_))
 intro w26 l26 hst26;have HST26:=yG hst26;clear hst26 HST25
 try simp only[Act.put]
 go_wp2_with (refine zUQ rfl (.tmp 112) (.tmp 113) k rfl rfl rfl HST26.out HZ.out ?_)
 intro v hv;have HV:=yG hv;clear hv
 try simp only[Act.put]
 go_wp2_with fail
 go_ret;exact⟨v,rfl,HV.out,HST26.out.ext⟩
end Go.Proofs.YtbadjmmjbpeocaaGreat.TT
namespace Go.Proofs.YtbadjmmjbpeocaaGreat.TT
def zT9 (k:Int):Int:=if k=6∨k=20 then 1 else 0
def exD (k:Int):Int:=if VP k=true then 1 else 0
def zSG (v:Int):List Int→List Int→List Int
 | [],D=>D
 | k::r,D=>zSG v r (D.set k.toNat v)
def zRo (kd:List Int)(ks:List (List Int))(i:Nat)(st:List Int × Int):List Int × Int:=
 (zSG (st.1.getD i 0+zT9 (kd.getD i 0)+exD (kd.getD i 0)) (ks.getD i []) (st.1.set i (st.1.getD i 0+zT9 (kd.getD i 0))),max st.2 (st.1.getD i 0+zT9 (kd.getD i 0)))
def runs (kd:List Int)(ks:List (List Int)):Nat→Nat→List Int × Int→List Int × Int
 | 0,_,st=>st
 | c+1,i,st=>runs kd ks c (i+1) (zRo kd ks i st)
def zEh (l:List xQ)(k:Int):Int:=match l[k.toNat]? with | some x=>x.kind | none=>0
def ZE (l:List xQ)(ks:List Int):List Int:=ks.map (zEh l)
def zLJ (l:List xQ)(ks:List Int):Prop:=∀k ∈ ks,∃a:Nat,k=(a:Int)∧a<l.length
theorem zCc {l:List xQ}{a:Nat}(h:a<l.length):zEh l (a:Int)=l[a].kind:=by
 unfold zEh;rw[zI,yJ h]
def zCv (l:List xQ):List (List Int):=l.map (·.kids)
theorem XP (l:List xQ):(zCv l).length=l.length:=by simp[zCv]
theorem zDm (l:List xQ)(i:Nat)(h:i<l.length):(zCv l).getD i []=l[i].kids:=by simp[zCv,yH,h]
def zCw (l:List xQ)(x:xQ):Bool:=zAy x.kind x.num x.text.data.toList (ZE l x.kids)
def VR (l:List xQ):Bool:=(zB3 (zCv l)).isSome&&(zEh l 0==1&&l.all (zCw l))
def zGn (l:List xQ):Bool:=(List.range l.length).all fun i=>((zCv l).getD i []).all fun k=>decide ((i:Int)<k)&&decide (k<(l.length:Int))
def zMI (l:List xQ)(x:xQ):Bool:=decide (1≤x.kind)&&(decide (x.kind≤26)&&(zFF x.kind x.num x.text.data.toList&&jV x.kind (ZE l x.kids)))
def zLx (l:List xQ):Bool:=decide (0<l.length)&&(zEh l 0==1&&(zGn l&&(decide (zBM (zCv l) 0=some l.length)&&l.all (zMI l))))
theorem zDS (l:List xQ):zGn l=true↔∀i,i<l.length→∀k ∈ (zCv l).getD i [],(i:Int)<k∧k<(l.length:Int):=by
 unfold zGn;rw[zH];simp only[List.mem_range,zH,zG,zF]
theorem zIx {l:List xQ}{Z:List Nat}(h:zB3 (zCv l)=some Z):zGn l=true:=by
 rw[zDS];obtain⟨_,_,_,hz⟩:=zGw h;intro i hi k hk;obtain⟨a,h1,h2,h3⟩:=zOL (hz i (by rw[XP]; exact hi)) k hk;rw[XP] at h3;omega
theorem zSc (l:List xQ):(zB3 (zCv l)).isSome=(decide (0<l.length)&&(zGn l&&decide (zBM (zCv l) 0=some l.length))):=by
 cases h:zB3 (zCv l) with
 | none=>
  have:=zQJ h
  rw[XP] at this;rw[yR this]
  simp
 | some Z=>
  obtain⟨h1,h2,h3,_⟩:=zGw h;rw[XP] at h2 h3;rw[zIx h,yS h3,yS (by omega)]
  rfl
theorem zRL (l:List xQ)(x:xQ):zCw l x=zMI l x:=zNi _ _ _ _
theorem zKx (l:List xQ):VR l=zLx l:=by
 unfold VR zLx;rw[zSc,show zCw l=zMI l from funext (zRL l)]
 cases decide (0<l.length) <;> cases (zEh l 0==1) <;> cases zGn l <;> cases decide (zBM (zCv l) 0=some l.length) <;> simp
theorem zJ3 {l:List xQ}{Z:List Nat}(h:zB3 (zCv l)=some Z):∀x ∈ l,zLJ l x.kids:=by
 intro x hx k hk;obtain⟨i,hi,rfl⟩:=List.getElem_of_mem hx;have h1:=(zDS l).1 (zIx h) i hi k (by rw[zDm l i hi]; exact hk);exact⟨k.toNat,by omega,by omega⟩
theorem zNr {ks:List (List Int)}{j:Nat}(h:JH ks j=none):∀m,j≤m→JH ks m=none:=by
 intro m
 induction m with
 | zero=>intro hm; rw[show j=0 from by omega] at h; exact h
 | succ m ih=>
  intro hm
  by_cases he:j=m+1
  ·rw[←he]; exact h
  ·unfold JH;rw[ih (by omega)]
theorem zIw {ks:List (List Int)}{j:Nat}(hj:j≤ks.length)(h:JH ks j=none):zB3 ks=none:=by
 unfold zB3;rw[zNr h _ hj]
end Go.Proofs.YtbadjmmjbpeocaaGreat.TT
namespace Go.Proofs.YtbadjmmjbpeocaaGreat.TT
open Go Go.RowKit
theorem zUk:(Tryz.prog.info? 5).map (fun i=>(i.zero,i.size,i.bytes))=some (some (.int .u8 0),1,1):=by kernel_rfl
theorem zNw (l:List Int)(x:Int):vC (l++[x])=vC l++[.int .u8 x]:=by simp[vC]
structure KSt (w0 W:World)(gt gn gk:Nat)(tv:Value)(nc:Array Value)(ls:List Int)(A:Option Addr)(c:Nat):Prop where
 t:Blk W gt 27 #[tv]
 n:Blk W gn 38 nc
 k:Blk W gk 22 #[.slice A ls.length c]
 own:W.ownsRow w0.heap.size 5 1 (.slice A ls.length c) ls.length (vC ls)
 ext:Ext w0 W
 low:w0.heap.size≤gk
 nil:A=none→c=0
theorem KSt.mono {w0 W W':World}{gt gn gk:Nat}{tv:Value}{nc:Array Value}{ls:List Int}{A:Option Addr}{c:Nat}(h:KSt w0 W gt gn gk tv nc ls A c)(hx:Ext W W'):KSt w0 W' gt gn gk tv nc ls A c:=
 ⟨h.t.ext hx,h.n.ext hx,h.k.ext hx,zBt h.own hx,h.ext.trans hx,h.low,h.nil⟩
theorem zRV {W:World}{b:Nat}{e:TypeId}{size n:Nat}{v:Value}{xs:List Value}(h:W.ownsRow b e size v n xs):∀k,v.ownBlock=some k→b≤k:=by
 intro k hk
 rcases h.2 with ⟨rfl,_⟩ | ⟨g',cap,cur,rfl,hb,hh,_⟩
 ·simp[Value.ownBlock] at hk
 ·simp[Value.ownBlock] at hk;omega
theorem zSn {W:World}{b:Nat}{e:TypeId}{v:Value}{n m:Nat}{xs ys:List Value}(h:W.ownsRow b e 1 v n xs)(hn:n=m)(hx:xs=ys):W.ownsRow b e 1 v m ys:=by subst hn hx; exact h
theorem KSt.step {w0 W W':World}{gt gn gk:Nat}{tv:Value}{nc:Array Value}{ls:List Int}{A A':Option Addr}{c c':Nat}{x:Int}(h:KSt w0 W gt gn gk tv nc ls A c)
  (ho:W'.ownsRow w0.heap.size 5 1 (.slice A' (ls.length+1) c') (ls.length+1) (vC ls++[.int .u8 x])) (hg:W.grownBy W' (Value.slice A ls.length c).ownBlock) (hn:A'=none→c'=0) :
  KSt w0 (W'.setCell ⟨gk,0,none⟩ (.slice A' (ls.length+1) c')) gt gn gk tv nc (ls++[x]) A' c':=by
 have d1:(Value.slice A ls.length c).ownBlock≠some gt:=YE h.own h.t (by decide);have d2:(Value.slice A ls.length c).ownBlock≠some gn:=YE h.own h.n (by decide);have d3:(Value.slice A ls.length c).ownBlock≠some gk:=YE h.own h.k (by decide);have t1:=h.t.grown hg (Ne.symm d1);have n1:=h.n.grown hg (Ne.symm d2);have k1:=h.k.grown hg (Ne.symm d3);have e1:gt≠gk:=h.t.differ h.k (by decide);have e2:gn≠gk:=h.n.differ h.k (by decide)
 have hl:(ls++[x]).length=ls.length+1:=by simp
 refine⟨t1.far e1 _,n1.far e2 _,?_,?_,?_,h.low,hn⟩
 ·rw[hl]; exact k1.put 0 _
 ·rw[hl];have d4:(Value.slice A' (ls.length+1) c').ownBlock≠some gk:=YE ho k1 (by decide);exact zSn (zHR ho (p:=⟨gk,0,none⟩) d4 _) rfl (zNw ls x).symm
 ·have hb:Below w0.heap.size w0 W':=Below.grown h.ext hg h.ext.size (zRV h.own);exact hb.setCell (p:=⟨gk,0,none⟩) h.low _
theorem zOt (k:Int):(JA k).length≤10:=by
 by_cases hk:1≤k∧k≤26
 ·have hc:k=1∨k=2∨k=3∨k=4∨k=5∨k=6∨k=7∨k=8∨k=9∨k=10∨k=11∨k=12∨k=13∨k=14∨k=15∨k=16∨k=17∨k=18∨k=19∨k=20∨k=21∨k=22∨k=23∨k=24∨k=25∨k=26:=by omega
  rcases hc with rfl | rfl | rfl | rfl | rfl | rfl | rfl | rfl | rfl | rfl | rfl | rfl | rfl | rfl | rfl | rfl | rfl | rfl | rfl | rfl | rfl | rfl | rfl | rfl | rfl | rfl <;> decide
 ·have h0:JA k=[]:=by
   unfold JA
   repeat (rw[if_neg (by omega)])
  rw[h0]
  decide
theorem zQ7 (l:List xQ)(A:Option Addr)(n c:Nat)(x:xQ)(w:World)(hn:n=l.length)(ht:zA3 w A l)(hlen:l.length≤9000)(hx:x.text.size≤9000)(hkl:x.kids.length≤9000)(hxo:zDH w x)(hin:zLJ l x.kids) :
  Calls Tryz.prog 80 #[.agg #[.slice A n c],.agg (Array.mk x.cells)] w fun e w'=>e=.returned (.bool (zAy x.kind x.num x.text.data.toList (ZE l x.kids)))∧Ext w w':=by
 subst hn;obtain⟨i0,hi,hz0,hz1,hz2⟩:=info_parts zUk;have HT:=yG ht;have HXO:=yG hxo;have HIN:=yG hin;clear ht hxo hin;obtain⟨kind,pos,text,num,kA,kc,kids⟩:=x
 simp only at hx hkl
 obtain⟨fs,hfs⟩:∃fs,JA kind=fs:=⟨_,rfl⟩;have HFL:Hid (fs.length≤10):=yG (by rw[←hfs]; exact zOt kind);have HFIT:Hid (zAy kind num text.data.toList (ZE l kids)=fs.any fun f=>YH f num text.data.toList (ZE l kids)):=yG (by unfold zAy; rw[hfs]);have HFS:=yG hfs;clear hfs
 show Calls Tryz.prog 80 #[.agg #[.slice A l.length c],.agg #[.int .u8 kind,.int .i64 pos,.string text,.int .i64 num,.slice kA kids.length kc]] w fun e w'=>e=.returned (.bool (zAy kind num text.data.toList (ZE l kids)))∧Ext w w'
 have HS0:Hid (KSt w (((w.alloc (.cells #[.slice A l.length c] 27)).alloc (.cells #[.int .u8 kind,.int .i64 pos,.string text,.int .i64 num,.slice kA kids.length kc] 38)).alloc (.cells #[.slice none 0 0] 22)) w.heap.size (w.heap.size+1) (w.heap.size+1+1) (.slice A l.length c) #[.int .u8 kind,.int .i64 pos,.string text,.int .i64 num,.slice kA kids.length kc] [] none 0):=
  yG ⟨((Blk.newAt rfl).alloc _).alloc _,(Blk.newAt (by simp)).alloc _,Blk.newAt (by simp),zR _ _ _ _,((Ext.alloc _ _).trans (Ext.alloc _ _)).trans (Ext.alloc _ _),by omega,fun _=>rfl⟩
 go_enter Tryz.func80,Tryz.ntmps80
 have y0:=HS0.out.n.cell 4
 go_wp2_with fail
 clear y0;generalize ((w.alloc (.cells #[.slice A l.length c] 27)).alloc (.cells #[.int .u8 kind,.int .i64 pos,.string text,.int .i64 num,.slice kA kids.length kc] 38)).alloc (.cells #[.slice none 0 0] 22)=wz at *;generalize w.heap.size+1+1=gk at *;generalize w.heap.size+1=gn at *;obtain⟨gt,hgt⟩:∃gt,gt=w.heap.size:=⟨_,rfl⟩;rw[←hgt] at HS0 ⊢;have HGT:=yG hgt;clear hgt
 go_loopw [11] (fun i wr=>∃(k:Nat) (A':Option Addr) (c':Nat),k≤kids.length∧i=.int .i64 k∧Hid (KSt w wr gt gn gk (.slice A l.length c) #[.int .u8 kind,.int .i64 pos,.string text,.int .i64 num,.slice kA kids.length kc] (ZE l (kids.take k)) A' c')) (fun i _=>kids.length-(intOf i).toNat)
 case atStart=>exact⟨0,none,0,zW _,rfl,HS0⟩
 case round=>
  obtain⟨k,A',c',hk,rfl,HS⟩:=hrel;obtain⟨wa,rfl⟩:∃wa:World,wa=wr:=⟨_,rfl⟩
  by_cases hlt:k<kids.length
  ·have d0:decide ((k:Int)<(kids.length:Int))=true:=yS (by omega);obtain⟨b,off,rfl,hb,hcl⟩:=zPG (HXO.out.kids.ext HS.out.ext) k hlt;obtain⟨a,ha,hal⟩:=HIN.out kids[k] (yO hlt)
   have HKS:Hid (ZE l (kids.take (k+1))=ZE l (kids.take k)++[l[a].kind]):=yG (by
    unfold ZE;rw[zZ hlt,List.map_append,ha];simp only[List.map_cons,List.map_nil]
    rw[zCc hal])
   rw[ha] at hcl;clear ha
   go_upto_region 5 with fail
   obtain⟨b2,off2,rfl,hb2,hc2⟩:=(HT.out.ext HS.out.ext).at_ a hal;have hk0:wa.cell? ⟨b2,off2+a*5,none⟩=some (.int .u8 l[a].kind):=hc2 0 (by omega);have HKC:=yG hk0;clear hk0 hc2 hcl
   have hkn:(ZE l (kids.take k)).length=k:=by simp[ZE]; omega
   generalize ZE l (kids.take k)=ls at *;generalize l[a].kind=ka at *
   have q0:(0:Int)≤(a:Int):=by omega
   have q1:(a:Int)<(l.length:Int):=by omega
   apply xS 8 (by kernel_rfl) (by kernel_rfl) (by kernel_rfl);dsimp only[List.take_succ_cons,List.take_zero,List.drop_succ_cons,List.drop_zero];apply yZ (.slice A' ls.length c') rfl rfl rfl
   ·intro w' hw' hH;clear hH;have c0:=(HS.out.k.ext hw').cell 0;simp[xA,go_sem,c0];exact Ext.refl _
   apply yZ (.pointer (some ⟨gt,0,none⟩)) rfl rfl rfl
   ·intro w' hw' hH;clear hH;simp[xA,go_sem];exact Ext.refl _
   apply yZ (.slice (some ⟨b2,off2,none⟩) l.length c) rfl rfl rfl
   ·intro w' hw' hH;clear hH;have c0:=(HS.out.t.ext hw').cell 0;simp[xA,go_sem,c0];exact Ext.refl _
   apply yZ (.int .i64 (a:Int)) rfl rfl rfl
   ·intro w' hw' hH;clear hH;simp[xA,go_sem];exact Ext.refl _
   apply yZ (.pointer (some ⟨b2,off2+a*5,none⟩)) rfl rfl rfl
   ·intro w' hw' hH;clear hH;simp[xA,go_sem,q0,q1];exact Ext.refl _
   apply yZ (.pointer (some ⟨b2,off2+a*5,none⟩)) rfl rfl rfl
   ·intro w' hw' hH;clear hH;simp[xA,go_sem];exact Ext.refl _
   apply yZ (.int .u8 ka) rfl rfl rfl
   ·intro w' hw' hH;clear hH;have c0:=(hw'.cell (p:=⟨b2,off2+a*5,none⟩) hb2).trans HKC.out;simp[xA,go_sem,c0];exact Ext.refl _
   apply vB (zMX 5 #[.int .u8 ka]) (fun v a b h k=>zMX.ext v a b h k) rfl rfl rfl
   ·intro w' hw' hH;clear hH;simp[xA,go_sem];exact⟨⟨_,rfl,Blk.new _ _ _⟩,Ext.alloc _ _⟩
   intro vl;apply xX;intro w2 hw2 hH;have hlit:=hH _ (List.mem_cons_self);obtain⟨gl,hvl,hgl⟩:=hlit;subst hvl;clear hH;have hS2:=HS.out.mono hw2;have HS2:=yG hS2;have HGL:=yG hgl;have HX2:=yG hw2;clear hS2 hgl hw2
   try simp only[Act.put]
   refine YN rfl (.tmp 15) (.tmp 22) 22 rfl w.heap.size 5 i0 (.int .u8 0) 1 1 Tryz.underlying22 hi hz0 hz1 hz2 rfl (by decide) (.slice A' ls.length c') ls.length (vC ls) (by kernel_rfl) HS2.out.own (some ⟨gl,0,none⟩) 1 1 [.int .u8 ka] (by kernel_rfl) (fun h=>by cases h) rfl ?c1 ?c2 ?c3 ?c4 ?c5 ?_
   case c1=>exact .inr ⟨gl,0,rfl,HGL.out.lt,fun j hj=>by
    have:j=0:=by simp at hj; omega
    subst this
    exact(HGL.out.cell 0)⟩
   case c2=>intro u hu; simp at hu; subst hu; rfl
   case c3=>unfold maxLen; omega
   case c4=>omega
   case c5=>exact HS2.out.ext.size
   intro A3 c3 w3 hn3 ho3 hg3;have HS3:=yG (HS2.out.step ho3 hg3 hn3);have hk3:Blk w3 gk 22 #[.slice A' ls.length c']:=HS2.out.k.grown hg3 (Ne.symm (YE HS2.out.own HS2.out.k (by decide)));have y0:=hk3.cell 0;have y1:=hk3.frozen 0;clear ho3 hg3 hn3 hk3
   try simp only[Act.put]
   go_wp2_with fail
   go_roundw
   case rel=>exact⟨k+1,A3,c3,by omega,by go_num,yG (by rw[HKS.out]; have:=HS3.out; rw[hkn] at this; exact this)⟩
   case measure=>simp[intOf]; omega
  ·obtain rfl:k=kids.length:=by omega
   have d0:decide ((kids.length:Int)<(kids.length:Int))=false:=by simp
   have HSK:Hid (KSt w wa gt gn gk (.slice A l.length c) #[.int .u8 kind,.int .i64 pos,.string text,.int .i64 num,.slice kA kids.length kc] (ZE l kids) A' c'):=yG (by have:=HS.out; rw[List.take_length] at this; exact this);clear HS;have y0:=HSK.out.n.cell 0
   go_wp2_with fail
   refine(zCa kind wa).mono ?_;rintro e w2 ⟨v,rfl,hv,hx2⟩;have HS2:=yG (HSK.out.mono hx2);have HV:=yG hv;clear hv hx2 y0
   go_wp2_with fail
   have hkn:(ZE l kids).length≤9000:=by simp[ZE]; omega
   have hv2:=HV.out;rw[HFS.out] at hv2;have hn2:Blk w2 gn 38 (Array.mk (xQ.cells ⟨kind,pos,text,num,kA,kc,kids⟩)):=HS2.out.n;have hcall:=zMd fs v A' (ZE l kids) c' gk gn ⟨kind,pos,text,num,kA,kc,kids⟩ w2 hv2 HFL.out (Cells.own HS2.out.own) hkn hx HS2.out.k hn2;rw[show(fs.any fun f=>YH f (xQ.mk kind pos text num kA kc kids).num (xQ.mk kind pos text num kA kc kids).text.data.toList (ZE l kids))=zAy kind num text.data.toList (ZE l kids) from HFIT.out.symm] at hcall;obtain⟨res,HRES⟩:∃r,Hid (zAy kind num text.data.toList (ZE l kids)=r):=⟨_,yG rfl⟩;rw[HRES.out] at hcall;refine hcall.mono ?_;clear hcall;rintro e w3 ⟨rfl,hx3⟩;have HX3:Hid (Ext w w3):=yG (HS2.out.ext.trans hx3);clear hx3
   go_wp2_with fail
   go_ret;exact⟨jM HRES.out.symm,HX3.out⟩
structure zFT (l:List xQ)(x:xQ):Prop where
 text:x.text.size≤9000
 kids:x.kids.length≤9000
 range:zLJ l x.kids
theorem zTA (l:List xQ)(A:Option Addr)(n c:Nat)(x:xQ)(w:World)(hn:n=l.length)(ht:zA3 w A l)(hlen:l.length≤9000)(hf:zFT l x)(hxo:zDH w x)(b:Bool)(hb:zCw l x=b) :
  Calls Tryz.prog 80 #[.agg #[.slice A n c],.agg (Array.mk x.cells)] w fun e w'=>e=.returned (.bool b)∧Ext w w':=by
 subst hb;exact zQ7 l A n c x w hn ht hlen hf.text hf.kids hxo hf.range
theorem zId (l:List xQ)(A:Option Addr)(n c gt:Nat)(x:xQ)(w:World)(hn:n=l.length)(ht:zA3 w A l)(hlen:l.length≤9000)(hf:zFT l x)(hxo:zDH w x)(hg:Blk w gt 27 #[.slice A n c])(b:Bool)(hb:(!zCw l x)=b) :
  Calls Tryz.prog 79 #[.agg (Array.mk x.cells),.pointer (some ⟨gt,0,none⟩)] w fun e w'=>e=.returned (.bool b)∧Ext w w':=by
 subst hn;obtain⟨d,hd⟩:∃d,zCw l x=d:=⟨_,rfl⟩;have HD:=yG hd;rw[hd] at hb;have HB:=yG hb;have HT:=yG ht;have HXO:=yG hxo;have HF:=yG hf;have HG:=yG hg;clear hb hd ht hxo hf hg;obtain⟨kind,pos,text,num,kA,kc,kids⟩:=x;have HXA:Hid (Ext w (w.alloc (.cells #[.int .u8 kind,.int .i64 pos,.string text,.int .i64 num,.slice kA kids.length kc] 38))):=yG (Ext.alloc _ _);have y0:=(HG.out.ext HXA.out).cell 0
 show Calls Tryz.prog 79 #[.agg #[.int .u8 kind,.int .i64 pos,.string text,.int .i64 num,.slice kA kids.length kc],.pointer (some ⟨gt,0,none⟩)] w fun e w'=>e=.returned (.bool b)∧Ext w w'
 go_enter Tryz.func79,Tryz.ntmps79
 go_wp2_with fail
 refine(zTA l A l.length c ⟨kind,pos,text,num,kA,kc,kids⟩ _ rfl (HT.out.ext HXA.out) hlen HF.out (HXO.out.ext HXA.out) d HD.out).mono ?_;rintro e w2 ⟨rfl,hx2⟩;have HX2:Hid (Ext w w2):=yG (HXA.out.trans hx2);clear hx2 y0
 go_wp2_with fail
 go_ret;exact⟨jM HB.out,HX2.out⟩
def zEG:xQ:=⟨0,0,⟨#[]⟩,0,none,0,[]⟩
theorem zM6 (l:List xQ)(A:Option Addr)(n c gt:Nat)(w:World)(hn:n=l.length)(ht:zA3 w A l)(hlen:l.length≤9000)(hf:∀x ∈ l,zFT l x)(hg:Blk w gt 27 #[.slice A n c]) :
  Calls Tryz.prog 113 #[.slice A n c,.func (.func 79) #[] #[.pointer (some ⟨gt,0,none⟩)]] w fun e w'=>∃r:Int,e=.returned (.int .i64 r)∧decide (0≤r)=(List.range l.length).any (fun i=>!zCw l (l.getD i zEG))∧Ext w w':=by
 subst hn;have HT:=yG ht;have HG:=yG hg;have HF:=yG hf;clear ht hg hf;obtain⟨q,HQ⟩:∃q:Nat→Bool,Hid ((fun i=>!zCw l (l.getD i zEG))=q):=⟨_,yG rfl⟩;rw[HQ.out]
 go_enter Tryz.func113,Tryz.ntmps113
 go_wp2_with fail
 go_loopw [8] (fun i wr=>∃k:Nat,k≤l.length∧i=.int .i64 k∧Hid (Ext w wr)∧Hid (∀j,j<k→q j=false)) (fun i _=>l.length-(intOf i).toNat)
 case atStart=>exact⟨0,zW _,rfl,yG (Ext.refl _),yG fun j hj=>by omega⟩
 case round=>
  obtain⟨k,hk,rfl,HX,HR⟩:=hrel;obtain⟨wa,rfl⟩:∃wa:World,wa=wr:=⟨_,rfl⟩
  by_cases hlt:k<l.length
  ·have d0:decide ((k:Int)<(l.length:Int))=true:=yS (by omega);obtain⟨b,hb⟩:∃b,q k=b:=⟨_,rfl⟩;have HB:=yG hb
   have hfe:l.getD k zEG=l[k]:=by simp[yH,hlt]
   have HFT:Hid ((!zCw l l[k])=b):=yG (by rw[←hb,←HQ.out,←hfe]);have HT1:=yG (HT.out.ext HX.out);have HG1:=yG (HG.out.ext HX.out);have HNO:Hid (zDH wa l[k]):=yG (HT1.out.ok _ (yO hlt));have HNF:Hid (zFT l l[k]):=yG (HF.out _ (yO hlt));obtain⟨g,off,rfl,hgb,hcell⟩:=HT1.out.at_ k hlt;clear hb hfe;generalize l[k]=x at *;obtain⟨kind,pos,text,num,kA,kc,kids⟩:=x;have c0:wa.cell? ⟨g,off+k*5,none⟩=some (.int .u8 kind):=hcell 0 (by omega);have c1:wa.cell? ⟨g,off+k*5+1,none⟩=some (.int .i64 pos):=hcell 1 (by omega);have c2:wa.cell? ⟨g,off+k*5+2,none⟩=some (.string text):=hcell 2 (by omega);have c3:wa.cell? ⟨g,off+k*5+3,none⟩=some (.int .i64 num):=hcell 3 (by omega);have c4:wa.cell? ⟨g,off+k*5+4,none⟩=some (.slice kA kids.length kc):=hcell 4 (by omega);clear hcell
   cases b with
   | true=>
    go_wp2_with (refine(zId l _ l.length c gt ⟨kind,pos,text,num,kA,kc,kids⟩ _ rfl HT1.out hlen HNF.out HNO.out HG1.out true HFT.out).mono ?_; rintro e w2 ⟨rfl,hx2⟩; have HX2:Hid (Ext w w2):=yG (HX.out.trans hx2); clear hx2)
    go_ret;exact⟨_,rfl,by rw[yS (by omega)]; exact(any_some k hlt HB.out).symm,HX2.out⟩
   | false=>
    go_wp2_with (refine(zId l _ l.length c gt ⟨kind,pos,text,num,kA,kc,kids⟩ _ rfl HT1.out hlen HNF.out HNO.out HG1.out false HFT.out).mono ?_; rintro e w2 ⟨rfl,hx2⟩; have HX2:Hid (Ext w w2):=yG (HX.out.trans hx2); clear hx2)
    go_roundw
    case rel=>exact⟨k+1,by omega,by go_num,HX2,yG fun j hj=>by
     by_cases hjk:j=k
     ·subst hjk; exact HB.out
     ·exact HR.out j (by omega)⟩
    case measure=>simp[intOf]; omega
  ·obtain rfl:k=l.length:=by omega
   have d0:decide ((l.length:Int)<(l.length:Int))=false:=by simp
   go_wp2_with fail
   go_ret;exact⟨_,rfl,by rw[any_none HR.out]; rfl,HX.out⟩
theorem zTd (l:List xQ)(p:xQ→Bool):(!(l.any fun x=>!p x))=l.all p:=by
 induction l with
 | nil=>rfl
 | cons x l ih=>rw[List.any_cons,List.all_cons,←ih]; cases p x <;> simp
theorem zL6 (l:List xQ)(A:Option Addr)(n c gt:Nat)(w:World)(hn:n=l.length)(ht:zA3 w A l)(hlen:l.length≤9000)(hf:∀x ∈ l,zFT l x)(hg:Blk w gt 27 #[.slice A n c])(b:Bool)(hb:Hid ((!l.all (zCw l))=b)) :
  Calls Tryz.prog 78 #[.slice A n c,.func (.func 79) #[] #[.pointer (some ⟨gt,0,none⟩)]] w fun e w'=>e=.returned (.bool b)∧Ext w w':=by
 subst hn;have HRA:Hid ((List.range l.length).any (fun i=>!zCw l (l.getD i zEG))=b):=yG (by rw[←hb.out,←zTd,Bool.not_not]; exact zLg l (fun x=>!zCw l x) zEG)
 go_enter Tryz.func78,Tryz.ntmps78
 go_wp2_with fail
 refine(zM6 l A l.length c gt w rfl ht hlen hf hg).mono ?_;rintro e w2 ⟨r,rfl,hr,hx2⟩;have HRR:=yG hr;have HX2:=yG hx2;clear hr hx2
 go_wp2_with fail
 go_ret;exact⟨jM (by rw[HRR.out,HRA.out]),HX2.out⟩
end Go.Proofs.YtbadjmmjbpeocaaGreat.TT
