/- interlockref06.stmt, walked kind by kind: the same lines as the program's. Conditions: at each lemma. -/
import Derived.Test.YtioffpjajhalaaaGreatDoorLaa
import Derived.Test.YtioffpjajhalaaaGreatDoorLbc
set_option linter.unusedVariables false
set_option linter.unusedSimpArgs false
set_option maxRecDepth 100000
set_option maxHeartbeats 16000000
namespace Go.Proofs.YtioffpjajhalaaaGreatDoor
open Go Go.RowKit
theorem zD0:∀(ls:List Bs) (j:Nat),vR (ls.drop j)≤vR ls
 | [],j=>by simp
 | a::r,0=>by simp
 | a::r,j+1=>by
  have:=zD0 r j
  simp[vR] at this ⊢;omega
def RB (w:World)(A:Option Addr)(n c:Nat)(i d:Nat)(s:Bs):Prop:=∀w',Ext w w'→Calls Tryz.prog 60 #[.slice A n c,.int .i64 (i:Int),.int .i64 ((d:Int)+1)] w' fun e AA=>e=.returned (.string (yX s))∧Ext w' AA
theorem bsz (l:Bs):(yX l).size=l.length:=by simp[yX,ByteArray.size]
theorem zPA (w:World)(A:Option Addr)(n c:Nat)(L:List TT.xB)(hT:TT.vV w A L)(hn:n=L.length)(i:Nat)(m:TT.xB)(hm:L[i]?=some m)(t:Bs)(x:Int)(ks:List Nat)(ls bk:List Bs)(hk:m.kind=7)(ht:m.text=yX t)(hx:m.num=x)(hks:m.kids=xG ks)(hb:m.num=0∨m.num=1)(hn7:ks.length=2)(d:Nat)(hd:d≤1000)
  (hu:∀j (hj:j<ks.length),True→RU w A n c L ks[j] (ls.getD j [])) (hs:vR ls+t.length+vR bk≤1099511627776) (hsz:ks.length≤100000) :
  Calls Tryz.prog 103 #[.slice A n c,.int .i64 (i:Int),.int .i64 (d:Int)] w fun e w'=>e=.returned (.string (yX (xP d 7 t x ls bk)))∧Ext w w':=by
 subst hn hx
 have AZ:2≤ks.length:=by omega
 clear hn7;have AP:i<L.length:=(List.getElem?_eq_some_iff.1 hm).1
 have AQ:L[i]=m:=by rw[yG AP] at hm; exact Option.some.inj hm
 obtain⟨tb,tf,hA,AY,hc⟩:=hT.at_ i AP;rw[AQ] at hc
 have AO:m.kids.length=ks.length:=by rw[hks]; simp[xG]
 have AT:Hid (Cells w m.kA (TT.xD (xG ks))):=yD (by rw[←hks]; exact(hT.ok m (zY hm)).kids)
 have v0:w.cell? ⟨tb,tf+i*5,none⟩=some (.int .u8 7):=by rw[←hk]; exact hc 0 (by decide)
 have v1:w.cell? ⟨tb,tf+i*5+1,none⟩=some (.int .i64 m.pos):=hc 1 (by decide)
 have v2:w.cell? ⟨tb,tf+i*5+2,none⟩=some (.string (yX t)):=by rw[←ht]; exact hc 2 (by decide)
 have v3:w.cell? ⟨tb,tf+i*5+3,none⟩=some (.int .i64 m.num):=hc 3 (by decide)
 have v4:w.cell? ⟨tb,tf+i*5+4,none⟩=some (.slice m.kA ks.length m.kc):=by rw[←AO]; exact hc 4 (by decide)
 clear AO
 have q0:(i:Int)<(L.length:Int):=by omega
 have AM:Hid (∀w,Calls Tryz.prog 146 #[.int .i64 (d:Int)] w fun e w'=>e=.returned (.string (yX (List.replicate d 9)))∧w=w'):=yD fun w=>YI d (by omega) w
 have AX:(yX (List.replicate d 9)).size≤1000:=by rw[bsz,zC]; exact hd
 have AW:(yX t).size≤1099511627776:=by rw[bsz]; omega
 have AN:=yD (hu 0 (by omega) trivial).2
 have Ab:(yX (ls.getD 0 [])).size≤1099511627776:=by rw[bsz]; have:=jF ls 0; omega
 have AR:=yD (hu 1 (by omega) trivial).2
 have Aa:(yX (ls.getD 1 [])).size≤1099511627776:=by rw[bsz]; have:=jF ls 1; omega
 obtain⟨kb,kf,AS,AI,AJ⟩:=AT.out.at_ (by simp[TT.xD,xG]; omega);have E0:Hid (w.cell? ⟨kb,kf,none⟩=some (.int .i64 ((ks[0]'(by omega):Nat):Int))):=yD (by have h:=AJ 0 (by simp[TT.xD,xG]; omega); rw[Nat.add_zero] at h; rw[h]; have AK:0<ks.length:=(by omega); simp[TT.xD,xG,AK]);have E1:Hid (w.cell? ⟨kb,kf+1,none⟩=some (.int .i64 ((ks[1]'(by omega):Nat):Int))):=yD (by have h:=AJ 1 (by simp[TT.xD,xG]; omega); rw[h]; have AK:1<ks.length:=(by omega); simp[TT.xD,xG,AK]);clear hc hT hm hk ht hks hu AQ hs;have AG:=yD AI;clear AJ AI;rw[AS] at v4;generalize m.kc=kc at *;generalize m.pos=pos at *;subst hA;generalize hnum:m.num=x at *;generalize ks[0]'(by omega)=k0 at *;generalize ks[1]'(by omega)=k1 at *
 rcases hb with rfl | rfl
 ·have AA:Hid (Ext w (w.alloc (.cells #[.int .u8 7,.int .i64 pos,.string (yX t),.int .i64 0,.slice (some ⟨kb,kf,none⟩) ks.length kc] 100))):=yD (Ext.alloc _ _);have AC:Hid (Blk (w.alloc (.cells #[.int .u8 7,.int .i64 pos,.string (yX t),.int .i64 0,.slice (some ⟨kb,kf,none⟩) ks.length kc] 100)) w.heap.size 100 #[.int .u8 7,.int .i64 pos,.string (yX t),.int .i64 0,.slice (some ⟨kb,kf,none⟩) ks.length kc]):=yD (Blk.new _ _ _)
  have AF:Hid (yX (xP d 7 t 0 ls bk)=yX (List.replicate d 9)++(yX [114,101,97,100,32]++yX t++yX [32,61,32]++yX (ls.getD 0 [])++yX [46]++yX (ls.getD 1 [])++yX []++yX [59])++yX [10]):=yD (by
   simp only[←xZ]
   congr 1
   simp[xP,xV,jU])
  go_enter Tryz.func103,Tryz.ntmps103
  go_upto_region 4 with fail
  clear v0 v1 v2 v3 v4 q0;have e0:=(AA.out.cell (p:=⟨kb,kf,none⟩) AG.out).trans E0.out;have e1:=(AA.out.cell (p:=⟨kb,kf+1,none⟩) AG.out).trans E1.out;have AD:=yR AG.out AA.out.size;generalize w.heap.size=gn at *;generalize w.alloc (.cells #[.int .u8 7,.int .i64 pos,.string (yX t),.int .i64 0,.slice (some ⟨kb,kf,none⟩) ks.length kc] 100)=w1 at *;have n0:w1.cell? ⟨gn,0,none⟩=some (.int .u8 7):=AC.out.cell 0;have n2:w1.cell? ⟨gn,2,none⟩=some (.string (yX t)):=AC.out.cell 2;have n3:w1.cell? ⟨gn,3,none⟩=some (.int .i64 0):=AC.out.cell 3;have AE:=AC.out.lt
  have qs:((0:Int)<(ks.length:Int))∧0<ks.length∧((1:Int)<(ks.length:Int))∧1<ks.length:=by omega
  generalize yX t=tt at *;generalize yX (ls.getD 0 [])=s0 at *;generalize yX (ls.getD 1 [])=s1 at *;generalize yX (List.replicate d 9)=sa at *
  go_upto_region 6 with fail
  apply xY (by kernel_rfl) (by kernel_rfl) (by kernel_rfl);apply sP qs (.pointer (some ⟨gn,2,none⟩));apply sR n2 AE qs (.string (tt));apply sP (by omega:¬(9223372036854775807<5+tt.size)) (.string (⟨#[114,101,97,100,32]⟩++tt));apply sP (by omega:¬(9223372036854775807<5+tt.size+3)) (.string (⟨#[114,101,97,100,32]⟩++tt++⟨#[32,61,32]⟩));apply sP qs (.slice (some ⟨tb,tf,none⟩) L.length c);apply sP qs (.slice (some ⟨kb,kf,none⟩) ks.length kc);apply sP qs (.pointer (some ⟨kb,kf,none⟩));apply sR e0 AD qs (.int .i64 (k0:Int));apply yZ (.string (s0)) rfl rfl rfl
  ·intro w' AB hH;clear hH;simp[yY,go_sem];refine(AN.out w' (AA.out.trans AB)).mono ?_;rintro e w2 ⟨rfl,hx⟩;exact⟨_,rfl,rfl,hx⟩
  apply sP (by omega:¬(9223372036854775807<5+tt.size+3+s0.size)) (.string (⟨#[114,101,97,100,32]⟩++tt++⟨#[32,61,32]⟩++s0));apply sP (by omega:¬(9223372036854775807<5+tt.size+3+s0.size+1)) (.string (⟨#[114,101,97,100,32]⟩++tt++⟨#[32,61,32]⟩++s0++⟨#[46]⟩));apply sP qs (.slice (some ⟨tb,tf,none⟩) L.length c);apply sP qs (.slice (some ⟨kb,kf,none⟩) ks.length kc);apply sP qs (.pointer (some ⟨kb,kf+1,none⟩));apply sR e1 AD qs (.int .i64 (k1:Int));apply yZ (.string (s1)) rfl rfl rfl
  ·intro w' AB hH;clear hH;simp[yY,go_sem];refine(AR.out w' (AA.out.trans AB)).mono ?_;rintro e w2 ⟨rfl,hx⟩;exact⟨_,rfl,rfl,hx⟩
  apply sP (by omega:¬(9223372036854775807<5+tt.size+3+s0.size+1+s1.size)) (.string (⟨#[114,101,97,100,32]⟩++tt++⟨#[32,61,32]⟩++s0++⟨#[46]⟩++s1));apply sP qs (.pointer (some ⟨gn,3,none⟩));apply sR n3 AE qs (.int .i64 0);apply yZ (.string (⟨#[]⟩)) rfl rfl rfl
  ·intro w' AB hH;clear hH;simp[yY,go_sem];refine(JQ 0 ⟨#[]⟩ ⟨#[32,102,111,114,32,117,112,100,97,116,101]⟩ w').mono ?_;rintro e w2 ⟨rfl,rfl⟩;exact⟨_,rfl,by first | rfl | decide,Ext.refl _⟩
  apply sP (by omega:¬(9223372036854775807<5+tt.size+3+s0.size+1+s1.size)) (.string (⟨#[114,101,97,100,32]⟩++tt++⟨#[32,61,32]⟩++s0++⟨#[46]⟩++s1++⟨#[]⟩));apply sP (by omega:¬(9223372036854775807<5+tt.size+3+s0.size+1+s1.size+1)) (.string (⟨#[114,101,97,100,32]⟩++tt++⟨#[32,61,32]⟩++s0++⟨#[46]⟩++s1++⟨#[]⟩++⟨#[59]⟩));apply sP qs (.string (⟨#[114,101,97,100,32]⟩++tt++⟨#[32,61,32]⟩++s0++⟨#[46]⟩++s1++⟨#[]⟩++⟨#[59]⟩));apply xN;intro w9 AH hH;clear hH
  try simp only[Act.put,yA,yC,yB]
  have AL:=yD (AA.out.trans AH);clear AH n0 n2 n3 AE e0 e1 AD
  have AU:¬(9223372036854775807<sa.size+(5+tt.size+3+s0.size+1+s1.size+1)):=by omega
  have AV:¬(9223372036854775807<sa.size+(5+tt.size+3+s0.size+1+s1.size+1)+1):=by omega
  go_wp2_with fail
  refine(AM.out _).mono ?_;rintro e wz ⟨rfl,rfl⟩
  go_wp2_with fail
  go_ret;exact⟨by rw[AF.out]; rfl,AL.out⟩
 ·have AA:Hid (Ext w (w.alloc (.cells #[.int .u8 7,.int .i64 pos,.string (yX t),.int .i64 1,.slice (some ⟨kb,kf,none⟩) ks.length kc] 100))):=yD (Ext.alloc _ _);have AC:Hid (Blk (w.alloc (.cells #[.int .u8 7,.int .i64 pos,.string (yX t),.int .i64 1,.slice (some ⟨kb,kf,none⟩) ks.length kc] 100)) w.heap.size 100 #[.int .u8 7,.int .i64 pos,.string (yX t),.int .i64 1,.slice (some ⟨kb,kf,none⟩) ks.length kc]):=yD (Blk.new _ _ _)
  have AF:Hid (yX (xP d 7 t 1 ls bk)=yX (List.replicate d 9)++(yX [114,101,97,100,32]++yX t++yX [32,61,32]++yX (ls.getD 0 [])++yX [46]++yX (ls.getD 1 [])++yX [32,102,111,114,32,117,112,100,97,116,101]++yX [59])++yX [10]):=yD (by
   simp only[←xZ]
   congr 1
   simp[xP,xV,jU])
  go_enter Tryz.func103,Tryz.ntmps103
  go_upto_region 4 with fail
  clear v0 v1 v2 v3 v4 q0;have e0:=(AA.out.cell (p:=⟨kb,kf,none⟩) AG.out).trans E0.out;have e1:=(AA.out.cell (p:=⟨kb,kf+1,none⟩) AG.out).trans E1.out;have AD:=yR AG.out AA.out.size;generalize w.heap.size=gn at *;generalize w.alloc (.cells #[.int .u8 7,.int .i64 pos,.string (yX t),.int .i64 1,.slice (some ⟨kb,kf,none⟩) ks.length kc] 100)=w1 at *;have n0:w1.cell? ⟨gn,0,none⟩=some (.int .u8 7):=AC.out.cell 0;have n2:w1.cell? ⟨gn,2,none⟩=some (.string (yX t)):=AC.out.cell 2;have n3:w1.cell? ⟨gn,3,none⟩=some (.int .i64 1):=AC.out.cell 3;have AE:=AC.out.lt
  have qs:((0:Int)<(ks.length:Int))∧0<ks.length∧((1:Int)<(ks.length:Int))∧1<ks.length:=by omega
  generalize yX t=tt at *;generalize yX (ls.getD 0 [])=s0 at *;generalize yX (ls.getD 1 [])=s1 at *;generalize yX (List.replicate d 9)=sa at *
  go_upto_region 6 with fail
  apply xY (by kernel_rfl) (by kernel_rfl) (by kernel_rfl);apply sP qs (.pointer (some ⟨gn,2,none⟩));apply sR n2 AE qs (.string (tt));apply sP (by omega:¬(9223372036854775807<5+tt.size)) (.string (⟨#[114,101,97,100,32]⟩++tt));apply sP (by omega:¬(9223372036854775807<5+tt.size+3)) (.string (⟨#[114,101,97,100,32]⟩++tt++⟨#[32,61,32]⟩));apply sP qs (.slice (some ⟨tb,tf,none⟩) L.length c);apply sP qs (.slice (some ⟨kb,kf,none⟩) ks.length kc);apply sP qs (.pointer (some ⟨kb,kf,none⟩));apply sR e0 AD qs (.int .i64 (k0:Int));apply yZ (.string (s0)) rfl rfl rfl
  ·intro w' AB hH;clear hH;simp[yY,go_sem];refine(AN.out w' (AA.out.trans AB)).mono ?_;rintro e w2 ⟨rfl,hx⟩;exact⟨_,rfl,rfl,hx⟩
  apply sP (by omega:¬(9223372036854775807<5+tt.size+3+s0.size)) (.string (⟨#[114,101,97,100,32]⟩++tt++⟨#[32,61,32]⟩++s0));apply sP (by omega:¬(9223372036854775807<5+tt.size+3+s0.size+1)) (.string (⟨#[114,101,97,100,32]⟩++tt++⟨#[32,61,32]⟩++s0++⟨#[46]⟩));apply sP qs (.slice (some ⟨tb,tf,none⟩) L.length c);apply sP qs (.slice (some ⟨kb,kf,none⟩) ks.length kc);apply sP qs (.pointer (some ⟨kb,kf+1,none⟩));apply sR e1 AD qs (.int .i64 (k1:Int));apply yZ (.string (s1)) rfl rfl rfl
  ·intro w' AB hH;clear hH;simp[yY,go_sem];refine(AR.out w' (AA.out.trans AB)).mono ?_;rintro e w2 ⟨rfl,hx⟩;exact⟨_,rfl,rfl,hx⟩
  apply sP (by omega:¬(9223372036854775807<5+tt.size+3+s0.size+1+s1.size)) (.string (⟨#[114,101,97,100,32]⟩++tt++⟨#[32,61,32]⟩++s0++⟨#[46]⟩++s1));apply sP qs (.pointer (some ⟨gn,3,none⟩));apply sR n3 AE qs (.int .i64 1);apply yZ (.string (⟨#[32,102,111,114,32,117,112,100,97,116,101]⟩)) rfl rfl rfl
  ·intro w' AB hH;clear hH;simp[yY,go_sem];refine(JQ 1 ⟨#[]⟩ ⟨#[32,102,111,114,32,117,112,100,97,116,101]⟩ w').mono ?_;rintro e w2 ⟨rfl,rfl⟩;exact⟨_,rfl,by first | rfl | decide,Ext.refl _⟩
  apply sP (by omega:¬(9223372036854775807<5+tt.size+3+s0.size+1+s1.size+11)) (.string (⟨#[114,101,97,100,32]⟩++tt++⟨#[32,61,32]⟩++s0++⟨#[46]⟩++s1++⟨#[32,102,111,114,32,117,112,100,97,116,101]⟩));apply sP (by omega:¬(9223372036854775807<5+tt.size+3+s0.size+1+s1.size+11+1)) (.string (⟨#[114,101,97,100,32]⟩++tt++⟨#[32,61,32]⟩++s0++⟨#[46]⟩++s1++⟨#[32,102,111,114,32,117,112,100,97,116,101]⟩++⟨#[59]⟩));apply sP qs (.string (⟨#[114,101,97,100,32]⟩++tt++⟨#[32,61,32]⟩++s0++⟨#[46]⟩++s1++⟨#[32,102,111,114,32,117,112,100,97,116,101]⟩++⟨#[59]⟩));apply xN;intro w9 AH hH;clear hH
  try simp only[Act.put,yA,yC,yB]
  have AL:=yD (AA.out.trans AH);clear AH n0 n2 n3 AE e0 e1 AD
  have AU:¬(9223372036854775807<sa.size+(5+tt.size+3+s0.size+1+s1.size+11+1)):=by omega
  have AV:¬(9223372036854775807<sa.size+(5+tt.size+3+s0.size+1+s1.size+11+1)+1):=by omega
  go_wp2_with fail
  refine(AM.out _).mono ?_;rintro e wz ⟨rfl,rfl⟩
  go_wp2_with fail
  go_ret;exact⟨by rw[AF.out]; rfl,AL.out⟩
theorem zQL (w:World)(A:Option Addr)(n c:Nat)(L:List TT.xB)(hT:TT.vV w A L)(hn:n=L.length)(i:Nat)(m:TT.xB)(hm:L[i]?=some m)(t:Bs)(x:Int)(ks:List Nat)(ls bk:List Bs)(hk:m.kind=8)(ht:m.text=yX t)(hx:m.num=x)(hks:m.kids=xG ks)(hn8:ks.length=3)(d:Nat)(hd:d≤1000)
  (hu:∀j (hj:j<ks.length),True→RU w A n c L ks[j] (ls.getD j [])) (hs:vR ls+t.length+vR bk≤1099511627776) (hsz:ks.length≤100000) :
  Calls Tryz.prog 103 #[.slice A n c,.int .i64 (i:Int),.int .i64 (d:Int)] w fun e w'=>e=.returned (.string (yX (xP d 8 t x ls bk)))∧Ext w w':=by
 subst hn hx
 have AZ:3≤ks.length:=by omega
 clear hn8;have AK:i<L.length:=(List.getElem?_eq_some_iff.1 hm).1
 have AM:L[i]=m:=by rw[yG AK] at hm; exact Option.some.inj hm
 obtain⟨tb,tf,hA,AX,hc⟩:=hT.at_ i AK;rw[AM] at hc
 have AJ:m.kids.length=ks.length:=by rw[hks]; simp[xG]
 have AR:Hid (Cells w m.kA (TT.xD (xG ks))):=yD (by rw[←hks]; exact(hT.ok m (zY hm)).kids)
 have v0:w.cell? ⟨tb,tf+i*5,none⟩=some (.int .u8 8):=by rw[←hk]; exact hc 0 (by decide)
 have v1:w.cell? ⟨tb,tf+i*5+1,none⟩=some (.int .i64 m.pos):=hc 1 (by decide)
 have v2:w.cell? ⟨tb,tf+i*5+2,none⟩=some (.string (yX t)):=by rw[←ht]; exact hc 2 (by decide)
 have v3:w.cell? ⟨tb,tf+i*5+3,none⟩=some (.int .i64 m.num):=hc 3 (by decide)
 have v4:w.cell? ⟨tb,tf+i*5+4,none⟩=some (.slice m.kA ks.length m.kc):=by rw[←AJ]; exact hc 4 (by decide)
 clear AJ
 have q0:(i:Int)<(L.length:Int):=by omega
 have AN:Hid (∀w,Calls Tryz.prog 146 #[.int .i64 (d:Int)] w fun e w'=>e=.returned (.string (yX (List.replicate d 9)))∧w=w'):=yD fun w=>YI d (by omega) w
 have AW:(yX (List.replicate d 9)).size≤1000:=by rw[bsz,zC]; exact hd
 have AV:(yX t).size≤1099511627776:=by rw[bsz]; omega
 have AO:=yD (hu 0 (by omega) trivial).2
 have Ac:(yX (ls.getD 0 [])).size≤1099511627776:=by rw[bsz]; have:=jF ls 0; omega
 have AT:=yD (hu 1 (by omega) trivial).2
 have Ab:(yX (ls.getD 1 [])).size≤1099511627776:=by rw[bsz]; have:=jF ls 1; omega
 have AS:=yD (hu 2 (by omega) trivial).2
 have Aa:(yX (ls.getD 2 [])).size≤1099511627776:=by rw[bsz]; have:=jF ls 2; omega
 obtain⟨kb,kf,AQ,AC,AH⟩:=AR.out.at_ (by simp[TT.xD,xG]; omega);have E0:Hid (w.cell? ⟨kb,kf,none⟩=some (.int .i64 ((ks[0]'(by omega):Nat):Int))):=yD (by have h:=AH 0 (by simp[TT.xD,xG]; omega); rw[Nat.add_zero] at h; rw[h]; have AD:0<ks.length:=(by omega); simp[TT.xD,xG,AD]);have E1:Hid (w.cell? ⟨kb,kf+1,none⟩=some (.int .i64 ((ks[1]'(by omega):Nat):Int))):=yD (by have h:=AH 1 (by simp[TT.xD,xG]; omega); rw[h]; have AD:1<ks.length:=(by omega); simp[TT.xD,xG,AD]);have E2:Hid (w.cell? ⟨kb,kf+2,none⟩=some (.int .i64 ((ks[2]'(by omega):Nat):Int))):=yD (by have h:=AH 2 (by simp[TT.xD,xG]; omega); rw[h]; have AD:2<ks.length:=(by omega); simp[TT.xD,xG,AD]);clear hc hT hm hk ht hks hu AM hs;have AF:=yD AC;clear AH AC;rw[AQ] at v4;generalize m.kc=kc at *;generalize m.pos=pos at *;subst hA;generalize hnum:m.num=x at *;generalize ks[0]'(by omega)=k0 at *;generalize ks[1]'(by omega)=k1 at *;generalize ks[2]'(by omega)=k2 at *;have AA:Hid (Ext w (w.alloc (.cells #[.int .u8 8,.int .i64 pos,.string (yX t),.int .i64 x,.slice (some ⟨kb,kf,none⟩) ks.length kc] 100))):=yD (Ext.alloc _ _);have AG:Hid (Blk (w.alloc (.cells #[.int .u8 8,.int .i64 pos,.string (yX t),.int .i64 x,.slice (some ⟨kb,kf,none⟩) ks.length kc] 100)) w.heap.size 100 #[.int .u8 8,.int .i64 pos,.string (yX t),.int .i64 x,.slice (some ⟨kb,kf,none⟩) ks.length kc]):=yD (Blk.new _ _ _)
 have AI:Hid (yX (xP d 8 t x ls bk)=yX (List.replicate d 9)++(yX [115,101,116,32]++yX (ls.getD 0 [])++yX [46]++yX (ls.getD 1 [])++yX [32,61,32]++yX (ls.getD 2 [])++yX [59])++yX [10]):=yD (by
  simp only[←xZ]
  congr 1
  simp[xP,xV,jU])
 go_enter Tryz.func103,Tryz.ntmps103
 go_upto_region 4 with fail
 clear v0 v1 v2 v3 v4 q0;have e0:=(AA.out.cell (p:=⟨kb,kf,none⟩) AF.out).trans E0.out;have e1:=(AA.out.cell (p:=⟨kb,kf+1,none⟩) AF.out).trans E1.out;have e2:=(AA.out.cell (p:=⟨kb,kf+2,none⟩) AF.out).trans E2.out;have AE:=yR AF.out AA.out.size;generalize w.heap.size=gn at *;generalize w.alloc (.cells #[.int .u8 8,.int .i64 pos,.string (yX t),.int .i64 x,.slice (some ⟨kb,kf,none⟩) ks.length kc] 100)=w1 at *;have n0:w1.cell? ⟨gn,0,none⟩=some (.int .u8 8):=AG.out.cell 0;have n2:w1.cell? ⟨gn,2,none⟩=some (.string (yX t)):=AG.out.cell 2;have n3:w1.cell? ⟨gn,3,none⟩=some (.int .i64 x):=AG.out.cell 3;have AP:=AG.out.lt
 have qs:((0:Int)<(ks.length:Int))∧0<ks.length∧((1:Int)<(ks.length:Int))∧1<ks.length∧((2:Int)<(ks.length:Int))∧2<ks.length:=by omega
 generalize yX t=tt at *;generalize yX (ls.getD 0 [])=s0 at *;generalize yX (ls.getD 1 [])=s1 at *;generalize yX (ls.getD 2 [])=s2 at *;generalize yX (List.replicate d 9)=sa at *
 go_upto_region 8 with fail
 apply xY (by kernel_rfl) (by kernel_rfl) (by kernel_rfl);apply sP qs (.slice (some ⟨tb,tf,none⟩) L.length c);apply sP qs (.slice (some ⟨kb,kf,none⟩) ks.length kc);apply sP qs (.pointer (some ⟨kb,kf,none⟩));apply sR e0 AE qs (.int .i64 (k0:Int));apply yZ (.string (s0)) rfl rfl rfl
 ·intro w' AB hH;clear hH;simp[yY,go_sem];refine(AO.out w' (AA.out.trans AB)).mono ?_;rintro e w2 ⟨rfl,hx⟩;exact⟨_,rfl,rfl,hx⟩
 apply sP (by omega:¬(9223372036854775807<4+s0.size)) (.string (⟨#[115,101,116,32]⟩++s0));apply sP (by omega:¬(9223372036854775807<4+s0.size+1)) (.string (⟨#[115,101,116,32]⟩++s0++⟨#[46]⟩));apply sP qs (.slice (some ⟨tb,tf,none⟩) L.length c);apply sP qs (.slice (some ⟨kb,kf,none⟩) ks.length kc);apply sP qs (.pointer (some ⟨kb,kf+1,none⟩));apply sR e1 AE qs (.int .i64 (k1:Int));apply yZ (.string (s1)) rfl rfl rfl
 ·intro w' AB hH;clear hH;simp[yY,go_sem];refine(AT.out w' (AA.out.trans AB)).mono ?_;rintro e w2 ⟨rfl,hx⟩;exact⟨_,rfl,rfl,hx⟩
 apply sP (by omega:¬(9223372036854775807<4+s0.size+1+s1.size)) (.string (⟨#[115,101,116,32]⟩++s0++⟨#[46]⟩++s1));apply sP (by omega:¬(9223372036854775807<4+s0.size+1+s1.size+3)) (.string (⟨#[115,101,116,32]⟩++s0++⟨#[46]⟩++s1++⟨#[32,61,32]⟩));apply sP qs (.slice (some ⟨tb,tf,none⟩) L.length c);apply sP qs (.slice (some ⟨kb,kf,none⟩) ks.length kc);apply sP qs (.pointer (some ⟨kb,kf+2,none⟩));apply sR e2 AE qs (.int .i64 (k2:Int));apply yZ (.string (s2)) rfl rfl rfl
 ·intro w' AB hH;clear hH;simp[yY,go_sem];refine(AS.out w' (AA.out.trans AB)).mono ?_;rintro e w2 ⟨rfl,hx⟩;exact⟨_,rfl,rfl,hx⟩
 apply sP (by omega:¬(9223372036854775807<4+s0.size+1+s1.size+3+s2.size)) (.string (⟨#[115,101,116,32]⟩++s0++⟨#[46]⟩++s1++⟨#[32,61,32]⟩++s2));apply sP (by omega:¬(9223372036854775807<4+s0.size+1+s1.size+3+s2.size+1)) (.string (⟨#[115,101,116,32]⟩++s0++⟨#[46]⟩++s1++⟨#[32,61,32]⟩++s2++⟨#[59]⟩));apply sP qs (.string (⟨#[115,101,116,32]⟩++s0++⟨#[46]⟩++s1++⟨#[32,61,32]⟩++s2++⟨#[59]⟩));apply xN;intro w9 AL hH;clear hH
 try simp only[Act.put,yA,yC,yB]
 have AU:=yD (AA.out.trans AL);clear AL n0 n2 n3 AP e0 e1 e2 AE
 have AY:¬(9223372036854775807<sa.size+(4+s0.size+1+s1.size+3+s2.size+1)):=by omega
 have Ad:¬(9223372036854775807<sa.size+(4+s0.size+1+s1.size+3+s2.size+1)+1):=by omega
 go_wp2_with fail
 refine(AN.out _).mono ?_;rintro e wz ⟨rfl,rfl⟩
 go_wp2_with fail
 go_ret;exact⟨by rw[AI.out]; rfl,AU.out⟩
theorem zQ9 (w:World)(A:Option Addr)(n c:Nat)(L:List TT.xB)(hT:TT.vV w A L)(hn:n=L.length)(i:Nat)(m:TT.xB)(hm:L[i]?=some m)(t:Bs)(x:Int)(ks:List Nat)(ls bk:List Bs)(hk:m.kind=9)(ht:m.text=yX t)(hx:m.num=x)(hks:m.kids=xG ks)(hn9:1≤ks.length)(hll:ls.length=ks.length)(hcp:m.kids.length≤m.kc)(d:Nat)(hd:d≤1000)
  (hu:∀j (hj:j<ks.length),True→RU w A n c L ks[j] (ls.getD j [])) (hs:vR ls+t.length+vR bk≤1099511627776) (hsz:ks.length≤100000) :
  Calls Tryz.prog 103 #[.slice A n c,.int .i64 (i:Int),.int .i64 (d:Int)] w fun e w'=>e=.returned (.string (yX (xP d 9 t x ls bk)))∧Ext w w':=by
 subst hn hx;have AO:=yD hll;have AZ:Hid (ks.length≤m.kc):=yD (by rw[hks] at hcp; simpa [xG] using hcp);clear hll hcp;have AJ:i<L.length:=(List.getElem?_eq_some_iff.1 hm).1
 have AP:L[i]=m:=by rw[yG AJ] at hm; exact Option.some.inj hm
 obtain⟨tb,tf,hA,Ae,hc⟩:=hT.at_ i AJ;rw[AP] at hc
 have AH:m.kids.length=ks.length:=by rw[hks]; simp[xG]
 have AM:Hid (Cells w m.kA (TT.xD (xG ks))):=yD (by rw[←hks]; exact(hT.ok m (zY hm)).kids)
 have v0:w.cell? ⟨tb,tf+i*5,none⟩=some (.int .u8 9):=by rw[←hk]; exact hc 0 (by decide)
 have v1:w.cell? ⟨tb,tf+i*5+1,none⟩=some (.int .i64 m.pos):=hc 1 (by decide)
 have v2:w.cell? ⟨tb,tf+i*5+2,none⟩=some (.string (yX t)):=by rw[←ht]; exact hc 2 (by decide)
 have v3:w.cell? ⟨tb,tf+i*5+3,none⟩=some (.int .i64 m.num):=hc 3 (by decide)
 have v4:w.cell? ⟨tb,tf+i*5+4,none⟩=some (.slice m.kA ks.length m.kc):=by rw[←AH]; exact hc 4 (by decide)
 clear AH
 have q0:(i:Int)<(L.length:Int):=by omega
 have AW:Hid (∀w,Calls Tryz.prog 146 #[.int .i64 (d:Int)] w fun e w'=>e=.returned (.string (yX (List.replicate d 9)))∧w=w'):=yD fun w=>YI d (by omega) w
 have Ad:(yX (List.replicate d 9)).size≤1000:=by rw[bsz,zC]; exact hd
 have Aj:(yX t).size≤1099511627776:=by rw[bsz]; omega
 have AX:=yD (hu 0 (by omega) trivial).2
 have Ag:(yX (ls.getD 0 [])).size≤1099511627776:=by rw[bsz]; have:=jF ls 0; omega
 obtain⟨kb,kf,AL,AA,AQ⟩:=AM.out.at_ (by simp[TT.xD,xG]; omega);have E0:Hid (w.cell? ⟨kb,kf,none⟩=some (.int .i64 ((ks[0]'(by omega):Nat):Int))):=yD (by have h:=AQ 0 (by simp[TT.xD,xG]; omega); rw[Nat.add_zero] at h; rw[h]; have Ab:0<ks.length:=(by omega); simp[TT.xD,xG,Ab])
 have AN:Hid (∀w',Ext w w'→Calls Tryz.prog 58 #[.slice (some ⟨tb,tf,none⟩) L.length c,.slice (if m.kc=1 then (some ⟨kb,kf,none⟩:Option Addr) else some ⟨kb,kf+1,none⟩) (ks.length-1) (m.kc-1)] w' fun e AR=>e=.returned (.string (yX (vB (ls.drop 1))))∧Ext w' AR):=yD fun w' hx=>by
  have AT:Cells w' (if m.kc=1 then (some ⟨kb,kf,none⟩:Option Addr) else some ⟨kb,kf+1,none⟩) (TT.xD (xG (ks.drop 1))):=by
   by_cases h1:m.kc=1
   ·have:ks.drop 1=[]:=List.eq_nil_of_length_eq_zero (by rw[List.length_drop]; have:=AZ.out; omega)
    rw[this];exact .inl rfl
   ·rw[if_neg h1]
    rcases AM.out.ext hx with h | ⟨b,o,e,hb,Ac⟩
    ·exfalso
     have:=congrArg List.length h
     simp[TT.xD,xG] at this;subst this;exact absurd hn9 (by decide)
    ·rw[AL] at e;injection e with e;injection e with e1 e2;subst e1 e2;refine .inr ⟨kb,kf+1,rfl,hb,fun j hj=>?_⟩
     have AY:j<ks.length-1:=by simpa [TT.xD,xG] using hj
     have:=Ac (1+j) (by simp[TT.xD,xG]; omega)
     rw[show kf+1+j=kf+(1+j) by omega,this];simp[TT.xD,xG,List.getElem?_drop,Nat.add_comm]
  rw[←hA]
  exact zIf w' A L.length c L _ (ks.length-1) (m.kc-1) (ks.drop 1) (ls.drop 1) (by rw[List.length_drop]) AT (by rw[List.length_drop,List.length_drop,AO.out]) (fun j hj=>by
   have AY:j<ks.length-1:=by simpa using hj
   have h9:=hu (1+j) (by omega) trivial
   have e1:(ks.drop 1)[j]=ks[1+j]'(by omega):=by rw[List.getElem_drop]
   have e2:(ls.drop 1).getD j []=ls.getD (1+j) []:=by rw[yE,yE,List.getElem?_drop]
   rw[e1,e2]
   exact⟨h9.1,fun w2 Aa=>h9.2 w2 (hx.trans Aa)⟩) (by have:=zD0 ls 1; omega) (by rw[List.length_drop]; omega)
 have Ai:(yX (vB (ls.drop 1))).size≤1099511900000:=by
  rw[bsz];have h1:=YS (ls.drop 1);have h2:=zD0 ls 1
  have h3:(ls.drop 1).length≤100000:=by rw[List.length_drop,AO.out]; omega
  omega
 clear hc hT hm hk ht hks hu AP hs;have AI:=yD AA;clear AQ AA;rw[AL] at v4;generalize m.kc=kc at *;generalize m.pos=pos at *;subst hA;obtain⟨oA,AE⟩:∃o,(if kc=1 then (some ⟨kb,kf,none⟩:Option Addr) else some ⟨kb,kf+1,none⟩)=o:=⟨_,rfl⟩;rw[AE] at AN;have AU:=yD AE;clear AE;generalize hnum:m.num=x at *;generalize ks[0]'(by omega)=k0 at *;have AB:Hid (Ext w (w.alloc (.cells #[.int .u8 9,.int .i64 pos,.string (yX t),.int .i64 x,.slice (some ⟨kb,kf,none⟩) ks.length kc] 100))):=yD (Ext.alloc _ _);have AD:Hid (Blk (w.alloc (.cells #[.int .u8 9,.int .i64 pos,.string (yX t),.int .i64 x,.slice (some ⟨kb,kf,none⟩) ks.length kc] 100)) w.heap.size 100 #[.int .u8 9,.int .i64 pos,.string (yX t),.int .i64 x,.slice (some ⟨kb,kf,none⟩) ks.length kc]):=yD (Blk.new _ _ _)
 have AF:Hid (yX (xP d 9 t x ls bk)=yX (List.replicate d 9)++(yX [112,117,116,32]++yX (ls.getD 0 [])++yX [40]++yX (vB (ls.drop 1))++yX [41,59])++yX [10]):=yD (by
  simp only[←xZ]
  congr 1
  simp[xP,xV,jU])
 go_enter Tryz.func103,Tryz.ntmps103
 go_upto_region 4 with fail
 clear v0 v1 v2 v3 v4 q0;have e0:=(AB.out.cell (p:=⟨kb,kf,none⟩) AI.out).trans E0.out;have AG:=yR AI.out AB.out.size;generalize w.heap.size=gn at *;generalize w.alloc (.cells #[.int .u8 9,.int .i64 pos,.string (yX t),.int .i64 x,.slice (some ⟨kb,kf,none⟩) ks.length kc] 100)=w1 at *;have n0:w1.cell? ⟨gn,0,none⟩=some (.int .u8 9):=AD.out.cell 0;have n2:w1.cell? ⟨gn,2,none⟩=some (.string (yX t)):=AD.out.cell 2;have n3:w1.cell? ⟨gn,3,none⟩=some (.int .i64 x):=AD.out.cell 3;have AS:=AD.out.lt
 have qs:((0:Int)<(ks.length:Int))∧0<ks.length∧((1:Int)≤(ks.length:Int))∧1≤ks.length:=by omega
 generalize yX t=tt at *;generalize yX (ls.getD 0 [])=s0 at *;generalize yX (vB (ls.drop 1))=sl at *;generalize yX (List.replicate d 9)=sa at *
 go_upto_region 10 with fail
 apply xY (by kernel_rfl) (by kernel_rfl) (by kernel_rfl);apply sP qs (.slice (some ⟨tb,tf,none⟩) L.length c);apply sP qs (.slice (some ⟨kb,kf,none⟩) ks.length kc);apply sP qs (.pointer (some ⟨kb,kf,none⟩));apply sR e0 AG qs (.int .i64 (k0:Int));apply yZ (.string (s0)) rfl rfl rfl
 ·intro w' AC hH;clear hH;simp[yY,go_sem];refine(AX.out w' (AB.out.trans AC)).mono ?_;rintro e w2 ⟨rfl,hx⟩;exact⟨_,rfl,rfl,hx⟩
 apply sP (by omega:¬(9223372036854775807<4+s0.size)) (.string (⟨#[112,117,116,32]⟩++s0));apply sP (by omega:¬(9223372036854775807<4+s0.size+1)) (.string (⟨#[112,117,116,32]⟩++s0++⟨#[40]⟩));apply sP qs (.slice (some ⟨tb,tf,none⟩) L.length c);apply sP qs (.slice (some ⟨kb,kf,none⟩) ks.length kc);apply yZ (.slice oA (ks.length-1) (kc-1)) rfl rfl rfl
 ·intro w' AC hH;clear hH;simp[yY,go_sem,qs];exact⟨AU.out,Ext.refl _⟩
 apply yZ (.string (sl)) rfl rfl rfl
 ·intro w' AC hH;clear hH;simp[yY,go_sem];refine(AN.out w' (AB.out.trans AC)).mono ?_;rintro e w2 ⟨rfl,hx⟩;exact⟨_,rfl,rfl,hx⟩
 apply sP (by omega:¬(9223372036854775807<4+s0.size+1+sl.size)) (.string (⟨#[112,117,116,32]⟩++s0++⟨#[40]⟩++sl));apply sP (by omega:¬(9223372036854775807<4+s0.size+1+sl.size+2)) (.string (⟨#[112,117,116,32]⟩++s0++⟨#[40]⟩++sl++⟨#[41,59]⟩));apply sP qs (.string (⟨#[112,117,116,32]⟩++s0++⟨#[40]⟩++sl++⟨#[41,59]⟩));apply xN;intro w9 AK hH;clear hH
 try simp only[Act.put,yA,yC,yB]
 have AV:=yD (AB.out.trans AK);clear AK n0 n2 n3 AS e0 AG
 have Af:¬(9223372036854775807<sa.size+(4+s0.size+1+sl.size+2)):=by omega
 have Ah:¬(9223372036854775807<sa.size+(4+s0.size+1+sl.size+2)+1):=by omega
 go_wp2_with fail
 refine(AW.out _).mono ?_;rintro e wz ⟨rfl,rfl⟩
 go_wp2_with fail
 go_ret;exact⟨by rw[AF.out]; rfl,AV.out⟩
theorem zOb (w:World)(A:Option Addr)(n c:Nat)(L:List TT.xB)(hT:TT.vV w A L)(hn:n=L.length)(i:Nat)(m:TT.xB)(hm:L[i]?=some m)(t:Bs)(x:Int)(ks:List Nat)(ls bk:List Bs)(hk:m.kind=10)(ht:m.text=yX t)(hx:m.num=x)(hks:m.kids=xG ks)(hn10:ks.length=1)(d:Nat)(hd:d≤1000)
  (hu:∀j (hj:j<ks.length),True→RU w A n c L ks[j] (ls.getD j [])) (hs:vR ls+t.length+vR bk≤1099511627776) (hsz:ks.length≤100000) :
  Calls Tryz.prog 103 #[.slice A n c,.int .i64 (i:Int),.int .i64 (d:Int)] w fun e w'=>e=.returned (.string (yX (xP d 10 t x ls bk)))∧Ext w w':=by
 subst hn hx
 have AX:1≤ks.length:=by omega
 clear hn10;have AI:i<L.length:=(List.getElem?_eq_some_iff.1 hm).1
 have AJ:L[i]=m:=by rw[yG AI] at hm; exact Option.some.inj hm
 obtain⟨tb,tf,hA,AV,hc⟩:=hT.at_ i AI;rw[AJ] at hc
 have AG:m.kids.length=ks.length:=by rw[hks]; simp[xG]
 have AQ:Hid (Cells w m.kA (TT.xD (xG ks))):=yD (by rw[←hks]; exact(hT.ok m (zY hm)).kids)
 have v0:w.cell? ⟨tb,tf+i*5,none⟩=some (.int .u8 10):=by rw[←hk]; exact hc 0 (by decide)
 have v1:w.cell? ⟨tb,tf+i*5+1,none⟩=some (.int .i64 m.pos):=hc 1 (by decide)
 have v2:w.cell? ⟨tb,tf+i*5+2,none⟩=some (.string (yX t)):=by rw[←ht]; exact hc 2 (by decide)
 have v3:w.cell? ⟨tb,tf+i*5+3,none⟩=some (.int .i64 m.num):=hc 3 (by decide)
 have v4:w.cell? ⟨tb,tf+i*5+4,none⟩=some (.slice m.kA ks.length m.kc):=by rw[←AG]; exact hc 4 (by decide)
 clear AG
 have q0:(i:Int)<(L.length:Int):=by omega
 have AL:Hid (∀w,Calls Tryz.prog 146 #[.int .i64 (d:Int)] w fun e w'=>e=.returned (.string (yX (List.replicate d 9)))∧w=w'):=yD fun w=>YI d (by omega) w
 have AU:(yX (List.replicate d 9)).size≤1000:=by rw[bsz,zC]; exact hd
 have AS:(yX t).size≤1099511627776:=by rw[bsz]; omega
 have AM:=yD (hu 0 (by omega) trivial).2
 have AZ:(yX (ls.getD 0 [])).size≤1099511627776:=by rw[bsz]; have:=jF ls 0; omega
 obtain⟨kb,kf,AP,AC,AK⟩:=AQ.out.at_ (by simp[TT.xD,xG]; omega);have E0:Hid (w.cell? ⟨kb,kf,none⟩=some (.int .i64 ((ks[0]'(by omega):Nat):Int))):=yD (by have h:=AK 0 (by simp[TT.xD,xG]; omega); rw[Nat.add_zero] at h; rw[h]; have AR:0<ks.length:=(by omega); simp[TT.xD,xG,AR]);clear hc hT hm hk ht hks hu AJ hs;have AH:=yD AC;clear AK AC;rw[AP] at v4;generalize m.kc=kc at *;generalize m.pos=pos at *;subst hA;generalize hnum:m.num=x at *;generalize ks[0]'(by omega)=k0 at *;have AB:Hid (Ext w (w.alloc (.cells #[.int .u8 10,.int .i64 pos,.string (yX t),.int .i64 x,.slice (some ⟨kb,kf,none⟩) ks.length kc] 100))):=yD (Ext.alloc _ _);have AD:Hid (Blk (w.alloc (.cells #[.int .u8 10,.int .i64 pos,.string (yX t),.int .i64 x,.slice (some ⟨kb,kf,none⟩) ks.length kc] 100)) w.heap.size 100 #[.int .u8 10,.int .i64 pos,.string (yX t),.int .i64 x,.slice (some ⟨kb,kf,none⟩) ks.length kc]):=yD (Blk.new _ _ _)
 have AE:Hid (yX (xP d 10 t x ls bk)=yX (List.replicate d 9)++(yX [100,101,108,101,116,101,32]++yX (ls.getD 0 [])++yX [59])++yX [10]):=yD (by
  simp only[←xZ]
  congr 1
  simp[xP,xV,jU])
 go_enter Tryz.func103,Tryz.ntmps103
 go_upto_region 4 with fail
 clear v0 v1 v2 v3 v4 q0;have e0:=(AB.out.cell (p:=⟨kb,kf,none⟩) AH.out).trans E0.out;have AN:=yR AH.out AB.out.size;generalize w.heap.size=gn at *;generalize w.alloc (.cells #[.int .u8 10,.int .i64 pos,.string (yX t),.int .i64 x,.slice (some ⟨kb,kf,none⟩) ks.length kc] 100)=w1 at *;have n0:w1.cell? ⟨gn,0,none⟩=some (.int .u8 10):=AD.out.cell 0;have n2:w1.cell? ⟨gn,2,none⟩=some (.string (yX t)):=AD.out.cell 2;have n3:w1.cell? ⟨gn,3,none⟩=some (.int .i64 x):=AD.out.cell 3;have AO:=AD.out.lt
 have qs:((0:Int)<(ks.length:Int))∧0<ks.length:=by omega
 generalize yX t=tt at *;generalize yX (ls.getD 0 [])=s0 at *;generalize yX (List.replicate d 9)=sa at *;have AF:=AB;clear AF
 have AY:¬(9223372036854775807<7+s0.size):=by omega
 have Ab:¬(9223372036854775807<7+s0.size+1):=by omega
 go_wp2_with fail
 refine(AM.out w1 AB.out).mono ?_;rintro e AT ⟨rfl,AA⟩;have AF:=yD (AB.out.trans AA);clear AA n0 n2 n3 AO e0 AN
 have AW:¬(9223372036854775807<sa.size+(7+s0.size+1)):=by omega
 have Aa:¬(9223372036854775807<sa.size+(7+s0.size+1)+1):=by omega
 go_wp2_with fail
 refine(AL.out _).mono ?_;rintro e wz ⟨rfl,rfl⟩
 go_wp2_with fail
 go_ret;exact⟨by rw[AE.out]; rfl,AF.out⟩
theorem zOf (w:World)(A:Option Addr)(n c:Nat)(L:List TT.xB)(hT:TT.vV w A L)(hn:n=L.length)(i:Nat)(m:TT.xB)(hm:L[i]?=some m)(t:Bs)(x:Int)(ks:List Nat)(ls bk:List Bs)(hk:m.kind=11)(ht:m.text=yX t)(hx:m.num=x)(hks:m.kids=xG ks)(hn11:ks.length=2)(d:Nat)(hd:d≤1000)
  (hu:∀j (hj:j<ks.length),True→RU w A n c L ks[j] (ls.getD j [])) (hs:vR ls+t.length+vR bk≤1099511627776) (hsz:ks.length≤100000) :
  Calls Tryz.prog 103 #[.slice A n c,.int .i64 (i:Int),.int .i64 (d:Int)] w fun e w'=>e=.returned (.string (yX (xP d 11 t x ls bk)))∧Ext w w':=by
 subst hn hx
 have AY:2≤ks.length:=by omega
 clear hn11;have AK:i<L.length:=(List.getElem?_eq_some_iff.1 hm).1
 have AM:L[i]=m:=by rw[yG AK] at hm; exact Option.some.inj hm
 obtain⟨tb,tf,hA,AW,hc⟩:=hT.at_ i AK;rw[AM] at hc
 have AJ:m.kids.length=ks.length:=by rw[hks]; simp[xG]
 have AR:Hid (Cells w m.kA (TT.xD (xG ks))):=yD (by rw[←hks]; exact(hT.ok m (zY hm)).kids)
 have v0:w.cell? ⟨tb,tf+i*5,none⟩=some (.int .u8 11):=by rw[←hk]; exact hc 0 (by decide)
 have v1:w.cell? ⟨tb,tf+i*5+1,none⟩=some (.int .i64 m.pos):=hc 1 (by decide)
 have v2:w.cell? ⟨tb,tf+i*5+2,none⟩=some (.string (yX t)):=by rw[←ht]; exact hc 2 (by decide)
 have v3:w.cell? ⟨tb,tf+i*5+3,none⟩=some (.int .i64 m.num):=hc 3 (by decide)
 have v4:w.cell? ⟨tb,tf+i*5+4,none⟩=some (.slice m.kA ks.length m.kc):=by rw[←AJ]; exact hc 4 (by decide)
 clear AJ
 have q0:(i:Int)<(L.length:Int):=by omega
 have AO:Hid (∀w,Calls Tryz.prog 146 #[.int .i64 (d:Int)] w fun e w'=>e=.returned (.string (yX (List.replicate d 9)))∧w=w'):=yD fun w=>YI d (by omega) w
 have AV:(yX (List.replicate d 9)).size≤1000:=by rw[bsz,zC]; exact hd
 have AU:(yX t).size≤1099511627776:=by rw[bsz]; omega
 have AP:=yD (hu 0 (by omega) trivial).2
 have Aa:(yX (ls.getD 0 [])).size≤1099511627776:=by rw[bsz]; have:=jF ls 0; omega
 have AS:=yD (hu 1 (by omega) trivial).2
 have AZ:(yX (ls.getD 1 [])).size≤1099511627776:=by rw[bsz]; have:=jF ls 1; omega
 obtain⟨kb,kf,AQ,AB,AH⟩:=AR.out.at_ (by simp[TT.xD,xG]; omega);have E0:Hid (w.cell? ⟨kb,kf,none⟩=some (.int .i64 ((ks[0]'(by omega):Nat):Int))):=yD (by have h:=AH 0 (by simp[TT.xD,xG]; omega); rw[Nat.add_zero] at h; rw[h]; have AI:0<ks.length:=(by omega); simp[TT.xD,xG,AI]);have E1:Hid (w.cell? ⟨kb,kf+1,none⟩=some (.int .i64 ((ks[1]'(by omega):Nat):Int))):=yD (by have h:=AH 1 (by simp[TT.xD,xG]; omega); rw[h]; have AI:1<ks.length:=(by omega); simp[TT.xD,xG,AI]);clear hc hT hm hk ht hks hu AM hs;have AF:=yD AB;clear AH AB;rw[AQ] at v4;generalize m.kc=kc at *;generalize m.pos=pos at *;subst hA;generalize hnum:m.num=x at *;generalize ks[0]'(by omega)=k0 at *;generalize ks[1]'(by omega)=k1 at *;have AA:Hid (Ext w (w.alloc (.cells #[.int .u8 11,.int .i64 pos,.string (yX t),.int .i64 x,.slice (some ⟨kb,kf,none⟩) ks.length kc] 100))):=yD (Ext.alloc _ _);have AC:Hid (Blk (w.alloc (.cells #[.int .u8 11,.int .i64 pos,.string (yX t),.int .i64 x,.slice (some ⟨kb,kf,none⟩) ks.length kc] 100)) w.heap.size 100 #[.int .u8 11,.int .i64 pos,.string (yX t),.int .i64 x,.slice (some ⟨kb,kf,none⟩) ks.length kc]):=yD (Blk.new _ _ _)
 have AG:Hid (yX (xP d 11 t x ls bk)=yX (List.replicate d 9)++(yX [115,99,97,110,32]++yX t++yX [32,61,32]++yX (ls.getD 0 [])++yX [46]++yX (ls.getD 1 [])++yX [59])++yX [10]):=yD (by
  simp only[←xZ]
  congr 1
  simp[xP,xV,jU])
 go_enter Tryz.func103,Tryz.ntmps103
 go_upto_region 4 with fail
 clear v0 v1 v2 v3 v4 q0;have e0:=(AA.out.cell (p:=⟨kb,kf,none⟩) AF.out).trans E0.out;have e1:=(AA.out.cell (p:=⟨kb,kf+1,none⟩) AF.out).trans E1.out;have AD:=yR AF.out AA.out.size;generalize w.heap.size=gn at *;generalize w.alloc (.cells #[.int .u8 11,.int .i64 pos,.string (yX t),.int .i64 x,.slice (some ⟨kb,kf,none⟩) ks.length kc] 100)=w1 at *;have n0:w1.cell? ⟨gn,0,none⟩=some (.int .u8 11):=AC.out.cell 0;have n2:w1.cell? ⟨gn,2,none⟩=some (.string (yX t)):=AC.out.cell 2;have n3:w1.cell? ⟨gn,3,none⟩=some (.int .i64 x):=AC.out.cell 3;have AN:=AC.out.lt
 have qs:((0:Int)<(ks.length:Int))∧0<ks.length∧((1:Int)<(ks.length:Int))∧1<ks.length:=by omega
 generalize yX t=tt at *;generalize yX (ls.getD 0 [])=s0 at *;generalize yX (ls.getD 1 [])=s1 at *;generalize yX (List.replicate d 9)=sa at *
 go_upto_region 14 with fail
 apply xY (by kernel_rfl) (by kernel_rfl) (by kernel_rfl);apply sP qs (.pointer (some ⟨gn,2,none⟩));apply sR n2 AN qs (.string (tt));apply sP (by omega:¬(9223372036854775807<5+tt.size)) (.string (⟨#[115,99,97,110,32]⟩++tt));apply sP (by omega:¬(9223372036854775807<5+tt.size+3)) (.string (⟨#[115,99,97,110,32]⟩++tt++⟨#[32,61,32]⟩));apply sP qs (.slice (some ⟨tb,tf,none⟩) L.length c);apply sP qs (.slice (some ⟨kb,kf,none⟩) ks.length kc);apply sP qs (.pointer (some ⟨kb,kf,none⟩));apply sR e0 AD qs (.int .i64 (k0:Int));apply yZ (.string (s0)) rfl rfl rfl
 ·intro w' AE hH;clear hH;simp[yY,go_sem];refine(AP.out w' (AA.out.trans AE)).mono ?_;rintro e w2 ⟨rfl,hx⟩;exact⟨_,rfl,rfl,hx⟩
 apply sP (by omega:¬(9223372036854775807<5+tt.size+3+s0.size)) (.string (⟨#[115,99,97,110,32]⟩++tt++⟨#[32,61,32]⟩++s0));apply sP (by omega:¬(9223372036854775807<5+tt.size+3+s0.size+1)) (.string (⟨#[115,99,97,110,32]⟩++tt++⟨#[32,61,32]⟩++s0++⟨#[46]⟩));apply sP qs (.slice (some ⟨tb,tf,none⟩) L.length c);apply sP qs (.slice (some ⟨kb,kf,none⟩) ks.length kc);apply sP qs (.pointer (some ⟨kb,kf+1,none⟩));apply sR e1 AD qs (.int .i64 (k1:Int));apply yZ (.string (s1)) rfl rfl rfl
 ·intro w' AE hH;clear hH;simp[yY,go_sem];refine(AS.out w' (AA.out.trans AE)).mono ?_;rintro e w2 ⟨rfl,hx⟩;exact⟨_,rfl,rfl,hx⟩
 apply sP (by omega:¬(9223372036854775807<5+tt.size+3+s0.size+1+s1.size)) (.string (⟨#[115,99,97,110,32]⟩++tt++⟨#[32,61,32]⟩++s0++⟨#[46]⟩++s1));apply sP (by omega:¬(9223372036854775807<5+tt.size+3+s0.size+1+s1.size+1)) (.string (⟨#[115,99,97,110,32]⟩++tt++⟨#[32,61,32]⟩++s0++⟨#[46]⟩++s1++⟨#[59]⟩));apply sP qs (.string (⟨#[115,99,97,110,32]⟩++tt++⟨#[32,61,32]⟩++s0++⟨#[46]⟩++s1++⟨#[59]⟩));apply xN;intro w9 AL hH;clear hH
 try simp only[Act.put,yA,yC,yB]
 have AT:=yD (AA.out.trans AL);clear AL n0 n2 n3 AN e0 e1 AD
 have AX:¬(9223372036854775807<sa.size+(5+tt.size+3+s0.size+1+s1.size+1)):=by omega
 have Ab:¬(9223372036854775807<sa.size+(5+tt.size+3+s0.size+1+s1.size+1)+1):=by omega
 go_wp2_with fail
 refine(AO.out _).mono ?_;rintro e wz ⟨rfl,rfl⟩
 go_wp2_with fail
 go_ret;exact⟨by rw[AG.out]; rfl,AT.out⟩
theorem zN7 (w:World)(A:Option Addr)(n c:Nat)(L:List TT.xB)(hT:TT.vV w A L)(hn:n=L.length)(i:Nat)(m:TT.xB)(hm:L[i]?=some m)(t:Bs)(x:Int)(ks:List Nat)(ls bk:List Bs)(hk:m.kind=12)(ht:m.text=yX t)(hx:m.num=x)(hks:m.kids=xG ks)(hb:m.num=0∨m.num=1)(hn12:ks.length=1)(d:Nat)(hd:d≤1000)
  (hu:∀j (hj:j<ks.length),True→RU w A n c L ks[j] (ls.getD j [])) (hs:vR ls+t.length+vR bk≤1099511627776) (hsz:ks.length≤100000) :
  Calls Tryz.prog 103 #[.slice A n c,.int .i64 (i:Int),.int .i64 (d:Int)] w fun e w'=>e=.returned (.string (yX (xP d 12 t x ls bk)))∧Ext w w':=by
 subst hn hx
 have AY:1≤ks.length:=by omega
 clear hn12;have AN:i<L.length:=(List.getElem?_eq_some_iff.1 hm).1
 have AO:L[i]=m:=by rw[yG AN] at hm; exact Option.some.inj hm
 obtain⟨tb,tf,hA,AX,hc⟩:=hT.at_ i AN;rw[AO] at hc
 have AM:m.kids.length=ks.length:=by rw[hks]; simp[xG]
 have AR:Hid (Cells w m.kA (TT.xD (xG ks))):=yD (by rw[←hks]; exact(hT.ok m (zY hm)).kids)
 have v0:w.cell? ⟨tb,tf+i*5,none⟩=some (.int .u8 12):=by rw[←hk]; exact hc 0 (by decide)
 have v1:w.cell? ⟨tb,tf+i*5+1,none⟩=some (.int .i64 m.pos):=hc 1 (by decide)
 have v2:w.cell? ⟨tb,tf+i*5+2,none⟩=some (.string (yX t)):=by rw[←ht]; exact hc 2 (by decide)
 have v3:w.cell? ⟨tb,tf+i*5+3,none⟩=some (.int .i64 m.num):=hc 3 (by decide)
 have v4:w.cell? ⟨tb,tf+i*5+4,none⟩=some (.slice m.kA ks.length m.kc):=by rw[←AM]; exact hc 4 (by decide)
 clear AM
 have q0:(i:Int)<(L.length:Int):=by omega
 have AK:Hid (∀w,Calls Tryz.prog 146 #[.int .i64 (d:Int)] w fun e w'=>e=.returned (.string (yX (List.replicate d 9)))∧w=w'):=yD fun w=>YI d (by omega) w
 have AW:(yX (List.replicate d 9)).size≤1000:=by rw[bsz,zC]; exact hd
 have AV:(yX t).size≤1099511627776:=by rw[bsz]; omega
 have AL:=yD (hu 0 (by omega) trivial).2
 have AZ:(yX (ls.getD 0 [])).size≤1099511627776:=by rw[bsz]; have:=jF ls 0; omega
 obtain⟨kb,kf,AQ,AH,AP⟩:=AR.out.at_ (by simp[TT.xD,xG]; omega);have E0:Hid (w.cell? ⟨kb,kf,none⟩=some (.int .i64 ((ks[0]'(by omega):Nat):Int))):=yD (by have h:=AP 0 (by simp[TT.xD,xG]; omega); rw[Nat.add_zero] at h; rw[h]; have AT:0<ks.length:=(by omega); simp[TT.xD,xG,AT]);clear hc hT hm hk ht hks hu AO hs;have AI:=yD AH;clear AP AH;rw[AQ] at v4;generalize m.kc=kc at *;generalize m.pos=pos at *;subst hA;generalize hnum:m.num=x at *;generalize ks[0]'(by omega)=k0 at *
 rcases hb with rfl | rfl
 ·have AA:Hid (Ext w (w.alloc (.cells #[.int .u8 12,.int .i64 pos,.string (yX t),.int .i64 0,.slice (some ⟨kb,kf,none⟩) ks.length kc] 100))):=yD (Ext.alloc _ _);have AB:Hid (Blk (w.alloc (.cells #[.int .u8 12,.int .i64 pos,.string (yX t),.int .i64 0,.slice (some ⟨kb,kf,none⟩) ks.length kc] 100)) w.heap.size 100 #[.int .u8 12,.int .i64 pos,.string (yX t),.int .i64 0,.slice (some ⟨kb,kf,none⟩) ks.length kc]):=yD (Blk.new _ _ _)
  have AC:Hid (yX (xP d 12 t 0 ls bk)=yX (List.replicate d 9)++(yX [108,111,99,107,32]++yX (ls.getD 0 [])++yX [32,115,104,97,114,101,100,59])++yX [10]):=yD (by
   simp only[←xZ]
   congr 1
   simp[xP,xV,jU])
  go_enter Tryz.func103,Tryz.ntmps103
  go_upto_region 4 with fail
  clear v0 v1 v2 v3 v4 q0;have e0:=(AA.out.cell (p:=⟨kb,kf,none⟩) AI.out).trans E0.out;have AD:=yR AI.out AA.out.size;generalize w.heap.size=gn at *;generalize w.alloc (.cells #[.int .u8 12,.int .i64 pos,.string (yX t),.int .i64 0,.slice (some ⟨kb,kf,none⟩) ks.length kc] 100)=w1 at *;have n0:w1.cell? ⟨gn,0,none⟩=some (.int .u8 12):=AB.out.cell 0;have n2:w1.cell? ⟨gn,2,none⟩=some (.string (yX t)):=AB.out.cell 2;have n3:w1.cell? ⟨gn,3,none⟩=some (.int .i64 0):=AB.out.cell 3;have AG:=AB.out.lt
  have qs:((0:Int)<(ks.length:Int))∧0<ks.length:=by omega
  generalize yX t=tt at *;generalize yX (ls.getD 0 [])=s0 at *;generalize yX (List.replicate d 9)=sa at *
  go_upto_region 16 with fail
  apply xY (by kernel_rfl) (by kernel_rfl) (by kernel_rfl);apply sP qs (.slice (some ⟨tb,tf,none⟩) L.length c);apply sP qs (.slice (some ⟨kb,kf,none⟩) ks.length kc);apply sP qs (.pointer (some ⟨kb,kf,none⟩));apply sR e0 AD qs (.int .i64 (k0:Int));apply yZ (.string (s0)) rfl rfl rfl
  ·intro w' AE hH;clear hH;simp[yY,go_sem];refine(AL.out w' (AA.out.trans AE)).mono ?_;rintro e w2 ⟨rfl,hx⟩;exact⟨_,rfl,rfl,hx⟩
  apply sP (by omega:¬(9223372036854775807<5+s0.size)) (.string (⟨#[108,111,99,107,32]⟩++s0));apply sP qs (.pointer (some ⟨gn,3,none⟩));apply sR n3 AG qs (.int .i64 0);apply yZ (.string (⟨#[32,115,104,97,114,101,100,59]⟩)) rfl rfl rfl
  ·intro w' AE hH;clear hH;simp[yY,go_sem];refine(JQ 0 ⟨#[32,115,104,97,114,101,100,59]⟩ ⟨#[32,97,108,108,59]⟩ w').mono ?_;rintro e w2 ⟨rfl,rfl⟩;exact⟨_,rfl,by first | rfl | decide,Ext.refl _⟩
  apply sP (by omega:¬(9223372036854775807<5+s0.size+8)) (.string (⟨#[108,111,99,107,32]⟩++s0++⟨#[32,115,104,97,114,101,100,59]⟩));apply sP qs (.string (⟨#[108,111,99,107,32]⟩++s0++⟨#[32,115,104,97,114,101,100,59]⟩));apply xN;intro w9 AF hH;clear hH
  try simp only[Act.put,yA,yC,yB]
  have AJ:=yD (AA.out.trans AF);clear AF n0 n2 n3 AG e0 AD
  have AS:¬(9223372036854775807<sa.size+(5+s0.size+8)):=by omega
  have AU:¬(9223372036854775807<sa.size+(5+s0.size+8)+1):=by omega
  go_wp2_with fail
  refine(AK.out _).mono ?_;rintro e wz ⟨rfl,rfl⟩
  go_wp2_with fail
  go_ret;exact⟨by rw[AC.out]; rfl,AJ.out⟩
 ·have AA:Hid (Ext w (w.alloc (.cells #[.int .u8 12,.int .i64 pos,.string (yX t),.int .i64 1,.slice (some ⟨kb,kf,none⟩) ks.length kc] 100))):=yD (Ext.alloc _ _);have AB:Hid (Blk (w.alloc (.cells #[.int .u8 12,.int .i64 pos,.string (yX t),.int .i64 1,.slice (some ⟨kb,kf,none⟩) ks.length kc] 100)) w.heap.size 100 #[.int .u8 12,.int .i64 pos,.string (yX t),.int .i64 1,.slice (some ⟨kb,kf,none⟩) ks.length kc]):=yD (Blk.new _ _ _)
  have AC:Hid (yX (xP d 12 t 1 ls bk)=yX (List.replicate d 9)++(yX [108,111,99,107,32]++yX (ls.getD 0 [])++yX [32,97,108,108,59])++yX [10]):=yD (by
   simp only[←xZ]
   congr 1
   simp[xP,xV,jU])
  go_enter Tryz.func103,Tryz.ntmps103
  go_upto_region 4 with fail
  clear v0 v1 v2 v3 v4 q0;have e0:=(AA.out.cell (p:=⟨kb,kf,none⟩) AI.out).trans E0.out;have AD:=yR AI.out AA.out.size;generalize w.heap.size=gn at *;generalize w.alloc (.cells #[.int .u8 12,.int .i64 pos,.string (yX t),.int .i64 1,.slice (some ⟨kb,kf,none⟩) ks.length kc] 100)=w1 at *;have n0:w1.cell? ⟨gn,0,none⟩=some (.int .u8 12):=AB.out.cell 0;have n2:w1.cell? ⟨gn,2,none⟩=some (.string (yX t)):=AB.out.cell 2;have n3:w1.cell? ⟨gn,3,none⟩=some (.int .i64 1):=AB.out.cell 3;have AG:=AB.out.lt
  have qs:((0:Int)<(ks.length:Int))∧0<ks.length:=by omega
  generalize yX t=tt at *;generalize yX (ls.getD 0 [])=s0 at *;generalize yX (List.replicate d 9)=sa at *
  go_upto_region 16 with fail
  apply xY (by kernel_rfl) (by kernel_rfl) (by kernel_rfl);apply sP qs (.slice (some ⟨tb,tf,none⟩) L.length c);apply sP qs (.slice (some ⟨kb,kf,none⟩) ks.length kc);apply sP qs (.pointer (some ⟨kb,kf,none⟩));apply sR e0 AD qs (.int .i64 (k0:Int));apply yZ (.string (s0)) rfl rfl rfl
  ·intro w' AE hH;clear hH;simp[yY,go_sem];refine(AL.out w' (AA.out.trans AE)).mono ?_;rintro e w2 ⟨rfl,hx⟩;exact⟨_,rfl,rfl,hx⟩
  apply sP (by omega:¬(9223372036854775807<5+s0.size)) (.string (⟨#[108,111,99,107,32]⟩++s0));apply sP qs (.pointer (some ⟨gn,3,none⟩));apply sR n3 AG qs (.int .i64 1);apply yZ (.string (⟨#[32,97,108,108,59]⟩)) rfl rfl rfl
  ·intro w' AE hH;clear hH;simp[yY,go_sem];refine(JQ 1 ⟨#[32,115,104,97,114,101,100,59]⟩ ⟨#[32,97,108,108,59]⟩ w').mono ?_;rintro e w2 ⟨rfl,rfl⟩;exact⟨_,rfl,by first | rfl | decide,Ext.refl _⟩
  apply sP (by omega:¬(9223372036854775807<5+s0.size+5)) (.string (⟨#[108,111,99,107,32]⟩++s0++⟨#[32,97,108,108,59]⟩));apply sP qs (.string (⟨#[108,111,99,107,32]⟩++s0++⟨#[32,97,108,108,59]⟩));apply xN;intro w9 AF hH;clear hH
  try simp only[Act.put,yA,yC,yB]
  have AJ:=yD (AA.out.trans AF);clear AF n0 n2 n3 AG e0 AD
  have AS:¬(9223372036854775807<sa.size+(5+s0.size+5)):=by omega
  have AU:¬(9223372036854775807<sa.size+(5+s0.size+5)+1):=by omega
  go_wp2_with fail
  refine(AK.out _).mono ?_;rintro e wz ⟨rfl,rfl⟩
  go_wp2_with fail
  go_ret;exact⟨by rw[AC.out]; rfl,AJ.out⟩
theorem zOH (w:World)(A:Option Addr)(n c:Nat)(L:List TT.xB)(hT:TT.vV w A L)(hn:n=L.length)(i:Nat)(m:TT.xB)(hm:L[i]?=some m)(t:Bs)(x:Int)(ks:List Nat)(ls bk:List Bs)(hk:m.kind=13)(ht:m.text=yX t)(hx:m.num=x)(hks:m.kids=xG ks)(hn13:ks.length=1)(d:Nat)(hd:d≤1000)
  (hu:∀j (hj:j<ks.length),True→RU w A n c L ks[j] (ls.getD j [])) (hs:vR ls+t.length+vR bk≤1099511627776) (hsz:ks.length≤100000) :
  Calls Tryz.prog 103 #[.slice A n c,.int .i64 (i:Int),.int .i64 (d:Int)] w fun e w'=>e=.returned (.string (yX (xP d 13 t x ls bk)))∧Ext w w':=by
 subst hn hx
 have AX:1≤ks.length:=by omega
 clear hn13;have AI:i<L.length:=(List.getElem?_eq_some_iff.1 hm).1
 have AJ:L[i]=m:=by rw[yG AI] at hm; exact Option.some.inj hm
 obtain⟨tb,tf,hA,AV,hc⟩:=hT.at_ i AI;rw[AJ] at hc
 have AG:m.kids.length=ks.length:=by rw[hks]; simp[xG]
 have AQ:Hid (Cells w m.kA (TT.xD (xG ks))):=yD (by rw[←hks]; exact(hT.ok m (zY hm)).kids)
 have v0:w.cell? ⟨tb,tf+i*5,none⟩=some (.int .u8 13):=by rw[←hk]; exact hc 0 (by decide)
 have v1:w.cell? ⟨tb,tf+i*5+1,none⟩=some (.int .i64 m.pos):=hc 1 (by decide)
 have v2:w.cell? ⟨tb,tf+i*5+2,none⟩=some (.string (yX t)):=by rw[←ht]; exact hc 2 (by decide)
 have v3:w.cell? ⟨tb,tf+i*5+3,none⟩=some (.int .i64 m.num):=hc 3 (by decide)
 have v4:w.cell? ⟨tb,tf+i*5+4,none⟩=some (.slice m.kA ks.length m.kc):=by rw[←AG]; exact hc 4 (by decide)
 clear AG
 have q0:(i:Int)<(L.length:Int):=by omega
 have AL:Hid (∀w,Calls Tryz.prog 146 #[.int .i64 (d:Int)] w fun e w'=>e=.returned (.string (yX (List.replicate d 9)))∧w=w'):=yD fun w=>YI d (by omega) w
 have AU:(yX (List.replicate d 9)).size≤1000:=by rw[bsz,zC]; exact hd
 have AS:(yX t).size≤1099511627776:=by rw[bsz]; omega
 have AM:=yD (hu 0 (by omega) trivial).2
 have AZ:(yX (ls.getD 0 [])).size≤1099511627776:=by rw[bsz]; have:=jF ls 0; omega
 obtain⟨kb,kf,AP,AC,AK⟩:=AQ.out.at_ (by simp[TT.xD,xG]; omega);have E0:Hid (w.cell? ⟨kb,kf,none⟩=some (.int .i64 ((ks[0]'(by omega):Nat):Int))):=yD (by have h:=AK 0 (by simp[TT.xD,xG]; omega); rw[Nat.add_zero] at h; rw[h]; have AR:0<ks.length:=(by omega); simp[TT.xD,xG,AR]);clear hc hT hm hk ht hks hu AJ hs;have AH:=yD AC;clear AK AC;rw[AP] at v4;generalize m.kc=kc at *;generalize m.pos=pos at *;subst hA;generalize hnum:m.num=x at *;generalize ks[0]'(by omega)=k0 at *;have AB:Hid (Ext w (w.alloc (.cells #[.int .u8 13,.int .i64 pos,.string (yX t),.int .i64 x,.slice (some ⟨kb,kf,none⟩) ks.length kc] 100))):=yD (Ext.alloc _ _);have AD:Hid (Blk (w.alloc (.cells #[.int .u8 13,.int .i64 pos,.string (yX t),.int .i64 x,.slice (some ⟨kb,kf,none⟩) ks.length kc] 100)) w.heap.size 100 #[.int .u8 13,.int .i64 pos,.string (yX t),.int .i64 x,.slice (some ⟨kb,kf,none⟩) ks.length kc]):=yD (Blk.new _ _ _)
 have AE:Hid (yX (xP d 13 t x ls bk)=yX (List.replicate d 9)++(yX [114,101,108,101,97,115,101,32]++yX (ls.getD 0 [])++yX [59])++yX [10]):=yD (by
  simp only[←xZ]
  congr 1
  simp[xP,xV,jU])
 go_enter Tryz.func103,Tryz.ntmps103
 go_upto_region 4 with fail
 clear v0 v1 v2 v3 v4 q0;have e0:=(AB.out.cell (p:=⟨kb,kf,none⟩) AH.out).trans E0.out;have AN:=yR AH.out AB.out.size;generalize w.heap.size=gn at *;generalize w.alloc (.cells #[.int .u8 13,.int .i64 pos,.string (yX t),.int .i64 x,.slice (some ⟨kb,kf,none⟩) ks.length kc] 100)=w1 at *;have n0:w1.cell? ⟨gn,0,none⟩=some (.int .u8 13):=AD.out.cell 0;have n2:w1.cell? ⟨gn,2,none⟩=some (.string (yX t)):=AD.out.cell 2;have n3:w1.cell? ⟨gn,3,none⟩=some (.int .i64 x):=AD.out.cell 3;have AO:=AD.out.lt
 have qs:((0:Int)<(ks.length:Int))∧0<ks.length:=by omega
 generalize yX t=tt at *;generalize yX (ls.getD 0 [])=s0 at *;generalize yX (List.replicate d 9)=sa at *;have AF:=AB;clear AF
 have AY:¬(9223372036854775807<8+s0.size):=by omega
 have Ab:¬(9223372036854775807<8+s0.size+1):=by omega
 go_wp2_with fail
 refine(AM.out w1 AB.out).mono ?_;rintro e AT ⟨rfl,AA⟩;have AF:=yD (AB.out.trans AA);clear AA n0 n2 n3 AO e0 AN
 have AW:¬(9223372036854775807<sa.size+(8+s0.size+1)):=by omega
 have Aa:¬(9223372036854775807<sa.size+(8+s0.size+1)+1):=by omega
 go_wp2_with fail
 refine(AL.out _).mono ?_;rintro e wz ⟨rfl,rfl⟩
 go_wp2_with fail
 go_ret;exact⟨by rw[AE.out]; rfl,AF.out⟩
theorem zOY (w:World)(A:Option Addr)(n c:Nat)(L:List TT.xB)(hT:TT.vV w A L)(hn:n=L.length)(i:Nat)(m:TT.xB)(hm:L[i]?=some m)(t:Bs)(x:Int)(ks:List Nat)(ls bk:List Bs)(hk:m.kind=14)(ht:m.text=yX t)(hx:m.num=x)(hks:m.kids=xG ks)(hb:m.num=0∨m.num=1)(hn14:ks.length=3∨ks.length=4)(hll:ls.length=ks.length)(d:Nat)(hd:d≤1000)
  (hu:∀j (hj:j<ks.length),j<2→RU w A n c L ks[j] (ls.getD j [])) (hbk:∀j (hj:j<ks.length),2≤j→RB w A n c ks[j] d (bk.getD j [])) (hs:vR ls+t.length+vR bk≤1099511627776) (hsz:ks.length≤100000) :
  Calls Tryz.prog 103 #[.slice A n c,.int .i64 (i:Int),.int .i64 (d:Int)] w fun e w'=>e=.returned (.string (yX (xP d 14 t x ls bk)))∧Ext w w':=by
 subst hn hx;have Ai:=yD hn14;have AV:=yD hll
 have As:3≤ks.length:=by omega
 clear hn14 hll;have Af:i<L.length:=(List.getElem?_eq_some_iff.1 hm).1
 have Ah:L[i]=m:=by rw[yG Af] at hm; exact Option.some.inj hm
 obtain⟨tb,tf,hA,Ar,hc⟩:=hT.at_ i Af;rw[Ah] at hc
 have Ad:m.kids.length=ks.length:=by rw[hks]; simp[xG]
 have Ak:Hid (Cells w m.kA (TT.xD (xG ks))):=yD (by rw[←hks]; exact(hT.ok m (zY hm)).kids)
 have v0:w.cell? ⟨tb,tf+i*5,none⟩=some (.int .u8 14):=by rw[←hk]; exact hc 0 (by decide)
 have v1:w.cell? ⟨tb,tf+i*5+1,none⟩=some (.int .i64 m.pos):=hc 1 (by decide)
 have v2:w.cell? ⟨tb,tf+i*5+2,none⟩=some (.string (yX t)):=by rw[←ht]; exact hc 2 (by decide)
 have v3:w.cell? ⟨tb,tf+i*5+3,none⟩=some (.int .i64 m.num):=hc 3 (by decide)
 have v4:w.cell? ⟨tb,tf+i*5+4,none⟩=some (.slice m.kA ks.length m.kc):=by rw[←Ad]; exact hc 4 (by decide)
 clear Ad
 have q0:(i:Int)<(L.length:Int):=by omega
 have AN:Hid (∀w,Calls Tryz.prog 146 #[.int .i64 (d:Int)] w fun e w'=>e=.returned (.string (yX (List.replicate d 9)))∧w=w'):=yD fun w=>YI d (by omega) w
 have Aq:(yX (List.replicate d 9)).size≤1000:=by rw[bsz,zC]; exact hd
 have Av:(yX t).size≤1099511627776:=by rw[bsz]; omega
 have Ag:=yD (hu 0 (by omega) (by decide)).2
 have At:(yX (ls.getD 0 [])).size≤1099511627776:=by rw[bsz]; have:=jF ls 0; omega
 have Aj:=yD (hu 1 (by omega) (by decide)).2
 have Aw:(yX (ls.getD 1 [])).size≤1099511627776:=by rw[bsz]; have:=jF ls 1; omega
 have AJ:=yD (hbk 2 (by omega) (by decide))
 have Ap:(yX (bk.getD 2 [])).size≤1099511627776:=by rw[bsz]; have:=jF bk 2; omega
 have Au:(yX (bk.getD 3 [])).size≤1099511627776:=by rw[bsz]; have:=jF bk 3; omega
 have AT:=yD hbk;obtain⟨kb,kf,AW,AO,AU⟩:=Ak.out.at_ (by simp[TT.xD,xG]; omega);have E0:Hid (w.cell? ⟨kb,kf,none⟩=some (.int .i64 ((ks[0]'(by omega):Nat):Int))):=yD (by have h:=AU 0 (by simp[TT.xD,xG]; omega); rw[Nat.add_zero] at h; rw[h]; have AQ:0<ks.length:=(by omega); simp[TT.xD,xG,AQ]);have E1:Hid (w.cell? ⟨kb,kf+1,none⟩=some (.int .i64 ((ks[1]'(by omega):Nat):Int))):=yD (by have h:=AU 1 (by simp[TT.xD,xG]; omega); rw[h]; have AQ:1<ks.length:=(by omega); simp[TT.xD,xG,AQ]);have E2:Hid (w.cell? ⟨kb,kf+2,none⟩=some (.int .i64 ((ks[2]'(by omega):Nat):Int))):=yD (by have h:=AU 2 (by simp[TT.xD,xG]; omega); rw[h]; have AQ:2<ks.length:=(by omega); simp[TT.xD,xG,AQ]);have Ae:IntKind.i64.wrap ((d:Int)+1)=(d:Int)+1:=IntWalk.i64_in _ (by omega);have AY:Hid (ks.length=4→∃(kb kf k3:Nat),m.kA=some ⟨kb,kf,none⟩∧(∀w':World,Ext w w'→w'.cell? ⟨kb,kf+3,none⟩=some (.int .i64 (k3:Int)))∧RB w A L.length c k3 d (bk.getD 3 [])):=yD fun h4=>⟨kb,kf,ks[3]'(by omega),AW,fun w' AA=>(AA.cell (p:=⟨kb,kf+3,none⟩) AO).trans (by have h:=AU 3 (by simp[TT.xD,xG]; omega); rw[h]; have AQ:3<ks.length:=(by omega); simp[TT.xD,xG,AQ]),AT.out 3 (by omega) (by decide)⟩;rw[AW] at AY;clear AT;clear hc hT hm hk ht hks hu Ah hs hbk;have AM:=yD AO;clear AU AO;rw[AW] at v4;generalize m.kc=kc at *;generalize m.pos=pos at *;subst hA;generalize hnum:m.num=x at *;generalize ks[0]'(by omega)=k0 at *;generalize ks[1]'(by omega)=k1 at *;generalize ks[2]'(by omega)=k2 at *
 rcases hb with rfl | rfl
 ·have AB:Hid (Ext w (w.alloc (.cells #[.int .u8 14,.int .i64 pos,.string (yX t),.int .i64 0,.slice (some ⟨kb,kf,none⟩) ks.length kc] 100))):=yD (Ext.alloc _ _);have AL:Hid (Blk (w.alloc (.cells #[.int .u8 14,.int .i64 pos,.string (yX t),.int .i64 0,.slice (some ⟨kb,kf,none⟩) ks.length kc] 100)) w.heap.size 100 #[.int .u8 14,.int .i64 pos,.string (yX t),.int .i64 0,.slice (some ⟨kb,kf,none⟩) ks.length kc]):=yD (Blk.new _ _ _)
  have AE:Hid (¬3<ls.length→yX (xP d 14 t 0 ls bk)=yX (List.replicate d 9)++(yX [105,102,32]++yX (ls.getD 0 [])++yX [32,60,32]++yX (ls.getD 1 [])++yX [32,123,10]++yX (bk.getD 2 [])++yX (List.replicate d 9)++yX [125])++yX [10]):=yD fun h=>(by
   simp only[←xZ]
   congr 1
   simp[xP,xV,jU,h])
  have AG:Hid (3<ls.length→yX (xP d 14 t 0 ls bk)=yX (List.replicate d 9)++(yX [105,102,32]++yX (ls.getD 0 [])++yX [32,60,32]++yX (ls.getD 1 [])++yX [32,123,10]++yX (bk.getD 2 [])++yX (List.replicate d 9)++yX [125]++yX [32,101,108,115,101,32,123,10]++yX (bk.getD 3 [])++yX (List.replicate d 9)++yX [125])++yX [10]):=yD fun h=>(by
   simp only[←xZ]
   congr 1
   simp[xP,xV,jU,h])
  go_enter Tryz.func103,Tryz.ntmps103
  go_upto_region 4 with fail
  clear v0 v1 v2 v3 v4 q0;have e0:=(AB.out.cell (p:=⟨kb,kf,none⟩) AM.out).trans E0.out;have e1:=(AB.out.cell (p:=⟨kb,kf+1,none⟩) AM.out).trans E1.out;have e2:=(AB.out.cell (p:=⟨kb,kf+2,none⟩) AM.out).trans E2.out;have AI:=yR AM.out AB.out.size;generalize w.heap.size=gn at *;generalize w.alloc (.cells #[.int .u8 14,.int .i64 pos,.string (yX t),.int .i64 0,.slice (some ⟨kb,kf,none⟩) ks.length kc] 100)=w1 at *;have n0:w1.cell? ⟨gn,0,none⟩=some (.int .u8 14):=AL.out.cell 0;have n2:w1.cell? ⟨gn,2,none⟩=some (.string (yX t)):=AL.out.cell 2;have n3:w1.cell? ⟨gn,3,none⟩=some (.int .i64 0):=AL.out.cell 3;have AS:=AL.out.lt
  have qs:((0:Int)<(ks.length:Int))∧0<ks.length∧((1:Int)<(ks.length:Int))∧1<ks.length∧((2:Int)<(ks.length:Int))∧2<ks.length:=by omega
  generalize yX t=tt at *;generalize yX (ls.getD 0 [])=s0 at *;generalize yX (ls.getD 1 [])=s1 at *;generalize yX (List.replicate d 9)=sa at *;unfold RB at AJ;generalize yX (bk.getD 2 [])=b2 at *
  go_upto_region 20 with fail
  apply xY (by kernel_rfl) (by kernel_rfl) (by kernel_rfl);apply sP qs (.slice (some ⟨tb,tf,none⟩) L.length c);apply sP qs (.slice (some ⟨kb,kf,none⟩) ks.length kc);apply sP qs (.pointer (some ⟨kb,kf,none⟩));apply sR e0 AI qs (.int .i64 (k0:Int));apply yZ (.string (s0)) rfl rfl rfl
  ·intro w' AA hH;clear hH;simp[yY,go_sem];refine(Ag.out w' (AB.out.trans AA)).mono ?_;rintro e w2 ⟨rfl,hx⟩;exact⟨_,rfl,rfl,hx⟩
  apply sP (by omega:¬(9223372036854775807<3+s0.size)) (.string (⟨#[105,102,32]⟩++s0));apply sP qs (.pointer (some ⟨gn,3,none⟩));apply sR n3 AS qs (.int .i64 0);apply yZ (.string (⟨#[32,60,32]⟩)) rfl rfl rfl
  ·intro w' AA hH;clear hH;simp[yY,go_sem];refine(JQ 0 ⟨#[32,60,32]⟩ ⟨#[32,61,61,32]⟩ w').mono ?_;rintro e w2 ⟨rfl,rfl⟩;exact⟨_,rfl,by first | rfl | decide,Ext.refl _⟩
  apply sP (by omega:¬(9223372036854775807<3+s0.size+3)) (.string (⟨#[105,102,32]⟩++s0++⟨#[32,60,32]⟩));apply sP qs (.slice (some ⟨tb,tf,none⟩) L.length c);apply sP qs (.slice (some ⟨kb,kf,none⟩) ks.length kc);apply sP qs (.pointer (some ⟨kb,kf+1,none⟩));apply sR e1 AI qs (.int .i64 (k1:Int));apply yZ (.string (s1)) rfl rfl rfl
  ·intro w' AA hH;clear hH;simp[yY,go_sem];refine(Aj.out w' (AB.out.trans AA)).mono ?_;rintro e w2 ⟨rfl,hx⟩;exact⟨_,rfl,rfl,hx⟩
  apply sP (by omega:¬(9223372036854775807<3+s0.size+3+s1.size)) (.string (⟨#[105,102,32]⟩++s0++⟨#[32,60,32]⟩++s1));apply sP (by omega:¬(9223372036854775807<3+s0.size+3+s1.size+3)) (.string (⟨#[105,102,32]⟩++s0++⟨#[32,60,32]⟩++s1++⟨#[32,123,10]⟩));apply sP qs (.slice (some ⟨tb,tf,none⟩) L.length c);apply sP qs (.slice (some ⟨kb,kf,none⟩) ks.length kc);apply sP qs (.pointer (some ⟨kb,kf+2,none⟩));apply sR e2 AI qs (.int .i64 (k2:Int));apply sP qs (.int .i64 (d:Int));apply yZ (.int .i64 ((d:Int)+1)) rfl rfl rfl
  ·intro w' AA hH;clear hH;simp[yY,go_sem,qs];exact⟨Ae,Ext.refl _⟩
  apply yZ (.string (b2)) rfl rfl rfl
  ·intro w' AA hH;clear hH;simp[yY,go_sem];refine(AJ.out w' (AB.out.trans AA)).mono ?_;rintro e w2 ⟨rfl,hx⟩;exact⟨_,rfl,rfl,hx⟩
  apply sP (by omega:¬(9223372036854775807<3+s0.size+3+s1.size+3+b2.size)) (.string (⟨#[105,102,32]⟩++s0++⟨#[32,60,32]⟩++s1++⟨#[32,123,10]⟩++b2));apply sP qs (.int .i64 (d:Int));apply yZ (.string (sa)) rfl rfl rfl
  ·intro w' AA hH;clear hH;simp[yY,go_sem];refine(AN.out w').mono ?_;rintro e w2 ⟨rfl,rfl⟩;exact⟨_,rfl,rfl,Ext.refl _⟩
  apply sP (by omega:¬(9223372036854775807<3+s0.size+3+s1.size+3+b2.size+sa.size)) (.string (⟨#[105,102,32]⟩++s0++⟨#[32,60,32]⟩++s1++⟨#[32,123,10]⟩++b2++sa));apply sP (by omega:¬(9223372036854775807<3+s0.size+3+s1.size+3+b2.size+sa.size+1)) (.string (⟨#[105,102,32]⟩++s0++⟨#[32,60,32]⟩++s1++⟨#[32,123,10]⟩++b2++sa++⟨#[125]⟩));apply sP qs (.string (⟨#[105,102,32]⟩++s0++⟨#[32,60,32]⟩++s1++⟨#[32,123,10]⟩++b2++sa++⟨#[125]⟩));apply xN;intro w9 AR hH;clear hH
  try simp only[Act.put,yA,yC,yB]
  have AK:=yD (AB.out.trans AR);clear AR n0 n2 n3 AS e0 e1 e2 AI
  rcases Ai.out with h3 | h4
  ·have HG:=yD (AE.out (by have:=AV.out; omega))
   have hg:¬((3:Int)<(ks.length:Int)):=by omega
   clear h3
   have AX:¬(9223372036854775807<sa.size+(3+s0.size+3+s1.size+3+b2.size+sa.size+1)):=by omega
   have AZ:¬(9223372036854775807<sa.size+(3+s0.size+3+s1.size+3+b2.size+sa.size+1)+1):=by omega
   go_wp2_with fail
   refine(AN.out _).mono ?_;rintro e wz ⟨rfl,rfl⟩
   go_wp2_with fail
   go_ret;exact⟨by rw[HG.out]; rfl,AK.out⟩
  ·have HG:=yD (AG.out (by have:=AV.out; omega));obtain⟨An,Am,k3,AC,E3,AF⟩:=AY.out h4;injection AC with AC;injection AC with e1 e2;subst e1 e2;have AH:=yD AF;unfold RB at AH;generalize yX (bk.getD 3 [])=b3 at *;have e3:=E3 _ AK.out
   have hg:((3:Int)<(ks.length:Int))∧3<ks.length:=by omega
   clear h4 E3 AF
   have Ao:¬(9223372036854775807<3+s0.size+3+s1.size+3+b2.size+sa.size+1+8):=by omega
   have Ac:¬(9223372036854775807<3+s0.size+3+s1.size+3+b2.size+sa.size+1+8+b3.size):=by omega
   have Aa:¬(9223372036854775807<3+s0.size+3+s1.size+3+b2.size+sa.size+1+8+b3.size+sa.size):=by omega
   have Ab:¬(9223372036854775807<3+s0.size+3+s1.size+3+b2.size+sa.size+1+8+b3.size+sa.size+1):=by omega
   have AX:¬(9223372036854775807<sa.size+(3+s0.size+3+s1.size+3+b2.size+sa.size+1+8+b3.size+sa.size+1)):=by omega
   have AZ:¬(9223372036854775807<sa.size+(3+s0.size+3+s1.size+3+b2.size+sa.size+1+8+b3.size+sa.size+1)+1):=by omega
   go_wp2_with fail
   refine(AH.out _ AK.out).mono ?_;rintro e Al ⟨rfl,AD⟩;have AP:=yD (AK.out.trans AD);clear AD e3
   go_wp2_with fail
   refine(AN.out _).mono ?_;rintro e wz ⟨rfl,rfl⟩
   go_wp2_with fail
   refine(AN.out _).mono ?_;rintro e wz ⟨rfl,rfl⟩
   go_wp2_with fail
   go_ret;exact⟨by rw[HG.out]; rfl,AP.out⟩
 ·have AB:Hid (Ext w (w.alloc (.cells #[.int .u8 14,.int .i64 pos,.string (yX t),.int .i64 1,.slice (some ⟨kb,kf,none⟩) ks.length kc] 100))):=yD (Ext.alloc _ _);have AL:Hid (Blk (w.alloc (.cells #[.int .u8 14,.int .i64 pos,.string (yX t),.int .i64 1,.slice (some ⟨kb,kf,none⟩) ks.length kc] 100)) w.heap.size 100 #[.int .u8 14,.int .i64 pos,.string (yX t),.int .i64 1,.slice (some ⟨kb,kf,none⟩) ks.length kc]):=yD (Blk.new _ _ _)
  have AE:Hid (¬3<ls.length→yX (xP d 14 t 1 ls bk)=yX (List.replicate d 9)++(yX [105,102,32]++yX (ls.getD 0 [])++yX [32,61,61,32]++yX (ls.getD 1 [])++yX [32,123,10]++yX (bk.getD 2 [])++yX (List.replicate d 9)++yX [125])++yX [10]):=yD fun h=>(by
   simp only[←xZ]
   congr 1
   simp[xP,xV,jU,h])
  have AG:Hid (3<ls.length→yX (xP d 14 t 1 ls bk)=yX (List.replicate d 9)++(yX [105,102,32]++yX (ls.getD 0 [])++yX [32,61,61,32]++yX (ls.getD 1 [])++yX [32,123,10]++yX (bk.getD 2 [])++yX (List.replicate d 9)++yX [125]++yX [32,101,108,115,101,32,123,10]++yX (bk.getD 3 [])++yX (List.replicate d 9)++yX [125])++yX [10]):=yD fun h=>(by
   simp only[←xZ]
   congr 1
   simp[xP,xV,jU,h])
  go_enter Tryz.func103,Tryz.ntmps103
  go_upto_region 4 with fail
  clear v0 v1 v2 v3 v4 q0;have e0:=(AB.out.cell (p:=⟨kb,kf,none⟩) AM.out).trans E0.out;have e1:=(AB.out.cell (p:=⟨kb,kf+1,none⟩) AM.out).trans E1.out;have e2:=(AB.out.cell (p:=⟨kb,kf+2,none⟩) AM.out).trans E2.out;have AI:=yR AM.out AB.out.size;generalize w.heap.size=gn at *;generalize w.alloc (.cells #[.int .u8 14,.int .i64 pos,.string (yX t),.int .i64 1,.slice (some ⟨kb,kf,none⟩) ks.length kc] 100)=w1 at *;have n0:w1.cell? ⟨gn,0,none⟩=some (.int .u8 14):=AL.out.cell 0;have n2:w1.cell? ⟨gn,2,none⟩=some (.string (yX t)):=AL.out.cell 2;have n3:w1.cell? ⟨gn,3,none⟩=some (.int .i64 1):=AL.out.cell 3;have AS:=AL.out.lt
  have qs:((0:Int)<(ks.length:Int))∧0<ks.length∧((1:Int)<(ks.length:Int))∧1<ks.length∧((2:Int)<(ks.length:Int))∧2<ks.length:=by omega
  generalize yX t=tt at *;generalize yX (ls.getD 0 [])=s0 at *;generalize yX (ls.getD 1 [])=s1 at *;generalize yX (List.replicate d 9)=sa at *;unfold RB at AJ;generalize yX (bk.getD 2 [])=b2 at *
  go_upto_region 20 with fail
  apply xY (by kernel_rfl) (by kernel_rfl) (by kernel_rfl);apply sP qs (.slice (some ⟨tb,tf,none⟩) L.length c);apply sP qs (.slice (some ⟨kb,kf,none⟩) ks.length kc);apply sP qs (.pointer (some ⟨kb,kf,none⟩));apply sR e0 AI qs (.int .i64 (k0:Int));apply yZ (.string (s0)) rfl rfl rfl
  ·intro w' AA hH;clear hH;simp[yY,go_sem];refine(Ag.out w' (AB.out.trans AA)).mono ?_;rintro e w2 ⟨rfl,hx⟩;exact⟨_,rfl,rfl,hx⟩
  apply sP (by omega:¬(9223372036854775807<3+s0.size)) (.string (⟨#[105,102,32]⟩++s0));apply sP qs (.pointer (some ⟨gn,3,none⟩));apply sR n3 AS qs (.int .i64 1);apply yZ (.string (⟨#[32,61,61,32]⟩)) rfl rfl rfl
  ·intro w' AA hH;clear hH;simp[yY,go_sem];refine(JQ 1 ⟨#[32,60,32]⟩ ⟨#[32,61,61,32]⟩ w').mono ?_;rintro e w2 ⟨rfl,rfl⟩;exact⟨_,rfl,by first | rfl | decide,Ext.refl _⟩
  apply sP (by omega:¬(9223372036854775807<3+s0.size+4)) (.string (⟨#[105,102,32]⟩++s0++⟨#[32,61,61,32]⟩));apply sP qs (.slice (some ⟨tb,tf,none⟩) L.length c);apply sP qs (.slice (some ⟨kb,kf,none⟩) ks.length kc);apply sP qs (.pointer (some ⟨kb,kf+1,none⟩));apply sR e1 AI qs (.int .i64 (k1:Int));apply yZ (.string (s1)) rfl rfl rfl
  ·intro w' AA hH;clear hH;simp[yY,go_sem];refine(Aj.out w' (AB.out.trans AA)).mono ?_;rintro e w2 ⟨rfl,hx⟩;exact⟨_,rfl,rfl,hx⟩
  apply sP (by omega:¬(9223372036854775807<3+s0.size+4+s1.size)) (.string (⟨#[105,102,32]⟩++s0++⟨#[32,61,61,32]⟩++s1));apply sP (by omega:¬(9223372036854775807<3+s0.size+4+s1.size+3)) (.string (⟨#[105,102,32]⟩++s0++⟨#[32,61,61,32]⟩++s1++⟨#[32,123,10]⟩));apply sP qs (.slice (some ⟨tb,tf,none⟩) L.length c);apply sP qs (.slice (some ⟨kb,kf,none⟩) ks.length kc);apply sP qs (.pointer (some ⟨kb,kf+2,none⟩));apply sR e2 AI qs (.int .i64 (k2:Int));apply sP qs (.int .i64 (d:Int));apply yZ (.int .i64 ((d:Int)+1)) rfl rfl rfl
  ·intro w' AA hH;clear hH;simp[yY,go_sem,qs];exact⟨Ae,Ext.refl _⟩
  apply yZ (.string (b2)) rfl rfl rfl
  ·intro w' AA hH;clear hH;simp[yY,go_sem];refine(AJ.out w' (AB.out.trans AA)).mono ?_;rintro e w2 ⟨rfl,hx⟩;exact⟨_,rfl,rfl,hx⟩
  apply sP (by omega:¬(9223372036854775807<3+s0.size+4+s1.size+3+b2.size)) (.string (⟨#[105,102,32]⟩++s0++⟨#[32,61,61,32]⟩++s1++⟨#[32,123,10]⟩++b2));apply sP qs (.int .i64 (d:Int));apply yZ (.string (sa)) rfl rfl rfl
  ·intro w' AA hH;clear hH;simp[yY,go_sem];refine(AN.out w').mono ?_;rintro e w2 ⟨rfl,rfl⟩;exact⟨_,rfl,rfl,Ext.refl _⟩
  apply sP (by omega:¬(9223372036854775807<3+s0.size+4+s1.size+3+b2.size+sa.size)) (.string (⟨#[105,102,32]⟩++s0++⟨#[32,61,61,32]⟩++s1++⟨#[32,123,10]⟩++b2++sa));apply sP (by omega:¬(9223372036854775807<3+s0.size+4+s1.size+3+b2.size+sa.size+1)) (.string (⟨#[105,102,32]⟩++s0++⟨#[32,61,61,32]⟩++s1++⟨#[32,123,10]⟩++b2++sa++⟨#[125]⟩));apply sP qs (.string (⟨#[105,102,32]⟩++s0++⟨#[32,61,61,32]⟩++s1++⟨#[32,123,10]⟩++b2++sa++⟨#[125]⟩));apply xN;intro w9 AR hH;clear hH
  try simp only[Act.put,yA,yC,yB]
  have AK:=yD (AB.out.trans AR);clear AR n0 n2 n3 AS e0 e1 e2 AI
  rcases Ai.out with h3 | h4
  ·have HG:=yD (AE.out (by have:=AV.out; omega))
   have hg:¬((3:Int)<(ks.length:Int)):=by omega
   clear h3
   have AX:¬(9223372036854775807<sa.size+(3+s0.size+4+s1.size+3+b2.size+sa.size+1)):=by omega
   have AZ:¬(9223372036854775807<sa.size+(3+s0.size+4+s1.size+3+b2.size+sa.size+1)+1):=by omega
   go_wp2_with fail
   refine(AN.out _).mono ?_;rintro e wz ⟨rfl,rfl⟩
   go_wp2_with fail
   go_ret;exact⟨by rw[HG.out]; rfl,AK.out⟩
  ·have HG:=yD (AG.out (by have:=AV.out; omega));obtain⟨An,Am,k3,AC,E3,AF⟩:=AY.out h4;injection AC with AC;injection AC with e1 e2;subst e1 e2;have AH:=yD AF;unfold RB at AH;generalize yX (bk.getD 3 [])=b3 at *;have e3:=E3 _ AK.out
   have hg:((3:Int)<(ks.length:Int))∧3<ks.length:=by omega
   clear h4 E3 AF
   have Ao:¬(9223372036854775807<3+s0.size+4+s1.size+3+b2.size+sa.size+1+8):=by omega
   have Ac:¬(9223372036854775807<3+s0.size+4+s1.size+3+b2.size+sa.size+1+8+b3.size):=by omega
   have Aa:¬(9223372036854775807<3+s0.size+4+s1.size+3+b2.size+sa.size+1+8+b3.size+sa.size):=by omega
   have Ab:¬(9223372036854775807<3+s0.size+4+s1.size+3+b2.size+sa.size+1+8+b3.size+sa.size+1):=by omega
   have AX:¬(9223372036854775807<sa.size+(3+s0.size+4+s1.size+3+b2.size+sa.size+1+8+b3.size+sa.size+1)):=by omega
   have AZ:¬(9223372036854775807<sa.size+(3+s0.size+4+s1.size+3+b2.size+sa.size+1+8+b3.size+sa.size+1)+1):=by omega
   go_wp2_with fail
   refine(AH.out _ AK.out).mono ?_;rintro e Al ⟨rfl,AD⟩;have AP:=yD (AK.out.trans AD);clear AD e3
   go_wp2_with fail
   refine(AN.out _).mono ?_;rintro e wz ⟨rfl,rfl⟩
   go_wp2_with fail
   refine(AN.out _).mono ?_;rintro e wz ⟨rfl,rfl⟩
   go_wp2_with fail
   go_ret;exact⟨by rw[HG.out]; rfl,AP.out⟩
theorem zOn (w:World)(A:Option Addr)(n c:Nat)(L:List TT.xB)(hT:TT.vV w A L)(hn:n=L.length)(i:Nat)(m:TT.xB)(hm:L[i]?=some m)(t:Bs)(x:Int)(ks:List Nat)(ls bk:List Bs)(hk:m.kind=15)(ht:m.text=yX t)(hx:m.num=x)(hks:m.kids=xG ks)(hn15:ks.length=3)(d:Nat)(hd:d≤1000)
  (hu:∀j (hj:j<ks.length),j<2→RU w A n c L ks[j] (ls.getD j [])) (hbk:∀j (hj:j<ks.length),2≤j→RB w A n c ks[j] d (bk.getD j [])) (hs:vR ls+t.length+vR bk≤1099511627776) (hsz:ks.length≤100000) :
  Calls Tryz.prog 103 #[.slice A n c,.int .i64 (i:Int),.int .i64 (d:Int)] w fun e w'=>e=.returned (.string (yX (xP d 15 t x ls bk)))∧Ext w w':=by
 subst hn hx
 have Ab:3≤ks.length:=by omega
 clear hn15;have AM:i<L.length:=(List.getElem?_eq_some_iff.1 hm).1
 have AQ:L[i]=m:=by rw[yG AM] at hm; exact Option.some.inj hm
 obtain⟨tb,tf,hA,AZ,hc⟩:=hT.at_ i AM;rw[AQ] at hc
 have AL:m.kids.length=ks.length:=by rw[hks]; simp[xG]
 have AT:Hid (Cells w m.kA (TT.xD (xG ks))):=yD (by rw[←hks]; exact(hT.ok m (zY hm)).kids)
 have v0:w.cell? ⟨tb,tf+i*5,none⟩=some (.int .u8 15):=by rw[←hk]; exact hc 0 (by decide)
 have v1:w.cell? ⟨tb,tf+i*5+1,none⟩=some (.int .i64 m.pos):=hc 1 (by decide)
 have v2:w.cell? ⟨tb,tf+i*5+2,none⟩=some (.string (yX t)):=by rw[←ht]; exact hc 2 (by decide)
 have v3:w.cell? ⟨tb,tf+i*5+3,none⟩=some (.int .i64 m.num):=hc 3 (by decide)
 have v4:w.cell? ⟨tb,tf+i*5+4,none⟩=some (.slice m.kA ks.length m.kc):=by rw[←AL]; exact hc 4 (by decide)
 clear AL
 have q0:(i:Int)<(L.length:Int):=by omega
 have AP:Hid (∀w,Calls Tryz.prog 146 #[.int .i64 (d:Int)] w fun e w'=>e=.returned (.string (yX (List.replicate d 9)))∧w=w'):=yD fun w=>YI d (by omega) w
 have AY:(yX (List.replicate d 9)).size≤1000:=by rw[bsz,zC]; exact hd
 have Af:(yX t).size≤1099511627776:=by rw[bsz]; omega
 have AV:=yD (hu 0 (by omega) (by decide)).2
 have Ac:(yX (ls.getD 0 [])).size≤1099511627776:=by rw[bsz]; have:=jF ls 0; omega
 have AW:=yD (hu 1 (by omega) (by decide)).2
 have Ag:(yX (ls.getD 1 [])).size≤1099511627776:=by rw[bsz]; have:=jF ls 1; omega
 have AD:=yD (hbk 2 (by omega) (by decide))
 have AX:(yX (bk.getD 2 [])).size≤1099511627776:=by rw[bsz]; have:=jF bk 2; omega
 have Ae:(yX (bk.getD 3 [])).size≤1099511627776:=by rw[bsz]; have:=jF bk 3; omega
 have AJ:=yD hbk;obtain⟨kb,kf,AS,AC,AI⟩:=AT.out.at_ (by simp[TT.xD,xG]; omega);have E0:Hid (w.cell? ⟨kb,kf,none⟩=some (.int .i64 ((ks[0]'(by omega):Nat):Int))):=yD (by have h:=AI 0 (by simp[TT.xD,xG]; omega); rw[Nat.add_zero] at h; rw[h]; have AE:0<ks.length:=(by omega); simp[TT.xD,xG,AE]);have E1:Hid (w.cell? ⟨kb,kf+1,none⟩=some (.int .i64 ((ks[1]'(by omega):Nat):Int))):=yD (by have h:=AI 1 (by simp[TT.xD,xG]; omega); rw[h]; have AE:1<ks.length:=(by omega); simp[TT.xD,xG,AE]);have E2:Hid (w.cell? ⟨kb,kf+2,none⟩=some (.int .i64 ((ks[2]'(by omega):Nat):Int))):=yD (by have h:=AI 2 (by simp[TT.xD,xG]; omega); rw[h]; have AE:2<ks.length:=(by omega); simp[TT.xD,xG,AE]);have AR:IntKind.i64.wrap ((d:Int)+1)=(d:Int)+1:=IntWalk.i64_in _ (by omega);clear AJ;clear hc hT hm hk ht hks hu AQ hs hbk;have AG:=yD AC;clear AI AC;rw[AS] at v4;generalize m.kc=kc at *;generalize m.pos=pos at *;subst hA;generalize hnum:m.num=x at *;generalize ks[0]'(by omega)=k0 at *;generalize ks[1]'(by omega)=k1 at *;generalize ks[2]'(by omega)=k2 at *;have AA:Hid (Ext w (w.alloc (.cells #[.int .u8 15,.int .i64 pos,.string (yX t),.int .i64 x,.slice (some ⟨kb,kf,none⟩) ks.length kc] 100))):=yD (Ext.alloc _ _);have AH:Hid (Blk (w.alloc (.cells #[.int .u8 15,.int .i64 pos,.string (yX t),.int .i64 x,.slice (some ⟨kb,kf,none⟩) ks.length kc] 100)) w.heap.size 100 #[.int .u8 15,.int .i64 pos,.string (yX t),.int .i64 x,.slice (some ⟨kb,kf,none⟩) ks.length kc]):=yD (Blk.new _ _ _)
 have AK:Hid (yX (xP d 15 t x ls bk)=yX (List.replicate d 9)++(yX [102,111,114,32]++yX t++yX [32,61,32]++yX (ls.getD 0 [])++yX [32,116,111,32]++yX (ls.getD 1 [])++yX [32,123,10]++yX (bk.getD 2 [])++yX (List.replicate d 9)++yX [125])++yX [10]):=yD (by
  simp only[←xZ]
  congr 1
  simp[xP,xV,jU])
 go_enter Tryz.func103,Tryz.ntmps103
 go_upto_region 4 with fail
 clear v0 v1 v2 v3 v4 q0;have e0:=(AA.out.cell (p:=⟨kb,kf,none⟩) AG.out).trans E0.out;have e1:=(AA.out.cell (p:=⟨kb,kf+1,none⟩) AG.out).trans E1.out;have e2:=(AA.out.cell (p:=⟨kb,kf+2,none⟩) AG.out).trans E2.out;have AF:=yR AG.out AA.out.size;generalize w.heap.size=gn at *;generalize w.alloc (.cells #[.int .u8 15,.int .i64 pos,.string (yX t),.int .i64 x,.slice (some ⟨kb,kf,none⟩) ks.length kc] 100)=w1 at *;have n0:w1.cell? ⟨gn,0,none⟩=some (.int .u8 15):=AH.out.cell 0;have n2:w1.cell? ⟨gn,2,none⟩=some (.string (yX t)):=AH.out.cell 2;have n3:w1.cell? ⟨gn,3,none⟩=some (.int .i64 x):=AH.out.cell 3;have AO:=AH.out.lt
 have qs:((0:Int)<(ks.length:Int))∧0<ks.length∧((1:Int)<(ks.length:Int))∧1<ks.length∧((2:Int)<(ks.length:Int))∧2<ks.length:=by omega
 generalize yX t=tt at *;generalize yX (ls.getD 0 [])=s0 at *;generalize yX (ls.getD 1 [])=s1 at *;generalize yX (List.replicate d 9)=sa at *;unfold RB at AD;generalize yX (bk.getD 2 [])=b2 at *
 go_upto_region 24 with fail
 apply xY (by kernel_rfl) (by kernel_rfl) (by kernel_rfl);apply sP qs (.pointer (some ⟨gn,2,none⟩));apply sR n2 AO qs (.string (tt));apply sP (by omega:¬(9223372036854775807<4+tt.size)) (.string (⟨#[102,111,114,32]⟩++tt));apply sP (by omega:¬(9223372036854775807<4+tt.size+3)) (.string (⟨#[102,111,114,32]⟩++tt++⟨#[32,61,32]⟩));apply sP qs (.slice (some ⟨tb,tf,none⟩) L.length c);apply sP qs (.slice (some ⟨kb,kf,none⟩) ks.length kc);apply sP qs (.pointer (some ⟨kb,kf,none⟩));apply sR e0 AF qs (.int .i64 (k0:Int));apply yZ (.string (s0)) rfl rfl rfl
 ·intro w' AB hH;clear hH;simp[yY,go_sem];refine(AV.out w' (AA.out.trans AB)).mono ?_;rintro e w2 ⟨rfl,hx⟩;exact⟨_,rfl,rfl,hx⟩
 apply sP (by omega:¬(9223372036854775807<4+tt.size+3+s0.size)) (.string (⟨#[102,111,114,32]⟩++tt++⟨#[32,61,32]⟩++s0));apply sP (by omega:¬(9223372036854775807<4+tt.size+3+s0.size+4)) (.string (⟨#[102,111,114,32]⟩++tt++⟨#[32,61,32]⟩++s0++⟨#[32,116,111,32]⟩));apply sP qs (.slice (some ⟨tb,tf,none⟩) L.length c);apply sP qs (.slice (some ⟨kb,kf,none⟩) ks.length kc);apply sP qs (.pointer (some ⟨kb,kf+1,none⟩));apply sR e1 AF qs (.int .i64 (k1:Int));apply yZ (.string (s1)) rfl rfl rfl
 ·intro w' AB hH;clear hH;simp[yY,go_sem];refine(AW.out w' (AA.out.trans AB)).mono ?_;rintro e w2 ⟨rfl,hx⟩;exact⟨_,rfl,rfl,hx⟩
 apply sP (by omega:¬(9223372036854775807<4+tt.size+3+s0.size+4+s1.size)) (.string (⟨#[102,111,114,32]⟩++tt++⟨#[32,61,32]⟩++s0++⟨#[32,116,111,32]⟩++s1));apply sP (by omega:¬(9223372036854775807<4+tt.size+3+s0.size+4+s1.size+3)) (.string (⟨#[102,111,114,32]⟩++tt++⟨#[32,61,32]⟩++s0++⟨#[32,116,111,32]⟩++s1++⟨#[32,123,10]⟩));apply sP qs (.slice (some ⟨tb,tf,none⟩) L.length c);apply sP qs (.slice (some ⟨kb,kf,none⟩) ks.length kc);apply sP qs (.pointer (some ⟨kb,kf+2,none⟩));apply sR e2 AF qs (.int .i64 (k2:Int));apply sP qs (.int .i64 (d:Int));apply yZ (.int .i64 ((d:Int)+1)) rfl rfl rfl
 ·intro w' AB hH;clear hH;simp[yY,go_sem,qs];exact⟨AR,Ext.refl _⟩
 apply yZ (.string (b2)) rfl rfl rfl
 ·intro w' AB hH;clear hH;simp[yY,go_sem];refine(AD.out w' (AA.out.trans AB)).mono ?_;rintro e w2 ⟨rfl,hx⟩;exact⟨_,rfl,rfl,hx⟩
 apply sP (by omega:¬(9223372036854775807<4+tt.size+3+s0.size+4+s1.size+3+b2.size)) (.string (⟨#[102,111,114,32]⟩++tt++⟨#[32,61,32]⟩++s0++⟨#[32,116,111,32]⟩++s1++⟨#[32,123,10]⟩++b2));apply sP qs (.int .i64 (d:Int));apply yZ (.string (sa)) rfl rfl rfl
 ·intro w' AB hH;clear hH;simp[yY,go_sem];refine(AP.out w').mono ?_;rintro e w2 ⟨rfl,rfl⟩;exact⟨_,rfl,rfl,Ext.refl _⟩
 apply sP (by omega:¬(9223372036854775807<4+tt.size+3+s0.size+4+s1.size+3+b2.size+sa.size)) (.string (⟨#[102,111,114,32]⟩++tt++⟨#[32,61,32]⟩++s0++⟨#[32,116,111,32]⟩++s1++⟨#[32,123,10]⟩++b2++sa));apply sP (by omega:¬(9223372036854775807<4+tt.size+3+s0.size+4+s1.size+3+b2.size+sa.size+1)) (.string (⟨#[102,111,114,32]⟩++tt++⟨#[32,61,32]⟩++s0++⟨#[32,116,111,32]⟩++s1++⟨#[32,123,10]⟩++b2++sa++⟨#[125]⟩));apply sP qs (.string (⟨#[102,111,114,32]⟩++tt++⟨#[32,61,32]⟩++s0++⟨#[32,116,111,32]⟩++s1++⟨#[32,123,10]⟩++b2++sa++⟨#[125]⟩));apply xN;intro w9 AN hH;clear hH
 try simp only[Act.put,yA,yC,yB]
 have AU:=yD (AA.out.trans AN);clear AN n0 n2 n3 AO e0 e1 e2 AF
 have Aa:¬(9223372036854775807<sa.size+(4+tt.size+3+s0.size+4+s1.size+3+b2.size+sa.size+1)):=by omega
 have Ad:¬(9223372036854775807<sa.size+(4+tt.size+3+s0.size+4+s1.size+3+b2.size+sa.size+1)+1):=by omega
 go_wp2_with fail
 refine(AP.out _).mono ?_;rintro e wz ⟨rfl,rfl⟩
 go_wp2_with fail
 go_ret;exact⟨by rw[AK.out]; rfl,AU.out⟩
theorem zPo (w:World)(A:Option Addr)(n c:Nat)(L:List TT.xB)(hT:TT.vV w A L)(hn:n=L.length)(i:Nat)(m:TT.xB)(hm:L[i]?=some m)(t:Bs)(x:Int)(ks:List Nat)(ls bk:List Bs)(hk:m.kind=16)(ht:m.text=yX t)(hx:m.num=x)(hks:m.kids=xG ks)(hn16:ks.length=1)(d:Nat)(hd:d≤1000)
  (hu:∀j (hj:j<ks.length),True→RU w A n c L ks[j] (ls.getD j [])) (hs:vR ls+t.length+vR bk≤1099511627776) (hsz:ks.length≤100000) :
  Calls Tryz.prog 103 #[.slice A n c,.int .i64 (i:Int),.int .i64 (d:Int)] w fun e w'=>e=.returned (.string (yX (xP d 16 t x ls bk)))∧Ext w w':=by
 subst hn hx
 have AX:1≤ks.length:=by omega
 clear hn16;have AH:i<L.length:=(List.getElem?_eq_some_iff.1 hm).1
 have AJ:L[i]=m:=by rw[yG AH] at hm; exact Option.some.inj hm
 obtain⟨tb,tf,hA,AV,hc⟩:=hT.at_ i AH;rw[AJ] at hc
 have AF:m.kids.length=ks.length:=by rw[hks]; simp[xG]
 have AQ:Hid (Cells w m.kA (TT.xD (xG ks))):=yD (by rw[←hks]; exact(hT.ok m (zY hm)).kids)
 have v0:w.cell? ⟨tb,tf+i*5,none⟩=some (.int .u8 16):=by rw[←hk]; exact hc 0 (by decide)
 have v1:w.cell? ⟨tb,tf+i*5+1,none⟩=some (.int .i64 m.pos):=hc 1 (by decide)
 have v2:w.cell? ⟨tb,tf+i*5+2,none⟩=some (.string (yX t)):=by rw[←ht]; exact hc 2 (by decide)
 have v3:w.cell? ⟨tb,tf+i*5+3,none⟩=some (.int .i64 m.num):=hc 3 (by decide)
 have v4:w.cell? ⟨tb,tf+i*5+4,none⟩=some (.slice m.kA ks.length m.kc):=by rw[←AF]; exact hc 4 (by decide)
 clear AF
 have q0:(i:Int)<(L.length:Int):=by omega
 have AM:Hid (∀w,Calls Tryz.prog 146 #[.int .i64 (d:Int)] w fun e w'=>e=.returned (.string (yX (List.replicate d 9)))∧w=w'):=yD fun w=>YI d (by omega) w
 have AU:(yX (List.replicate d 9)).size≤1000:=by rw[bsz,zC]; exact hd
 have AT:(yX t).size≤1099511627776:=by rw[bsz]; omega
 have AN:=yD (hu 0 (by omega) trivial).2
 have AY:(yX (ls.getD 0 [])).size≤1099511627776:=by rw[bsz]; have:=jF ls 0; omega
 obtain⟨kb,kf,AP,AA,AL⟩:=AQ.out.at_ (by simp[TT.xD,xG]; omega);have E0:Hid (w.cell? ⟨kb,kf,none⟩=some (.int .i64 ((ks[0]'(by omega):Nat):Int))):=yD (by have h:=AL 0 (by simp[TT.xD,xG]; omega); rw[Nat.add_zero] at h; rw[h]; have AR:0<ks.length:=(by omega); simp[TT.xD,xG,AR]);clear hc hT hm hk ht hks hu AJ hs;have AG:=yD AA;clear AL AA;rw[AP] at v4;generalize m.kc=kc at *;generalize m.pos=pos at *;subst hA;generalize hnum:m.num=x at *;generalize ks[0]'(by omega)=k0 at *;have AB:Hid (Ext w (w.alloc (.cells #[.int .u8 16,.int .i64 pos,.string (yX t),.int .i64 x,.slice (some ⟨kb,kf,none⟩) ks.length kc] 100))):=yD (Ext.alloc _ _);have AC:Hid (Blk (w.alloc (.cells #[.int .u8 16,.int .i64 pos,.string (yX t),.int .i64 x,.slice (some ⟨kb,kf,none⟩) ks.length kc] 100)) w.heap.size 100 #[.int .u8 16,.int .i64 pos,.string (yX t),.int .i64 x,.slice (some ⟨kb,kf,none⟩) ks.length kc]):=yD (Blk.new _ _ _)
 have AD:Hid (yX (xP d 16 t x ls bk)=yX (List.replicate d 9)++(yX [108,101,116,32]++yX t++yX [32,61,32]++yX (ls.getD 0 [])++yX [59])++yX [10]):=yD (by
  simp only[←xZ]
  congr 1
  simp[xP,xV,jU])
 go_enter Tryz.func103,Tryz.ntmps103
 go_upto_region 4 with fail
 clear v0 v1 v2 v3 v4 q0;have e0:=(AB.out.cell (p:=⟨kb,kf,none⟩) AG.out).trans E0.out;have AE:=yR AG.out AB.out.size;generalize w.heap.size=gn at *;generalize w.alloc (.cells #[.int .u8 16,.int .i64 pos,.string (yX t),.int .i64 x,.slice (some ⟨kb,kf,none⟩) ks.length kc] 100)=w1 at *;have n0:w1.cell? ⟨gn,0,none⟩=some (.int .u8 16):=AC.out.cell 0;have n2:w1.cell? ⟨gn,2,none⟩=some (.string (yX t)):=AC.out.cell 2;have n3:w1.cell? ⟨gn,3,none⟩=some (.int .i64 x):=AC.out.cell 3;have AK:=AC.out.lt
 have qs:((0:Int)<(ks.length:Int))∧0<ks.length:=by omega
 generalize yX t=tt at *;generalize yX (ls.getD 0 [])=s0 at *;generalize yX (List.replicate d 9)=sa at *
 go_upto_region 26 with fail
 apply xY (by kernel_rfl) (by kernel_rfl) (by kernel_rfl);apply sP qs (.pointer (some ⟨gn,2,none⟩));apply sR n2 AK qs (.string (tt));apply sP (by omega:¬(9223372036854775807<4+tt.size)) (.string (⟨#[108,101,116,32]⟩++tt));apply sP (by omega:¬(9223372036854775807<4+tt.size+3)) (.string (⟨#[108,101,116,32]⟩++tt++⟨#[32,61,32]⟩));apply sP qs (.slice (some ⟨tb,tf,none⟩) L.length c);apply sP qs (.slice (some ⟨kb,kf,none⟩) ks.length kc);apply sP qs (.pointer (some ⟨kb,kf,none⟩));apply sR e0 AE qs (.int .i64 (k0:Int));apply yZ (.string (s0)) rfl rfl rfl
 ·intro w' AO hH;clear hH;simp[yY,go_sem];refine(AN.out w' (AB.out.trans AO)).mono ?_;rintro e w2 ⟨rfl,hx⟩;exact⟨_,rfl,rfl,hx⟩
 apply sP (by omega:¬(9223372036854775807<4+tt.size+3+s0.size)) (.string (⟨#[108,101,116,32]⟩++tt++⟨#[32,61,32]⟩++s0));apply sP (by omega:¬(9223372036854775807<4+tt.size+3+s0.size+1)) (.string (⟨#[108,101,116,32]⟩++tt++⟨#[32,61,32]⟩++s0++⟨#[59]⟩));apply sP qs (.string (⟨#[108,101,116,32]⟩++tt++⟨#[32,61,32]⟩++s0++⟨#[59]⟩));apply xN;intro w9 AI hH;clear hH
 try simp only[Act.put,yA,yC,yB]
 have AS:=yD (AB.out.trans AI);clear AI n0 n2 n3 AK e0 AE
 have AW:¬(9223372036854775807<sa.size+(4+tt.size+3+s0.size+1)):=by omega
 have AZ:¬(9223372036854775807<sa.size+(4+tt.size+3+s0.size+1)+1):=by omega
 go_wp2_with fail
 refine(AM.out _).mono ?_;rintro e wz ⟨rfl,rfl⟩
 go_wp2_with fail
 go_ret;exact⟨by rw[AD.out]; rfl,AS.out⟩
theorem zOT (w:World)(A:Option Addr)(n c:Nat)(L:List TT.xB)(hT:TT.vV w A L)(hn:n=L.length)(i:Nat)(m:TT.xB)(hm:L[i]?=some m)(t:Bs)(x:Int)(ks:List Nat)(ls bk:List Bs)(hk:m.kind=17)(ht:m.text=yX t)(hx:m.num=x)(hks:m.kids=xG ks)(hn17:ks.length=1)(d:Nat)(hd:d≤1000)
  (hu:∀j (hj:j<ks.length),True→RU w A n c L ks[j] (ls.getD j [])) (hs:vR ls+t.length+vR bk≤1099511627776) (hsz:ks.length≤100000) :
  Calls Tryz.prog 103 #[.slice A n c,.int .i64 (i:Int),.int .i64 (d:Int)] w fun e w'=>e=.returned (.string (yX (xP d 17 t x ls bk)))∧Ext w w':=by
 subst hn hx
 have AX:1≤ks.length:=by omega
 clear hn17;have AI:i<L.length:=(List.getElem?_eq_some_iff.1 hm).1
 have AJ:L[i]=m:=by rw[yG AI] at hm; exact Option.some.inj hm
 obtain⟨tb,tf,hA,AV,hc⟩:=hT.at_ i AI;rw[AJ] at hc
 have AG:m.kids.length=ks.length:=by rw[hks]; simp[xG]
 have AQ:Hid (Cells w m.kA (TT.xD (xG ks))):=yD (by rw[←hks]; exact(hT.ok m (zY hm)).kids)
 have v0:w.cell? ⟨tb,tf+i*5,none⟩=some (.int .u8 17):=by rw[←hk]; exact hc 0 (by decide)
 have v1:w.cell? ⟨tb,tf+i*5+1,none⟩=some (.int .i64 m.pos):=hc 1 (by decide)
 have v2:w.cell? ⟨tb,tf+i*5+2,none⟩=some (.string (yX t)):=by rw[←ht]; exact hc 2 (by decide)
 have v3:w.cell? ⟨tb,tf+i*5+3,none⟩=some (.int .i64 m.num):=hc 3 (by decide)
 have v4:w.cell? ⟨tb,tf+i*5+4,none⟩=some (.slice m.kA ks.length m.kc):=by rw[←AG]; exact hc 4 (by decide)
 clear AG
 have q0:(i:Int)<(L.length:Int):=by omega
 have AL:Hid (∀w,Calls Tryz.prog 146 #[.int .i64 (d:Int)] w fun e w'=>e=.returned (.string (yX (List.replicate d 9)))∧w=w'):=yD fun w=>YI d (by omega) w
 have AU:(yX (List.replicate d 9)).size≤1000:=by rw[bsz,zC]; exact hd
 have AS:(yX t).size≤1099511627776:=by rw[bsz]; omega
 have AM:=yD (hu 0 (by omega) trivial).2
 have AZ:(yX (ls.getD 0 [])).size≤1099511627776:=by rw[bsz]; have:=jF ls 0; omega
 obtain⟨kb,kf,AP,AC,AK⟩:=AQ.out.at_ (by simp[TT.xD,xG]; omega);have E0:Hid (w.cell? ⟨kb,kf,none⟩=some (.int .i64 ((ks[0]'(by omega):Nat):Int))):=yD (by have h:=AK 0 (by simp[TT.xD,xG]; omega); rw[Nat.add_zero] at h; rw[h]; have AR:0<ks.length:=(by omega); simp[TT.xD,xG,AR]);clear hc hT hm hk ht hks hu AJ hs;have AH:=yD AC;clear AK AC;rw[AP] at v4;generalize m.kc=kc at *;generalize m.pos=pos at *;subst hA;generalize hnum:m.num=x at *;generalize ks[0]'(by omega)=k0 at *;have AB:Hid (Ext w (w.alloc (.cells #[.int .u8 17,.int .i64 pos,.string (yX t),.int .i64 x,.slice (some ⟨kb,kf,none⟩) ks.length kc] 100))):=yD (Ext.alloc _ _);have AD:Hid (Blk (w.alloc (.cells #[.int .u8 17,.int .i64 pos,.string (yX t),.int .i64 x,.slice (some ⟨kb,kf,none⟩) ks.length kc] 100)) w.heap.size 100 #[.int .u8 17,.int .i64 pos,.string (yX t),.int .i64 x,.slice (some ⟨kb,kf,none⟩) ks.length kc]):=yD (Blk.new _ _ _)
 have AE:Hid (yX (xP d 17 t x ls bk)=yX (List.replicate d 9)++(yX [101,109,105,116,32]++yX (ls.getD 0 [])++yX [59])++yX [10]):=yD (by
  simp only[←xZ]
  congr 1
  simp[xP,xV,jU])
 go_enter Tryz.func103,Tryz.ntmps103
 go_upto_region 4 with fail
 clear v0 v1 v2 v3 v4 q0;have e0:=(AB.out.cell (p:=⟨kb,kf,none⟩) AH.out).trans E0.out;have AN:=yR AH.out AB.out.size;generalize w.heap.size=gn at *;generalize w.alloc (.cells #[.int .u8 17,.int .i64 pos,.string (yX t),.int .i64 x,.slice (some ⟨kb,kf,none⟩) ks.length kc] 100)=w1 at *;have n0:w1.cell? ⟨gn,0,none⟩=some (.int .u8 17):=AD.out.cell 0;have n2:w1.cell? ⟨gn,2,none⟩=some (.string (yX t)):=AD.out.cell 2;have n3:w1.cell? ⟨gn,3,none⟩=some (.int .i64 x):=AD.out.cell 3;have AO:=AD.out.lt
 have qs:((0:Int)<(ks.length:Int))∧0<ks.length:=by omega
 generalize yX t=tt at *;generalize yX (ls.getD 0 [])=s0 at *;generalize yX (List.replicate d 9)=sa at *;have AF:=AB;clear AF
 have AY:¬(9223372036854775807<5+s0.size):=by omega
 have Ab:¬(9223372036854775807<5+s0.size+1):=by omega
 go_wp2_with fail
 refine(AM.out w1 AB.out).mono ?_;rintro e AT ⟨rfl,AA⟩;have AF:=yD (AB.out.trans AA);clear AA n0 n2 n3 AO e0 AN
 have AW:¬(9223372036854775807<sa.size+(5+s0.size+1)):=by omega
 have Aa:¬(9223372036854775807<sa.size+(5+s0.size+1)+1):=by omega
 go_wp2_with fail
 refine(AL.out _).mono ?_;rintro e wz ⟨rfl,rfl⟩
 go_wp2_with fail
 go_ret;exact⟨by rw[AE.out]; rfl,AF.out⟩
theorem zPk (w:World)(A:Option Addr)(n c:Nat)(L:List TT.xB)(hT:TT.vV w A L)(hn:n=L.length)(i:Nat)(m:TT.xB)(hm:L[i]?=some m)(t:Bs)(x:Int)(ks:List Nat)(ls bk:List Bs)(hk:m.kind=18)(ht:m.text=yX t)(hx:m.num=x)(hks:m.kids=xG ks)(d:Nat)(hd:d≤1000)
  (hu:∀j (hj:j<ks.length),True→RU w A n c L ks[j] (ls.getD j [])) (hs:vR ls+t.length+vR bk≤1099511627776) (hsz:ks.length≤100000) :
  Calls Tryz.prog 103 #[.slice A n c,.int .i64 (i:Int),.int .i64 (d:Int)] w fun e w'=>e=.returned (.string (yX (xP d 18 t x ls bk)))∧Ext w w':=by
 subst hn hx;have AD:i<L.length:=(List.getElem?_eq_some_iff.1 hm).1
 have AE:L[i]=m:=by rw[yG AD] at hm; exact Option.some.inj hm
 obtain⟨tb,tf,hA,AL,hc⟩:=hT.at_ i AD;rw[AE] at hc
 have AC:m.kids.length=ks.length:=by rw[hks]; simp[xG]
 have AM:Hid (Cells w m.kA (TT.xD (xG ks))):=yD (by rw[←hks]; exact(hT.ok m (zY hm)).kids)
 have v0:w.cell? ⟨tb,tf+i*5,none⟩=some (.int .u8 18):=by rw[←hk]; exact hc 0 (by decide)
 have v1:w.cell? ⟨tb,tf+i*5+1,none⟩=some (.int .i64 m.pos):=hc 1 (by decide)
 have v2:w.cell? ⟨tb,tf+i*5+2,none⟩=some (.string (yX t)):=by rw[←ht]; exact hc 2 (by decide)
 have v3:w.cell? ⟨tb,tf+i*5+3,none⟩=some (.int .i64 m.num):=hc 3 (by decide)
 have v4:w.cell? ⟨tb,tf+i*5+4,none⟩=some (.slice m.kA ks.length m.kc):=by rw[←AC]; exact hc 4 (by decide)
 clear AC
 have q0:(i:Int)<(L.length:Int):=by omega
 have AF:Hid (∀w,Calls Tryz.prog 146 #[.int .i64 (d:Int)] w fun e w'=>e=.returned (.string (yX (List.replicate d 9)))∧w=w'):=yD fun w=>YI d (by omega) w
 have AK:(yX (List.replicate d 9)).size≤1000:=by rw[bsz,zC]; exact hd
 have AI:(yX t).size≤1099511627776:=by rw[bsz]; omega
 clear hc hT hm hk ht hks hu AE hs;generalize m.kc=kc at *;generalize m.pos=pos at *;subst hA;generalize hnum:m.num=x at *;have AG:Hid (Ext w (w.alloc (.cells #[.int .u8 18,.int .i64 pos,.string (yX t),.int .i64 x,.slice m.kA ks.length kc] 100))):=yD (Ext.alloc _ _);have AA:Hid (Blk (w.alloc (.cells #[.int .u8 18,.int .i64 pos,.string (yX t),.int .i64 x,.slice m.kA ks.length kc] 100)) w.heap.size 100 #[.int .u8 18,.int .i64 pos,.string (yX t),.int .i64 x,.slice m.kA ks.length kc]):=yD (Blk.new _ _ _)
 have AB:Hid (yX (xP d 18 t x ls bk)=yX (List.replicate d 9)++(yX [114,111,108,108,98,97,99,107,59])++yX [10]):=yD (by
  simp only[←xZ]
  congr 1
  simp[xP,xV,jU])
 go_enter Tryz.func103,Tryz.ntmps103
 go_upto_region 4 with fail
 clear v0 v1 v2 v3 v4 q0;generalize w.heap.size=gn at *;generalize w.alloc (.cells #[.int .u8 18,.int .i64 pos,.string (yX t),.int .i64 x,.slice m.kA ks.length kc] 100)=w1 at *;have n0:w1.cell? ⟨gn,0,none⟩=some (.int .u8 18):=AA.out.cell 0;have n2:w1.cell? ⟨gn,2,none⟩=some (.string (yX t)):=AA.out.cell 2;have n3:w1.cell? ⟨gn,3,none⟩=some (.int .i64 x):=AA.out.cell 3;have AJ:=AA.out.lt
 have qs:True:=by trivial
 generalize yX t=tt at *;generalize yX (List.replicate d 9)=sa at *;have AH:=AG
 have AN:¬(9223372036854775807<sa.size+(9)):=by omega
 have AO:¬(9223372036854775807<sa.size+(9)+1):=by omega
 go_wp2_with fail
 refine(AF.out _).mono ?_;rintro e wz ⟨rfl,rfl⟩
 go_wp2_with fail
 go_ret;exact⟨by rw[AB.out]; rfl,AH.out⟩
theorem zOC (w:World)(A:Option Addr)(n c:Nat)(L:List TT.xB)(hT:TT.vV w A L)(hn:n=L.length)(i:Nat)(m:TT.xB)(hm:L[i]?=some m)(t:Bs)(x:Int)(ks:List Nat)(ls bk:List Bs)(hk:m.kind=19)(ht:m.text=yX t)(hx:m.num=x)(hks:m.kids=xG ks)(d:Nat)(hd:d≤1000)
  (hu:∀j (hj:j<ks.length),True→RU w A n c L ks[j] (ls.getD j [])) (hs:vR ls+t.length+vR bk≤1099511627776) (hsz:ks.length≤100000) :
  Calls Tryz.prog 103 #[.slice A n c,.int .i64 (i:Int),.int .i64 (d:Int)] w fun e w'=>e=.returned (.string (yX (xP d 19 t x ls bk)))∧Ext w w':=by
 subst hn hx;have AD:i<L.length:=(List.getElem?_eq_some_iff.1 hm).1
 have AE:L[i]=m:=by rw[yG AD] at hm; exact Option.some.inj hm
 obtain⟨tb,tf,hA,AL,hc⟩:=hT.at_ i AD;rw[AE] at hc
 have AC:m.kids.length=ks.length:=by rw[hks]; simp[xG]
 have AM:Hid (Cells w m.kA (TT.xD (xG ks))):=yD (by rw[←hks]; exact(hT.ok m (zY hm)).kids)
 have v0:w.cell? ⟨tb,tf+i*5,none⟩=some (.int .u8 19):=by rw[←hk]; exact hc 0 (by decide)
 have v1:w.cell? ⟨tb,tf+i*5+1,none⟩=some (.int .i64 m.pos):=hc 1 (by decide)
 have v2:w.cell? ⟨tb,tf+i*5+2,none⟩=some (.string (yX t)):=by rw[←ht]; exact hc 2 (by decide)
 have v3:w.cell? ⟨tb,tf+i*5+3,none⟩=some (.int .i64 m.num):=hc 3 (by decide)
 have v4:w.cell? ⟨tb,tf+i*5+4,none⟩=some (.slice m.kA ks.length m.kc):=by rw[←AC]; exact hc 4 (by decide)
 clear AC
 have q0:(i:Int)<(L.length:Int):=by omega
 have AF:Hid (∀w,Calls Tryz.prog 146 #[.int .i64 (d:Int)] w fun e w'=>e=.returned (.string (yX (List.replicate d 9)))∧w=w'):=yD fun w=>YI d (by omega) w
 have AK:(yX (List.replicate d 9)).size≤1000:=by rw[bsz,zC]; exact hd
 have AI:(yX t).size≤1099511627776:=by rw[bsz]; omega
 clear hc hT hm hk ht hks hu AE hs;generalize m.kc=kc at *;generalize m.pos=pos at *;subst hA;generalize hnum:m.num=x at *;have AG:Hid (Ext w (w.alloc (.cells #[.int .u8 19,.int .i64 pos,.string (yX t),.int .i64 x,.slice m.kA ks.length kc] 100))):=yD (Ext.alloc _ _);have AA:Hid (Blk (w.alloc (.cells #[.int .u8 19,.int .i64 pos,.string (yX t),.int .i64 x,.slice m.kA ks.length kc] 100)) w.heap.size 100 #[.int .u8 19,.int .i64 pos,.string (yX t),.int .i64 x,.slice m.kA ks.length kc]):=yD (Blk.new _ _ _)
 have AB:Hid (yX (xP d 19 t x ls bk)=yX (List.replicate d 9)++(yX [99,104,111,112,59])++yX [10]):=yD (by
  simp only[←xZ]
  congr 1
  simp[xP,xV,jU])
 go_enter Tryz.func103,Tryz.ntmps103
 go_upto_region 4 with fail
 clear v0 v1 v2 v3 v4 q0;generalize w.heap.size=gn at *;generalize w.alloc (.cells #[.int .u8 19,.int .i64 pos,.string (yX t),.int .i64 x,.slice m.kA ks.length kc] 100)=w1 at *;have n0:w1.cell? ⟨gn,0,none⟩=some (.int .u8 19):=AA.out.cell 0;have n2:w1.cell? ⟨gn,2,none⟩=some (.string (yX t)):=AA.out.cell 2;have n3:w1.cell? ⟨gn,3,none⟩=some (.int .i64 x):=AA.out.cell 3;have AJ:=AA.out.lt
 have qs:True:=by trivial
 generalize yX t=tt at *;generalize yX (List.replicate d 9)=sa at *;have AH:=AG
 have AN:¬(9223372036854775807<sa.size+(5)):=by omega
 have AO:¬(9223372036854775807<sa.size+(5)+1):=by omega
 go_wp2_with fail
 refine(AF.out _).mono ?_;rintro e wz ⟨rfl,rfl⟩
 go_wp2_with fail
 go_ret;exact⟨by rw[AB.out]; rfl,AH.out⟩
end Go.Proofs.YtioffpjajhalaaaGreatDoor
