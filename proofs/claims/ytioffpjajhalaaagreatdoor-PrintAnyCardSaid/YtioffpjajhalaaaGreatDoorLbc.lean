/- interlockref06.Expr of any expression or row, text, list: walked. Condition: uint64pow10 reads as the program's text lays it. -/
import Derived.Test.YtioffpjajhalaaaGreatDoorLaa
import Derived.Test.YtioffpjajhalaaaGreatDoorLay
import Derived.Test.YtioffpjajhalaaaGreatDoorLbb
set_option linter.unusedVariables false
set_option linter.unusedSimpArgs false
set_option maxRecDepth 100000
set_option maxHeartbeats 16000000
namespace Go.Proofs.YtioffpjajhalaaaGreatDoor
open Go Go.RowKit
def RT (w:World)(A:Option Addr)(n c:Nat)(L:List TT.xB)(i k:Nat)(s:Bs):Prop:=∃y,L[i]?=some y∧y.kind=(k:Int)∧∀w',Ext w w'→Calls Tryz.prog 29 #[.slice A n c,.int .i64 (i:Int)] w' fun e AA=>e=.returned (.string (yX s))∧Ext w' AA
theorem zPy {k:Nat}(h:TT.YD 0 (k:Int)=true):21≤k:=by
 unfold TT.YD TT.XH at h;rw[if_pos rfl] at h;simp only[zF,zE] at h;omega
theorem zG1:∀(ls:List Bs) (j:Nat),vR (ls.take j)≤vR ls
 | [],j=>by simp
 | a::r,0=>by simp[vR]
 | a::r,j+1=>by
  have:=zG1 r j
  simp[vR] at this ⊢;omega
theorem zOS {k:Nat}{t:Bs}{x:Int}{kk:List Nat}(h:ZY k t x kk)(h20:20≤k):∀j,j<kk.length→21≤kk.getD j 0:=fun j hj=>by
 obtain⟨_,AB,_,AA⟩:=h
 have one:∀ {want:List Int},(∀u ∈ want,u=0)→TT.isR (xG kk) want=true→21≤kk.getD j 0:=fun {want} hw h=>by
  have hl:=ZF h;have h2:=zCq h j (by rw[←hl]; simpa [xG] using hj)
  have hz:want.getD j 0=0:=by
   rw[yE]
   cases e:want[j]? with
   | none=>rfl
   | some u=>exact hw u (zY e)
  rw[hz] at h2;have h3:(xG kk).getD j 0=((kk.getD j 0:Nat):Int):=JY kk j;rw[h3] at h2;exact(zPy h2)
 have hc:k=20∨k=21∨k=22∨(k=23∨k=24∨k=25)∨k=26:=by omega
 rcases hc with rfl | rfl | rfl | h3 | rfl
 ·exact one (want:=[0]) (by simp) AA
 ·have:(xG kk).length=0:=by
   have:((xG kk).length==0)=true:=AA
   simpa using this
  simp[xG] at this;subst this
  cases hj
 ·have:(xG kk).length=0:=by
   have:((xG kk).length==0)=true:=AA
   simpa using this
  simp[xG] at this;subst this
  cases hj
 ·exact one (want:=[0,0]) (by simp) (by rcases h3 with rfl | rfl | rfl <;> exact AA)
 ·exact one (want:=[0]) (by simp) AA
theorem zDi (w:World)(n c:Nat)(A:Option Addr)(L:List TT.xB)(hT:TT.vV w A L)(hpw:PW w)(hn:n=L.length):∀(f:Fo) (a:Nat),VE L a f→f.ok 0→f.wt≤1099511627776→f.size≤100000→∀j (hj:j<(f.roots a).length),20≤f.kinds.getD j 0→RT w A n c L (f.roots a)[j] (f.kinds.getD j 0) (f.txt.getD j [])
 | .nil,a,_,_,_,_=>fun j hj=>by cases hj
 | .cons k p t x c' r,a,hL,hok,hwt,hsz=>fun j hj AA=>by
  have hw:t.length+30+c'.wt+r.wt≤1099511627776:=hwt;have AF:1+c'.size+r.size≤100000:=hsz;obtain⟨⟨m,hm,hk,hx,ht,AC⟩,hc,hr⟩:=hL
  cases j with
  | zero=>
   refine⟨m,hm,hk,fun w' AB=>?_⟩;have hs:=XU c' hok.2.1;have AE:=jO c' (a+1)
   exact zMH w' A n c L (hT.ext AB) (hpw.ext AB) hn a m hm k t x (c'.roots (a+1)) c'.kinds c'.txt hk (zCk ht) hx AC hok.1.1 AA (ZR c' _) (YU c' _) (fun i hi=>by
    obtain⟨y,h1,h2,h3⟩:=zDi w n c A L hT hpw hn c' (a+1) hc hok.2.1 (by omega) (by omega) i hi (by have:=zOS hok.1.1 AA i (by rw[ZR c' (a+1)]; exact hi); omega)
    exact⟨y,h1,h2,fun w2 AD=>h3 w2 (AB.trans AD)⟩) (by omega) (by omega)
  | succ j=>
   exact zDi w n c A L hT hpw hn r (a+1+c'.size) hr hok.2.2 (by omega) (by omega) j (Nat.lt_of_succ_lt_succ hj) AA
def RU (w:World)(A:Option Addr)(n c:Nat)(L:List TT.xB)(i:Nat)(s:Bs):Prop:=i<L.length∧∀w',Ext w w'→Calls Tryz.prog 102 #[.slice A n c,.int .i64 (i:Int)] w' fun e AA=>e=.returned (.string (yX s))∧Ext w' AA
theorem zGX (w:World)(A:Option Addr)(n c:Nat)(L:List TT.xB)(hT:TT.vV w A L)(hn:n=L.length)(i:Nat)(y:TT.xB)(hy:L[i]?=some y)(hk:y.kind=5)(t:Bs)(ht:y.text=yX t):RU w A n c L i t:=by
 subst hn;have AA:i<L.length:=(List.getElem?_eq_some_iff.1 hy).1;refine⟨AA,fun w' hx=>?_⟩;obtain⟨tb,tf,rfl,_,hc⟩:=(hT.ext hx).at_ i AA
 have AB:L[i]=y:=by rw[yG AA] at hy; exact Option.some.inj hy
 rw[AB] at hc
 have v0:w'.cell? ⟨tb,tf+i*5,none⟩=some (.int .u8 5):=by rw[←hk]; exact hc 0 (by decide)
 have v2:w'.cell? ⟨tb,tf+i*5+2,none⟩=some (.string (yX t)):=by rw[←ht]; exact hc 2 (by decide)
 have q0:(i:Int)<(L.length:Int):=by omega
 clear hc AB hT hy hx
 go_enter Tryz.func102,Tryz.ntmps102
 go_wp2_with fail
 go_ret;exact⟨rfl,Ext.refl _⟩
theorem zMf (w:World)(A:Option Addr)(n c:Nat)(L:List TT.xB)(hT:TT.vV w A L)(hn:n=L.length)(i k:Nat)(s:Bs)(h:RT w A n c L i k s)(hk:k≠5):RU w A n c L i s:=by
 subst hn;obtain⟨y,hy,AE,AB⟩:=h;have AA:i<L.length:=(List.getElem?_eq_some_iff.1 hy).1;refine⟨AA,fun w' hx=>?_⟩;have AD:=yD (AB w' hx);obtain⟨tb,tf,rfl,_,hc⟩:=(hT.ext hx).at_ i AA
 have AC:L[i]=y:=by rw[yG AA] at hy; exact Option.some.inj hy
 rw[AC] at hc
 have v0:w'.cell? ⟨tb,tf+i*5,none⟩=some (.int .u8 (k:Int)):=by rw[←AE]; exact hc 0 (by decide)
 have k5:((k:Int)==5)=false:=beq_eq_false_iff_ne.2 (by omega)
 have q0:(i:Int)<(L.length:Int):=by omega
 clear hc AC hT hy hx AB
 go_enter Tryz.func102,Tryz.ntmps102
 go_wp2_with fail
 refine AD.out.mono ?_;rintro e w2 ⟨rfl,AF⟩
 go_wp2_with fail
 go_ret;exact⟨rfl,AF⟩
theorem zLA (ls:List Bs)(s:Bs):vB (ls++[s])=if ls=[] then s else vB ls++[44,32]++s:=by
 cases ls with
 | nil=>simp[vB,Lib.join_cons,Lib.joinTail]
 | cons a r=>
  rw[if_neg (by simp)];unfold vB;rw[zZ,Lib.join_cons,Lib.join_cons];simp[Lib.joinTail,List.append_assoc]
theorem zIf (w:World)(A:Option Addr)(n c:Nat)(L:List TT.xB)(B:Option Addr)(m d:Nat)(ks:List Nat)(ls:List Bs)(hm:m=ks.length)(hB:Cells w B (TT.xD (xG ks)))(hl:ls.length=ks.length)(hk:∀j (hj:j<ks.length),RU w A n c L ks[j] (ls.getD j []))(hs:vR ls≤1099511627776)(hsz:ks.length≤100000) :
  Calls Tryz.prog 58 #[.slice A n c,.slice B m d] w fun e w'=>e=.returned (.string (yX (vB ls)))∧Ext w w':=by
 subst hm;have HB:=yD hB;have HK:=yD hk;have HL:=yD hl;have HS:=yD hs;clear hB hk hl hs
 go_enter Tryz.func58,Tryz.ntmps58
 go_wp2_with fail
 go_loopw [5,6] (fun sv iv wr=>∃j:Nat,j≤ks.length∧iv=.int .i64 j∧sv=.string (yX (vB (ls.take j)))∧Hid (Ext w wr)) (fun _ iv _=>ks.length-(intOf iv).toNat)
 case atStart=>exact⟨0,zT _,rfl,by simp[vB,Lib.join_nil,yX],yD (Ext.refl _)⟩
 case round=>
  obtain⟨j,hj,rfl,rfl,HX⟩:=hrel;obtain⟨wa,rfl⟩:∃wa:World,wa=wr:=⟨_,rfl⟩
  by_cases AE:j<ks.length
  ·have d0:decide ((j:Int)<(ks.length:Int))=true:=yP (by omega)
   have q0:(j:Int)<(ks.length:Int):=by omega
   obtain⟨kb,kf,rfl,_,hc⟩:=(HB.out.ext HX.out).at_ (by simp[TT.xD,xG]; omega)
   have e5:wa.cell? ⟨kb,kf+j,none⟩=some (.int .i64 (ks[j]:Int)):=by
    rw[hc j (by simp[TT.xD,xG]; exact AE)];simp[TT.xD,xG,AE]
   have AH:=HK.out j AE;have HC:=yD (AH.2 wa HX.out)
   have AG:j<ls.length:=by rw[HL.out]; exact AE
   have HT:Hid (ls.take (j+1)=ls.take j++[ls.getD j []]):=yD (by rw[zW AG,yE,yG AG]; rfl)
   have AL:Hid ((yX (vB (ls.take j))).size≤1099511827776∧(yX (ls.getD j [])).size≤1099511627776):=yD (by
    have h1:=YS (ls.take j);have h2:vR (ls.take j)≤vR ls:=zG1 ls j;have h3:=jF ls j;have h4:=HS.out
    have h5:(ls.take j).length≤100000:=by rw[List.length_take]; omega
    have e1:(yX (vB (ls.take j))).size=(vB (ls.take j)).length:=by simp[yX,ByteArray.size]
    have e2:(yX (ls.getD j [])).size=(ls.getD j []).length:=by simp[yX,ByteArray.size]
    rw[e1,e2]
    exact⟨by omega,by omega⟩)
   have AI:Hid (j=0∨ls.take j≠[]):=yD (by
    by_cases h0:j=0
    ·exact .inl h0
    ·right
     intro h;have h9:=congrArg List.length h;rw[List.length_take,HL.out] at h9;simp only[zK] at h9
     omega)
   have AB:Hid (yX (vB (ls.take (j+1)))=if j=0 then yX (ls.getD j []) else yX (vB (ls.take j))++⟨#[44,32]⟩++yX (ls.getD j [])):=yD (by
    rw[HT.out,zLA]
    by_cases h0:j=0
    ·subst h0;rw[if_pos rfl,if_pos (by simp)]
    ·rw[if_neg h0,if_neg (AI.out.resolve_left h0),xZ,xZ]
     rfl)
   obtain⟨s1,s2⟩:=AL.out;generalize ks[j]=kj at *;generalize yX (ls.getD j [])=sj at *;clear hc AH
   by_cases h0:j=0
   ·subst h0;have AA:=AB.out;rw[if_pos rfl] at AA;have HR:=yD AA;clear AB AA
    have AC:vB (ls.take 0)=[]:=by simp[vB,Lib.join_nil]
    rw[AC] at s1 ⊢;have AJ:yX []=(⟨#[]⟩:ByteArray):=rfl;rw[AJ] at s1 ⊢
    have AK:¬(9223372036854775807<0+sj.size):=by omega
    have AN:¬(9223372036854775807<sj.size):=by omega
    have e6:wa.cell? ⟨kb,kf,none⟩=some (.int .i64 (kj:Int)):=e5
    have g0:decide (((0:Nat):Int) > 0)=false:=by decide
    go_wp2_with fail
    refine HC.out.mono ?_;rintro e w2 ⟨rfl,AD⟩;have AF:=yD (HX.out.trans AD);clear AD e5 e6
    go_wp2_with fail
    go_roundw
    case rel=>exact⟨1,by omega,by go_num,by rw[HR.out]; first | rfl | simp,AF⟩
    case measure=>simp[intOf]; omega
   ·have AA:=AB.out;rw[if_neg h0] at AA;have HR:=yD AA;clear AB AA;have g0:decide ((j:Int) > 0)=true:=yP (by omega);have g1:decide ((0:Int)<(j:Int))=true:=g0;have g2:decide (0<j)=true:=yP (by omega);generalize yX (vB (ls.take j))=sp at *
    have AM:¬(9223372036854775807<sp.size+2):=by omega
    have AK:¬(9223372036854775807<sp.size+2+sj.size):=by omega
    go_wp2_with fail
    refine HC.out.mono ?_;rintro e w2 ⟨rfl,AD⟩;have AF:=yD (HX.out.trans AD);clear AD e5
    go_wp2_with fail
    go_roundw
    case rel=>exact⟨j+1,by omega,by go_num,by rw[HR.out],AF⟩
    case measure=>simp[intOf]; omega
  ·obtain rfl:j=ks.length:=by omega
   have d0:decide ((ks.length:Int)<(ks.length:Int))=false:=by simp
   have d1:decide (ks.length<ks.length)=false:=by simp
   have HE:Hid (ls.take ks.length=ls):=yD (List.take_of_length_le (by rw[HL.out]; exact zU _))
   go_wp2_with fail
   go_ret;exact⟨by rw[HE.out]; rfl,HX.out⟩
end Go.Proofs.YtioffpjajhalaaaGreatDoor
