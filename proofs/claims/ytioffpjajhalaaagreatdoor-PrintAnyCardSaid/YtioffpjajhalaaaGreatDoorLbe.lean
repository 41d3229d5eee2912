/- What is printed of a whole tree, in plain words; one tree of a forest. No program in sight; no condition. (and what follows of it). The conditions stand at each lemma. -/
import Derived.Test.YtioffpjajhalaaaGreatDoorLaa
import Derived.Test.YtioffpjajhalaaaGreatDoorLbb
import Derived.Test.YtioffpjajhalaaaGreatDoorLbd
import Derived.Test.YtioffpjajhalaaaGreatDoorLaf
import Derived.Shelf.RegionOpenPlain
set_option linter.unusedVariables false
set_option linter.unusedSimpArgs false
set_option maxRecDepth 100000
set_option maxHeartbeats 16000000
namespace Go.Proofs.YtioffpjajhalaaaGreatDoor
open Go Go.RowKit
def Fo.inn:Fo→List Bs
 | .nil=>[]
 | .cons k p t x c r=>vB c.txt::r.inn
def zC3 (k:Nat)(t:Bs)(x:Int)(ls inn bk:List Bs):Bs:=
 if k=2 then xV 0 [[116,97,98,108,101,32],t,[40],vB ls,[41,59]]
 else xV 0 [[112,114,111,99,32],t,[40],inn.getD 0 [],[41],jU x [32,123] [32,115,105,110,103,108,101,32,123]]++(bk.getD 1 []++xV 0 [[125]])
def Fo.top:Fo→List Bs
 | .nil=>[]
 | .cons k p t x c r=>zC3 k t x c.txt c.inn ((c.st 1).map Prod.snd)::r.top
theorem zDb:∀(f:Fo) (a:Nat),f.top.length=(f.roots a).length
 | .nil,a=>rfl
 | .cons k p t x c r,a=>by
  show r.top.length+1=(r.roots _).length+1
  rw[zDb r (a+1+c.size)]
def Fo.print (c:Fo):Bs:=c.top.flatten
theorem zEr {L:List TT.xB}:∀(f:Fo) (a:Nat),VE L a f→f.ok 0→∀j (hj:j<(f.roots a).length),∃(k:Nat) (t:Bs) (x:Int) (c':Fo) (m:TT.xB),L[(f.roots a)[j]]?=some m∧m.kind=(k:Int)∧m.num=x∧m.text=yX t∧m.kids=xG (c'.roots ((f.roots a)[j]+1))∧VE L ((f.roots a)[j]+1) c'∧c'.ok 0∧ZY k t x c'.kinds∧c'.wt≤f.wt∧c'.size≤f.size∧f.kinds.getD j 0=k∧f.top.getD j []=zC3 k t x c'.txt c'.inn ((c'.st 1).map Prod.snd)∧f.inn.getD j []=vB c'.txt
 | .nil,a,_,_=>fun j hj=>by cases hj
 | .cons k p t x c r,a,hL,hok=>fun j hj=>by
  obtain⟨⟨m,hm,hk,hx,ht,AB⟩,hc,hr⟩:=hL
  cases j with
  | zero=>exact⟨k,t,x,c,m,hm,hk,hx,zCk ht,AB,hc,hok.2.1,hok.1.1,by show c.wt≤t.length+30+c.wt+r.wt; omega,by show c.size≤1+c.size+r.size; omega,rfl,rfl,rfl⟩
  | succ j=>
   obtain⟨k',t',x',c',m',h1,h2,h3,h4,h5,h6,h7,h8,h9,AE,AA,AD,AC⟩:=zEr r (a+1+c.size) hr hok.2.2 j (Nat.lt_of_succ_lt_succ hj);exact⟨k',t',x',c',m',h1,h2,h3,h4,h5,h6,h7,h8,by show c'.wt≤t.length+30+c.wt+r.wt; omega,by show c'.size≤1+c.size+r.size; omega,AA,AD,AC⟩
theorem zNj (d:Nat)(ps:List Bs)(b:Bs):xV d ps++b≠[]:=fun h=>by
 have:=congrArg List.length h
 rw[yM,XI] at this
 simp at this
theorem zSm (k:Nat)(t:Bs)(x:Int)(ls inn bk:List Bs):zC3 k t x ls inn bk≠[]:=by
 unfold zC3
 split
 ·have:=zNj 0 [[116,97,98,108,101,32],t,[40],vB ls,[41,59]] []
  rwa [List.append_nil] at this
 ·exact zNj _ _ _
theorem zSa {k:Nat}{u:Int}(h:TT.YD u (k:Int)=true)(hu:u=0∨u=5∨u=20∨u=21):k=5∨20≤k:=by
 unfold TT.YD at h
 rcases hu with rfl | rfl | rfl | rfl
 ·rw[if_pos rfl] at h;unfold TT.XH at h;simp only[zF,zE] at h;omega
 all_goals
  rw[if_neg (by decide),zN] at h;omega
theorem zEo {kk:List Nat}{want:List Int}(h:TT.isR (xG kk) want=true)(hw:∀i,i<want.length→want.getD i 0=0∨want.getD i 0=5∨want.getD i 0=20∨want.getD i 0=21)(j:Nat)(hj:j<kk.length):kk.getD j 0=5∨20≤kk.getD j 0:=by
 have hl:=ZF h
 have hl:kk.length=want.length:=by simpa [xG] using hl
 have h1:=zCq h j (by omega);have h3:(xG kk).getD j 0=((kk.getD j 0:Nat):Int):=JY kk j;rw[h3] at h1;exact zSa h1 (hw j (by omega))
theorem zL0 {kk:List Nat}{want:List Int}(h:TT.isR (xG kk) want=true)(hw:∀i,i<want.length→(want.getD i 0=0∨want.getD i 0=5∨want.getD i 0=20∨want.getD i 0=21)∨(want.getD i 0=6∧2≤i))(j:Nat)(hj:j<kk.length):(kk.getD j 0=5∨20≤kk.getD j 0)∨(kk.getD j 0=6∧2≤j):=by
 have hl:=ZF h
 have hl:kk.length=want.length:=by simpa [xG] using hl
 have h1:=zCq h j (by omega);have h3:(xG kk).getD j 0=((kk.getD j 0:Nat):Int):=JY kk j;rw[h3] at h1
 rcases hw j (by omega) with h2 | h2
 ·exact .inl (zSa h1 h2)
 ·right
  rw[h2.1] at h1;unfold TT.YD at h1;rw[if_neg (by decide),zN] at h1;omega
theorem zSJ {k:Nat}{t:Bs}{x:Int}{kk:List Nat}(h:ZY k t x kk)(h7:7≤k)(h19:k≤19)(hn:k≠14)(hn2:k≠15)(j:Nat)(hj:j<kk.length):kk.getD j 0=5∨20≤kk.getD j 0:=by
 have hf:=h.2.2.2
 have hc:k=7∨k=8∨k=9∨k=10∨k=11∨k=12∨k=13∨k=16∨k=17∨k=18∨k=19:=by omega
 rcases hc with rfl | rfl | rfl | rfl | rfl | rfl | rfl | rfl | rfl | rfl | rfl
 ·exact zEo (want:=[20,5]) hf (by decide) j hj
 ·exact zEo (want:=[20,5,0]) hf (by decide) j hj
 ·have hf:(decide (1<(xG kk).length)&&((xG kk).getD 0 0==20&&TT.zAP (xG kk) 1 0))=true:=hf;simp only[zF,zN] at hf
  cases j with
  | zero=>
   have h3:(xG kk).getD 0 0=((kk.getD 0 0:Nat):Int):=JY kk 0
   have:=hf.2.1
   omega
  | succ j=>
   right
   have h4:=hf.2.2;unfold TT.zAP at h4;rw[zG] at h4
   have h5:=h4 ((kk.getD (j+1) 0:Nat):Int) (by
    rw[List.mem_iff_getElem?];refine⟨j,?_⟩;rw[List.getElem?_drop,show 1+j=j+1 by omega,yE,yG hj]
    simp[xG,yG hj])
   have h5:TT.XH ((kk.getD (j+1) 0:Nat):Int)=true:=h5;unfold TT.XH at h5;simp only[zF,zE] at h5;omega
 ·exact zEo (want:=[20]) hf (by decide) j hj
 ·exact zEo (want:=[5,5]) hf (by decide) j hj
 ·exact zEo (want:=[5]) hf (by decide) j hj
 ·have hf:(TT.isR (xG kk) [5]||TT.isR (xG kk) [20])=true:=hf;rw[Bool.or_eq_true] at hf
  rcases hf with hf | hf
  ·exact zEo hf (by decide) j hj
  ·exact zEo hf (by decide) j hj
 ·exact zEo (want:=[0]) hf (by decide) j hj
 ·exact zEo (want:=[0]) hf (by decide) j hj
 ·have hf:((xG kk).length==0)=true:=hf;simp[xG] at hf;subst hf
  cases hj
 ·have hf:((xG kk).length==0)=true:=hf;simp[xG] at hf;subst hf
  cases hj
theorem zRh {k:Nat}{t:Bs}{x:Int}{kk:List Nat}(h:ZY k t x kk)(hn:k=14∨k=15)(j:Nat)(hj:j<kk.length):(kk.getD j 0=5∨20≤kk.getD j 0)∨(kk.getD j 0=6∧2≤j):=by
 have hf:=h.2.2.2
 rcases hn with rfl | rfl
 ·have hf:(TT.isR (xG kk) [0,0,6]||TT.isR (xG kk) [0,0,6,6])=true:=hf;rw[Bool.or_eq_true] at hf
  rcases hf with hf | hf
  ·exact zL0 hf (by decide) j hj
  ·exact zL0 hf (by decide) j hj
 ·exact zL0 (want:=[21,21,6]) hf (by decide) j hj
theorem zRe {k:Nat}{t:Bs}{x:Int}{kk:List Nat}(h:ZY k t x kk)(hn:k=14∨k=15)(j:Nat)(hj:j<kk.length)(h2:2≤j):kk.getD j 0=6:=by
 have hs:=ZK h
 rcases hn with rfl | rfl
 ·have h1:=hs.2.2.2.2.2.2.2.1 rfl
  rcases h1.1 with h3 | h3
  ·obtain rfl:j=2:=by omega
   exact h1.2.1
  ·by_cases h4:j=2
   ·subst h4; exact h1.2.1
   ·obtain rfl:j=3:=by omega
    exact h1.2.2 h3
 ·have h1:=hs.2.2.2.2.2.2.2.2.1 rfl
  obtain rfl:j=2:=by omega
  exact h1.2
def RS (F:Nat)(w:World)(A:Option Addr)(n c:Nat)(i d:Nat)(s:Bs):Prop:=∀w',Ext w w'→Calls Tryz.prog F #[.slice A n c,.int .i64 (i:Int),.int .i64 (d:Int)] w' fun e AA=>e=.returned (.string (yX s))∧Ext w' AA
theorem RS.ext {F:Nat}{w w1:World}{A:Option Addr}{n c i d:Nat}{s:Bs}(h:RS F w A n c i d s)(hx:Ext w w1):RS F w1 A n c i d s:=fun w' AA=>h w' (hx.trans AA)
theorem RU.ext {w w1:World}{A:Option Addr}{n c:Nat}{L:List TT.xB}{i:Nat}{s:Bs}(h:RU w A n c L i s)(hx:Ext w w1):RU w1 A n c L i s:=⟨h.1,fun w' AA=>h.2 w' (hx.trans AA)⟩
theorem zOr (w:World)(A:Option Addr)(n c:Nat)(L:List TT.xB)(hT:TT.vV w A L)(hn:n=L.length)(i:Nat)(m:TT.xB)(hm:L[i]?=some m)(k:Nat)(t:Bs)(x:Int)(ks kk:List Nat)(ls bk:List Bs)(hk:m.kind=(k:Int))(ht:m.text=yX t)(hx:m.num=x)(hks:m.kids=xG ks)(hnk:ZY k t x kk)(hl1:kk.length=ks.length)(hll:ls.length=ks.length)(hcp:m.kids.length≤m.kc)(d:Nat)(hd:d≤1000)(h7:7≤k)(h19:k≤19)
  (hu:∀j (hj:j<ks.length),(kk.getD j 0=5∨20≤kk.getD j 0)→RU w A n c L ks[j] (ls.getD j []))
  (hb:∀j (hj:j<ks.length),kk.getD j 0=6→RS 60 w A n c ks[j] (d+1) (bk.getD j [])) (hs:vR ls+t.length+vR bk≤1099511627776) (hsz:ks.length≤100000) :
  Calls Tryz.prog 103 #[.slice A n c,.int .i64 (i:Int),.int .i64 (d:Int)] w fun e w'=>e=.returned (.string (yX (xP d k t x ls bk)))∧Ext w w':=by
 obtain⟨s7,s8,s9,AK,AJ,AG,AE,AH,AM,AL,AF⟩:=ZK hnk
 have AB:k=7∨k=12∨k=14→m.num=0∨m.num=1:=fun h=>by rw[hx]; exact zDm hnk h
 have AA:k≠14→k≠15→∀j (hj:j<ks.length),True→RU w A n c L ks[j] (ls.getD j []):=fun h1 h2 j hj _=>hu j hj (zSJ hnk h7 h19 h1 h2 j (by omega));have AD:(k=14∨k=15)→∀j (hj:j<ks.length),j<2→RU w A n c L ks[j] (ls.getD j []):=fun h j hj h2=>hu j hj ((zRh hnk h j (by omega)).resolve_right (by omega))
 have AC:(k=14∨k=15)→∀j (hj:j<ks.length),2≤j→RB w A n c ks[j] d (bk.getD j []):=fun h j hj h2 w' AI=>by
  have:=hb j hj (zRe hnk h j (by omega) h2) w' AI
  rw[Int.natCast_add] at this;exact this
 have hc:k=7∨k=8∨k=9∨k=10∨k=11∨k=12∨k=13∨k=14∨k=15∨k=16∨k=17∨k=18∨k=19:=by omega
 rcases hc with rfl | rfl | rfl | rfl | rfl | rfl | rfl | rfl | rfl | rfl | rfl | rfl | rfl
 ·exact zPA w A n c L hT hn i m hm t x ks ls bk hk ht hx hks (AB (.inl rfl)) (by have:=s7 rfl; omega) d hd (AA (by decide) (by decide)) hs hsz
 ·exact zQL w A n c L hT hn i m hm t x ks ls bk hk ht hx hks (by have:=s8 rfl; omega) d hd (AA (by decide) (by decide)) hs hsz
 ·exact zQ9 w A n c L hT hn i m hm t x ks ls bk hk ht hx hks (by have:=s9 rfl; omega) hll hcp d hd (AA (by decide) (by decide)) hs hsz
 ·exact zOb w A n c L hT hn i m hm t x ks ls bk hk ht hx hks (by have:=AK rfl; omega) d hd (AA (by decide) (by decide)) hs hsz
 ·exact zOf w A n c L hT hn i m hm t x ks ls bk hk ht hx hks (by have:=AJ rfl; omega) d hd (AA (by decide) (by decide)) hs hsz
 ·exact zN7 w A n c L hT hn i m hm t x ks ls bk hk ht hx hks (AB (.inr (.inl rfl))) (by have:=AG rfl; omega) d hd (AA (by decide) (by decide)) hs hsz
 ·exact zOH w A n c L hT hn i m hm t x ks ls bk hk ht hx hks (by have:=AE rfl; omega) d hd (AA (by decide) (by decide)) hs hsz
 ·exact zOY w A n c L hT hn i m hm t x ks ls bk hk ht hx hks (AB (.inr (.inr rfl))) (by have:=(AH rfl).1; omega) hll d hd (AD (.inl rfl)) (AC (.inl rfl)) hs hsz
 ·exact zOn w A n c L hT hn i m hm t x ks ls bk hk ht hx hks (by have:=(AM rfl).1; omega) d hd (AD (.inr rfl)) (AC (.inr rfl)) hs hsz
 ·exact zPo w A n c L hT hn i m hm t x ks ls bk hk ht hx hks (by have:=AL rfl; omega) d hd (AA (by decide) (by decide)) hs hsz
 ·exact zOT w A n c L hT hn i m hm t x ks ls bk hk ht hx hks (by have:=AF rfl; omega) d hd (AA (by decide) (by decide)) hs hsz
 ·exact zPk w A n c L hT hn i m hm t x ks ls bk hk ht hx hks d hd (AA (by decide) (by decide)) hs hsz
 ·exact zOC w A n c L hT hn i m hm t x ks ls bk hk ht hx hks d hd (AA (by decide) (by decide)) hs hsz
theorem zHJ:∀ls:List Bs,ls.flatten.length=vR ls
 | []=>rfl
 | a::r=>by
  have:=zHJ r
  simp[vR] at this ⊢
theorem zMw (w:World)(A:Option Addr)(n c:Nat)(L:List TT.xB)(hT:TT.vV w A L)(hn:n=L.length)(i:Nat)(m:TT.xB)(hm:L[i]?=some m)(ks:List Nat)(hks:m.kids=xG ks)(D:Nat)(ls:List Bs)(hl:ls.length=ks.length)(hk:∀j (hj:j<ks.length),RS 103 w A n c ks[j] D (ls.getD j []))(hs:vR ls≤1099511627776)(hsz:ks.length≤100000) :
  Calls Tryz.prog 60 #[.slice A n c,.int .i64 (i:Int),.int .i64 (D:Int)] w fun e w'=>e=.returned (.string (yX ls.flatten))∧Ext w w':=by
 subst hn;have AC:i<L.length:=(List.getElem?_eq_some_iff.1 hm).1
 have AG:L[i]=m:=by rw[yG AC] at hm; exact Option.some.inj hm
 have AF:m.kids.length=ks.length:=by rw[hks]; simp[xG]
 have HT:=yD hT;have AN:=yD AG;have AL:=yD AF;have AM:Hid (Cells w m.kA (TT.xD (xG ks))):=yD (by rw[←hks]; exact(hT.ok m (zY hm)).kids);have HK:=yD hk;have HL:=yD hl;have HS:=yD hs
 have q0:(i:Int)<(L.length:Int):=by omega
 obtain⟨tb,tf,hA,_,_⟩:=hT.at_ i AC;subst hA;clear hT hm AG AF hks hk hl hs
 go_enter Tryz.func60,Tryz.ntmps60
 go_wp2_with fail
 go_loopw [7,8] (fun sv iv wr=>∃j:Nat,j≤ks.length∧iv=.int .i64 j∧sv=.string (yX (ls.take j).flatten)∧Hid (Ext w wr)) (fun _ iv _=>ks.length-(intOf iv).toNat)
 case atStart=>exact⟨0,zT _,rfl,rfl,yD (Ext.refl _)⟩
 case round=>
  obtain⟨j,hj,rfl,rfl,HX⟩:=hrel;obtain⟨wa,rfl⟩:∃wa:World,wa=wr:=⟨_,rfl⟩;obtain⟨AR,AO,hA,AQ,hc⟩:=(HT.out.ext HX.out).at_ i AC;injection hA with hA;injection hA with e1 e2;subst e1 e2;rw[AN.out] at hc
  have v4:wa.cell? ⟨tb,tf+i*5+4,none⟩=some (.slice m.kA ks.length m.kc):=by rw[←AL.out]; exact hc 4 (by decide)
  clear hc
  by_cases AA:j<ks.length
  ·have d0:decide ((j:Int)<(ks.length:Int))=true:=yP (by omega)
   have q1:(j:Int)<(ks.length:Int):=by omega
   obtain⟨kb,kf,AI,_,hc⟩:=(AM.out.ext HX.out).at_ (by simp[TT.xD,xG]; omega);rw[AI] at v4
   have e5:wa.cell? ⟨kb,kf+j,none⟩=some (.int .i64 (ks[j]:Int)):=by
    rw[hc j (by simp[TT.xD,xG]; exact AA)];simp[TT.xD,xG,AA]
   have HC:=yD (HK.out j AA wa HX.out)
   have AE:j<ls.length:=by rw[HL.out]; exact AA
   have AK:Hid ((ls.take (j+1)).flatten=(ls.take j).flatten++ls.getD j []):=yD (by rw[zW AE,yE,yG AE,List.flatten_append,List.flatten_singleton]; rfl)
   have AB:(yX (ls.take j).flatten).size≤1099511627776∧(yX (ls.getD j [])).size≤1099511627776:=by
    rw[bsz,bsz,zHJ];have h2:vR (ls.take j)≤vR ls:=zG1 ls j;have h3:=jF ls j;have h4:=HS.out;omega
   have AD:Hid (yX (ls.take (j+1)).flatten=yX (ls.take j).flatten++yX (ls.getD j [])):=yD (by rw[AK.out,xZ]);obtain⟨s1,s2⟩:=AB;generalize ks[j]=kj at *;generalize yX (ls.getD j [])=sj at *;generalize yX (ls.take j).flatten=sp at *
   have AP:¬(9223372036854775807<sp.size+sj.size):=by omega
   clear hc AI
   go_wp2_with fail
   refine HC.out.mono ?_;rintro e w2 ⟨rfl,AH⟩;have AJ:=yD (HX.out.trans AH);clear AH e5 v4
   go_wp2_with fail
   go_roundw
   case rel=>exact⟨j+1,by omega,by go_num,by rw[AD.out],AJ⟩
   case measure=>simp[intOf]; omega
  ·obtain rfl:j=ks.length:=by omega
   have d0:decide ((ks.length:Int)<(ks.length:Int))=false:=by simp
   have d1:decide (ks.length<ks.length)=false:=by simp
   have HE:Hid (ls.take ks.length=ls):=yD (List.take_of_length_le (by rw[HL.out]; exact zU _))
   go_wp2_with fail
   go_ret;exact⟨by rw[HE.out]; first | rfl | done,HX.out⟩
theorem zSq (l:List Bs):(l.getD 0 []).length+(l.getD 1 []).length+(l.getD 2 []).length+(l.getD 3 []).length≤vR l:=by
 unfold vR
 match l with
 | []=>simp
 | [a]=>simp
 | [a,b]=>simp
 | [a,b,c]=>simp; omega
 | a::b::c::d::r=>simp; omega
theorem zBL (x:Int)(a b:Bs):(jU x a b).length≤a.length+b.length:=by
 unfold jU
 split <;> omega
theorem zGI {p:Prop} [Decidable p] {a b:Bs}{N:Nat}(ha:a.length≤N)(hb:b.length≤N):(if p then a else b).length≤N:=by
 by_cases h:p
 ·rw[if_pos h]; exact ha
 ·rw[if_neg h]; exact hb
theorem zPx (d k:Nat)(t:Bs)(x:Int)(ls bk:List Bs):(xP d k t x ls bk).length≤4*d+100+t.length+2*vR ls+2*ls.length+vR bk:=by
 have h1:=zSq ls;have h2:=zSq bk;have h3:=YS (ls.drop 1);have h4:=zD0 ls 1;rw[List.length_drop] at h3;have p1:=zBL x [59] [32,102,111,114,32,117,112,100,97,116,101,59];have p2:=zBL x [32,115,104,97,114,101,100,59] [32,97,108,108,59];have p3:=zBL x [32,60,32] [32,61,61,32];simp only[zJ,zK] at p1 p2 p3
 have h5:(if 3<ls.length then xV d [[125,32,101,108,115,101,32,123]]++bk.getD 3 [] else []).length≤d+9+(bk.getD 3 []).length:=zGI (by simp[XI] <;> omega) (by simp)
 unfold xP;generalize (if 3<ls.length then xV d [[125,32,101,108,115,101,32,123]]++bk.getD 3 [] else [])=el at *
 repeat' refine zGI ?_ ?_
 all_goals
  try simp only[XI,yM,List.flatten_cons,List.flatten_nil,zJ,zK]
  omega
def Fo.big:Fo→Nat
 | .nil=>0
 | .cons k p t x c r=>(t.length+5000+3*c.wt+c.big)+r.big
theorem zBF:∀f:Fo,30*f.size≤f.wt
 | .nil=>zU _
 | .cons k p t x c r=>by
  have h1:=zBF c;have h2:=zBF r
  show 30*(1+c.size+r.size)≤t.length+30+c.wt+r.wt
  omega
theorem zCK {M:Nat}:∀f:Fo,f.ok M→∀d,d+f.size≤1000→vR ((f.st d).map Prod.fst)≤f.big∧vR ((f.st d).map Prod.snd)≤f.big
 | .nil,_,_,_=>⟨zU _,zU _⟩
 | .cons k p t x c r,hok,d,hd=>by
  have hd:d+(1+c.size+r.size)≤1000:=hd;obtain⟨r1,r2⟩:=zCK r hok.2.2 d (by omega);have c1:=(zCK c hok.2.1 d (by omega)).1;have c2:=(zCK c hok.2.1 (d+1) (by omega)).2;have h1:=zPx d k t x c.txt ((c.st (d+1)).map Prod.snd);have h2:=XU c hok.2.1;have h3:=YU c 0;have h4:=jO c 0;have h5:=zBF c;have h6:=zHJ ((c.st d).map Prod.fst)
  constructor
  ·show(xP d k t x c.txt ((c.st (d+1)).map Prod.snd)).length+vR ((r.st d).map Prod.fst)≤(t.length+5000+3*c.wt+c.big)+r.big
   omega
  ·show((c.st d).map Prod.fst).flatten.length+vR ((r.st d).map Prod.snd)≤(t.length+5000+3*c.wt+c.big)+r.big
   omega
theorem zL4 {W K:Nat}(hK:4*W+5000≤K):∀f:Fo,f.wt≤W→f.big≤f.size*K
 | .nil,_=>zT _
 | .cons k p t x c r,hw=>by
  have hw:t.length+30+c.wt+r.wt≤W:=hw;have h1:=zL4 hK c (by omega);have h2:=zL4 hK r (by omega)
  show(t.length+5000+3*c.wt+c.big)+r.big≤(1+c.size+r.size)*K
  rw[Nat.add_mul,Nat.add_mul];omega
theorem zGN {f:Fo}(hw:f.wt≤1000000)(hs:f.size≤1000):f.big≤10000000000:=by
 have h1:=zL4 (W:=1000000) (K:=4005000) (by decide) f hw;have h2:f.size*4005000≤1000*4005000:=Nat.mul_le_mul_right _ hs;omega
theorem zQM {M:Nat}:∀f:Fo,f.ok M→vR f.inn≤2*f.wt
 | .nil,_=>zU _
 | .cons k p t x c r,hok=>by
  have h0:=zQM r hok.2.2;have h1:=YS c.txt;have h2:=XU c hok.2.1;have h3:=YU c 0;have h4:=jO c 0;have h5:=zBF c
  show(vB c.txt).length+vR r.inn≤2*(t.length+30+c.wt+r.wt)
  omega
theorem zH5 {M:Nat}:∀f:Fo,f.ok M→f.size≤900→f.print.length≤f.big
 | .nil,_,_=>zU _
 | .cons k p t x c r,hok,hs=>by
  have hs:1+c.size+r.size≤900:=hs;have h0:=zH5 r hok.2.2 (by omega);have c2:=(zCK c hok.2.1 1 (by omega)).2;have h1:=YS c.txt;have h2:=XU c hok.2.1;have h3:=YU c 0;have h4:=jO c 0;have h5:=zBF c;have h6:=zQM c hok.2.1;have h7:=jF c.inn 0;have h8:=jF ((c.st 1).map Prod.snd) 1;have p1:=zBL x [32,123] [32,115,105,110,103,108,101,32,123];simp only[zJ,zK] at p1
  show(zC3 k t x c.txt c.inn ((c.st 1).map Prod.snd)++r.top.flatten).length≤(t.length+5000+3*c.wt+c.big)+r.big
  have h0:r.top.flatten.length≤r.big:=h0;rw[yM];unfold zC3
  split
  ·simp only[XI,yM,List.flatten_cons,List.flatten_nil,zJ,zK];omega
  ·simp only[XI,yM,List.flatten_cons,List.flatten_nil,zJ,zK];omega
theorem zHA {L:List TT.xB}:∀(f:Fo) (a:Nat),VE L a f→∀j (hj:j<(f.roots a).length) (y:TT.xB),L[(f.roots a)[j]]?=some y→∀t,y.text=yX t→f.kinds.getD j 0=5→f.txt.getD j []=t
 | .nil,a,_=>fun j hj=>by cases hj
 | .cons k p t0 x c r,a,⟨⟨m,hm,_,_,ht,_⟩,_,hr⟩=>fun j hj y hy t AA h5=>by
  cases j with
  | zero=>
   have h5:k=5:=h5;subst h5;have e:L[a]?=some y:=hy;rw[hm] at e;injection e with e;subst e;rw[AA] at ht
   have ht:t=t0:=by simpa [yX] using ht
   rw[ht]
   rfl
  | succ j=>exact zHA r _ hr j (Nat.lt_of_succ_lt_succ hj) y hy t AA h5
theorem zEs (w:World)(n c:Nat)(A:Option Addr)(L:List TT.xB)(hT:TT.vV w A L)(hpw:PW w)(hn:n=L.length)(hcap:∀x ∈ L,x.kids.length≤x.kc):∀(f:Fo) (a:Nat),VE L a f→f.ok 0→f.wt≤1000000→f.size≤1000→∀d,d+f.size≤1000→∀j (hj:j<(f.roots a).length),
   (7≤f.kinds.getD j 0→f.kinds.getD j 0≤19→RS 103 w A n c (f.roots a)[j] d ((f.st d).getD j ([],[])).1) ∧
   (f.kinds.getD j 0=6→RS 60 w A n c (f.roots a)[j] d ((f.st d).getD j ([],[])).2)
 | .nil,a,_,_,_,_=>fun d hd j hj=>by cases hj
 | .cons k p t x c' r,a,hL,hok,hwt,hsz=>fun d hd j hj=>by
  have hw:t.length+30+c'.wt+r.wt≤1000000:=hwt;have hs:1+c'.size+r.size≤1000:=hsz;have hd:d+(1+c'.size+r.size)≤1000:=hd;obtain⟨⟨m,hm,hk,hx,ht,AC⟩,hc,hr⟩:=hL
  cases j with
  | zero=>
   have AK:=zGN (f:=c') (by omega) (by omega);have AL:=jO c' (a+1);have AB:=zY hm;refine⟨fun h7 AD w' AA=>?_,fun h6 w' AA=>?_⟩
   ·have AF:=XU c' hok.2.1;have AJ:=(zCK c' hok.2.1 (d+1) (by omega)).2;refine zOr w' A n c L (hT.ext AA) hn a m hm k t x (c'.roots (a+1)) c'.kinds c'.txt ((c'.st (d+1)).map Prod.snd) hk (zCk ht) hx AC hok.1.1 (ZR c' _) (YU c' _) (hcap m AB) d (by omega) h7 AD (fun i hi AG=>?_) (fun i hi AE=>?_) (by omega) (by omega)
    ·rcases AG with h5 | AH
     ·obtain⟨k',t',x',c2,y,e1,e2,_,e4,_,_,_,_,_,_,AI,_⟩:=zEr c' (a+1) hc hok.2.1 i hi
      have h6:k'=5:=by rw[←AI]; exact h5
      have h7:c'.txt.getD i []=t':=zHA c' (a+1) hc i hi y e1 t' e4 h5;rw[h7];exact(zGX w A n c L hT hn _ y e1 (by rw[e2,h6]; rfl) t' e4).ext AA
     ·exact(zMf w A n c L hT hn _ _ _ (zDi w n c A L hT hpw hn c' (a+1) hc hok.2.1 (by omega) (by omega) i hi AH) (by omega)).ext AA
    ·have h9:=((zEs w n c A L hT hpw hn hcap c' (a+1) hc hok.2.1 (by omega) (by omega) (d+1) (by omega) i hi).2 AE).ext AA;rw[zBo];exact h9
   ·have h6:k=6:=h6;subst h6;have AM:=(zCK c' hok.2.1 d (by omega)).1;refine zMw w' A n c L (hT.ext AA) hn a m hm (c'.roots (a+1)) AC d ((c'.st d).map Prod.fst) (by rw[yN,zIU c' (a+1) d]) (fun i hi=>?_) (by omega) (by omega);have hb:=zDA hok.1.1 i (by rw[ZR c' (a+1)]; exact hi);have h9:=((zEs w n c A L hT hpw hn hcap c' (a+1) hc hok.2.1 (by omega) (by omega) d (by omega) i hi).1 hb.1 hb.2).ext AA;rw[zKv];exact h9
  | succ j=>
   exact zEs w n c A L hT hpw hn hcap r (a+1+c'.size) hr hok.2.2 (by omega) (by omega) d (by omega) j (Nat.lt_of_succ_lt_succ hj)
theorem zRw {w:World}{B:Nat}{e:TypeId}{n:Nat}{v:Value}{xs:List Value}(h:w.ownsRow B e 1 v n xs):∃A c,v=.slice A n c:=by
 rcases h.2 with ⟨hv,hn⟩ | ⟨g,AA,AB,hv,_⟩
 ·exact⟨none,0,by rw[hv,hn]⟩
 ·exact⟨_,_,hv⟩
theorem zQm (w:World)(B g n c:Nat)(A:Option Addr)(v:Value)(bs:Bs)(d:Nat)(h:PrS w B g A n c v bs d) :
  Calls Tryz.prog 45 #[.pointer (some ⟨g,1,none⟩)] w fun e w'=>e=.returned (.int .i64 (bs.length:Int))∧w=w':=by
 obtain⟨V,k,rfl⟩:=zRw h.own
 have c2:w.cell? ⟨g,2,none⟩=some (.slice V bs.length k):=by obtain⟨ad,hb⟩:=h.any; exact hb.cell 2
 clear h
 go_enter Tryz.func45,Tryz.ntmps45
 go_wp2_with fail
 go_ret;exact⟨rfl,rfl⟩
theorem zRp:Tryz.prog.cellsOf 5=1:=by kernel_rfl
theorem zKn (w:World)(B g n c:Nat)(A:Option Addr)(v:Value)(bs:Bs)(d:Nat)(h:PrS w B g A n c v bs d)(h0:bs≠[]) :
  Calls Tryz.prog 47 #[.pointer (some ⟨g,1,none⟩)] w fun e w'=>e=.returned (.string (yX bs))∧Below B w w':=by
 have AJ:bs.length≠0:=by simpa using h0
 have AC:=h.own
 obtain⟨gb,AA,AB,rfl,AE,hg,AH,AF,AI,AD⟩:∃gb AA AB,v=.slice (some ⟨gb,0,none⟩) bs.length AA∧B≤gb∧w.heap[gb]?=some (.cells AB 5 (0,0))∧bs.length≤AA∧AA≤maxLen∧AB.size=AA*1∧AB.toList.take (bs.length*1)=xL bs:=by
  rcases AC.2 with ⟨_,hz⟩ | ⟨g,AA,AB,hv,r⟩
  ·exact absurd hz AJ
  ·exact⟨g,AA,AB,hv,r⟩
 have c2:w.drew.cell? ⟨g,2,none⟩=some (.slice (some ⟨gb,0,none⟩) bs.length AA):=by obtain⟨ad,hb⟩:=h.any; exact hb.cell 2
 have AM:(Builtin.unsafeSliceData_ #[22] 140 #[.slice (some ⟨gb,0,none⟩) bs.length AA]).run Tryz.prog w.drew=.ok (.pointer (some ⟨gb,0,none⟩)) w.drew:=
  Lib.run_unsafeSliceData_row _ _ _ _ _ _ (by omega)
 have AN:(Builtin.unsafeString_ #[140,3] 9 #[.pointer (some ⟨gb,0,none⟩),.int .i64 bs.length]).run Tryz.prog w.drew=.ok (.string ⟨bs.toArray⟩) (w.drew.freeze ⟨gb,0,none⟩ bs.length):=by
  refine Lib.run_unsafeString_row w.drew 140 3 9 5 Tryz.underlying140 zRp gb AB.size (by have AL:w.drew.heap[gb]?=some (.cells AB 5 (0,0)):=hg; simp[World.shape?,AL]) bs h0 (by omega) (by unfold maxLen at AF; omega) ?_;intro j x hx
  have:=AC.cells (g:=gb) rfl j (.int .u8 x.toNat) (by simp[xL,hx])
  exact this
 have AK:=yD AE;clear h AC hg AI AD AH AF AE h0
 have AG:Tryz.prog.follows .mixedOrders=true:=by kernel_rfl
 go_enter Tryz.func47,Tryz.ntmps47
 go_wp2
 go_region_o
 all_goals (go_wp2; go_ret; exact⟨rfl,Lib.below_freeze (Below.drew (Below.refl B w)) (p:=⟨gb,0,none⟩) AK.out _⟩)
theorem zJM (w:World)(B g n c:Nat)(A:Option Addr)(d:Nat)(h:PrS w B g A n c (.slice none 0 0) [] d) :
  Calls Tryz.prog 47 #[.pointer (some ⟨g,1,none⟩)] w fun e w'=>e=.returned (.string (yX []))∧Below B w w':=by
 have AB:∀W q,(Builtin.unsafeString_ #[140,3] 9 #[.pointer q,.int .i64 0]).run Tryz.prog W=.ok (.string .empty) W:=fun W q=>Lib.run_unsafeString_none W _ _ _ q
 have c2:w.drew.cell? ⟨g,2,none⟩=some (.slice none 0 0):=by obtain⟨ad,hb⟩:=h.any; exact hb.cell 2
 have AC:(Builtin.unsafeSliceData_ #[22] 140 #[.slice none 0 0]).run Tryz.prog w.drew=.ok (.pointer none) w.drew:=rfl;clear h
 have AA:Tryz.prog.follows .mixedOrders=true:=by kernel_rfl
 go_enter Tryz.func47,Tryz.ntmps47
 go_wp2
 go_region_o
 all_goals (go_wp2; go_ret; exact⟨rfl,Below.drew (Below.refl B w)⟩)
end Go.Proofs.YtioffpjajhalaaaGreatDoor
