/- A statement's printed words are read as the same statement. No program in sight; no condition. (and what follows of it). The conditions stand at each lemma. -/
import Derived.Test.YtioffpjajhalaaaGreatDoorJaa
import Derived.Test.YtioffpjajhalaaaGreatDoorJbd
set_option linter.unusedVariables false
set_option linter.unusedSimpArgs false
set_option maxRecDepth 100000
set_option maxHeartbeats 16000000
namespace Go.Proofs.YtioffpjajhalaaaGreatDoor
def br (n k m:Nat):Nat:=if vB k<n then 1+m else m
def vV:List Nat→Nat
 | []=>0
 | a::r=>max a (vV r)
def ZI (k:Nat)(ls kk:List Nat):Nat:=
 if k=26 then 1+br 3 (kk.getD 0 0) (ls.getD 0 0)
 else if k=23∨k=24∨k=25 then max (br (zD3 k) (kk.getD 0 0) (ls.getD 0 0)) (br (zDG k) (kk.getD 1 0) (ls.getD 1 0))
 else if k=20∨k=6 then 1+vV ls
 else vV ls
def Fo.xP:Fo→List Nat
 | .nil=>[]
 | .cons k p t x c r=>ZI k c.xP c.kinds::r.xP
theorem zCt {M:Nat}:∀(e:Ex) (r:Fo),QX M e→(e.fo r).xP=e.dp::r.xP
 | .leaf k p t n,r,q=>by
  rcases q.1 with ⟨rfl,_⟩ | ⟨rfl,_⟩ <;> rfl
 | .neg p a,r,q=>by
  show ZI 26 (a.fo .nil).xP (a.fo .nil).kinds::r.xP=_
  rw[zCt a .nil q.1,ZT]
  rfl
 | .bin k p a b,r,q=>by
  show ZI k (a.fo (b.fo .nil)).xP (a.fo (b.fo .nil)).kinds::r.xP=_
  rw[zCt a _ q.2.1,zCt b _ q.2.2.1,ZT,ZT]
  rcases q.1 with rfl | rfl | rfl <;> rfl
def DN (pre:List Nd)(i k p:Nat)(t:Bs)(x:Int)(c:Fo)(l:List Sk)(d:Nat)(s:Ps):Prop:=∃g:Fo,g.z=c.z∧AtP pre i k p t x g s l d
def zJH (w:Bs)(e:Ex)(r:Fo):Fo:=.cons 20 0 w 0 (e.fo .nil) r
def zDh (w:Bs)(r:Fo):Fo:=.cons 5 0 w 0 .nil r
def zUY (n:Int)(r:Fo):Fo:=.cons 21 0 [] n .nil r
def zCZ (b r:Fo):Fo:=.cons 6 0 [] 0 b r
def zSO (n:Int):Sk:=(2,Lib.itoa n,n)
def vM (c:Fo):List Sk:=(c.stk.map Prod.fst).flatten
section
variable {M:Nat} {pre:List Nd} {i p:Nat} {s:Ps} {r:List Sk} {d:Nat}
theorem zXo {v w u:Bs}{x:Int}{e:Ex}(q:QX M e)(hd:d+(1+e.dp)≤64)(hx:x=0∨x=1)(h:AtP pre i 7 p [] 0 .nil s (kwS v::mk 61::kwS w::mk 91::(e.tk++mk 93::mk 46::kwS u::((if x=1 then [kwS [102,111,114],kwS [117,112,100,97,116,101],mk 59] else [mk 59])++r))) d):RD (zGb i s) (DN pre i 7 p v x (zJH w e (zDh u .nil)) (mk 59::r) d):=
 xZ (zAu h) fun s1 h1=>xZ (YP h1 _ rfl) fun s2 h2=>xZ (zPJ (p3:=0) (p4:=0) q h2 hd) fun s3 ⟨g,hg,h3⟩=>by
  rcases hx with rfl | rfl
  ·have h3:AtP pre i 7 p v 0 g s3 (mk 59::r) d:=h3;rw[if_neg (by rw[h3.is]; exact Bool.false_ne_true)];exact zAS ⟨g,hg,h3⟩
  ·have h3:AtP pre i 7 p v 0 g s3 (kwS [102,111,114]::kwS [117,112,100,97,116,101]::mk 59::r) d:=h3;rw[if_pos (by rw[h3.is]; rfl)];exact xZ (YP h3.adv _ rfl) fun s4 h4=>zAS ⟨g,hg,h4.num 1⟩
theorem zWL {w u:Bs}{e e2:Ex}(q:QX M e)(q2:QX M e2)(hd:d+(1+e.dp)≤64)(hd2:d+e2.dp≤64)(h:AtP pre i 8 p [] 0 .nil s (kwS w::mk 91::(e.tk++mk 93::mk 46::kwS u::mk 61::(e2.tk++mk 59::r))) d):RD (zL4 i s) (DN pre i 8 p [] 0 (zJH w e (zDh u (e2.fo .nil))) (mk 59::r) d):=
 xZ (zPJ (p3:=0) (p4:=0) q h hd) fun s1 ⟨g,hg,h1⟩=>xZ (YP h1 _ rfl) fun s2 h2=>vN (zCj q2 h2 hd2 ⟨rfl,rfl,rfl⟩) fun s3 h3=>by
  obtain⟨g2,AA,h4⟩:=h3.behind hg;exact⟨g2,AA,h4⟩
theorem zXd {w:Bs}{e:Ex}{k2 p2:Nat}{t2:Bs}{x2:Int}{c2 c:Fo}(q:QX M e)(hd:d+(1+e.dp)≤64)(ha:zRr (XC i) pre i 9 p [] 0 d (.cons k2 p2 t2 x2 c2 c))(h:AtP pre i 9 p [] 0 .nil s (kwS w::mk 91::(e.tk++mk 93::mk 40::(ZX (Fo.cons k2 p2 t2 x2 c2 c).tok++mk 41::mk 59::r))) d):RD (zCm i s) (DN pre i 9 p [] 0 (zJH w e (.cons k2 p2 t2 x2 c2 c)) (mk 59::r) d):=
 xZ (zOr (p3:=0) q h hd) fun s1 ⟨g,hg,h1⟩=>xZ (YP h1 _ rfl) fun s2 h2=>xZ (zLO ha h2 ⟨rfl,rfl,rfl⟩ rfl) fun s3 h3=>by
  obtain⟨g2,AA,h4⟩:=h3.behind hg;exact vN (YP h4 _ rfl) fun s4 h5=>⟨g2,AA,h5⟩
theorem zWc {w:Bs}{e:Ex}(q:QX M e)(hd:d+(1+e.dp)≤64)(h:AtP pre i 10 p [] 0 .nil s (kwS w::mk 91::(e.tk++mk 93::mk 59::r)) d):RD (zEn i s) (DN pre i 10 p [] 0 (zJH w e .nil) (mk 59::r) d):=
 vN (zOr (p3:=0) q h hd) fun s1 ⟨g,hg,h1⟩=>⟨g,hg,h1⟩
theorem zWq {v w u:Bs}(h:AtP pre i 11 p [] 0 .nil s (kwS v::mk 61::kwS w::mk 46::kwS u::mk 59::r) d):RD (zFH i s) (DN pre i 11 p v 0 (zDh w (zDh u .nil)) (mk 59::r) d):=
 xZ (zAu h) fun s1 h1=>xZ (YP h1 _ rfl) fun s2 h2=>xZ (zGi (p3:=0) h2) fun s3 ⟨g,hg,h3⟩=>xZ (YP h3 _ rfl) fun s4 h4=>vN (zGi (p3:=0) h4) fun s5 h5=>by
  obtain⟨g2,AA,h6⟩:=h5.behind hg;exact⟨g2,AA,h6⟩
theorem zVI {w:Bs}{x:Int}(hx:x=0∨x=1)(h:AtP pre i 12 p [] 0 .nil s (kwS w::((if x=1 then [kwS [97,108,108],mk 59] else [kwS [115,104,97,114,101,100],mk 59])++r)) d):RD (zFR i s) (DN pre i 12 p [] x (zDh w .nil) (mk 59::r) d):=
 xZ (zGi (p3:=0) h) fun s3 ⟨g,hg,h3⟩=>by
  rcases hx with rfl | rfl
  ·have h3:AtP pre i 12 p [] 0 g s3 (kwS [115,104,97,114,101,100]::mk 59::r) d:=h3;rw[if_neg (by rw[h3.is]; exact Bool.false_ne_true)];exact vN (YP h3 _ rfl) fun s4 h4=>⟨g,hg,h4⟩
  ·have h3:AtP pre i 12 p [] 0 g s3 (kwS [97,108,108]::mk 59::r) d:=h3;rw[if_pos (by rw[h3.is]; rfl)];exact zAS ⟨g,hg,h3.adv.num 1⟩
theorem zUt {w:Bs}(h:AtP pre i 13 p [] 0 .nil s (kwS w::mk 59::r) d):RD (zAw i s) (DN pre i 13 p [] 0 (zDh w .nil) (mk 59::r) d):=
 xZ (zAu (h.xB 5)) fun s1 h1=>by
  rw[if_neg (by rw[h1.is]; exact Bool.false_ne_true)];obtain⟨g,hg,h2⟩:=AtP.gg (p3:=0) (c:=.nil) h1 h.len rfl;exact zAS ⟨g,hg,h2⟩
theorem zTT {w:Bs}{e:Ex}(q:QX M e)(hd:d+(1+e.dp)≤64)(h:AtP pre i 13 p [] 0 .nil s (kwS w::mk 91::(e.tk++mk 93::mk 59::r)) d):RD (zAw i s) (DN pre i 13 p [] 0 (zJH w e .nil) (mk 59::r) d):=
 xZ (zAu (h.xB 5)) fun s1 h1=>by
  rw[if_pos (by rw[h1.is]; rfl)];refine vN (rd_key q (h1.kind 20) hd) fun s2 ⟨g,hg,h2⟩=>?_;obtain⟨g2,AA,h3⟩:=AtP.gg (p3:=0) h2 h.len hg;exact⟨g2,AA,h3⟩
theorem zWB {v:Bs}{e:Ex}(q:QX M e)(hd:d+e.dp≤64)(h:AtP pre i 16 p [] 0 .nil s (kwS v::mk 61::(e.tk++mk 59::r)) d):RD (zLI i s) (DN pre i 16 p v 0 (e.fo .nil) (mk 59::r) d):=
 xZ (zAu h) fun s1 h1=>xZ (YP h1 _ rfl) fun s2 h2=>vN (zCj q h2 hd ⟨rfl,rfl,rfl⟩) fun s3 ⟨g,hg,h3⟩=>⟨g,hg,h3⟩
theorem zV9 {e:Ex}(q:QX M e)(hd:d+e.dp≤64)(h:AtP pre i 17 p [] 0 .nil s (e.tk++mk 59::r) d):RD (XC i s) (DN pre i 17 p [] 0 (e.fo .nil) (mk 59::r) d):=
 vN (zCj q h hd ⟨rfl,rfl,rfl⟩) fun s3 ⟨g,hg,h3⟩=>⟨g,hg,h3⟩
theorem zSv {k:Nat}(h:AtP pre i k p [] 0 .nil s (mk 59::r) d):RD (zTu s) (DN pre i k p [] 0 .nil (mk 59::r) d):=zAS ⟨.nil,rfl,h⟩
def zIB (n:Nat)(c:Fo):Prop:=∀ ⦃pre:List Nd⦄ ⦃i k p:Nat⦄ ⦃t:Bs⦄ ⦃x:Int⦄ ⦃f:Fo⦄ ⦃s:Ps⦄ ⦃r:List Sk⦄ ⦃d:Nat⦄,AtP pre i k p t x f s (mk 123::(vM c++mk 125::r)) d→d+(1+vV c.xP)≤64→RD (XN (jO n) i s) (GG pre i k p t x f (zCZ c .nil) r d)
theorem zQf {k:Nat}{t:Bs}{f:Fo}{x:Int}(hx:x=0∨x=1)(h:AtP pre i k p t 0 f s ((if x=1 then [((3,[61,61],0):Sk)] else [mk 60])++r) d):RD (zCN i s) (AtP pre i k p t x f · r d):=by
 unfold zCN
 rcases hx with rfl | rfl
 ·have h:AtP pre i k p t 0 f s (mk 60::r) d:=h;rw[if_neg (by rw[h.is]; exact Bool.false_ne_true)];exact YP h _ rfl
 ·have h:AtP pre i k p t 0 f s ((3,[61,61],0)::r) d:=h;rw[if_pos (by rw[h.is]; rfl)];exact zAS (h.adv.num 1)
theorem zMF {x:Int}(hx:x=0∨x=1)(r:List Sk):zOm ((if x=1 then [((3,[61,61],0):Sk)] else [mk 60])++r):=by
 rcases hx with rfl | rfl <;> exact⟨rfl,rfl,rfl⟩
theorem zUj {n:Nat}{x:Int}{e e2:Ex}{b:Fo}(q:QX M e)(q2:QX M e2)(hx:x=0∨x=1)(hd:d+e.dp≤64)(hd2:d+e2.dp≤64)(hb:zIB n b)(hdb:d+(1+vV b.xP)≤64)(hel:isK [101,108,115,101] r=false)(h:AtP pre i 14 p [] 0 .nil s (e.tk++((if x=1 then [((3,[61,61],0):Sk)] else [mk 60])++(e2.tk++mk 123::(vM b++mk 125::r)))) d):RD (zAx (jO n) i s) (DN pre i 14 p [] x (e.fo (e2.fo (zCZ b .nil))) r d):=
 xZ (zCj q h hd (zMF hx _)) fun s1 ⟨g,hg,h1⟩=>xZ (zQf hx h1) fun s2 h2=>xZ (zCj q2 h2 hd2 ⟨rfl,rfl,rfl⟩) fun s3 ⟨g3,hg3,h3⟩=>xZ (hb h3 hdb) fun s4 ⟨g4,hg4,h4⟩=>by
  unfold zC4;rw[if_neg (by rw[h4.is,hel]; exact Bool.false_ne_true)];refine zAS ⟨((Fo.nil.app g).app g3).app g4,?_,h4⟩;rw[zAk,zAk,zAk,hg,hg3,hg4,←zAk,←zAk,←zAk,show Fo.nil.app (e.fo .nil)=e.fo .nil from rfl,zC0,zC0];rw[show Fo.nil.app (e2.fo .nil)=e2.fo .nil from rfl,zC0]
  rfl
theorem zTV {n:Nat}{x:Int}{e e2:Ex}{b b2:Fo}(q:QX M e)(q2:QX M e2)(hx:x=0∨x=1)(hd:d+e.dp≤64)(hd2:d+e2.dp≤64)(hb:zIB n b)(hdb:d+(1+vV b.xP)≤64)(hb2:zIB n b2)(hdb2:d+(1+vV b2.xP)≤64)(h:AtP pre i 14 p [] 0 .nil s (e.tk++((if x=1 then [((3,[61,61],0):Sk)] else [mk 60])++(e2.tk++mk 123::(vM b++mk 125::kwS [101,108,115,101]::mk 123::(vM b2++mk 125::r))))) d):RD (zAx (jO n) i s) (DN pre i 14 p [] x (e.fo (e2.fo (zCZ b (zCZ b2 .nil)))) r d):=
 xZ (zCj q h hd (zMF hx _)) fun s1 ⟨g,hg,h1⟩=>xZ (zQf hx h1) fun s2 h2=>xZ (zCj q2 h2 hd2 ⟨rfl,rfl,rfl⟩) fun s3 ⟨g3,hg3,h3⟩=>xZ (hb h3 hdb) fun s4 ⟨g4,hg4,h4⟩=>by
  unfold zC4;rw[if_pos (by rw[h4.is]; rfl)];refine vN (hb2 h4.adv hdb2) fun s5 ⟨g5,hg5,h5⟩=>⟨(((Fo.nil.app g).app g3).app g4).app g5,?_,h5⟩;rw[zAk,zAk,zAk,zAk,hg,hg3,hg4,hg5,←zAk,←zAk,←zAk,←zAk,show Fo.nil.app (e.fo .nil)=e.fo .nil from rfl,zC0,zC0,zC0];rw[show Fo.nil.app (e2.fo .nil)=e2.fo .nil from rfl,zC0,zC0]
  rfl
theorem zWj {n:Nat}{v:Bs}{a c:Int}{b:Fo}(hb:zIB n b)(hdb:d+(1+vV b.xP)≤64)(h:AtP pre i 15 p [] 0 .nil s (kwS v::mk 61::zSO a::kwS [116,111]::zSO c::mk 123::(vM b++mk 125::r)) d):RD (zDC (jO n) i s) (DN pre i 15 p v 0 (zUY a (zUY c (zCZ b .nil))) r d):=
 xZ (zAu h) fun s1 h1=>xZ (YP h1 _ rfl) fun s2 h2=>xZ (zKt (p3:=0) h2) fun s3 ⟨g3,hg3,h3⟩=>xZ (YP h3 _ rfl) fun s4 h4=>xZ (zKt (p3:=0) h4) fun s5 ⟨g5,hg5,h5⟩=>vN (hb h5 hdb) fun s6 ⟨g6,hg6,h6⟩=>by
  refine⟨((Fo.nil.app g3).app g5).app g6,?_,h6⟩;rw[zAk,zAk,zAk,hg3,hg5,hg6]
  rfl
theorem VD {n k k2:Nat}{t:Bs}{x:Int}{f:Fo}{w:Bs}{l:List Sk}{t2:Bs}{x2:Int}{c:Fo}{p3:Nat}(h:AtP pre i k p t x f s (kwS w::l) d)(hw:jN w=some k2)
  (hb:∀ {pre:List Nd} {i p:Nat} {s:Ps},AtP pre i k2 p [] 0 .nil s l d→RD (YO (jO n) k2 i s) (DN pre i k2 p t2 x2 c (if k2=14∨k2=15 then r else mk 59::r) d)) :
  RD (jO (n+1) i s) (GG pre i k p t x f (Fo.one k2 p3 t2 x2 c) r d):=by
 have hh:s.hd.sk=kwS w:=h.ss.hd;have hk:s.hd.kind=1:=congrArg Prod.fst hh;have ht:s.hd.text=w:=congrArg (fun u:Sk=>u.2.1) hh;rw[jO,if_pos hk,ht,hw];refine xZ (hb (h.xB k2).adv) fun s1 ⟨g,hg,h1⟩=>?_
 split
 ·rename_i hc;rw[if_pos hc] at h1;exact zAS (h1.gg h.len hg)
 ·rename_i hc;rw[if_neg hc] at h1;exact vN (YP h1 _ rfl) fun s2 h2=>h2.gg h.len hg
end
theorem GG.congr {pre:List Nd}{i k p:Nat}{t:Bs}{x:Int}{f c c2:Fo}{l:List Sk}{d:Nat}{s:Ps}(h:GG pre i k p t x f c l d s)(e:c.z=c2.z):GG pre i k p t x f c2 l d s:=by
 obtain⟨g,h1,h2⟩:=h;exact⟨g,h1.trans e,h2⟩
section
variable {M k p:Nat} {t:Bs} {x:Int} {c r:Fo}
theorem zGD (h:(Fo.cons 20 p t x c r).ok M):∃e,QX M e∧c=e.fo .nil∧x=0∧zCX 20 t x c.tok c.kinds=kwS t::mk 91::(e.tk++[mk 93])∧ZI 20 c.xP c.kinds=1+e.dp:=by
 obtain⟨⟨⟨_,_,hw,AA⟩,hp⟩,hc,_⟩:=h;obtain⟨w1,w2,w3⟩:=vD hw;obtain rfl:=zBc (k:=20) (by decide) w3;obtain⟨k1,p1,t1,x1,c1,rfl,ha⟩:=zDR (f:=c) (a:=0) AA;obtain⟨e,q,_,fe⟩:=zGh _ _ (zU _) hc _ _ _ _ _ _ rfl (JF ha);refine⟨e,q,fe .nil,rfl,?_,?_⟩
 ·rw[fe,zEx e _ q,ZT]
  show([kwS t,mk 91]++e.tk)++[mk 93]=_
  rfl
 ·rw[fe,zCt e _ q,ZT]
  show 1+max e.dp 0=_
  omega
theorem zDx (h:(Fo.cons 5 p t x c r).ok M):c=.nil∧x=0:=by
 obtain⟨⟨⟨_,_,hw,AA⟩,hp⟩,hc,_⟩:=h;obtain⟨w1,w2,w3⟩:=vD hw;have h0:((xK c.kinds).length==0)=true:=AA;exact⟨VN (f:=c) (by simpa [xK] using h0),zBc (k:=5) (by decide) w3⟩
theorem zTC (h:(Fo.cons 21 p t x c r).ok M):c=.nil∧t=[]:=by
 obtain⟨⟨⟨_,_,hw,AA⟩,hp⟩,hc,_⟩:=h;obtain⟨w1,w2,w3⟩:=vD hw;have h0:((xK c.kinds).length==0)=true:=AA;exact⟨VN (f:=c) (by simpa [xK] using h0),w2 (by decide)⟩
theorem zE3 (h:(Fo.cons 6 p t x c r).ok M):t=[]∧x=0∧c.ok M∧∀j,j<c.kinds.length→7≤c.kinds.getD j 0∧c.kinds.getD j 0≤19:=by
 obtain⟨⟨hk,hp⟩,hc,_⟩:=h;obtain⟨w1,w2,w3⟩:=vD hk.2.2.1;exact⟨w2 (by decide),zBc (k:=6) (by decide) w3,hc,fun j hj=>zI0 hk j hj⟩
theorem zDV (h:(Fo.cons k p t x c r).ok M)(hE:isE k):∃e,QX M e∧(∀r',Fo.cons k p t x c r'=e.fo r')∧zCX k t x c.tok c.kinds=e.tk∧ZI k c.xP c.kinds=e.dp:=by
 obtain⟨e,q,_,fe⟩:=zGh _ _ (zU _) h _ _ _ _ _ _ rfl hE;have h1:=congrArg Fo.tok (fe .nil);have h2:=congrArg Fo.xP (fe .nil);rw[zEx e _ q] at h1;rw[zCt e _ q] at h2;exact⟨e,q,fe,(List.cons.inj h1).1,(List.cons.inj h2).1⟩
end
theorem zM0 {M:Nat}{pre:List Nd}{i k p:Nat}{t:Bs}{x:Int}{d:Nat}:∀(c:Fo),c.ok M→(∀j,j<c.kinds.length→isE (c.kinds.getD j 0))→d+vV c.xP≤64→zRr (XC i) pre i k p t x d c
 | .nil,_,_,_=>trivial
 | .cons k2 p2 t2 x2 c2 r,h,hk,hd=>by
  obtain⟨e,q,fe,ht,hn⟩:=zDV h (hk 0 (Nat.zero_lt_succ _));have hd:d+max (ZI k2 c2.xP c2.kinds) (vV r.xP)≤64:=hd;refine⟨fun f s l h1 hl=>?_,zM0 r h.2.2 (fun j hj=>hk (j+1) (Nat.succ_lt_succ hj)) (by omega)⟩;rw[ht] at h1;rw[fe];exact zCj q h1 (by omega) hl
theorem zGz {M:Nat}{pre:List Nd}{i k p:Nat}{t:Bs}{x:Int}{d:Nat}:∀(c:Fo),c.ok M→(∀j,j<c.kinds.length→c.kinds.getD j 0=5)→zRr (JN i) pre i k p t x d c
 | .nil,_,_=>trivial
 | .cons k2 p2 t2 x2 c2 r,h,hk=>by
  obtain rfl:k2=5:=hk 0 (Nat.zero_lt_succ _);obtain⟨rfl,rfl⟩:=zDx h;exact⟨fun f s l h1 hl=>zGi h1,zGz r h.2.2 (fun j hj=>hk (j+1) (Nat.succ_lt_succ hj))⟩
def StC (n k2:Nat)(t2:Bs)(x2:Int)(c2:Fo):Prop:=∀ ⦃pre:List Nd⦄ ⦃i k p:Nat⦄ ⦃t:Bs⦄ ⦃x:Int⦄ ⦃f:Fo⦄ ⦃s:Ps⦄ ⦃r:List Sk⦄ ⦃d:Nat⦄,AtP pre i k p t x f s (jS k2 t2 x2 c2.tok (c2.stk.map Prod.snd)++r) d→d+ZI k2 c2.xP c2.kinds≤64→isK [101,108,115,101] r=false→RD (jO n i s) (GG pre i k p t x f (Fo.one k2 0 t2 x2 c2) r d)
theorem zXh {M n:Nat}{t2:Bs}{x2:Int}{c2:Fo}(hk:xU 7 t2 x2 c2.kinds)(hc:c2.ok M):StC (n+1) 7 t2 x2 c2:=by
 obtain⟨_,_,hw,AA⟩:=hk;obtain⟨w1,w2,w3⟩:=vD hw
 have hx:x2=0∨x2=1:=by have hm:TT.XP ((7:Nat):Int)=1:=rfl; omega
 obtain⟨k1,p1,w,x1,c1,k3,p3,u,x3,c3,rfl,ha,hb⟩:=zG0 (f:=c2) (a:=20) (b:=5) AA;obtain rfl:=ZF (w:=20) (by decide) ha;obtain rfl:=ZF (w:=5) (by decide) hb;obtain⟨e,q,rfl,rfl,ht,hn⟩:=zGD hc;obtain⟨rfl,rfl⟩:=zDx hc.2.2;intro pre i k p t x f s r d h hd AB;have hd:d+max (ZI 20 (e.fo .nil).xP (e.fo .nil).kinds) (max 0 0)≤64:=hd;refine vN (VD (p3:=0) (c:=zJH w e (zDh u .nil)) (w:=[114,101,97,100]) (l:=kwS t2::mk 61::kwS w::mk 91::(e.tk++mk 93::mk 46::kwS u::((if x2=1 then [kwS [102,111,114],kwS [117,112,100,97,116,101],mk 59] else [mk 59])++r))) ?_ rfl fun h1=>zXo q (by omega) hx h1) fun s1 h1=>h1.congr rfl;have h2:=h
 simpa [jS,Fo.tok,Fo.stk,ht,show zCX 5 u 0 [] []=[kwS u] from rfl,Fo.kinds,List.append_assoc] using h
theorem zWN {M n:Nat}{t2:Bs}{x2:Int}{c2:Fo}(hk:xU 8 t2 x2 c2.kinds)(hc:c2.ok M):StC (n+1) 8 t2 x2 c2:=by
 obtain⟨_,_,hw,AA⟩:=hk;obtain⟨w1,w2,w3⟩:=vD hw;obtain rfl:x2=0:=zBc (k:=8) (by decide) w3;obtain rfl:t2=[]:=w2 (by decide);obtain⟨k1,p1,w,x1,c1,k3,p3,u,x3,c3,k4,p4,t4,x4,c4,rfl,ha,hb,hg⟩:=zOL (f:=c2) (a:=20) (b:=5) (d:=0) AA;obtain rfl:=ZF (w:=20) (by decide) ha;obtain rfl:=ZF (w:=5) (by decide) hb;obtain⟨e,q,rfl,rfl,ht,hn⟩:=zGD hc;obtain⟨rfl,rfl⟩:=zDx hc.2.2;obtain⟨e2,q2,AC,AB,AD⟩:=zDV hc.2.2.2.2 (JF hg);intro pre i k p t x f s r d h hd AE;have hd:d+max (ZI 20 (e.fo .nil).xP (e.fo .nil).kinds) (max 0 (max (ZI k4 c4.xP c4.kinds) 0))≤64:=hd;refine vN (VD (p3:=0) (c:=zJH w e (zDh u (e2.fo .nil))) (w:=[115,101,116]) (l:=kwS w::mk 91::(e.tk++mk 93::mk 46::kwS u::mk 61::(e2.tk++mk 59::r))) ?_ rfl fun h1=>zWL q q2 (by omega) (by omega) h1) fun s1 h1=>h1.congr (by show Fo.cons 8 0 [] 0 (zJH w e (zDh u (e2.fo .nil))).z .nil=_; rw[←AC]; rfl);have h2:=h
 simpa [jS,Fo.tok,Fo.stk,ht,AB,show zCX 5 u 0 [] []=[kwS u] from rfl,Fo.kinds,List.append_assoc] using h
theorem zVx {M n:Nat}{t2:Bs}{x2:Int}{c2:Fo}(hk:xU 10 t2 x2 c2.kinds)(hc:c2.ok M):StC (n+1) 10 t2 x2 c2:=by
 obtain⟨_,_,hw,AA⟩:=hk;obtain⟨w1,w2,w3⟩:=vD hw;obtain rfl:x2=0:=zBc (k:=10) (by decide) w3;obtain rfl:t2=[]:=w2 (by decide);obtain⟨k1,p1,w,x1,c1,rfl,ha⟩:=zDR (f:=c2) (a:=20) AA;obtain rfl:=ZF (w:=20) (by decide) ha;obtain⟨e,q,rfl,rfl,ht,hn⟩:=zGD hc;intro pre i k p t x f s r d h hd AB;have hd:d+max (ZI 20 (e.fo .nil).xP (e.fo .nil).kinds) 0≤64:=hd;refine vN (VD (p3:=0) (c:=zJH w e .nil) (w:=[100,101,108,101,116,101]) (l:=kwS w::mk 91::(e.tk++mk 93::mk 59::r)) ?_ rfl fun h1=>zWc q (by omega) h1) fun s1 h1=>h1.congr rfl;have h2:=h
 simpa [jS,Fo.tok,Fo.stk,ht,List.append_assoc] using h
theorem zVK {M n:Nat}{t2:Bs}{x2:Int}{c2:Fo}(hk:xU 11 t2 x2 c2.kinds)(hc:c2.ok M):StC (n+1) 11 t2 x2 c2:=by
 obtain⟨_,_,hw,AA⟩:=hk;obtain⟨w1,w2,w3⟩:=vD hw;obtain rfl:x2=0:=zBc (k:=11) (by decide) w3;obtain⟨k1,p1,w,x1,c1,k3,p3,u,x3,c3,rfl,ha,hb⟩:=zG0 (f:=c2) (a:=5) (b:=5) AA;obtain rfl:=ZF (w:=5) (by decide) ha;obtain rfl:=ZF (w:=5) (by decide) hb;obtain⟨rfl,rfl⟩:=zDx hc;obtain⟨rfl,rfl⟩:=zDx hc.2.2;intro pre i k p t x f s r d h hd AB;refine vN (VD (p3:=0) (c:=zDh w (zDh u .nil)) (w:=[115,99,97,110]) (l:=kwS t2::mk 61::kwS w::mk 46::kwS u::mk 59::r) ?_ rfl fun h1=>zWq h1) fun s1 h1=>h1.congr rfl;have h2:=h
 simpa [jS,Fo.tok,Fo.stk,zCX,List.append_assoc] using h
theorem zVw {M n:Nat}{t2:Bs}{x2:Int}{c2:Fo}(hk:xU 12 t2 x2 c2.kinds)(hc:c2.ok M):StC (n+1) 12 t2 x2 c2:=by
 obtain⟨_,_,hw,AA⟩:=hk;obtain⟨w1,w2,w3⟩:=vD hw
 have hx:x2=0∨x2=1:=by have hm:TT.XP ((12:Nat):Int)=1:=rfl; omega
 obtain rfl:t2=[]:=w2 (by decide);obtain⟨k1,p1,w,x1,c1,rfl,ha⟩:=zDR (f:=c2) (a:=5) AA;obtain rfl:=ZF (w:=5) (by decide) ha;obtain⟨rfl,rfl⟩:=zDx hc;intro pre i k p t x f s r d h hd AB;refine vN (VD (p3:=0) (c:=zDh w .nil) (w:=[108,111,99,107]) (l:=kwS w::((if x2=1 then [kwS [97,108,108],mk 59] else [kwS [115,104,97,114,101,100],mk 59])++r)) ?_ rfl fun h1=>zVI hx h1) fun s1 h1=>h1.congr rfl;have h2:=h
 simpa [jS,Fo.tok,Fo.stk,zCX,List.append_assoc] using h
theorem zWd {M n:Nat}{t2:Bs}{x2:Int}{c2:Fo}(hk:xU 13 t2 x2 c2.kinds)(hc:c2.ok M):StC (n+1) 13 t2 x2 c2:=by
 obtain⟨_,_,hw,AB⟩:=hk;obtain⟨w1,w2,w3⟩:=vD hw;obtain rfl:x2=0:=zBc (k:=13) (by decide) w3;obtain rfl:t2=[]:=w2 (by decide);have hr:(TT.isR (xK c2.kinds) [5]||TT.isR (xK c2.kinds) [20])=true:=AB
 rcases Bool.or_eq_true_iff.1 hr with hr | hr
 ·obtain⟨k1,p1,w,x1,c1,rfl,ha⟩:=zDR (f:=c2) (a:=5) hr;obtain rfl:=ZF (w:=5) (by decide) ha;obtain⟨rfl,rfl⟩:=zDx hc;intro pre i k p t x f s r d h hd AA;refine vN (VD (p3:=0) (c:=zDh w .nil) (w:=[114,101,108,101,97,115,101]) (l:=kwS w::mk 59::r) ?_ rfl fun h1=>zUt h1) fun s1 h1=>h1.congr rfl;have h2:=h
  simpa [jS,Fo.tok,Fo.stk,zCX,List.append_assoc] using h
 ·obtain⟨k1,p1,w,x1,c1,rfl,ha⟩:=zDR (f:=c2) (a:=20) hr;obtain rfl:=ZF (w:=20) (by decide) ha;obtain⟨e,q,rfl,rfl,ht,hn⟩:=zGD hc;intro pre i k p t x f s r d h hd AA;have hd:d+max (ZI 20 (e.fo .nil).xP (e.fo .nil).kinds) 0≤64:=hd;refine vN (VD (p3:=0) (c:=zJH w e .nil) (w:=[114,101,108,101,97,115,101]) (l:=kwS w::mk 91::(e.tk++mk 93::mk 59::r)) ?_ rfl fun h1=>zTT q (by omega) h1) fun s1 h1=>h1.congr rfl;have h2:=h
  simpa [jS,Fo.tok,Fo.stk,ht,List.append_assoc] using h
theorem zWa {M n:Nat}{t2:Bs}{x2:Int}{c2:Fo}(hk:xU 16 t2 x2 c2.kinds)(hc:c2.ok M):StC (n+1) 16 t2 x2 c2:=by
 obtain⟨_,_,hw,AA⟩:=hk;obtain⟨w1,w2,w3⟩:=vD hw;obtain rfl:x2=0:=zBc (k:=16) (by decide) w3;obtain⟨k1,p1,w,x1,c1,rfl,ha⟩:=zDR (f:=c2) (a:=0) AA;obtain⟨e,q,fe,ht,hn⟩:=zDV hc (JF ha);intro pre i k p t x f s r d h hd AB;have hd:d+max (ZI k1 c1.xP c1.kinds) 0≤64:=hd;refine vN (VD (p3:=0) (c:=e.fo .nil) (w:=[108,101,116]) (l:=kwS t2::mk 61::(e.tk++mk 59::r)) ?_ rfl fun h1=>zWB q (by omega) h1) fun s1 h1=>h1.congr (by rw[←fe]);have h2:=h
 simpa [jS,Fo.tok,Fo.stk,ht,List.append_assoc] using h
theorem zVv {M n:Nat}{t2:Bs}{x2:Int}{c2:Fo}(hk:xU 17 t2 x2 c2.kinds)(hc:c2.ok M):StC (n+1) 17 t2 x2 c2:=by
 obtain⟨_,_,hw,AA⟩:=hk;obtain⟨w1,w2,w3⟩:=vD hw;obtain rfl:x2=0:=zBc (k:=17) (by decide) w3;obtain rfl:t2=[]:=w2 (by decide);obtain⟨k1,p1,w,x1,c1,rfl,ha⟩:=zDR (f:=c2) (a:=0) AA;obtain⟨e,q,fe,ht,hn⟩:=zDV hc (JF ha);intro pre i k p t x f s r d h hd AB;have hd:d+max (ZI k1 c1.xP c1.kinds) 0≤64:=hd;refine vN (VD (p3:=0) (c:=e.fo .nil) (w:=[101,109,105,116]) (l:=e.tk++mk 59::r) ?_ rfl fun h1=>zV9 q (by omega) h1) fun s1 h1=>h1.congr (by rw[←fe]);have h2:=h
 simpa [jS,Fo.tok,Fo.stk,ht,List.append_assoc] using h
theorem zWC {M n:Nat}{t2:Bs}{x2:Int}{c2:Fo}(hk:xU 18 t2 x2 c2.kinds)(hc:c2.ok M):StC (n+1) 18 t2 x2 c2:=by
 obtain⟨_,_,hw,AA⟩:=hk;obtain⟨w1,w2,w3⟩:=vD hw;obtain rfl:x2=0:=zBc (k:=18) (by decide) w3;obtain rfl:t2=[]:=w2 (by decide);have h0:((xK c2.kinds).length==0)=true:=AA;obtain rfl:=VN (f:=c2) (by simpa [xK] using h0);intro pre i k p t x f s r d h hd AB;refine vN (VD (p3:=0) (c:=.nil) (w:=[114,111,108,108,98,97,99,107]) (l:=mk 59::r) ?_ rfl fun h1=>zSv h1) fun s1 h1=>h1.congr rfl;have h2:=h
 simpa [jS,Fo.tok,Fo.stk,List.append_assoc] using h
theorem zWg {M n:Nat}{t2:Bs}{x2:Int}{c2:Fo}(hk:xU 19 t2 x2 c2.kinds)(hc:c2.ok M):StC (n+1) 19 t2 x2 c2:=by
 obtain⟨_,_,hw,AA⟩:=hk;obtain⟨w1,w2,w3⟩:=vD hw;obtain rfl:x2=0:=zBc (k:=19) (by decide) w3;obtain rfl:t2=[]:=w2 (by decide);have h0:((xK c2.kinds).length==0)=true:=AA;obtain rfl:=VN (f:=c2) (by simpa [xK] using h0);intro pre i k p t x f s r d h hd AB;refine vN (VD (p3:=0) (c:=.nil) (w:=[99,104,111,112]) (l:=mk 59::r) ?_ rfl fun h1=>zSv h1) fun s1 h1=>h1.congr rfl;have h2:=h
 simpa [jS,Fo.tok,Fo.stk,List.append_assoc] using h
theorem zWE {f:Fo}{a b d e:Int}(h:TT.isR (xK f.kinds) [a,b,d,e]=true):∃k p t x c k2 p2 t2 x2 c2 k3 p3 t3 x3 c3 k4 p4 t4 x4 c4,f=.cons k p t x c (.cons k2 p2 t2 x2 c2 (.cons k3 p3 t3 x3 c3 (.cons k4 p4 t4 x4 c4 .nil)))∧TT.jH a (k:Int)=true∧TT.jH b (k2:Int)=true∧TT.jH d (k3:Int)=true∧TT.jH e (k4:Int)=true:=by
 have hl:=ZP h;obtain⟨k,p,t,x,c,r,rfl,hr⟩:=YM (n:=3) (by simpa [xK] using hl);obtain⟨k2,p2,t2,x2,c2,r2,rfl,AB⟩:=YM (n:=2) hr;obtain⟨k3,p3,t3,x3,c3,r3,rfl,AA⟩:=YM (n:=1) AB;obtain⟨k4,p4,t4,x4,c4,r4,rfl,AC⟩:=YM (n:=0) AA;obtain rfl:=VN AC;exact⟨k,p,t,x,c,k2,p2,t2,x2,c2,k3,p3,t3,x3,c3,k4,p4,t4,x4,c4,rfl,VV h 0 (by simp),VV h 1 (by simp),VV h 2 (by simp),VV h 3 (by simp)⟩
theorem zXc {M n:Nat}{t2:Bs}{x2:Int}{c2:Fo}(hk:xU 9 t2 x2 c2.kinds)(hc:c2.ok M):StC (n+1) 9 t2 x2 c2:=by
 obtain⟨_,_,hw,AC⟩:=hk;obtain⟨w1,w2,w3⟩:=vD hw;obtain rfl:x2=0:=zBc (k:=9) (by decide) w3;obtain rfl:t2=[]:=w2 (by decide);have hr:(decide (1<(xK c2.kinds).length)&&((xK c2.kinds).getD 0 0==20&&TT.zCY (xK c2.kinds) 1 0))=true:=AC;simp only[zF,zE,zN] at hr;obtain⟨AE,AD,AA⟩:=hr;have AB:(xK c2.kinds).length=c2.kinds.length:=yN ..;obtain⟨k1,p1,w,x1,c1,r1,rfl,AF⟩:=YM (f:=c2) (n:=c2.kinds.length-1) (by omega)
 have AG:1≤r1.kinds.length:=by
  have:(Fo.cons k1 p1 w x1 c1 r1).kinds.length=r1.kinds.length+1:=rfl
  omega
 obtain⟨k5,p5,t5,x5,c5,r5,rfl,AH⟩:=YM (f:=r1) (n:=r1.kinds.length-1) (by omega)
 obtain rfl:k1=20:=by have:((k1:Nat):Int)=20:=AD; omega
 obtain⟨e,q,rfl,rfl,ht,hn⟩:=zGD hc
 have hE:∀j,j<(Fo.cons k5 p5 t5 x5 c5 r5).kinds.length→isE ((Fo.cons k5 p5 t5 x5 c5 r5).kinds.getD j 0):=fun j hj=>by
  have AA:(xK (Fo.cons k5 p5 t5 x5 c5 r5).kinds).all (TT.zE7 0)=true:=AA;rw[zG] at AA
  have hb:TT.zE7 0 (((Fo.cons k5 p5 t5 x5 c5 r5).kinds.getD j 0:Nat):Int)=true:=AA _ (by
   rw[yE,yG hj]
   exact List.mem_map_of_mem (yL hj))
  exact JF hb
 intro pre i k p t x f s r d h hd AI;have hd:d+max (ZI 20 (e.fo .nil).xP (e.fo .nil).kinds) (vV (Fo.cons k5 p5 t5 x5 c5 r5).xP)≤64:=hd;refine vN (VD (p3:=0) (c:=zJH w e (Fo.cons k5 p5 t5 x5 c5 r5)) (w:=[112,117,116]) (l:=kwS w::mk 91::(e.tk++mk 93::mk 40::(ZX (Fo.cons k5 p5 t5 x5 c5 r5).tok++mk 41::mk 59::r))) ?_ rfl fun h1=>zXd q (by omega) (zM0 _ hc.2.2 hE (by omega)) h1) fun s1 h1=>h1.congr rfl
 simpa [jS,Fo.tok,Fo.stk,ht,List.append_assoc] using h
theorem zVS {M n:Nat}{t2:Bs}{x2:Int}{c2:Fo}(hk:xU 14 t2 x2 c2.kinds)(hc:c2.ok M)(HB:∀b:Fo,b.size<1+c2.size→b.ok M→(∀j,j<b.kinds.length→7≤b.kinds.getD j 0∧b.kinds.getD j 0≤19)→(vM b).length≤n→zIB n b)(hn0:(jS 14 t2 x2 c2.tok (c2.stk.map Prod.snd)).length≤n+1):StC (n+1) 14 t2 x2 c2:=by
 obtain⟨_,_,hw,AI⟩:=hk;obtain⟨w1,w2,w3⟩:=vD hw
 have hx:x2=0∨x2=1:=by have hm:TT.XP ((14:Nat):Int)=1:=rfl; omega
 obtain rfl:t2=[]:=w2 (by decide);have hr:(TT.isR (xK c2.kinds) [0,0,6]||TT.isR (xK c2.kinds) [0,0,6,6])=true:=AI
 rcases Bool.or_eq_true_iff.1 hr with hr | hr
 ·obtain⟨k1,p1,t1,x1,c1,k3,p3,t3,x3,c3,k4,p4,t4,x4,c4,rfl,ha,hb,hg⟩:=zOL (f:=c2) hr;obtain rfl:=ZF (w:=6) (by decide) hg;obtain⟨e,q,fe,ht,hn⟩:=zDV hc (JF ha);obtain⟨e2,q2,AE,AB,AK⟩:=zDV hc.2.2 (JF hb);obtain⟨rfl,rfl,AC,AD⟩:=zE3 hc.2.2.2.2
  have hs:c4.size<1+(Fo.cons k1 p1 t1 x1 c1 (.cons k3 p3 t3 x3 c3 (.cons 6 p4 [] 0 c4 .nil))).size:=by
   show c4.size<1+(1+c1.size+(1+c3.size+(1+c4.size+0)))
   omega
  have AA:(vM c4).length≤n:=by
   have h9:jS 14 [] x2 (Fo.cons k1 p1 t1 x1 c1 (.cons k3 p3 t3 x3 c3 (.cons 6 p4 [] 0 c4 .nil))).tok ((Fo.cons k1 p1 t1 x1 c1 (.cons k3 p3 t3 x3 c3 (.cons 6 p4 [] 0 c4 .nil))).stk.map Prod.snd)=_++(vM c4++([]++[mk 125])):=rfl;rw[h9] at hn0;simp only[yM,zJ,zK] at hn0;omega
  have HC:zIB n c4:=HB c4 hs AC AD AA;intro pre i k p t x f s r d h hd AF;have hd:d+max (ZI k1 c1.xP c1.kinds) (max (ZI k3 c3.xP c3.kinds) (max (1+vV c4.xP) 0))≤64:=hd
  refine vN (VD (p3:=0) (c:=e.fo (e2.fo (zCZ c4 .nil))) (w:=[105,102]) (l:=e.tk++((if x2=1 then [((3,[61,61],0):Sk)] else [mk 60])++(e2.tk++mk 123::(vM c4++mk 125::r)))) ?_ rfl fun h1=>zUj q q2 hx (by omega) (by omega) HC (by omega) AF h1) fun s1 h1=>h1.congr (by
    rw[←AE,←fe]; rfl)
  simpa [jS,Fo.tok,Fo.stk,vM,ht,AB,List.append_assoc] using h
 ·obtain⟨k1,p1,t1,x1,c1,k3,p3,t3,x3,c3,k4,p4,t4,x4,c4,k5,p5,t5,x5,c5,rfl,ha,hb,hg,AL⟩:=zWE (f:=c2) hr;obtain rfl:=ZF (w:=6) (by decide) hg;obtain rfl:=ZF (w:=6) (by decide) AL;obtain⟨e,q,fe,ht,hn⟩:=zDV hc (JF ha);obtain⟨e2,q2,AE,AB,AK⟩:=zDV hc.2.2 (JF hb);obtain⟨rfl,rfl,AC,AD⟩:=zE3 hc.2.2.2.2;obtain⟨rfl,rfl,AH,AG⟩:=zE3 hc.2.2.2.2.2.2
  have hs:c4.size<1+(Fo.cons k1 p1 t1 x1 c1 (.cons k3 p3 t3 x3 c3 (.cons 6 p4 [] 0 c4 (.cons 6 p5 [] 0 c5 .nil)))).size∧c5.size<1+(Fo.cons k1 p1 t1 x1 c1 (.cons k3 p3 t3 x3 c3 (.cons 6 p4 [] 0 c4 (.cons 6 p5 [] 0 c5 .nil)))).size:=by
   show c4.size<1+(1+c1.size+(1+c3.size+(1+c4.size+(1+c5.size+0))))∧c5.size<1+(1+c1.size+(1+c3.size+(1+c4.size+(1+c5.size+0))))
   omega
  have AA:(vM c4).length≤n∧(vM c5).length≤n:=by
   have h9:jS 14 [] x2 (Fo.cons k1 p1 t1 x1 c1 (.cons k3 p3 t3 x3 c3 (.cons 6 p4 [] 0 c4 (.cons 6 p5 [] 0 c5 .nil)))).tok ((Fo.cons k1 p1 t1 x1 c1 (.cons k3 p3 t3 x3 c3 (.cons 6 p4 [] 0 c4 (.cons 6 p5 [] 0 c5 .nil)))).stk.map Prod.snd)=_++(vM c4++(([mk 125,kwS [101,108,115,101],mk 123]++vM c5)++[mk 125])):=rfl;rw[h9] at hn0;simp only[yM,zJ,zK] at hn0;omega
  have HC:zIB n c4:=HB c4 hs.1 AC AD AA.1;have AJ:zIB n c5:=HB c5 hs.2 AH AG AA.2;intro pre i k p t x f s r d h hd AF;have hd:d+max (ZI k1 c1.xP c1.kinds) (max (ZI k3 c3.xP c3.kinds) (max (1+vV c4.xP) (max (1+vV c5.xP) 0)))≤64:=hd
  refine vN (VD (p3:=0) (c:=e.fo (e2.fo (zCZ c4 (zCZ c5 .nil)))) (w:=[105,102]) (l:=e.tk++((if x2=1 then [((3,[61,61],0):Sk)] else [mk 60])++(e2.tk++mk 123::(vM c4++mk 125::kwS [101,108,115,101]::mk 123::(vM c5++mk 125::r))))) ?_ rfl fun h1=>zTV q q2 hx (by omega) (by omega) HC (by omega) AJ (by omega) h1) fun s1 h1=>h1.congr (by
    rw[←AE,←fe]; rfl)
  simpa [jS,Fo.tok,Fo.stk,vM,ht,AB,List.append_assoc] using h
theorem zWu {M n:Nat}{t2:Bs}{x2:Int}{c2:Fo}(hk:xU 15 t2 x2 c2.kinds)(hc:c2.ok M)(HB:∀b:Fo,b.size<1+c2.size→b.ok M→(∀j,j<b.kinds.length→7≤b.kinds.getD j 0∧b.kinds.getD j 0≤19)→(vM b).length≤n→zIB n b)(hn0:(jS 15 t2 x2 c2.tok (c2.stk.map Prod.snd)).length≤n+1):StC (n+1) 15 t2 x2 c2:=by
 obtain⟨_,_,hw,AC⟩:=hk;obtain⟨w1,w2,w3⟩:=vD hw;obtain rfl:x2=0:=zBc (k:=15) (by decide) w3;obtain⟨k1,p1,t1,x1,c1,k3,p3,t3,x3,c3,k4,p4,t4,x4,c4,rfl,ha,hb,hg⟩:=zOL (f:=c2) (a:=21) (b:=21) (d:=6) AC;obtain rfl:=ZF (w:=21) (by decide) ha;obtain rfl:=ZF (w:=21) (by decide) hb;obtain rfl:=ZF (w:=6) (by decide) hg;obtain⟨rfl,rfl⟩:=zTC hc;obtain⟨rfl,rfl⟩:=zTC hc.2.2;obtain⟨rfl,rfl,AA,AD⟩:=zE3 hc.2.2.2.2
 have hs:c4.size<1+(Fo.cons 21 p1 [] x1 .nil (.cons 21 p3 [] x3 .nil (.cons 6 p4 [] 0 c4 .nil))).size:=by
  show c4.size<1+(1+0+(1+0+(1+c4.size+0)))
  omega
 have AB:(vM c4).length≤n:=by
  have h9:jS 15 t2 0 (Fo.cons 21 p1 [] x1 .nil (.cons 21 p3 [] x3 .nil (.cons 6 p4 [] 0 c4 .nil))).tok ((Fo.cons 21 p1 [] x1 .nil (.cons 21 p3 [] x3 .nil (.cons 6 p4 [] 0 c4 .nil))).stk.map Prod.snd)=_++(vM c4++[mk 125]):=rfl;rw[h9] at hn0;simp only[yM,zJ,zK] at hn0;omega
 have HC:zIB n c4:=HB c4 hs AA AD AB;intro pre i k p t x f s r d h hd AE;have hd:d+max 0 (max 0 (max (1+vV c4.xP) 0))≤64:=hd;refine vN (VD (p3:=0) (c:=zUY x1 (zUY x3 (zCZ c4 .nil))) (w:=[102,111,114]) (l:=kwS t2::mk 61::zSO x1::kwS [116,111]::zSO x3::mk 123::(vM c4++mk 125::r)) ?_ rfl fun h1=>zWj HC (by omega) h1) fun s1 h1=>h1.congr rfl
 simpa [jS,Fo.tok,Fo.stk,vM,zCX,zSO,List.append_assoc] using h
theorem zT4 {M n k2:Nat}{t2:Bs}{x2:Int}{c2:Fo}(hs:7≤k2∧k2≤19)(hk:xU k2 t2 x2 c2.kinds)(hc:c2.ok M)(HB:∀b:Fo,b.size<1+c2.size→b.ok M→(∀j,j<b.kinds.length→7≤b.kinds.getD j 0∧b.kinds.getD j 0≤19)→(vM b).length≤n→zIB n b)(hn0:(jS k2 t2 x2 c2.tok (c2.stk.map Prod.snd)).length≤n+1):StC (n+1) k2 t2 x2 c2:=by
 have h:k2=7∨k2=8∨k2=9∨k2=10∨k2=11∨k2=12∨k2=13∨k2=14∨k2=15∨k2=16∨k2=17∨k2=18∨k2=19:=by omega
 rcases h with rfl | rfl | rfl | rfl | rfl | rfl | rfl | rfl | rfl | rfl | rfl | rfl | rfl
 ·exact zXh hk hc
 ·exact zWN hk hc
 ·exact zXc hk hc
 ·exact zVx hk hc
 ·exact zVK hk hc
 ·exact zVw hk hc
 ·exact zWd hk hc
 ·exact zVS hk hc HB hn0
 ·exact zWu hk hc HB hn0
 ·exact zWa hk hc
 ·exact zVv hk hc
 ·exact zWC hk hc
 ·exact zWg hk hc
theorem zIS {k:Nat}(hs:7≤k∧k≤19)(t:Bs)(x:Int)(ls bk:List (List Sk)):∃w tl,jS k t x ls bk=kwS w::tl∧jN w=some k:=by
 have h:k=7∨k=8∨k=9∨k=10∨k=11∨k=12∨k=13∨k=14∨k=15∨k=16∨k=17∨k=18∨k=19:=by omega
 rcases h with rfl | rfl | rfl | rfl | rfl | rfl | rfl | rfl | rfl | rfl | rfl | rfl | rfl <;> exact⟨_,_,rfl,rfl⟩
theorem zPL {w:Bs}{k:Nat}(h:jN w=some k)(b:Bs)(hb:jN b=none)(tl:List Sk):isK b (kwS w::tl)=false:=by
 show((1 != 4&&1 != 2)&&w==b)=false
 rw[show(w==b)=false from by
  rw[yF];rintro rfl;rw[h] at hb
  cases hb]
 rfl
def zQP (n:Nat):Fo→Prop
 | .nil=>True
 | .cons k2 _ t2 x2 c2 r=>((7≤k2∧k2≤19)∧StC n k2 t2 x2 c2)∧zQP n r
theorem zSB {n:Nat}{c:Fo}(ha:zQP n c)(b:Bs)(hb:jN b=none)(r:List Sk)(hr:isK b r=false):isK b (vM c++r)=false:=by
 cases c with
 | nil=>exact hr
 | cons k2 p2 t2 x2 c2 c=>
  obtain⟨w,tl,e,hw⟩:=zIS ha.1.1 t2 x2 c2.tok (c2.stk.map Prod.snd)
  have e2:vM (Fo.cons k2 p2 t2 x2 c2 c)++r=kwS w::(tl++(vM c++r)):=by
   show(jS k2 t2 x2 c2.tok (c2.stk.map Prod.snd)++vM c)++r=_
   rw[e]; simp[List.append_assoc]
  rw[e2];exact zPL hw b hb _
theorem zLd {n:Nat}:∀c:Fo,zQP n c→c.kinds.length≤(vM c).length
 | .nil,_=>zT _
 | .cons k2 p2 t2 x2 c2 c,ha=>by
  obtain⟨w,tl,e,hw⟩:=zIS ha.1.1 t2 x2 c2.tok (c2.stk.map Prod.snd)
  have:=zLd c ha.2
  show c.kinds.length+1≤(jS k2 t2 x2 c2.tok (c2.stk.map Prod.snd)++vM c).length
  rw[e];simp only[yM,zJ];omega
theorem zJf {n:Nat}{pre:List Nd}{i k p:Nat}{t:Bs}{x:Int}{r:List Sk}{d:Nat}:∀(c:Fo) (m:Nat) (f:Fo) (s:Ps),zQP n c→AtP pre i k p t x f s (vM c++mk 125::r) d→d+vV c.xP≤64→c.kinds.length+1≤m→RD (ZJ (jO n) i m s) (GG pre i k p t x f c (mk 125::r) d)
 | .nil,0,f,s,_,_,_,hm=>by simp at hm
 | .nil,m+1,f,s,_,h,_,_=>by
  have h:AtP pre i k p t x f s (mk 125::r) d:=h;rw[ZJ,if_pos (by rw[h.is]; rfl)];exact zAS ⟨.nil,rfl,by rw[zEV]; exact h⟩
 | .cons k2 p2 t2 x2 c2 c,0,f,s,_,_,_,hm=>by simp at hm
 | .cons k2 p2 t2 x2 c2 c,m+1,f,s,ha,h,hd,hm=>by
  have h0:isK [125] (vM (Fo.cons k2 p2 t2 x2 c2 c)++mk 125::r)=false:=by
   obtain⟨w,tl,e,hw⟩:=zIS ha.1.1 t2 x2 c2.tok (c2.stk.map Prod.snd)
   have e2:vM (Fo.cons k2 p2 t2 x2 c2 c)++mk 125::r=kwS w::(tl++(vM c++mk 125::r)):=by
    show(jS k2 t2 x2 c2.tok (c2.stk.map Prod.snd)++vM c)++mk 125::r=_
    rw[e]; simp[List.append_assoc]
   rw[e2];exact zPL hw [125] (by decide) _
  rw[ZJ,if_neg (by rw[h.is,h0]; exact Bool.false_ne_true)]
  have h1:AtP pre i k p t x f s (jS k2 t2 x2 c2.tok (c2.stk.map Prod.snd)++(vM c++mk 125::r)) d:=by
   have e2:vM (Fo.cons k2 p2 t2 x2 c2 c)++mk 125::r=jS k2 t2 x2 c2.tok (c2.stk.map Prod.snd)++(vM c++mk 125::r):=List.append_assoc ..;rw[e2] at h; exact h
  have hd:d+max (ZI k2 c2.xP c2.kinds) (vV c.xP)≤64:=hd;have hm:c.kinds.length+1+1≤m+1:=hm;refine xZ (ha.1.2 h1 (by omega) (zSB ha.2 _ (by decide) _ rfl)) fun s1 ⟨g,hg,h2⟩=>vN (zJf c m _ _ ha.2 h2 (by omega) (by omega)) fun s2 h3=>?_;exact(GG.behind (c:=Fo.one k2 0 t2 x2 c2) hg h3).congr rfl
theorem zUS {M:Nat}:∀(N:Nat) (c:Fo),c.size≤N→c.ok M→(∀j,j<c.kinds.length→7≤c.kinds.getD j 0∧c.kinds.getD j 0≤19)→∀n,(vM c).length≤n→zIB n c∧zQP n c:=by
 intro N
 induction N with
 | zero=>
  intro c hN hc hs n hn
  cases c with
  | cons=>have hN:1+_+_≤0:=hN; omega
  | nil=>
   refine⟨fun pre i k p t x f s r d h hd=>?_,trivial⟩;unfold XN;refine vN (zGR (z:=[125]) (c:=.nil) (h.xB 6) rfl (by omega) (by decide) rfl fun s1 h1=>zJf .nil _ _ _ trivial h1 (by show _+0≤64; omega) (by simp[Fo.kinds])) fun s2 ⟨g,hg,h2⟩=>AtP.gg h2 h.len hg
 | succ N ih=>
  have AA:∀(c:Fo) (n:Nat),c.size≤N+1→c.ok M→(∀j,j<c.kinds.length→7≤c.kinds.getD j 0∧c.kinds.getD j 0≤19)→(vM c).length≤n→zQP n c:=by
   intro c
   induction c with
   | nil=>intro n _ _ _ _; trivial
   | cons k2 p2 t2 x2 c2 c _ ihc=>
    intro n hN hc hs hn;have hN:1+c2.size+c.size≤N+1:=hN;have h0:=hs 0 (Nat.zero_lt_succ _);have hn:(jS k2 t2 x2 c2.tok (c2.stk.map Prod.snd)++vM c).length≤n:=hn;obtain⟨w,tl,e,hw⟩:=zIS (k:=k2) h0 t2 x2 c2.tok (c2.stk.map Prod.snd);rw[yM] at hn;obtain⟨n',rfl⟩:∃n',n=n'+1:=⟨n-1,by rw[e] at hn; simp only[zJ] at hn; omega⟩;exact⟨⟨h0,zT4 h0 hc.1.1 hc.2.1 (fun b hb AB AC AD=>(ih b (by omega) AB AC n' AD).1) (by omega)⟩,ihc (n'+1) (by omega) hc.2.2 (fun j hj=>hs (j+1) (Nat.succ_lt_succ hj)) (by omega)⟩
  intro c hN hc hs n hn;have ha:=AA c n hN hc hs hn;refine⟨fun pre i k p t x f s r d h hd=>?_,ha⟩;unfold XN
  refine vN (zGR (z:=[125]) (c:=c) (h.xB 6) rfl (by omega) (by decide) rfl fun s1 h1=>zJf c _ _ _ ha h1 (by omega) (by
   rw[show s1.ts.length=(vM c++mk 125::_).length from h1.ss.len,yM]
   have:=zLd c ha
   omega)) fun s2 ⟨g,hg,h2⟩=>AtP.gg h2 h.len hg
end Go.Proofs.YtioffpjajhalaaaGreatDoor
