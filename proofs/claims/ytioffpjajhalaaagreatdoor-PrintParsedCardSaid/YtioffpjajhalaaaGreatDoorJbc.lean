/- An expression's printed words are read as the same expression. No program in sight; no condition. (and what follows of it). The conditions stand at each lemma. -/
import Derived.Test.YtioffpjajhalaaaGreatDoorJaa
import Derived.Test.YtioffpjajhalaaaGreatDoorJbb
set_option linter.unusedVariables false
set_option linter.unusedSimpArgs false
set_option maxRecDepth 100000
set_option maxHeartbeats 16000000
namespace Go.Proofs.YtioffpjajhalaaaGreatDoor
def mk (c:UInt8):Sk:=(3,[c],0)
def XD (least k:Nat)(l:List Sk):List Sk:=if vB k<least then [mk 40]++l++[mk 41] else l
def zDd (k:Nat):UInt8:=if k=23 then 43 else if k=24 then 45 else 42
def zD3 (k:Nat):Nat:=if k=25 then 2 else 1
def zDG (k:Nat):Nat:=if k=25 then 3 else 2
def Ex.tk:Ex→List Sk
 | .leaf k _ t n=>if k=21 then [(2,Lib.itoa n,n)] else [(1,t,0)]
 | .neg _ a=>[mk 45]++XD 3 (exK a) a.tk
 | .bin k _ a b=>XD (zD3 k) (exK a) a.tk++[mk (zDd k)]++XD (zDG k) (exK b) b.tk
def Ex.dp:Ex→Nat
 | .leaf _ _ _ _=>0
 | .neg _ a=>1+(if vB (exK a)<3 then 1+a.dp else a.dp)
 | .bin k _ a b=>max (if vB (exK a)<zD3 k then 1+a.dp else a.dp) (if vB (exK b)<zDG k then 1+b.dp else b.dp)
def Ex.z:Ex→Ex
 | .leaf k _ t n=>.leaf k 0 t n
 | .neg _ a=>.neg 0 a.z
 | .bin k _ a b=>.bin k 0 a.z b.z
def hdk (l:List Sk):Sk:=l.headD (4,[],0)
def isK (t:Bs)(l:List Sk):Bool:=((hdk l).1 != 4&&(hdk l).1 != 2)&&(hdk l).2.1==t
def SS (s:Ps)(l:List Sk)(d:Nat)(N:List Nd):Prop:=s.ts.map Tok.sk=l∧s.deep=d∧s.nd=N
theorem SS.hd {s:Ps}{l:List Sk}{d:Nat}{N:List Nd}(h:SS s l d N):s.hd.sk=hdk l:=by
 rw[←h.1];unfold Ps.hd hdk
 cases s.ts <;> rfl
theorem SS.is {s:Ps}{l:List Sk}{d:Nat}{N:List Nd}(h:SS s l d N)(t:Bs):isP t s=isK t l:=by
 unfold isP isK;rw[←h.hd]
 rfl
theorem SS.len {s:Ps}{l:List Sk}{d:Nat}{N:List Nd}(h:SS s l d N):s.ts.length=l.length:=by rw[←h.1,yN]
theorem SS.adv {s:Ps}{u:Sk}{l:List Sk}{d:Nat}{N:List Nd}(h:SS s (u::l) d N):SS s.adv l d N:=⟨by
 show s.ts.tail.map _=_
 rw[List.map_tail,h.1]; rfl,h.2.1,h.2.2⟩
theorem SS.deep {s:Ps}{l:List Sk}{d:Nat}{N:List Nd}(h:SS s l d N)(e:Nat):SS { s with deep:=e } l e N:=⟨h.1,rfl,h.2.2⟩
def zLD (r:List Sk):Prop:=isK [42] r=false
def zS7 (r:List Sk):Prop:=isK [43] r=false∧isK [45] r=false
def FE (e:Ex):Prop:=∀f s r d N,(XD 3 (exK e) e.tk).length≤f→SS s (XD 3 (exK e) e.tk++r) d N→d+(if vB (exK e)<3 then 1+e.dp else e.dp)≤64→∃e' s',xM f s=.ok e' s'∧e'.z=e.z∧SS s' r d N
def TE (e:Ex):Prop:=∀f s r d N,(XD 2 (exK e) e.tk).length≤f→SS s (XD 2 (exK e) e.tk++r) d N→d+(if vB (exK e)<2 then 1+e.dp else e.dp)≤64→∃e' s' F,ZL zDq (xM f) s=ZE zDq (xM f) F e' s'∧r.length+1≤F∧e'.z=e.z∧SS s' r d N
def SE (e:Ex):Prop:=∀f s r d N,e.tk.length≤f→SS s (e.tk++r) d N→d+e.dp≤64→zLD r→∃e' s' F,sumOf (xM f) s=ZE zEb (zOY (xM f)) F e' s'∧r.length+1≤F∧e'.z=e.z∧SS s' r d N
theorem zKG {s:Ps}{r:List Sk}{d:Nat}{N:List Nd}(h:SS s r d N):zAi zDq s=if isK [42] r then some 25 else none:=by
 unfold zAi zDq;rw[List.find?_cons];rw[show isP ([42],25).1 s=isK [42] r from h.is _]
 cases isK [42] r <;> rfl
theorem zK4 {s:Ps}{r:List Sk}{d:Nat}{N:List Nd}(h:SS s r d N):zAi zEb s=if isK [43] r then some 23 else if isK [45] r then some 24 else none:=by
 unfold zAi zEb;rw[List.find?_cons,List.find?_cons];rw[show isP ([43],23).1 s=isK [43] r from h.is _,show isP ([45],24).1 s=isK [45] r from h.is _]
 cases isK [43] r <;> cases isK [45] r <;> rfl
theorem zNG {part:Pm Ex}{F:Nat}{e:Ex}{s:Ps}{r:List Sk}{d:Nat}{N:List Nd}(h:SS s r d N)(hF:r.length+1≤F)(hr:zLD r):ZE zDq part F e s=.ok e s:=by
 obtain⟨G,rfl⟩:∃G,F=G+1:=⟨F-1,by omega⟩;rw[ZE,zKG h,hr]
 rfl
theorem zMS {part:Pm Ex}{F:Nat}{e:Ex}{s:Ps}{r:List Sk}{d:Nat}{N:List Nd}(h:SS s r d N)(hF:r.length+1≤F)(hr:zS7 r):ZE zEb part F e s=.ok e s:=by
 obtain⟨G,rfl⟩:∃G,F=G+1:=⟨F-1,by omega⟩;rw[ZE,zK4 h,hr.1,hr.2]
 rfl
theorem zDJ (k:Nat):¬vB k<1:=by
 unfold vB
 split
 ·omega
 ·split <;> omega
theorem zBF {n k:Nat}{l:List Sk}(h:¬vB k<n):XD n k l=l:=if_neg h
theorem zJn {n k:Nat}{l:List Sk}(h:vB k<n):XD n k l=mk 40::(l++[mk 41]):=by
 unfold XD;rw[if_pos h]
 simp
theorem SE.zTD {e:Ex}(h:TE e)(hs:¬vB (exK e)<2):SE e:=fun f s r d N hf hS hd hr=>by
 obtain⟨e1,s1,F,e2,hF,hz,h1⟩:=h f s r d N (by rw[zBF hs]; exact hf) (by rw[zBF hs]; exact hS) (by rw[if_neg hs]; exact hd);refine⟨e1,s1,s1.ts.length+1,?_,by rw[h1.len]; omega,hz,h1⟩
 show((ZL zDq (xM f)) s).bind _=_
 rw[e2,zNG h1 hF hr]
 rfl
theorem TE.zTc {e:Ex}(h:FE e)(hs:XD 2 (exK e) e.tk=XD 3 (exK e) e.tk)(hq:(if vB (exK e)<2 then 1+e.dp else e.dp)=(if vB (exK e)<3 then 1+e.dp else e.dp)):TE e:=fun f s r d N hf hS hd=>by
 rw[hs] at hf hS;rw[hq] at hd;obtain⟨e1,s1,e2,hz,h1⟩:=h f s r d N hf hS hd;refine⟨e1,s1,s1.ts.length+1,?_,by rw[h1.len]; omega,hz,h1⟩
 show(xM f s).bind _=_
 rw[e2]
 rfl
theorem FE.zVk {e:Ex}(h:SE e)(hs:vB (exK e)<3):FE e:=fun f s r d N hf hS hd=>by
 rw[zJn hs] at hf hS;rw[if_pos hs] at hd;obtain⟨g,rfl⟩:∃g,f=g+1:=⟨f-1,by simp at hf; omega⟩
 have hS:SS s (mk 40::(e.tk++(mk 41::r))) d N:=by simpa using hS
 have hh:=hS.hd;have hk:s.hd.kind=3:=congrArg Prod.fst hh;obtain⟨e1,s1,F,e2,hF,hz,h1⟩:=h g { s.adv with deep:=d+1 } (mk 41::r) (d+1) N (by simp at hf; omega) (hS.adv.deep (d+1)) (by omega) rfl;refine⟨e1,{ s1.adv with deep:=s1.deep-1 },?_,hz,?_⟩
 ·rw[xM,if_neg (by rw[hk]; decide),if_neg (by rw[hk]; decide),if_neg (by rw[hS.is]; exact Bool.false_ne_true)];unfold xY;rw[if_pos (by rw[hS.is]; rfl),hS.2.1,if_neg (by omega)];rw[e2,zMS h1 hF ⟨rfl,rfl⟩,vT,if_neg (by decide)];rw[show vE [41] s1=.ok () s1.adv from if_pos (by rw[h1.is]; rfl)]
  rfl
 ·have:=h1.adv.deep (s1.deep-1)
  have AA:=h1.2.1;rw[show s1.deep-1=d from by omega] at this ⊢;exact this
theorem zPR {M:Nat}:∀e:Ex,QX M e→FE e∧TE e∧SE e
 | .leaf k p t n,q=>by
  have hs:¬vB k<3:=by rcases q.1 with h | h <;> (have:=h.1; subst this; decide)
  have hF:FE (.leaf k p t n):=fun f s r d N hf hS hd=>by
   have hs:¬vB (exK (.leaf k p t n))<3:=hs;rw[zBF hs] at hf hS
   rcases q.1 with ⟨rfl,ht,rfl⟩ | ⟨rfl,rfl,h0,h1⟩
   ·have hS:SS s ((1,t,0)::r) d N:=hS;have hh:=hS.hd;have hk:s.hd.kind=1:=congrArg Prod.fst hh;have hx:s.hd.text=t:=congrArg (fun u:Sk=>u.2.1) hh;obtain⟨g,rfl⟩:∃g,f=g+1:=⟨f-1,by have hf:1≤f:=hf; omega⟩;exact⟨_,_,by rw[xM,if_pos hk],by rw[hx]; rfl,hS.adv⟩
   ·have hS:SS s ((2,Lib.itoa n,n)::r) d N:=hS;have hh:=hS.hd;have hk:s.hd.kind=2:=congrArg Prod.fst hh;have hx:s.hd.n=n:=congrArg (fun u:Sk=>u.2.2) hh;obtain⟨g,rfl⟩:∃g,f=g+1:=⟨f-1,by have hf:1≤f:=hf; omega⟩;exact⟨_,_,by rw[xM,if_neg (by rw[hk]; decide),if_pos hk],by rw[hx]; rfl,hS.adv⟩
  have AB:¬vB (exK (.leaf k p t n))<3:=hs
  have AA:¬vB (exK (.leaf k p t n))<2:=by omega
  have hT:=TE.zTc hF (by rw[zBF (n:=2) AA,zBF (n:=3) AB]) (by rw[if_neg AA,if_neg AB]);exact⟨hF,hT,SE.zTD hT AA⟩
 | .neg p a,q=>by
  obtain⟨AG,_,_⟩:=zPR a q.1
  have hs:¬vB (exK (.neg p a))<3:=by show ¬vB 26<3; decide
  have hF:FE (.neg p a):=fun f s r d N hf hS hd=>by
   rw[zBF hs] at hf hS;rw[if_neg hs] at hd
   have hS:SS s (mk 45::(XD 3 (exK a) a.tk++r)) d N:=by
    have e:(Ex.neg p a).tk=mk 45::XD 3 (exK a) a.tk:=rfl;rw[e] at hS; exact hS
   have hf:(XD 3 (exK a) a.tk).length+1≤f:=hf;have hd:d+(1+(if vB (exK a)<3 then 1+a.dp else a.dp))≤64:=hd;obtain⟨g,rfl⟩:∃g,f=g+1:=⟨f-1,by omega⟩;have hk:s.hd.kind=3:=congrArg Prod.fst hS.hd;obtain⟨e1,s1,e2,hz,h1⟩:=AG g { s.adv with deep:=d+1 } r (d+1) N (by omega) (hS.adv.deep (d+1)) (by omega);refine⟨.neg s.hd.at_ e1,{ s1 with deep:=s1.deep-1 },?_,by show Ex.neg 0 e1.z=Ex.neg 0 a.z; rw[hz],?_⟩
   ·rw[xM,if_neg (by rw[hk]; decide),if_neg (by rw[hk]; decide),if_pos (by rw[hS.is]; rfl)];unfold xY;rw[if_pos (by rw[hS.is]; rfl),hS.2.1,if_neg (by omega),e2]
    rfl
   ·have:=h1.deep (s1.deep-1)
    have AP:=h1.2.1;rw[show s1.deep-1=d from by omega] at this ⊢;exact this
  have AA:¬vB (exK (.neg p a))<2:=by show ¬vB 26<2; decide
  have hT:=TE.zTc hF (by rw[zBF (n:=2) AA,zBF (n:=3) hs]) (by rw[if_neg AA,if_neg hs]);exact⟨hF,hT,SE.zTD hT AA⟩
 | .bin k p a b,q=>by
  obtain⟨AG,AJ,AI⟩:=zPR a q.2.1;obtain⟨AL,AM,AN⟩:=zPR b q.2.2.1
  by_cases AC:k=25
  ·subst AC
   have AB:vB (exK (.bin 25 p a b))<3:=by show vB 25<3; decide
   have AA:¬vB (exK (.bin 25 p a b))<2:=by show ¬vB 25<2; decide
   have hT:TE (.bin 25 p a b):=fun f s r d N hf hS hd=>by
    rw[zBF AA] at hf hS;rw[if_neg AA] at hd;have hf:(XD 2 (exK a) a.tk++[mk 42]++XD 3 (exK b) b.tk).length≤f:=hf;have hS:SS s ((XD 2 (exK a) a.tk++[mk 42]++XD 3 (exK b) b.tk)++r) d N:=hS;have hd:d+max (if vB (exK a)<2 then 1+a.dp else a.dp) (if vB (exK b)<3 then 1+b.dp else b.dp)≤64:=hd;simp only[yM,zJ,zK] at hf;obtain⟨e1,s1,F,e2,hF,hz,h1⟩:=AJ f s (mk 42::(XD 3 (exK b) b.tk++r)) d N (by omega) (by simpa [List.append_assoc] using hS) (by omega);obtain⟨G,rfl⟩:∃G,F=G+1:=⟨F-1,by omega⟩;obtain⟨e3,s3,e4,AD,h3⟩:=AL f s1.adv r d N (by omega) h1.adv (by omega);refine⟨.bin 25 e1.pos e1 e3,s3,G,?_,?_,by show Ex.bin 25 0 e1.z e3.z=Ex.bin 25 0 a.z b.z; rw[hz,AD],h3⟩
    ·rw[e2,ZE,zKG h1,show isK [42] (mk 42::(XD 3 (exK b) b.tk++r))=true from rfl]
     show(xM f s1.adv).bind _=_
     rw[e4]
     rfl
    ·simp only[zJ,yM] at hF; omega
   have hS:=SE.zTD hT AA;exact⟨FE.zVk hS AB,hT,hS⟩
  ·have hk:k=23∨k=24:=by have:=q.1; omega
   have AO:vB k=1:=by rcases hk with rfl | rfl <;> rfl
   have AE:zD3 k=1:=if_neg AC;have AF:zDG k=2:=if_neg AC
   have AB:vB (exK (.bin k p a b))<3:=by show vB k<3; omega
   have AA:vB (exK (.bin k p a b))<2:=by show vB k<2; omega
   have hS:SE (.bin k p a b):=fun f s r d N hf hS hd hr=>by
    have hf:(XD (zD3 k) (exK a) a.tk++[mk (zDd k)]++XD (zDG k) (exK b) b.tk).length≤f:=hf;have hS:SS s ((XD (zD3 k) (exK a) a.tk++[mk (zDd k)]++XD (zDG k) (exK b) b.tk)++r) d N:=hS;have hd:d+max (if vB (exK a)<zD3 k then 1+a.dp else a.dp) (if vB (exK b)<zDG k then 1+b.dp else b.dp)≤64:=hd;rw[AE,AF,zBF (zDJ _)] at hf hS;rw[AE,AF,if_neg (zDJ _)] at hd;simp only[yM,zJ,zK] at hf
    have AH:isK [42] (mk (zDd k)::(XD 2 (exK b) b.tk++r))=false:=by rcases hk with rfl | rfl <;> rfl
    obtain⟨e1,s1,F,e2,hF,hz,h1⟩:=AI f s (mk (zDd k)::(XD 2 (exK b) b.tk++r)) d N (by omega) (by simpa [List.append_assoc] using hS) (by omega) AH;obtain⟨G,rfl⟩:∃G,F=G+1:=⟨F-1,by omega⟩;obtain⟨e3,s3,F3,e4,AK,AD,h3⟩:=AM f s1.adv r d N (by omega) h1.adv (by omega);refine⟨.bin k e1.pos e1 e3,s3,G,?_,?_,by show Ex.bin k 0 e1.z e3.z=Ex.bin k 0 a.z b.z; rw[hz,AD],h3⟩
    ·have hm:zAi zEb s1=some k:=by
      rw[zK4 h1]
      rcases hk with rfl | rfl <;> rfl
     rw[e2,ZE,hm]
     show(ZL zDq (xM f) s1.adv).bind _=_
     rw[e4,zNG h3 AK hr]
     rfl
    ·simp only[zJ,yM] at hF; omega
   have hF:=FE.zVk hS AB;exact⟨hF,TE.zTc hF (by rw[zJn AA,zJn AB]) (by rw[if_pos AA,if_pos AB]),hS⟩
theorem zWS {M:Nat}{e:Ex}(q:QX M e)(s:Ps)(r:List Sk)(d:Nat)(N:List Nd)(hS:SS s (e.tk++r) d N)(hd:d+e.dp≤64)(h1:zLD r)(h2:zS7 r):∃e' s',zLN s=.ok e' s'∧e'.z=e.z∧SS s' r d N:=by
 obtain⟨e1,s1,F,e2,hF,hz,h3⟩:=(zPR e q).2.2 s.ts.length s r d N (by rw[hS.len,yM]; omega) hS hd h1;exact⟨e1,s1,by show sumOf (xM s.ts.length) s=_; rw[e2,zMS h3 hF h2],hz,h3⟩
def Ex.fo:Ex→Fo→Fo
 | .leaf k p t n,r=>.cons k p t n .nil r
 | .neg p a,r=>.cons 26 p [] 0 (a.fo .nil) r
 | .bin k p a b,r=>.cons k p [] 0 (a.fo (b.fo .nil)) r
def Ex.bs:Ex→Bs
 | .leaf k _ t n=>if k=21 then Lib.itoa n else t
 | .neg _ a=>[45]++jL 3 (exK a) a.bs
 | .bin k _ a b=>jL (zD3 k) (exK a) a.bs++[32,zDd k,32]++jL (zDG k) (exK b) b.bs
theorem ZT:∀(e:Ex) (r:Fo),(e.fo r).kinds=exK e::r.kinds
 | .leaf k p t n,r=>rfl
 | .neg p a,r=>rfl
 | .bin k p a b,r=>rfl
theorem zC0:∀(e:Ex) (f g:Fo),(e.fo f).app g=e.fo (f.app g)
 | .leaf k p t n,f,g=>rfl
 | .neg p a,f,g=>rfl
 | .bin k p a b,f,g=>rfl
theorem zED {M:Nat}:∀(e:Ex) (r:Fo),QX M e→(e.fo r).txt=e.bs::r.txt
 | .leaf k p t n,r,q=>by
  rcases q.1 with ⟨rfl,_⟩ | ⟨rfl,_⟩ <;> rfl
 | .neg p a,r,q=>by
  show zAt 26 [] 0 (a.fo .nil).txt (a.fo .nil).kinds::r.txt=_
  rw[zED a .nil q.1,ZT]
  rfl
 | .bin k p a b,r,q=>by
  show zAt k [] 0 (a.fo (b.fo .nil)).txt (a.fo (b.fo .nil)).kinds::r.txt=_
  rw[zED a _ q.2.1,zED b _ q.2.2.1,ZT,ZT]
  rcases q.1 with rfl | rfl | rfl <;> rfl
theorem vD {k:Int}{x:Int}{t:Bs}(h:TT.JR k x t=true):(TT.zC2 k=true→zAo t=true)∧(TT.zC2 k=false→t=[])∧0≤x∧x≤TT.XP k:=by
 unfold TT.JR at h;rw[zKK] at h;simp only[zF,zE,zN] at h;refine⟨fun e=>by rw[←h.1]; exact e,fun e=>?_,h.2.2⟩;have h1:=h.2.1;rw[e,Bool.false_or] at h1;exact List.isEmpty_iff.1 h1
theorem VN:∀ {f:Fo},f.kinds.length=0→f=.nil
 | .nil,_=>rfl
 | .cons ..,h=>by cases h
theorem YM:∀ {f:Fo} {n:Nat},f.kinds.length=n+1→∃k p t x c r,f=.cons k p t x c r∧r.kinds.length=n
 | .nil,n,h=>by cases h
 | .cons k p t x c r,n,h=>⟨k,p,t,x,c,r,rfl,Nat.succ.inj h⟩
theorem JF {k:Nat}(h:TT.jH 0 (k:Int)=true):isE k:=by
 unfold TT.jH TT.ZQ at h;rw[if_pos rfl] at h;simp only[zF,zE] at h;exact⟨by omega,by omega⟩
theorem ZF {k w:Nat}(hw:w≠0)(h:TT.jH (w:Int) (k:Int)=true):k=w:=by
 unfold TT.jH at h;rw[if_neg (by omega)] at h
 have:=beq_iff_eq.1 h
 omega
theorem zDR {f:Fo}{a:Int}(h:TT.isR (xK f.kinds) [a]=true):∃k p t x c,f=.cons k p t x c .nil∧TT.jH a (k:Int)=true:=by
 have hl:=ZP h;obtain⟨k,p,t,x,c,r,rfl,hr⟩:=YM (n:=0) (by simpa [xK] using hl);obtain rfl:=VN hr;exact⟨k,p,t,x,c,rfl,VV h 0 (by simp)⟩
theorem zG0 {f:Fo}{a b:Int}(h:TT.isR (xK f.kinds) [a,b]=true):∃k p t x c k2 p2 t2 x2 c2,f=.cons k p t x c (.cons k2 p2 t2 x2 c2 .nil)∧TT.jH a (k:Int)=true∧TT.jH b (k2:Int)=true:=by
 have hl:=ZP h;obtain⟨k,p,t,x,c,r,rfl,hr⟩:=YM (n:=1) (by simpa [xK] using hl);obtain⟨k2,p2,t2,x2,c2,r2,rfl,AA⟩:=YM (n:=0) hr;obtain rfl:=VN AA;exact⟨k,p,t,x,c,k2,p2,t2,x2,c2,rfl,VV h 0 (by simp),VV h 1 (by simp)⟩
theorem zOL {f:Fo}{a b d:Int}(h:TT.isR (xK f.kinds) [a,b,d]=true):∃k p t x c k2 p2 t2 x2 c2 k3 p3 t3 x3 c3,f=.cons k p t x c (.cons k2 p2 t2 x2 c2 (.cons k3 p3 t3 x3 c3 .nil))∧TT.jH a (k:Int)=true∧TT.jH b (k2:Int)=true∧TT.jH d (k3:Int)=true:=by
 have hl:=ZP h;obtain⟨k,p,t,x,c,r,rfl,hr⟩:=YM (n:=2) (by simpa [xK] using hl);obtain⟨k2,p2,t2,x2,c2,r2,rfl,AB⟩:=YM (n:=1) hr;obtain⟨k3,p3,t3,x3,c3,r3,rfl,AA⟩:=YM (n:=0) AB;obtain rfl:=VN AA;exact⟨k,p,t,x,c,k2,p2,t2,x2,c2,k3,p3,t3,x3,c3,rfl,VV h 0 (by simp),VV h 1 (by simp),VV h 2 (by simp)⟩
theorem zBc {k:Nat}{x:Int}(hm:TT.XP (k:Int)=0)(h:0≤x∧x≤TT.XP (k:Int)):x=0:=by omega
theorem zGh {M:Nat}:∀(n:Nat) (f:Fo),f.size≤n→f.ok M→∀k p t x c r,f=.cons k p t x c r→isE k→∃e,QX M e∧exK e=k∧∀r',Fo.cons k p t x c r'=e.fo r'
 | 0,f,hn,_,k,p,t,x,c,r,he,_=>by
  subst he
  have:1+c.size+r.size≤0:=hn
  omega
 | n+1,f,hn,hk,k,p,t,x,c,r,he,hE=>by
  subst he;have hn:1+c.size+r.size≤n+1:=hn;obtain⟨⟨⟨_,_,hw,AA⟩,hp⟩,hc,_⟩:=hk;obtain⟨w1,w2,w3⟩:=vD hw
  have AB:k=21∨k=22∨(k=23∨k=24∨k=25)∨k=26:=by have:=hE.1; have:=hE.2; omega
  rcases AB with rfl | rfl | h | rfl
  ·have h0:((xK c.kinds).length==0)=true:=AA;obtain rfl:=VN (f:=c) (by simpa [xK] using h0);obtain rfl:=w2 (by decide);exact⟨.leaf 21 p [] x,⟨.inr ⟨rfl,rfl,w3⟩,hp⟩,rfl,fun r'=>rfl⟩
  ·have h0:((xK c.kinds).length==0)=true:=AA;obtain rfl:=VN (f:=c) (by simpa [xK] using h0);obtain rfl:=zBc (k:=22) (by decide) w3;exact⟨.leaf 22 p t 0,⟨.inl ⟨rfl,w1 (by decide),rfl⟩,hp⟩,rfl,fun r'=>rfl⟩
  ·obtain rfl:x=0:=zBc (by rcases h with rfl | rfl | rfl <;> decide) w3
   obtain rfl:t=[]:=w2 (by rcases h with rfl | rfl | rfl <;> decide)
   have h2:TT.isR (xK c.kinds) [0,0]=true:=by rcases h with rfl | rfl | rfl <;> exact AA
   obtain⟨k1,p1,t1,x1,c1,k2,p2,t2,x2,c2,rfl,ha,hb⟩:=zG0 h2;have hn:1+(1+c1.size+(1+c2.size+0))+r.size≤n+1:=hn;obtain⟨a,qa,ea,fa⟩:=zGh n (Fo.cons k1 p1 t1 x1 c1 (.cons k2 p2 t2 x2 c2 .nil)) (by show 1+c1.size+(1+c2.size+0)≤n; omega) hc _ _ _ _ _ _ rfl (JF ha);obtain⟨b,qb,eb,fb⟩:=zGh n (Fo.cons k2 p2 t2 x2 c2 .nil) (by show 1+c2.size+0≤n; omega) hc.2.2 _ _ _ _ _ _ rfl (JF hb);refine⟨.bin k p a b,⟨h,qa,qb,hp⟩,rfl,fun r'=>?_⟩;rw[fa,fb]
   rfl
  ·obtain rfl:=zBc (k:=26) (by decide) w3;obtain rfl:=w2 (by decide);obtain⟨k1,p1,t1,x1,c1,rfl,ha⟩:=zDR (f:=c) (a:=0) AA;have hn:1+(1+c1.size+0)+r.size≤n+1:=hn;obtain⟨a,qa,ea,fa⟩:=zGh n (Fo.cons k1 p1 t1 x1 c1 .nil) (by show 1+c1.size+0≤n; omega) hc _ _ _ _ _ _ rfl (JF ha);refine⟨.neg p a,⟨qa,hp⟩,rfl,fun r'=>?_⟩;rw[fa]
   rfl
theorem LX.part {bs rest:Bs}{tk:List Sk}(n k:Nat)(h:∀rest,zQz rest=true→LX bs tk rest)(hr:zQz rest=true):LX (jL n k bs) (XD n k tk) rest:=by
 unfold jL XD
 split
 ·exact((LX.mark (by decide) rfl:LX [40] [mk 40] (bs++([41]++rest))).app (h ([41]++rest) rfl)).app (LX.mark (by decide) rfl)
 ·exact h rest hr
theorem LX.exp {M:Nat}:∀e:Ex,QX M e→∀rest,zQz rest=true→LX e.bs e.tk rest
 | .leaf k p t n,q,rest,hr=>by
  rcases q.1 with ⟨rfl,ht,rfl⟩ | ⟨rfl,rfl,h0,h1⟩
  ·exact LX.name ht hr
  ·exact LX.num h0 h1 hr
 | .neg p a,q,rest,hr=>(LX.mark (by decide) rfl:LX [45] [mk 45] (jL 3 (exK a) a.bs++rest)).app (LX.part _ _ (LX.exp a q.1) hr)
 | .bin k p a b,q,rest,hr=>by
  have hm:zDd k ∈ zPY∧(zDd k==61)=false:=by rcases q.1 with rfl | rfl | rfl <;> decide
  have h1:=LX.part (zD3 k) (exK a) (LX.exp a q.2.1) (rest:=[32,zDd k,32]++(jL (zDG k) (exK b) b.bs++rest)) rfl;have h2:LX ([32]++([zDd k]++[32])) ([]++([mk (zDd k)]++[])) (jL (zDG k) (exK b) b.bs++rest):=(LX.skip rfl _).app ((LX.mark hm.1 (by rw[hm.2]; rfl)).app (LX.skip rfl _));exact(h1.app h2).app (LX.part _ _ (LX.exp b q.2.2.1) hr)
end Go.Proofs.YtioffpjajhalaaaGreatDoor
