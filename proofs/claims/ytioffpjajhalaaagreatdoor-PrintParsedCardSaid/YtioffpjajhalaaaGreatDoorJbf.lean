/- What is printed of a right tree is parsed as the same tree, but for places. No program in sight; condition: it is not too deep, nor too long. (and what follows of it). The conditions stand at each lemma. -/
import Derived.Test.YtioffpjajhalaaaGreatDoorJaa
import Derived.Test.YtioffpjajhalaaaGreatDoorJbe
set_option linter.unusedVariables false
set_option linter.unusedSimpArgs false
set_option maxRecDepth 100000
set_option maxHeartbeats 16000000
namespace Go.Proofs.YtioffpjajhalaaaGreatDoor
theorem zQN {kk:List Nat}(h:TT.zCY (xK kk) 0 5=true):∀j,j<kk.length→kk.getD j 0=5:=fun j hj=>by
 have h:(xK kk).all (TT.zE7 5)=true:=h;rw[zG] at h
 have hb:TT.zE7 5 ((kk.getD j 0:Nat):Int)=true:=h _ (by
  rw[yE,yG hj]
  exact List.mem_map_of_mem (yL hj))
 have hb:(((kk.getD j 0:Nat):Int)==5)=true:=hb;rw[zN] at hb;omega
def zV2 (M k2:Nat)(t2:Bs)(x2:Int)(c2:Fo):Prop:=xU k2 t2 x2 c2.kinds→c2.ok M→∀ ⦃pre:List Nd⦄ ⦃i k p:Nat⦄ ⦃t:Bs⦄ ⦃x:Int⦄ ⦃f:Fo⦄ ⦃s:Ps⦄ ⦃r:List Sk⦄ ⦃d:Nat⦄,AtP pre i k p t x f s (zA7 k2 t2 x2 c2.tok c2.zH2 (c2.stk.map Prod.snd)++r) d→d+ZI k2 c2.xP c2.kinds≤64→RD ((if k2=2 then zAX i else zCB i) s) (GG pre i k p t x f (Fo.one k2 0 t2 x2 c2) r d)
theorem zW0 {M:Nat}{t2:Bs}{x2:Int}{c2:Fo}:zV2 M 2 t2 x2 c2:=fun hk hc pre i k p t x f s r d h hd=>by
 obtain⟨_,_,hw,AA⟩:=hk;obtain⟨w1,w2,w3⟩:=vD hw;obtain rfl:x2=0:=zBc (k:=2) (by decide) w3;have hr:(decide (0<(xK c2.kinds).length)&&TT.zCY (xK c2.kinds) 0 5)=true:=AA;rw[zF,zE] at hr;have hl:(xK c2.kinds).length=c2.kinds.length:=yN ..;obtain⟨k5,p5,t5,x5,c5,r5,rfl,AB⟩:=YM (f:=c2) (n:=c2.kinds.length-1) (by omega)
 have h:AtP pre i k p t x f s (kwS [116,97,98,108,101]::kwS t2::mk 40::(ZX (Fo.cons k5 p5 t5 x5 c5 r5).tok++mk 41::mk 59::r)) d:=by
  have e:zA7 2 t2 0 (Fo.cons k5 p5 t5 x5 c5 r5).tok (Fo.cons k5 p5 t5 x5 c5 r5).zH2 ((Fo.cons k5 p5 t5 x5 c5 r5).stk.map Prod.snd)++r=kwS [116,97,98,108,101]::kwS t2::mk 40::(ZX (Fo.cons k5 p5 t5 x5 c5 r5).tok++mk 41::mk 59::r):=by
   simp[zA7,List.append_assoc]
  rw[e] at h; exact h
 exact xZ (YP (h.xB 2) _ rfl) fun s1 h1=>xZ (zAu h1) fun s2 h2=>xZ (YP h2 _ rfl) fun s3 h3=>xZ (zLO (zGz _ hc (zQN hr.2)) h3 ⟨rfl,rfl,rfl⟩ rfl) fun s4 ⟨g,hg,h4⟩=>xZ (YP h4 _ rfl) fun s5 h5=>vN (YP h5 _ rfl) fun s6 h6=>h6.gg h.len hg
theorem zSD {pre:List Nd}{i k p:Nat}{t:Bs}{x:Int}{f:Fo}{s:Ps}{r:List Sk}{d:Nat}{M:Nat}(c:Fo)(hc:c.ok M)(h5:∀j,j<c.kinds.length→c.kinds.getD j 0=5)(h:AtP pre i k p t x f s (ZX c.tok++mk 41::r) d):RD (JM i s) (GG pre i k p t x f (Fo.one 4 0 [] 0 c) (mk 41::r) d):=by
 unfold JM;have h2:=h.xB 4
 cases c with
 | nil=>
  have h3:AtP (XO pre i k p t x f) s.nd.length 4 (s.kid i).hd.at_ [] 0 .nil (s.xB i 4) (mk 41::r) d:=h2
  show RD (if isP [41] (s.xB i 4)=true then _ else _) _
  rw[if_pos (by rw[h3.is]; rfl)];exact zAS (h3.gg h.len rfl)
 | cons k5 p5 t5 x5 c5 r5=>
  obtain rfl:k5=5:=h5 0 (Nat.zero_lt_succ _);obtain⟨w1,w2,w3⟩:=vD hc.1.1.2.2.1
  have h0:isK [41] (ZX (Fo.cons 5 p5 t5 x5 c5 r5).tok++mk 41::r)=false:=by
   have e:ZX (Fo.cons 5 p5 t5 x5 c5 r5).tok++mk 41::r=kwS t5::(zCg r5.tok++mk 41::r):=by
    show ZX (zCX 5 t5 x5 c5.tok c5.kinds::r5.tok)++mk 41::r=_
    rw[zFp]
    rfl
   rw[e]
   show((1 != 4&&1 != 2)&&t5==[41])=false
   rw[show(t5==[41])=false from by
    rw[yF];rintro rfl
    exact absurd (w1 (by decide)) (by decide)]
   rfl
  show RD (if isP [41] (s.xB i 4)=true then _ else _) _
  rw[if_neg (by rw[h2.is,h0]; exact Bool.false_ne_true)];exact vN (zLO (zGz _ hc h5) h2 ⟨rfl,rfl,rfl⟩ rfl) fun s1 ⟨g,hg,h3⟩=>h3.gg h.len hg
theorem zWU {M:Nat}{t2:Bs}{x2:Int}{c2:Fo}:zV2 M 3 t2 x2 c2:=fun hk hc pre i k p t x f s r d h hd=>by
 obtain⟨_,_,hw,AD⟩:=hk;obtain⟨w1,w2,w3⟩:=vD hw
 have hx:x2=0∨x2=1:=by have hm:TT.XP ((3:Nat):Int)=1:=rfl; omega
 obtain⟨k4,p4,t4,x4,c4,k6,p6,t6,x6,c6,rfl,ha,hb⟩:=zG0 (f:=c2) (a:=4) (b:=6) AD;obtain rfl:=ZF (w:=4) (by decide) ha;obtain rfl:=ZF (w:=6) (by decide) hb;obtain⟨rfl,rfl,AA,AC⟩:=zE3 hc.2.2;obtain⟨v1,v2,v3⟩:=vD hc.1.1.2.2.1;obtain rfl:x4=0:=zBc (k:=4) (by decide) v3;obtain rfl:t4=[]:=v2 (by decide);have AB:=zQN (kk:=c4.kinds) hc.1.1.2.2.2;have hd:d+max (vV c4.xP) (max (1+vV c6.xP) 0)≤64:=hd
 have h:AtP pre i k p t x f s (kwS [112,114,111,99]::kwS t2::mk 40::(ZX c4.tok++mk 41::((if x2=1 then [kwS [115,105,110,103,108,101],mk 123] else [mk 123])++(vM c6++mk 125::r)))) d:=by
  have e:zA7 3 t2 x2 (Fo.cons 4 p4 [] 0 c4 (.cons 6 p6 [] 0 c6 .nil)).tok (Fo.cons 4 p4 [] 0 c4 (.cons 6 p6 [] 0 c6 .nil)).zH2 ((Fo.cons 4 p4 [] 0 c4 (.cons 6 p6 [] 0 c6 .nil)).stk.map Prod.snd)++r=kwS [112,114,111,99]::kwS t2::mk 40::(ZX c4.tok++mk 41::((if x2=1 then [kwS [115,105,110,103,108,101],mk 123] else [mk 123])++(vM c6++mk 125::r))):=by
   simp[zA7,Fo.zH2,Fo.stk,vM,List.append_assoc]
  rw[e] at h; exact h
 refine xZ (YP (h.xB 3) _ rfl) fun s1 h1=>xZ (zAu h1) fun s2 h2=>xZ (YP h2 _ rfl) fun s3 h3=>xZ (zSD c4 hc.2.1 AB h3) fun s4 ⟨g,hg,h4⟩=>xZ (YP h4 _ rfl) fun s5 h5=>?_
 have hs:RD (VF s.nd.length s5) (AtP (XO pre i k p t x f) s.nd.length 3 (s.kid i).hd.at_ t2 x2 (Fo.nil.app g) · (mk 123::(vM c6++mk 125::r)) d):=by
  unfold VF
  rcases hx with rfl | rfl
  ·have h5:AtP (XO pre i k p t x f) s.nd.length 3 (s.kid i).hd.at_ t2 0 (Fo.nil.app g) s5 (mk 123::(vM c6++mk 125::r)) d:=h5;rw[if_neg (by rw[h5.is]; exact Bool.false_ne_true)];exact zAS h5
  ·have h5:AtP (XO pre i k p t x f) s.nd.length 3 (s.kid i).hd.at_ t2 0 (Fo.nil.app g) s5 (kwS [115,105,110,103,108,101]::mk 123::(vM c6++mk 125::r)) d:=h5;rw[if_pos (by rw[h5.is]; rfl)];exact zAS (h5.adv.num 1)
 refine xZ hs fun s6 h6=>?_
 have AE:=(zUS _ c6 (zU _) AA AC s6.ts.length (by
  rw[show s6.ts.length=(mk 123::(vM c6++mk 125::r)).length from h6.ss.len];simp only[zJ,yM]
  omega)).1
 refine vN (AE h6 (by omega)) fun s7 ⟨g7,hg7,h7⟩=>?_;refine GG.congr (c:=Fo.one 3 0 t2 x2 ((Fo.one 4 0 [] 0 c4).app (zCZ c6 .nil))) (h7.gg h.len ?_) rfl
 show(g.app g7).z=_
 rw[zAk,zAk,hg,hg7]
theorem zT3 {M k2:Nat}{t2:Bs}{x2:Int}{c2:Fo}(h:k2=2∨k2=3):zV2 M k2 t2 x2 c2:=by
 rcases h with rfl | rfl
 ·exact zW0
 ·exact zWU
theorem zJI:∀(f:Fo) (r:List Sk),(∀j,j<f.kinds.length→f.kinds.getD j 0=2∨f.kinds.getD j 0=3)→f.kinds.length≤(f.zA7.flatten++r).length
 | .nil,r,_=>zT _
 | .cons k p t x c f,r,h=>by
  have h1:=zJI f r fun j hj=>h (j+1) (Nat.succ_lt_succ hj)
  have h2:1≤(Go.Proofs.YtioffpjajhalaaaGreatDoor.zA7 k t x c.tok c.zH2 (c.stk.map Prod.snd)).length:=by
   rcases(show k=2∨k=3 from h 0 (Nat.zero_lt_succ _)) with rfl | rfl <;> exact Nat.succ_pos _
  show f.kinds.length+1≤((Go.Proofs.YtioffpjajhalaaaGreatDoor.zA7 k t x c.tok c.zH2 (c.stk.map Prod.snd)++f.zA7.flatten)++r).length
  simp only[yM] at h1 ⊢;omega
theorem zJ4 {M:Nat}{pre:List Nd}{p:Nat}{t:Bs}{x:Int}{k:Nat}{d:Nat}:∀(c:Fo) (n:Nat) (f:Fo) (s:Ps),c.ok M→(∀j,j<c.kinds.length→c.kinds.getD j 0=2∨c.kinds.getD j 0=3)→AtP pre 0 k p t x f s (c.zA7.flatten++[(4,[],0)]) d→d+vV c.xP≤64→c.kinds.length+1≤n→RD (vY n s) (GG pre 0 k p t x f c [(4,[],0)] d)
 | .nil,0,f,s,_,_,_,_,hn=>by simp at hn
 | .nil,n+1,f,s,_,_,h,_,_=>by
  have h:AtP pre 0 k p t x f s [(4,[],0)] d:=h;have hk:s.hd.kind=4:=congrArg Prod.fst h.ss.hd;rw[vY,if_pos hk];exact zAS ⟨.nil,rfl,by rw[zEV]; exact h⟩
 | .cons k2 p2 t2 x2 c2 c,0,f,s,_,_,_,_,hn=>by simp at hn
 | .cons k2 p2 t2 x2 c2 c,n+1,f,s,hc,hs,h,hd,hn=>by
  have h0:k2=2∨k2=3:=hs 0 (Nat.zero_lt_succ _);have hd:d+max (ZI k2 c2.xP c2.kinds) (vV c.xP)≤64:=hd;have hn:c.kinds.length+1+1≤n+1:=hn
  have h:AtP pre 0 k p t x f s (Go.Proofs.YtioffpjajhalaaaGreatDoor.zA7 k2 t2 x2 c2.tok c2.zH2 (c2.stk.map Prod.snd)++(c.zA7.flatten++[(4,[],0)])) d:=by
   have e:(Fo.cons k2 p2 t2 x2 c2 c).zA7.flatten++[(4,[],0)]=Go.Proofs.YtioffpjajhalaaaGreatDoor.zA7 k2 t2 x2 c2.tok c2.zH2 (c2.stk.map Prod.snd)++(c.zA7.flatten++[(4,[],0)]):=List.append_assoc ..;rw[e] at h; exact h
  have AB:=zT3 (M:=M) h0 hc.1.1 hc.2.1 h (by omega)
  have AA:∀s1,GG pre 0 k p t x f (Fo.one k2 0 t2 x2 c2) (c.zA7.flatten++[(4,[],0)]) d s1→RD (vY n s1) (GG pre 0 k p t x f (.cons k2 p2 t2 x2 c2 c) [(4,[],0)] d):=fun s1 ⟨g,hg,h2⟩=>
   vN (zJ4 c n _ _ hc.2.2 (fun j hj=>hs (j+1) (Nat.succ_lt_succ hj)) h2 (by omega) (by omega)) fun s2 h3=>(GG.behind (c:=Fo.one k2 0 t2 x2 c2) hg h3).congr rfl
  rcases h0 with rfl | rfl
  ·have hk:s.hd.kind=1:=congrArg Prod.fst h.ss.hd;rw[vY,if_neg (by rw[hk]; decide),if_pos (by rw[h.is]; rfl)];exact xZ AB AA
  ·have hk:s.hd.kind=1:=congrArg Prod.fst h.ss.hd;rw[vY,if_neg (by rw[hk]; decide),if_neg (by rw[h.is]; exact Bool.false_ne_true),if_pos (by rw[h.is]; rfl)];exact xZ AB AA
theorem zWs {M k:Nat}{t:Bs}{x:Int}{c:Fo}(hs:k=2∨k=3)(hk:xU k t x c.kinds)(hc:c.ok M):LF (zJN k t x c.txt c.inn ((c.st 1).map Prod.snd)) (zA7 k t x c.tok c.zH2 (c.stk.map Prod.snd)):=fun rest=>by
 obtain⟨_,_,hw,AD⟩:=hk;obtain⟨w1,w2,w3⟩:=vD hw
 rcases hs with rfl | rfl
 ·have hn:zAo t=true:=w1 (by decide);have hr:(decide (0<(xK c.kinds).length)&&TT.zCY (xK c.kinds) 0 5)=true:=AD;rw[zF] at hr;have h5:=zQN hr.2;have AB:LT (jD c.txt) (ZX c.tok):=zF7 c.txt c.tok (by rw[VZ,zF5]) fun j hj=>zLy c hc j (by rw[←VZ]; exact hj) (.inl (h5 j (by rw[←VZ]; exact hj)));exact LX.line 0 [([116,97,98,108,101,32],[kwS [116,97,98,108,101]]),(t,[kwS t]),([40],[mk 40]),(jD c.txt,ZX c.tok),([41,59],[mk 41,mk 59])] _ ⟨(LX.name rfl rfl).app (LX.skip rfl _),LX.name hn rfl,LX.mark (by decide) rfl,AB _ rfl,(LX.mark (by decide) rfl).app (LX.mark (by decide) rfl),trivial⟩
 ·have hn:zAo t=true:=w1 (by decide)
  have hx:x=0∨x=1:=by have hm:TT.XP ((3:Nat):Int)=1:=rfl; omega
  obtain⟨k4,p4,t4,x4,c4,k6,p6,t6,x6,c6,rfl,ha,hb⟩:=zG0 (f:=c) (a:=4) (b:=6) AD;obtain rfl:=ZF (w:=4) (by decide) ha;obtain rfl:=ZF (w:=6) (by decide) hb;have h5:=zQN (kk:=c4.kinds) hc.1.1.2.2.2;have AB:LT (jD c4.txt) (ZX c4.tok):=zF7 c4.txt c4.tok (by rw[VZ,zF5]) fun j hj=>zLy c4 hc.2.1 j (by rw[←VZ]; exact hj) (.inl (h5 j (by rw[←VZ]; exact hj)));have AC:=(zPG _ hc 1).snd 1;have AA:LX (xR 0 [[125]]) [mk 125] rest:=LX.line 0 [([125],[mk 125])] rest ⟨LX.mark (by decide) rfl,trivial⟩
  rcases hx with rfl | rfl
  ·exact(LX.line 0 [([112,114,111,99,32],[kwS [112,114,111,99]]),(t,[kwS t]),([40],[mk 40]),(jD c4.txt,ZX c4.tok),([41],[mk 41]),([32,123],[mk 123])] _ ⟨(LX.name rfl rfl).app (LX.skip rfl _),LX.name hn rfl,LX.mark (by decide) rfl,AB _ rfl,LX.mark (by decide) rfl,(LX.skip rfl _).app (LX.mark (by decide) rfl),trivial⟩).app ((AC _).app AA)
  ·exact(LX.line 0 [([112,114,111,99,32],[kwS [112,114,111,99]]),(t,[kwS t]),([40],[mk 40]),(jD c4.txt,ZX c4.tok),([41],[mk 41]),([32,115,105,110,103,108,101,32,123],[kwS [115,105,110,103,108,101],mk 123])] _ ⟨(LX.name rfl rfl).app (LX.skip rfl _),LX.name hn rfl,LX.mark (by decide) rfl,AB _ rfl,LX.mark (by decide) rfl,(LX.skip rfl _).app ((LX.name rfl rfl).app ((LX.skip rfl _).app (LX.mark (by decide) rfl))),trivial⟩).app ((AC _).app AA)
theorem zQd {M:Nat}:∀(f:Fo),f.ok M→(∀j,j<f.kinds.length→f.kinds.getD j 0=2∨f.kinds.getD j 0=3)→LF f.print f.zA7.flatten
 | .nil,_,_=>fun AA=>LX.nil AA
 | .cons k p t x c r,h,hs=>fun AA=>(zWs (hs 0 (Nat.zero_lt_succ _)) h.1.1 h.2.1 _).app (zQd r h.2.2 (fun j hj=>hs (j+1) (Nat.succ_lt_succ hj)) AA)
theorem zNI {M:Nat}(f:Fo)(hc:f.ok M)(hs:∀j,j<f.kinds.length→f.kinds.getD j 0=2∨f.kinds.getD j 0=3)(hd:vV f.xP≤64)(hl:f.print.length≤65536):∃(g:Fo) (p:Nat),g.z=f.z∧zL6 f.print=.ok (⟨1,p,[],0,g.roots 1⟩::g.flat 1):=by
 obtain⟨us,hu,e⟩:=zQd f hc hs [] 0;rw[List.append_nil,zJO] at e;have e:VJ 0 f.print=.ok (us++[⟨4,0+f.print.length,0+f.print.length,[],0⟩]):=e;unfold zL6;rw[if_neg (by omega),e]
 show ∃(g:Fo) (p:Nat),g.z=f.z∧XY _=_
 have h0:AtP [] 0 1 (Ps.hd ⟨us++[⟨4,0+f.print.length,0+f.print.length,[],0⟩],[],0⟩).at_ [] 0 .nil (Ps.node ⟨us++[⟨4,0+f.print.length,0+f.print.length,[],0⟩],[],0⟩ 1) (f.zA7.flatten++[(4,[],0)]) 0:=⟨rfl,rfl,by
  show(us++[_]).map Tok.sk=_
  rw[List.map_append,hu]
  rfl,rfl⟩
 obtain⟨s,e2,g,hg,h1⟩:=zJ4 f ((us++[(⟨4,0+f.print.length,0+f.print.length,[],0⟩:Tok)]).length+1) _ _ hc hs h0 (by omega) (by
  have:=zJI f [] hs
  rw[←hu] at this;rw[List.append_nil,yN] at this;rw[yM]
  omega)
 have e3:zAZ ⟨us++[⟨4,0+f.print.length,0+f.print.length,[],0⟩],[],0⟩=.ok () s:=e2;refine⟨g,(Ps.hd ⟨us++[⟨4,0+f.print.length,0+f.print.length,[],0⟩],[],0⟩).at_,hg,?_⟩;unfold XY;rw[e3]
 show zGq.ok s.nd=_
 rw[h1.nd]
 rfl
theorem zEQ:∀f:Fo,f.z.kinds=f.kinds
 | .nil=>rfl
 | .cons k p t x c r=>by show k::r.z.kinds=k::r.kinds; rw[zEQ r]
theorem zBt:∀f:Fo,f.z.size=f.size
 | .nil=>rfl
 | .cons k p t x c r=>by show 1+c.z.size+r.z.size=1+c.size+r.size; rw[zBt c,zBt r]
theorem zQk:∀(f:Fo) (a:Nat),f.z.roots a=f.roots a
 | .nil,a=>rfl
 | .cons k p t x c r,a=>by show a::r.z.roots (a+1+c.z.size)=a::r.roots (a+1+c.size); rw[zBt c,zQk r]
theorem zNw:∀f:Fo,f.z.txt=f.txt
 | .nil=>rfl
 | .cons k p t x c r=>by show zAt k t x c.z.txt c.z.kinds::r.z.txt=zAt k t x c.txt c.kinds::r.txt; rw[zNw c,zEQ c,zNw r]
theorem zUJ:∀(f:Fo) (d:Nat),f.z.st d=f.st d
 | .nil,d=>rfl
 | .cons k p t x c r,d=>by
  show(xW d k t x c.z.txt ((c.z.st (d+1)).map Prod.snd),((c.z.st d).map Prod.fst).flatten)::r.z.st d=(xW d k t x c.txt ((c.st (d+1)).map Prod.snd),((c.st d).map Prod.fst).flatten)::r.st d
  rw[zNw c,zUJ c,zUJ c,zUJ r]
theorem zVh:∀f:Fo,f.z.inn=f.inn
 | .nil=>rfl
 | .cons k p t x c r=>by show jD c.z.txt::r.z.inn=jD c.txt::r.inn; rw[zNw c,zVh r]
theorem zVf:∀f:Fo,f.z.top=f.top
 | .nil=>rfl
 | .cons k p t x c r=>by show zJN k t x c.z.txt c.z.inn ((c.z.st 1).map Prod.snd)::r.z.top=zJN k t x c.txt c.inn ((c.st 1).map Prod.snd)::r.top; rw[zNw c,zVh c,zUJ c,zVf r]
theorem zUm (f:Fo):f.z.print=f.print:=by unfold Fo.print; rw[zVf]
theorem zTn:∀f:Fo,f.z.wt=f.wt
 | .nil=>rfl
 | .cons k p t x c r=>by show t.length+30+c.z.wt+r.z.wt=t.length+30+c.wt+r.wt; rw[zTn c,zTn r]
theorem zUH {M:Nat}:∀f:Fo,f.ok M→f.z.ok 0
 | .nil,_=>trivial
 | .cons k p t x c r,h=>⟨⟨by rw[zEQ c]; exact h.1.1,zU _⟩,zUH c h.2.1,zUH r h.2.2⟩
def zVg (m:TT.xC)(n:Nd):Prop:=m.kind=(n.kind:Int)∧m.num=n.num∧m.text.data.toList=n.text∧m.kids=xK n.kids
theorem zO9 {L:List TT.xC}:∀(f:Fo) (a:Nat),(∀j n,(f.flat a)[j]?=some n→∃m,L[a+j]?=some m∧zVg m n)→VP L a f
 | .nil,a,_=>trivial
 | .cons k p t x c r,a,h=>by
  have e:(Fo.cons k p t x c r).flat a=⟨k,p,t,x,c.roots (a+1)⟩::(c.flat (a+1)++r.flat (a+1+c.size)):=rfl;rw[e] at h;refine⟨?_,zO9 c (a+1) fun j n hj=>?_,zO9 r (a+1+c.size) fun j n hj=>?_⟩
  ·obtain⟨m,h1,h2⟩:=h 0 _ rfl;exact⟨m,h1,h2⟩
  ·have AA:=(List.getElem?_eq_some_iff.1 hj).1;obtain⟨m,h1,h2⟩:=h (j+1) n (by rw[List.getElem?_cons_succ,List.getElem?_append_left AA]; exact hj);exact⟨m,by rw[show a+1+j=a+(j+1) from by omega]; exact h1,h2⟩
  ·obtain⟨m,h1,h2⟩:=h (c.size+j+1) n (by
    rw[List.getElem?_cons_succ,List.getElem?_append_right (by rw[vK]; omega),vK,show c.size+j-c.size=j from by omega]; exact hj)
   exact⟨m,by rw[show a+1+c.size+j=a+(c.size+j+1) from by omega]; exact h1,h2⟩
theorem zG2 {L:List TT.xC}:∀(f:Fo) (a:Nat),VP L a f→∀j n,(f.flat a)[j]?=some n→∃m,L[a+j]?=some m∧zVg m n
 | .nil,a,_,j,n,h=>by cases h
 | .cons k p t x c r,a,hL,j,n,h=>by
  have e:(Fo.cons k p t x c r).flat a=⟨k,p,t,x,c.roots (a+1)⟩::(c.flat (a+1)++r.flat (a+1+c.size)):=rfl;rw[e] at h;obtain⟨⟨m,h1,h2⟩,hc,hr⟩:=hL
  cases j with
  | zero=>
   injection h with h;subst h;exact⟨m,h1,h2⟩
  | succ j=>
   rw[List.getElem?_cons_succ] at h
   by_cases hj:j<c.size
   ·rw[List.getElem?_append_left (by rw[vK]; exact hj)] at h;obtain⟨m,h3,h4⟩:=zG2 c (a+1) hc j n h;exact⟨m,by rw[show a+(j+1)=a+1+j from by omega]; exact h3,h4⟩
   ·rw[List.getElem?_append_right (by rw[vK]; omega),vK] at h;obtain⟨m,h3,h4⟩:=zG2 r _ hr _ n h;exact⟨m,by rw[show a+(j+1)=a+1+c.size+(j-c.size) from by omega]; exact h3,h4⟩
theorem zI8 {L:List TT.xC}:∀(f:Fo) (a:Nat),VP L a f→VP L a f.z
 | .nil,a,_=>trivial
 | .cons k p t x c r,a,⟨⟨n,h1,h2,h3,h4,h5⟩,hc,hr⟩=>⟨⟨n,h1,h2,h3,h4,by rw[zQk]; exact h5⟩,zI8 c _ hc,by rw[zBt]; exact zI8 r _ hr⟩
theorem zSb {L L':List TT.xC}{f g:Fo}{a:Nat}(h:VP L a f)(h':VP L' a g)(e:g.z=f.z)(j:Nat)(hj:j<f.size):∃m m',L[a+j]?=some m∧L'[a+j]?=some m'∧m.kind=m'.kind∧m.num=m'.num∧m.text=m'.text∧m.kids=m'.kids:=by
 have h':VP L' a f.z:=by rw[←e]; exact zI8 g a h'
 have h:=zI8 f a h
 have hl:j<(f.z.flat a).length:=by rw[vK,zBt]; exact hj
 obtain⟨m,h1,h2,h3,h4,h5⟩:=zG2 _ _ h j _ (yG hl);obtain⟨m',AD,AC,AA,AB,AE⟩:=zG2 _ _ h' j _ (yG hl);exact⟨m,m',h1,AD,by rw[h2,AC],by rw[h3,AA],(zDw h4).trans (zDw AB).symm,by rw[h5,AE]⟩
def VW (u:Tok):Nat:=60+u.text.length
def jE (k:Nat):Nat:=if k=1∨k=4 then 0 else if k=6 then 80 else if k=2∨k=3∨(7≤k∧k≤19) then 100 else 25
def JQ (n:Nd):Nat:=n.text.length+jE n.kind
def val (s:Ps):Nat:=(s.nd.map JQ).sum+(s.ts.map VW).sum
def BU {α:Type}(s:Ps)(c:Nat)(r:Res α):Prop:=∀a s',r=.ok a s'→val s'+c≤val s
section
variable {α β:Type} {s:Ps} {c d:Nat}
theorem zJD {a:α}{s':Ps}(h:val s'+c≤val s):BU s c (.ok a s':Res α):=fun b t e=>by injection e with e1 e2; subst e2; exact h
theorem zDA {e:Int}{p:Nat}:BU s c (.err e p:Res α):=fun b t h=>by cases h
theorem zU1 {r:Res α}{f:α→Ps→Res β}{s2:Ps}(h:BU s2 c r)(k:∀a s',BU s' d (f a s')){e:Nat}(he:∀v,v+c≤val s2→∀u,u+d≤v→u+e≤val s):BU s e (r.bind f):=fun b t hb=>by
 cases r with
 | ok a s'=>exact he _ (h a s' rfl) _ (k a s' b t hb)
 | err i p=>cases hb
theorem zEO {r:Res α}{s2:Ps}(h:BU s2 c r){e:Nat}(he:∀v,v+c≤val s2→v+e≤val s):BU s e r:=fun a s' hr=>he _ (h a s' hr)
theorem zBk {p:Prop} [Decidable p] {a b:Res α}(h:p→BU s c a)(k:¬p→BU s c b):BU s c (if p then a else b):=by
 split
 ·rename_i hp; exact h hp
 ·rename_i hp; exact k hp
theorem zEG (h:s.hd.kind≠4):val s.adv+VW s.hd≤val s:=by
 unfold val Ps.adv;unfold Ps.hd at h ⊢
 cases e:s.ts with
 | nil=>rw[e] at h; exact absurd rfl h
 | cons t l=>
  show(s.nd.map JQ).sum+(l.map VW).sum+VW t≤(s.nd.map JQ).sum+((t::l).map VW).sum
  rw[List.map_cons,List.sum_cons];omega
theorem zAn {b:Bs}(h:isP b s=true):val s.adv+(60+b.length)≤val s:=by
 unfold isP at h;simp only[zF,zD,ne_eq,zN] at h
 have:=zEG (s:=s) h.1.1
 unfold VW at this;rw[h.2] at this;exact this
theorem zOF (l:List Nd)(i:Nat)(f:Nd→Nd)(m:Nat)(hf:∀n,JQ (f n)≤JQ n+m):((l.modify i f).map JQ).sum≤(l.map JQ).sum+m:=by
 induction l generalizing i with
 | nil=>simp
 | cons a l ih=>
  cases i with
  | zero=>
   have:=hf a
   simp only[List.modify_zero_cons,List.map_cons,List.sum_cons];omega
  | succ i=>
   have:=ih i
   simp only[List.modify_succ_cons,List.map_cons,List.sum_cons];omega
theorem zLL {i m:Nat}{f:Nd→Nd}(hf:∀n,JQ (f n)≤JQ n+m):val (s.on i f)≤val s+m:=by
 have:=zOF s.nd i f m hf
 unfold val Ps.on
 show((s.nd.modify i f).map JQ).sum+(s.ts.map VW).sum≤_
 omega
theorem zSl {i:Nat}{t:Bs}:val (s.text i t)≤val s+t.length:=zLL fun n=>by unfold JQ; show t.length+jE n.kind≤_; omega
theorem zMc {i:Nat}{x:Int}:val (s.num i x)≤val s:=zLL (m:=0) fun n=>zU _
theorem zIR {i:Nat}:val (s.kid i)≤val s:=zLL (m:=0) fun n=>zU _
theorem val_add {n:Nd}:val (s.add n)=val s+JQ n:=by
 unfold val Ps.add
 show((s.nd++[n]).map JQ).sum+(s.ts.map VW).sum=_
 rw[List.map_append,List.sum_append]
 simp
 omega
theorem XS {i k:Nat}:val (s.xB i k)≤val s+jE k:=by
 unfold Ps.xB Ps.node;rw[val_add]
 have:=zIR (s:=s) (i:=i)
 unfold JQ
 simp
 omega
theorem YQ {b:Bs}:BU s 60 (vE b s):=by
 unfold vE;exact zBk (fun h=>zJD (by have:=zAn h; omega)) fun _=>zDA
theorem zA2 {i:Nat}:BU s 60 (vS i s):=by
 unfold vS ofP
 split
 ·rename_i h;rw[vT];refine zJD ?_;have h1:=zEG (s:=s) (by rw[h]; decide);have h2:=zSl (s:=s.adv) (i:=i) (t:=s.hd.text);unfold VW at h1;omega
 ·exact zDA
theorem zEY {i:Nat}:BU s 35 (JN i s):=zEO zA2 fun v hv=>by
 have:=XS (s:=s) (i:=i) (k:=5)
 have e:jE 5=25:=rfl;omega
theorem zLo {i:Nat}:BU s 35 (JX i s):=by
 unfold JX zBr ofP
 split
 ·rename_i h;rw[vT];refine zJD ?_;have h0:=XS (s:=s) (i:=i) (k:=21);have h1:=zEG (s:=s.xB i 21) (by rw[h]; decide);have h2:=zMc (s:=(s.xB i 21).adv) (i:=s.nd.length) (x:=(s.xB i 21).hd.n);have e:jE 21=25:=rfl;unfold VW at h1;omega
 ·exact zDA
end
theorem vO {β:Type}{s s2:Ps}{c:Nat}{r:Res Unit}{f:Unit→Ps→Res β}(d e:Nat)(h:BU s2 c r)(k:∀s',BU s' d (f () s'))(he:val s2+e≤val s+c+d):BU s e (r.bind f):=zU1 h (fun _ s'=>k s') fun v hv u hu=>by omega
theorem zF4 {s:Ps}:BU s 0 (.ok () s:Res Unit):=zJD (zU _)
theorem zKu {s:Ps}{a z:Bs}{body:Pm Unit}(c:Nat)(hb:∀s1,BU s1 c (body s1)):BU s (c+if z=[] then 60 else 120) (xY a z body s):=by
 intro x s' e;unfold xY at e
 by_cases ha:isP a s=true
 ·rw[if_pos ha] at e
  split at e
  ·cases e
  ·have h1:=zAn ha
   cases hr:body { s.adv with deep:=s.deep+1 } with
   | err i p=>rw[hr] at e; cases e
   | ok y s1=>
    have h2:=hb _ y s1 hr;have h2:val s1+c≤val s.adv:=h2;rw[hr,vT] at e
    by_cases hz:z=[]
    ·rw[if_pos hz] at e ⊢;injection e with _ e;subst e
     show val s1+_≤_
     omega
    ·rw[if_neg hz] at e ⊢;unfold vE at e
     by_cases AA:isP z s1=true
     ·rw[if_pos AA] at e;have h3:=zAn AA;injection e with _ e;subst e
      show val s1.adv+_≤_
      omega
     ·rw[if_neg AA] at e
      cases e
 ·rw[if_neg ha] at e
  cases e
def Ex.cost:Ex→Nat
 | .leaf k _ t _=>t.length+jE k
 | .neg _ a=>25+a.cost
 | .bin k _ a b=>jE k+a.cost+b.cost
def BX (s:Ps)(r:Res Ex):Prop:=∀e s',r=.ok e s'→val s'+e.cost≤val s
theorem zKl {s:Ps}{a z:Bs}{body:Pm Ex}(hb:∀s1,BX s1 (body s1)):∀e s',xY a z body s=.ok e s'→val s'+e.cost+60≤val s:=by
 intro x s' e;unfold xY at e
 split at e
 ·rename_i ha
  split at e
  ·cases e
  ·have h1:=zAn ha
   cases hr:body { s.adv with deep:=s.deep+1 } with
   | err i p=>rw[hr] at e; cases e
   | ok y s1=>
    have h2:=hb _ y s1 hr;have h2:val s1+y.cost≤val s.adv:=h2;rw[hr,vT] at e
    split at e
    ·injection e with e1 e;subst e e1
     show val s1+_+60≤_
     omega
    ·unfold vE at e
     split at e
     ·rename_i AA;have h3:=zAn AA;injection e with e1 e;subst e e1
      show val s1.adv+_+60≤_
      omega
     ·cases e
 ·cases e
theorem zTp {ms:List (Bs × Nat)}{s:Ps}{k:Nat}(h:zAi ms s=some k):val s.adv+60≤val s:=by
 unfold zAi at h;obtain⟨m,h1,rfl⟩:=Option.map_eq_some_iff.1 h;have h2:=List.find?_some h1
 have:=zAn (s:=s) (b:=m.1) h2
 omega
theorem zKJ {ms:List (Bs × Nat)}(hm:∀m ∈ ms,m.2=23∨m.2=24∨m.2=25){part:Pm Ex}(hp:∀s,BX s (part s)):∀(f:Nat) (e:Ex) (s:Ps) (e':Ex) (s':Ps),ZE ms part f e s=.ok e' s'→val s'+e'.cost≤val s+e.cost
 | 0,e,s,e',s',h=>by cases h
 | f+1,e,s,e',s',h=>by
  unfold ZE at h
  split at h
  ·injection h with h1 h2;subst h1 h2;exact zU _
  ·rename_i k hk;have h0:=zTp hk
   have hc:jE k=25:=by rcases zMh hm hk with rfl | rfl | rfl <;> rfl
   cases hr:part s.adv with
   | err i p=>rw[hr] at h; cases h
   | ok r u=>
    have h1:=hp _ r u hr;rw[hr,vT] at h;have h2:=zKJ hm hp f _ _ _ _ h;have h3:(Ex.bin k e.pos e r).cost=jE k+e.cost+r.cost:=rfl;omega
theorem zMT {ms:List (Bs × Nat)}(hm:∀m ∈ ms,m.2=23∨m.2=24∨m.2=25){part:Pm Ex}(hp:∀s,BX s (part s))(s:Ps):BX s (ZL ms part s):=fun e s' h=>by
 unfold ZL at h
 cases hr:part s with
 | err i p=>rw[hr] at h; cases h
 | ok r u=>
  have h1:=hp _ r u hr;rw[hr,vT] at h;have h2:=zKJ hm hp _ _ _ _ _ h;omega
theorem zMB {part:Pm Ex}(hp:∀s,BX s (part s))(s:Ps):BX s (sumOf part s):=zMT (by decide) (fun s=>zMT (by decide) hp s) s
theorem zGW:∀(f:Nat) (s:Ps),BX s (xM f s)
 | 0,s=>fun e s' h=>by cases h
 | f+1,s=>fun e s' h=>by
  unfold xM at h
  split at h
  ·rename_i hk;injection h with h1 h2;subst h1 h2
   have:=zEG (s:=s) (by rw[hk]; decide)
   unfold VW at this
   show _+(s.hd.text.length+25)≤_
   omega
  ·split at h
   ·rename_i hk;injection h with h1 h2;subst h1 h2
    have:=zEG (s:=s) (by rw[hk]; decide)
    unfold VW at this
    show _+(0+25)≤_
    omega
   ·split at h
    ·cases hr:xY [45] [] (xM f) s with
     | err i p=>rw[hr] at h; cases h
     | ok r u=>
      have h1:=zKl (fun s1=>zGW f s1) r u hr;rw[hr,vT] at h;injection h with h2 h3;subst h2 h3
      show _+(25+r.cost)≤_
      omega
    ·have h1:=zKl (fun s1=>zMB (fun s=>zGW f s) s1) e s' h;omega
theorem zIP:∀(e:Ex) (i:Nat) (s:Ps),val (zAe i e s)≤val s+e.cost
 | .leaf k p t n,i,s=>by
  show val ((s.kid i).add ⟨k,p,t,n,[]⟩)≤val s+(t.length+jE k)
  rw[val_add]
  have:=zIR (s:=s) (i:=i)
  have e:JQ ⟨k,p,t,n,[]⟩=t.length+jE k:=rfl;omega
 | .neg p a,i,s=>by
  have h1:=zIP a s.nd.length ((s.kid i).add ⟨26,p,[],0,[]⟩);rw[val_add] at h1
  have:=zIR (s:=s) (i:=i)
  have e:JQ ⟨26,p,[],0,[]⟩=25:=rfl
  show val (zAe s.nd.length a ((s.kid i).add ⟨26,p,[],0,[]⟩))≤val s+(25+a.cost)
  omega
 | .bin k p a b,i,s=>by
  have h1:=zIP a s.nd.length ((s.kid i).add ⟨k,p,[],0,[]⟩);have h2:=zIP b s.nd.length (zAe s.nd.length a ((s.kid i).add ⟨k,p,[],0,[]⟩));rw[val_add] at h1
  have:=zIR (s:=s) (i:=i)
  have e:JQ ⟨k,p,[],0,[]⟩=jE k:=by show 0+jE k=jE k; omega
  show val (zAe s.nd.length b (zAe s.nd.length a ((s.kid i).add ⟨k,p,[],0,[]⟩)))≤val s+(jE k+a.cost+b.cost)
  omega
theorem zDN {i:Nat}{s:Ps}:BU s 0 (XC i s):=by
 intro a s' h;unfold XC at h
 cases hr:zLN s with
 | err j p=>rw[hr] at h; cases h
 | ok e u=>
  rw[hr,vT] at h;injection h with _ h;subst h;have h1:=zMB (fun s=>zGW _ s) s e u hr;have h2:=zIP e i u
  show val (zAe i e u)+0≤val s
  omega
theorem zBD {α:Type}{s:Ps}{c:Nat}{r:Res α}(h:BU s c r)(e:Nat)(he:e≤c):BU s e r:=zEO h fun v hv=>by omega
theorem zWr {s:Ps}{i:Nat}{x:Int}:BU s 0 (.ok () (s.num i x):Res Unit):=zJD (by have:=zMc (s:=s) (i:=i) (x:=x); omega)
theorem zG7 {s:Ps}{b:Bs}{i:Nat}{x:Int}(h:isP b s=true):BU s 60 (.ok () (s.adv.num i x):Res Unit):=zJD (by have h1:=zAn h; have:=zMc (s:=s.adv) (i:=i) (x:=x); omega)
theorem zST {i:Nat}{s:Ps}:BU s 120 (zD5 i s):=zKu (z:=[93]) 0 fun s1=>zDN
theorem zOC {i:Nat}{s:Ps}:BU s 155 (zEn i s):=vO 120 155 zA2 (fun s1=>zST) (by
 have:=XS (s:=s) (i:=i) (k:=20)
 have e:jE 20=25:=rfl
 omega)
theorem zPQ {i:Nat}{s:Ps}:BU s 250 (zEF i s):=vO 95 250 zOC (fun s1=>vO 35 95 YQ (fun s2=>zEY) (by omega)) (by omega)
theorem zPM {one:Pm Unit}(h:∀s,BU s 0 (one s)):∀(n:Nat) (s:Ps),BU s 0 (JU one n s)
 | 0,s=>zDA
 | n+1,s=>by
  unfold JU;exact zBk (fun hc=>vO 0 0 (h s.adv) (fun s1=>zPM h n s1) (by have:=zAn hc; omega)) fun _=>zF4
theorem zLR {one:Pm Unit}(h:∀s,BU s 0 (one s))(s:Ps):BU s 0 (JC one s):=vO 0 0 (h s) (fun s1=>zPM h _ s1) (by omega)
theorem zNf {st:Nat→Pm Unit}(h:∀i s,BU s 0 (st i s))(i:Nat):∀(n:Nat) (s:Ps),BU s 0 (ZJ st i n s)
 | 0,s=>zDA
 | n+1,s=>by
  unfold ZJ;exact zBk (fun _=>zF4) fun _=>vO 0 0 (h i s) (fun s1=>zNf h i n s1) (by omega)
theorem zGd {st:Nat→Pm Unit}(h:∀i s,BU s 0 (st i s))(i:Nat)(s:Ps):BU s 40 (XN st i s):=by
 unfold XN;refine zEO (zKu (z:=[125]) 0 fun s1=>zNf h _ _ s1) fun v hv=>?_
 have:=XS (s:=s) (i:=i) (k:=6)
 have e:jE 6=80:=rfl;have e2:(0+if ([125]:Bs)=[] then 60 else 120)=120:=rfl;omega
theorem zMI {st:Nat→Pm Unit}(h:∀i s,BU s 0 (st i s))(k i:Nat)(s:Ps):BU s (if k=14∨k=15 then 40 else 0) (YO st k i s):=by
 unfold YO
 by_cases h7:k=7
 ·subst h7;rw[if_pos rfl];exact vO 0 0 zA2 (fun s1=>vO 0 0 YQ (fun s2=>vO 0 0 zPQ (fun s3=>zBk (fun hc=>vO 0 0 YQ (fun s4=>zWr) (by have:=zAn hc; omega)) fun _=>zF4) (by omega)) (by omega)) (by omega)
 rw[if_neg h7]
 by_cases h8:k=8
 ·subst h8;rw[if_pos rfl];exact vO 0 0 zPQ (fun s1=>vO 0 0 YQ (fun s2=>zDN) (by omega)) (by omega)
 rw[if_neg h8]
 by_cases h9:k=9
 ·subst h9;rw[if_pos rfl];exact vO 0 0 zOC (fun s1=>vO 0 0 YQ (fun s2=>vO 0 0 (zLR (fun s=>zDN) s2) (fun s3=>zBD YQ 0 (by omega)) (by omega)) (by omega)) (by omega)
 rw[if_neg h9]
 by_cases AB:k=10
 ·subst AB;rw[if_pos rfl];exact zBD zOC 0 (by omega)
 rw[if_neg AB]
 by_cases AC:k=11
 ·subst AC;rw[if_pos rfl];exact vO 0 0 zA2 (fun s1=>vO 0 0 YQ (fun s2=>vO 0 0 zEY (fun s3=>vO 0 0 YQ (fun s4=>zBD zEY 0 (by omega)) (by omega)) (by omega)) (by omega)) (by omega)
 rw[if_neg AC]
 by_cases AA:k=12
 ·subst AA;rw[if_pos rfl];exact vO 0 0 zEY (fun s1=>zBk (fun hc=>zBD (zG7 hc) 0 (by omega)) fun _=>zBD YQ 0 (by omega)) (by omega)
 rw[if_neg AA]
 by_cases AG:k=13
 ·subst AG;rw[if_pos rfl];refine vO (c:=60) 0 0 zA2 (fun s1=>zBk (fun hc=>zEO (zST (s:=s1.kind s.nd.length 20)) fun v hv=>?_) fun _=>zF4) ?_
  ·have:=zLL (s:=s1) (i:=s.nd.length) (m:=25) (f:=fun n=>{ n with kind:=20 }) fun n=>by
    unfold JQ
    show n.text.length+25≤_
    omega
   have hv:v+120≤val (s1.on s.nd.length fun n=>{ n with kind:=20 }):=hv;omega
  ·have:=XS (s:=s) (i:=i) (k:=5)
   have e:jE 5=25:=rfl;omega
 rw[if_neg AG]
 by_cases AF:k=14
 ·subst AF;rw[if_pos rfl,if_pos (by omega)];refine vO 40 40 zDN (fun s1=>vO (c:=60) 40 40 (zBk (fun hc=>zG7 hc) fun _=>YQ) (fun s2=>vO 40 40 zDN (fun s3=>vO 0 40 (zGd h i s3) (fun s4=>zBk (fun hc=>zEO (zGd h i s4.adv) fun v hv=>by have:=zAn hc; omega) fun _=>zF4) (by omega)) (by omega)) (by omega)) (by omega)
 rw[if_neg AF]
 by_cases AD:k=15
 ·subst AD;rw[if_pos rfl,if_pos (by omega)];exact vO 40 40 zA2 (fun s1=>vO 40 40 YQ (fun s2=>vO 40 40 zLo (fun s3=>vO 40 40 YQ (fun s4=>vO 40 40 zLo (fun s5=>zGd h i s5) (by omega)) (by omega)) (by omega)) (by omega)) (by omega)
 rw[if_neg AD,if_neg (by omega)]
 by_cases AH:k=16
 ·subst AH;rw[if_pos rfl];exact vO 0 0 zA2 (fun s1=>vO 0 0 YQ (fun s2=>zDN) (by omega)) (by omega)
 rw[if_neg AH]
 by_cases AE:k=17
 ·subst AE;rw[if_pos rfl];exact zDN
 rw[if_neg AE];exact zF4
theorem zMr:∀(n i:Nat) (s:Ps),BU s 0 (jO n i s)
 | 0,i,s=>zDA
 | n+1,i,s=>by
  unfold jO
  split
  ·exact zDA
  ·rename_i k hk
   have AA:s.hd.kind=1:=by
    by_cases hh:s.hd.kind=1
    ·exact hh
    ·rw[if_neg hh] at hk; cases hk
   rw[if_pos AA] at hk;have hS:=zJJ hk
   have e:jE k=100:=by
    unfold jE;have h1:=hS.1;have h2:=hS.2;rw[if_neg (by omega),if_neg (by omega),if_pos (by omega)]
   have hv:=zEG (s:=s.xB i k) (by show s.hd.kind≠4; rw[AA]; decide);have AB:=XS (s:=s) (i:=i) (k:=k);unfold VW at hv
   by_cases hc:k=14∨k=15
   ·have hr:=zMI (fun i s=>zMr n i s) k s.nd.length (s.xB i k).adv;rw[if_pos hc] at hr;refine vO (c:=40) 0 0 hr (fun s1=>?_) (by omega);rw[if_pos hc];exact zF4
   ·have hr:=zMI (fun i s=>zMr n i s) k s.nd.length (s.xB i k).adv;rw[if_neg hc] at hr;refine vO (c:=0) 60 0 hr (fun s1=>?_) (by omega);rw[if_neg hc];exact YQ
theorem zTj (i:Nat)(s:Ps):BU s 0 (zAX i s):=vO (c:=60) 60 0 YQ (fun s1=>vO (c:=60) 0 60 zA2 (fun s2=>vO 0 0 YQ (fun s3=>vO 0 0 (zLR (fun s=>zBD zEY 0 (by omega)) s3) (fun s4=>vO 0 0 YQ (fun s5=>zBD YQ 0 (by omega)) (by omega)) (by omega)) (by omega)) (by omega)) (by
 have:=XS (s:=s) (i:=i) (k:=2)
 have e:jE 2=100:=rfl
 omega)
theorem zTN (i:Nat)(s:Ps):BU s 0 (JM i s):=by
 have:=XS (s:=s) (i:=i) (k:=4)
 have e:jE 4=0:=rfl;unfold JM
 exact zBk (fun _=>zJD (by omega)) fun _=>zEO (zLR (fun s=>zBD zEY 0 (by omega)) (s.xB i 4)) fun v hv=>by omega
theorem zUs (i:Nat)(s:Ps):BU s 0 (zCB i s):=vO (c:=60) 60 0 YQ (fun s1=>vO (c:=60) 0 60 zA2 (fun s2=>vO 0 0 YQ (fun s3=>vO 0 0 (zTN _ s3) (fun s4=>vO 0 0 YQ (fun s5=>vO (c:=0) 0 0 (zBk (fun hc=>zBD (zG7 hc) 0 (by omega)) fun _=>zF4) (fun s6=>zBD (zGd (fun i s=>zMr _ i s) _ s6) 0 (by omega)) (by omega)) (by omega)) (by omega)) (by omega)) (by omega)) (by
 have:=XS (s:=s) (i:=i) (k:=3)
 have e:jE 3=100:=rfl
 omega)
theorem zJE:∀(n:Nat) (s:Ps),BU s 0 (vY n s)
 | 0,s=>zDA
 | n+1,s=>by
  unfold vY;exact zBk (fun _=>zF4) fun _=>zBk (fun _=>vO 0 0 (zTj 0 s) (fun s1=>zJE n s1) (by omega)) fun _=>zBk (fun _=>vO 0 0 (zUs 0 s) (fun s1=>zJE n s1) (by omega)) fun _=>zDA
theorem zNH {ts:List Tok}{y:List Nd}(h:XY ts=.ok y):(y.map JQ).sum≤(ts.map VW).sum:=by
 unfold XY at h
 cases hr:zAZ ⟨ts,[],0⟩ with
 | err e p=>rw[hr] at h; cases h
 | ok a s=>
  rw[hr] at h;injection h with h;subst h;have h1:=zJE _ _ a s hr;unfold val Ps.node at h1;rw[show JQ=JQ from rfl] at h1;simp[Ps.add,JQ,jE] at h1;omega
theorem zFf:∀(f p:Nat) (s:Bs) (l:List Tok),zBn f p s=.ok l→(l.map VW).sum≤61*s.length+60
 | 0,p,s,l,h=>by cases h
 | f+1,p,s,l,h=>by
  have hw:=zCs s;unfold zBn at h
  cases hs:step s with
  | fin=>
   rw[hs] at h;injection h with h;subst h
   show 60+0+0≤_
   omega
  | bad e=>rw[hs] at h; cases h
  | skip k=>
   rw[hs] at h hw;have h1:1≤k:=hw.1
   have:=zFf f _ _ l h
   rw[List.length_drop] at this;omega
  | tok kd k n=>
   rw[hs] at h hw;have h1:1≤k:=hw.1;have h2:k≤s.length:=hw.2
   cases hr:zBn f (p+k) (s.drop k) with
   | err a e=>
    have h:(zBn f (p+k) (s.drop k)).cons ⟨kd,p,p+k,s.take k,n⟩=.ok l:=h;rw[hr] at h; cases h
   | ok m=>
    have h:(zBn f (p+k) (s.drop k)).cons ⟨kd,p,p+k,s.take k,n⟩=.ok l:=h;rw[hr] at h;injection h with h;subst h
    have:=zFf f _ _ m hr
    rw[List.length_drop] at this;rw[List.map_cons,List.sum_cons]
    have e:VW ⟨kd,p,p+k,s.take k,n⟩=60+k:=by
     show 60+(s.take k).length=_
     rw[List.length_take]; omega
    rw[e];omega
def Fo.cost:Fo→Nat
 | .nil=>0
 | .cons k p t x c r=>(t.length+jE k+c.cost)+r.cost
def Fo.zCi:Fo→List Nat
 | .nil=>[]
 | .cons k p t x c r=>(t.length+jE k+c.cost)::r.zCi
theorem zGP:∀(f:Fo) (a:Nat),((f.flat a).map JQ).sum=f.cost
 | .nil,a=>rfl
 | .cons k p t x c r,a=>by
  show JQ ⟨k,p,t,x,c.roots (a+1)⟩+((c.flat (a+1)++r.flat (a+1+c.size)).map JQ).sum=_
  rw[List.map_append,List.sum_append,zGP c,zGP r]
  show(t.length+jE k)+(c.cost+r.cost)=(t.length+jE k+c.cost)+r.cost
  omega
theorem zGC:∀f:Fo,f.zCi.sum=f.cost
 | .nil=>rfl
 | .cons k p t x c r=>by
  show((t.length+jE k+c.cost)::r.zCi).sum=_
  rw[List.sum_cons,zGC r]
  rfl
theorem zGI {M:Nat}:∀e:Ex,QX M e→e.bs.length+4≤e.cost
 | .leaf k p t n,q=>by
  rcases q.1 with ⟨rfl,ht,rfl⟩ | ⟨rfl,rfl,h0,h1⟩
  ·show t.length+4≤t.length+25
   omega
  ·have:=Lib.itoa_length_le n (by omega) (by omega)
   show(Lib.itoa n).length+4≤0+25
   omega
 | .neg p a,q=>by
  have h1:=zGI a q.1;have h2:=YL 3 (exK a) a.bs
  show([45]++jL 3 (exK a) a.bs).length+4≤25+a.cost
  simp only[yM,zJ,zK];omega
 | .bin k p a b,q=>by
  have h1:=zGI a q.2.1;have h2:=YL (zD3 k) (exK a) a.bs;have h3:=zGI b q.2.2.1;have h4:=YL (zDG k) (exK b) b.bs
  have hc:jE k=25:=by rcases q.1 with rfl | rfl | rfl <;> rfl
  show(jL (zD3 k) (exK a) a.bs++[32,zDd k,32]++jL (zDG k) (exK b) b.bs).length+4≤jE k+a.cost+b.cost
  simp only[yM,zJ,zK];omega
theorem zEJ:∀(e:Ex) (r:Fo),(e.fo r).cost=e.cost+r.cost
 | .leaf k p t n,r=>by show(t.length+jE k+0)+r.cost=(t.length+jE k)+r.cost; omega
 | .neg p a,r=>by
  show(0+jE 26+(a.fo .nil).cost)+r.cost=(25+a.cost)+r.cost
  rw[zEJ a];have e:jE 26=25:=rfl
  show(0+jE 26+(a.cost+0))+r.cost=_
  omega
 | .bin k p a b,r=>by
  show(0+jE k+(a.fo (b.fo .nil)).cost)+r.cost=(jE k+a.cost+b.cost)+r.cost
  rw[zEJ a,zEJ b]
  show(0+jE k+(a.cost+(b.cost+0)))+r.cost=_
  omega
end Go.Proofs.YtioffpjajhalaaaGreatDoor
