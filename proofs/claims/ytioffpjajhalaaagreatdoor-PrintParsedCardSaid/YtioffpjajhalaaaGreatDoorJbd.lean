/- The words of what is printed of statements, tables and procedures; their lines are read so. No program in sight; no condition. (and what follows of it). The conditions stand at each lemma. -/
import Derived.Test.YtioffpjajhalaaaGreatDoorJaa
import Derived.Test.YtioffpjajhalaaaGreatDoorJbc
set_option linter.unusedVariables false
set_option linter.unusedSimpArgs false
set_option maxRecDepth 100000
set_option maxHeartbeats 16000000
namespace Go.Proofs.YtioffpjajhalaaaGreatDoor
def kwS (b:Bs):Sk:=(1,b,0)
def zCX (k:Nat)(t:Bs)(x:Int)(ls:List (List Sk))(kk:List Nat):List Sk:=
 if k=20 then [kwS t,mk 91]++ls.getD 0 []++[mk 93]
 else if k=21 then [(2,Lib.itoa x,x)]
 else if k=23∨k=24∨k=25 then XD (zD3 k) (kk.getD 0 0) (ls.getD 0 [])++[mk (zDd k)]++XD (zDG k) (kk.getD 1 0) (ls.getD 1 [])
 else if k=26 then [mk 45]++XD 3 (kk.getD 0 0) (ls.getD 0 [])
 else [kwS t]
def Fo.tok:Fo→List (List Sk)
 | .nil=>[]
 | .cons k p t x c r=>zCX k t x c.tok c.kinds::r.tok
theorem zEx {M:Nat}:∀(e:Ex) (r:Fo),QX M e→(e.fo r).tok=e.tk::r.tok
 | .leaf k p t n,r,q=>by
  rcases q.1 with ⟨rfl,_⟩ | ⟨rfl,_⟩ <;> rfl
 | .neg p a,r,q=>by
  show zCX 26 [] 0 (a.fo .nil).tok (a.fo .nil).kinds::r.tok=_
  rw[zEx a .nil q.1,ZT]
  rfl
 | .bin k p a b,r,q=>by
  show zCX k [] 0 (a.fo (b.fo .nil)).tok (a.fo (b.fo .nil)).kinds::r.tok=_
  rw[zEx a _ q.2.1,zEx b _ q.2.2.1,ZT,ZT]
  rcases q.1 with rfl | rfl | rfl <;> rfl
def isT (k:Nat):Prop:=k=5∨k=20∨isE k
def LT (a:Bs)(l:List Sk):Prop:=∀rest,zQz rest=true→LX a l rest
def LF (a:Bs)(l:List Sk):Prop:=∀rest,LX a l rest
theorem zVD {M:Nat}{k p:Nat}{t:Bs}{x:Int}{c:Fo}(hk:(Fo.cons k p t x c .nil).ok M)(ht:isT k):LT (zAt k t x c.txt c.kinds) (zCX k t x c.tok c.kinds):=by
 obtain⟨⟨⟨_,_,hw,AB⟩,hp⟩,hc,_⟩:=hk;obtain⟨w1,w2,w3⟩:=vD hw
 rcases ht with rfl | rfl | h
 ·exact fun AA hr=>LX.name (w1 (by decide)) hr
 ·obtain⟨k1,p1,t1,x1,c1,rfl,ha⟩:=zDR (f:=c) (a:=0) AB;obtain⟨e,q,_,fe⟩:=zGh _ _ (zU _) hc _ _ _ _ _ _ rfl (JF ha);rw[fe,zED e _ q,zEx e _ q,ZT];intro AA hr
  show LX (((t++[91])++e.bs)++[93]) ((([kwS t]++[mk 91])++e.tk)++[mk 93]) AA
  exact(((LX.name (w1 (by decide)) rfl).app (LX.mark (by decide) rfl)).app (LX.exp e q _ rfl)).app (LX.mark (by decide) rfl)
 ·obtain⟨e,q,_,fe⟩:=zGh (M:=M) _ (Fo.cons k p t x c .nil) (zU _) ⟨⟨⟨by assumption,by assumption,hw,AB⟩,hp⟩,hc,trivial⟩ _ _ _ _ _ _ rfl h;have h1:=congrArg Fo.txt (fe .nil);have h2:=congrArg Fo.tok (fe .nil);rw[zED e _ q] at h1;rw[zEx e _ q] at h2;have h1:zAt k t x c.txt c.kinds=e.bs:=(List.cons.inj h1).1;have h2:zCX k t x c.tok c.kinds=e.tk:=(List.cons.inj h2).1;rw[h1,h2];exact LX.exp e q
theorem zLy {M:Nat}:∀(f:Fo),f.ok M→∀j,j<f.kinds.length→isT (f.kinds.getD j 0)→LT (f.txt.getD j []) (f.tok.getD j [])
 | .nil,_,j,hj,_=>by cases hj
 | .cons k p t x c r,h,0,_,ht=>zVD ⟨h.1,h.2.1,trivial⟩ ht
 | .cons k p t x c r,h,j+1,hj,ht=>zLy r h.2.2 j (Nat.lt_of_succ_lt_succ hj) ht
theorem zF5:∀f:Fo,f.tok.length=f.kinds.length
 | .nil=>rfl
 | .cons k p t x c r=>by show r.tok.length+1=r.kinds.length+1; rw[zF5 r]
theorem VZ (f:Fo):f.txt.length=f.kinds.length:=by rw[zEZ f 0,zBi f 0]
def ZX:List (List Sk)→List Sk
 | []=>[]
 | [a]=>a
 | a::b::r=>a++mk 44::ZX (b::r)
theorem zPq (a b:Bs)(r:List Bs):jD (a::b::r)=a++([44,32]++jD (b::r)):=by
 unfold jD;rw[Lib.join_cons,Lib.join_cons];simp[Lib.joinTail]
theorem zF7:∀(a:List Bs) (l:List (List Sk)),a.length=l.length→(∀j,j<a.length→LT (a.getD j []) (l.getD j []))→LT (jD a) (ZX l)
 | [],[],_,_=>fun AA _=>LX.nil AA
 | [x],[y],_,h=>by
  have e:jD [x]=x:=Lib.join_one _ _;rw[e];exact h 0 (by simp)
 | x::x2::a,y::y2::l,hl,h=>fun AA hr=>by
  rw[zPq];have h1:LX ([44]++[32]) ([mk 44]++[]) (jD (x2::a)++AA):=(LX.mark (by decide) rfl).app (LX.skip rfl _);exact(h 0 (by simp) _ rfl).app (h1.app (zF7 (x2::a) (y2::l) (Nat.succ.inj hl) (fun j hj=>h (j+1) (by simpa using hj)) AA hr))
 | [],_::_,h,_=>by cases h
 | _::_,[],h,_=>by cases h
 | [_],_::_::_,h,_=>by cases h
 | _::_::_,[_],h,_=>by cases h
def LXq:List (Bs × List Sk)→Bs→Prop
 | [],_=>True
 | (a,l)::q,rest=>LX a l ((q.map Prod.fst).flatten++rest)∧LXq q rest
theorem LXq.out:∀ {q:List (Bs × List Sk)} {rest:Bs},LXq q rest→LX (q.map Prod.fst).flatten (q.map Prod.snd).flatten rest
 | [],rest,_=>LX.nil rest
 | (a,l)::q,rest,h=>h.1.app h.2.out
theorem LX.zQJ (rest:Bs):∀d,LX (List.replicate d 9) [] rest
 | 0=>LX.nil rest
 | d+1=>(LX.skip rfl _:LX [9] [] (List.replicate d 9++rest)).app (LX.zQJ rest d)
theorem LX.line (d:Nat)(q:List (Bs × List Sk))(rest:Bs)(h:LXq q ([10]++rest)):LX (xR d (q.map Prod.fst)) (q.map Prod.snd).flatten rest:=by
 have h2:=(LX.zQJ ((q.map Prod.fst).flatten++[10]++rest) d).app (h.out.app (LX.skip rfl rest:LX [10] [] rest));rw[List.append_nil] at h2;exact h2
theorem zVr (rest:Bs):LX [114,101,97,100,32] [kwS [114,101,97,100]] rest:=(((LX.name rfl rfl).app (LX.skip rfl _)):LX ([114,101,97,100]++([32])) ([kwS [114,101,97,100]]++([])) rest)
theorem zK8 (rest:Bs):LX [32,61,32] [mk 61] rest:=(((LX.skip rfl _).app ((LX.mark (by decide) rfl).app (LX.skip rfl _))):LX ([32]++([61]++([32]))) ([]++([mk 61]++([]))) rest)
theorem zQj (rest:Bs):LX [46] [mk 46] rest:=((LX.mark (by decide) rfl):LX ([46]) ([mk 46]) rest)
theorem zJy (rest:Bs):LX [59] [mk 59] rest:=((LX.mark (by decide) rfl):LX ([59]) ([mk 59]) rest)
theorem zW3 (rest:Bs):LX [32,102,111,114,32,117,112,100,97,116,101,59] [kwS [102,111,114],kwS [117,112,100,97,116,101],mk 59] rest:=(((LX.skip rfl _).app ((LX.name rfl rfl).app ((LX.skip rfl _).app ((LX.name rfl rfl).app (LX.mark (by decide) rfl))))):LX ([32]++([102,111,114]++([32]++([117,112,100,97,116,101]++([59]))))) ([]++([kwS [102,111,114]]++([]++([kwS [117,112,100,97,116,101]]++([mk 59]))))) rest)
theorem zWV (rest:Bs):LX [115,101,116,32] [kwS [115,101,116]] rest:=(((LX.name rfl rfl).app (LX.skip rfl _)):LX ([115,101,116]++([32])) ([kwS [115,101,116]]++([])) rest)
theorem zXg (rest:Bs):LX [112,117,116,32] [kwS [112,117,116]] rest:=(((LX.name rfl rfl).app (LX.skip rfl _)):LX ([112,117,116]++([32])) ([kwS [112,117,116]]++([])) rest)
theorem zXj (rest:Bs):LX [40] [mk 40] rest:=((LX.mark (by decide) rfl):LX ([40]) ([mk 40]) rest)
theorem zW4 (rest:Bs):LX [41,59] [mk 41,mk 59] rest:=(((LX.mark (by decide) rfl).app (LX.mark (by decide) rfl)):LX ([41]++([59])) ([mk 41]++([mk 59])) rest)
theorem zXf (rest:Bs):LX [100,101,108,101,116,101,32] [kwS [100,101,108,101,116,101]] rest:=(((LX.name rfl rfl).app (LX.skip rfl _)):LX ([100,101,108,101,116,101]++([32])) ([kwS [100,101,108,101,116,101]]++([])) rest)
theorem zVT (rest:Bs):LX [115,99,97,110,32] [kwS [115,99,97,110]] rest:=(((LX.name rfl rfl).app (LX.skip rfl _)):LX ([115,99,97,110]++([32])) ([kwS [115,99,97,110]]++([])) rest)
theorem zSs (rest:Bs):LX [108,111,99,107,32] [kwS [108,111,99,107]] rest:=(((LX.name rfl rfl).app (LX.skip rfl _)):LX ([108,111,99,107]++([32])) ([kwS [108,111,99,107]]++([])) rest)
theorem zWe (rest:Bs):LX [32,115,104,97,114,101,100,59] [kwS [115,104,97,114,101,100],mk 59] rest:=(((LX.skip rfl _).app ((LX.name rfl rfl).app (LX.mark (by decide) rfl))):LX ([32]++([115,104,97,114,101,100]++([59]))) ([]++([kwS [115,104,97,114,101,100]]++([mk 59]))) rest)
theorem zVR (rest:Bs):LX [32,97,108,108,59] [kwS [97,108,108],mk 59] rest:=(((LX.skip rfl _).app ((LX.name rfl rfl).app (LX.mark (by decide) rfl))):LX ([32]++([97,108,108]++([59]))) ([]++([kwS [97,108,108]]++([mk 59]))) rest)
theorem zWt (rest:Bs):LX [114,101,108,101,97,115,101,32] [kwS [114,101,108,101,97,115,101]] rest:=(((LX.name rfl rfl).app (LX.skip rfl _)):LX ([114,101,108,101,97,115,101]++([32])) ([kwS [114,101,108,101,97,115,101]]++([])) rest)
theorem zTH (rest:Bs):LX [105,102,32] [kwS [105,102]] rest:=(((LX.name rfl rfl).app (LX.skip rfl _)):LX ([105,102]++([32])) ([kwS [105,102]]++([])) rest)
theorem zVJ (rest:Bs):LX [32,60,32] [mk 60] rest:=(((LX.skip rfl _).app ((LX.mark (by decide) rfl).app (LX.skip rfl _))):LX ([32]++([60]++([32]))) ([]++([mk 60]++([]))) rest)
theorem zWm (rest:Bs):LX [32,61,61,32] [(3,[61,61],0)] rest:=(((LX.skip rfl _).app ((LX.eq2 _).app (LX.skip rfl _))):LX ([32]++([61,61]++([32]))) ([]++([(3,[61,61],0)]++([]))) rest)
theorem zOp (rest:Bs):LX [32,123] [mk 123] rest:=(((LX.skip rfl _).app (LX.mark (by decide) rfl)):LX ([32]++([123])) ([]++([mk 123])) rest)
theorem zWy (rest:Bs):LX [102,111,114,32] [kwS [102,111,114]] rest:=(((LX.name rfl rfl).app (LX.skip rfl _)):LX ([102,111,114]++([32])) ([kwS [102,111,114]]++([])) rest)
theorem zWx (rest:Bs):LX [32,116,111,32] [kwS [116,111]] rest:=(((LX.skip rfl _).app ((LX.name rfl rfl).app (LX.skip rfl _))):LX ([32]++([116,111]++([32]))) ([]++([kwS [116,111]]++([]))) rest)
theorem zVV (rest:Bs):LX [108,101,116,32] [kwS [108,101,116]] rest:=(((LX.name rfl rfl).app (LX.skip rfl _)):LX ([108,101,116]++([32])) ([kwS [108,101,116]]++([])) rest)
theorem zVH (rest:Bs):LX [101,109,105,116,32] [kwS [101,109,105,116]] rest:=(((LX.name rfl rfl).app (LX.skip rfl _)):LX ([101,109,105,116]++([32])) ([kwS [101,109,105,116]]++([])) rest)
theorem zV7 (rest:Bs):LX [114,111,108,108,98,97,99,107,59] [kwS [114,111,108,108,98,97,99,107],mk 59] rest:=(((LX.name rfl rfl).app (LX.mark (by decide) rfl)):LX ([114,111,108,108,98,97,99,107]++([59])) ([kwS [114,111,108,108,98,97,99,107]]++([mk 59])) rest)
theorem zV4 (rest:Bs):LX [99,104,111,112,59] [kwS [99,104,111,112],mk 59] rest:=(((LX.name rfl rfl).app (LX.mark (by decide) rfl)):LX ([99,104,111,112]++([59])) ([kwS [99,104,111,112]]++([mk 59])) rest)
theorem zR4 (rest:Bs):LX [125,32,101,108,115,101,32,123] [mk 125,kwS [101,108,115,101],mk 123] rest:=(((LX.mark (by decide) rfl).app ((LX.skip rfl _).app ((LX.name rfl rfl).app ((LX.skip rfl _).app (LX.mark (by decide) rfl))))):LX ([125]++([32]++([101,108,115,101]++([32]++([123]))))) ([mk 125]++([]++([kwS [101,108,115,101]]++([]++([mk 123]))))) rest)
theorem zPi (rest:Bs):LX [125] [mk 125] rest:=((LX.mark (by decide) rfl):LX ([125]) ([mk 125]) rest)
def jS (k:Nat)(t:Bs)(x:Int)(ls bk:List (List Sk)):List Sk:=
 if k=7 then [([kwS [114,101,97,100]]:List Sk),([kwS t]:List Sk),([mk 61]:List Sk),(ls.getD 0 []:List Sk),([mk 46]:List Sk),(ls.getD 1 []:List Sk),(if x=1 then [kwS [102,111,114],kwS [117,112,100,97,116,101],mk 59] else [mk 59]:List Sk)].flatten
 else if k=8 then [([kwS [115,101,116]]:List Sk),(ls.getD 0 []:List Sk),([mk 46]:List Sk),(ls.getD 1 []:List Sk),([mk 61]:List Sk),(ls.getD 2 []:List Sk),([mk 59]:List Sk)].flatten
 else if k=9 then [([kwS [112,117,116]]:List Sk),(ls.getD 0 []:List Sk),([mk 40]:List Sk),(ZX (ls.drop 1):List Sk),([mk 41,mk 59]:List Sk)].flatten
 else if k=10 then [([kwS [100,101,108,101,116,101]]:List Sk),(ls.getD 0 []:List Sk),([mk 59]:List Sk)].flatten
 else if k=11 then [([kwS [115,99,97,110]]:List Sk),([kwS t]:List Sk),([mk 61]:List Sk),(ls.getD 0 []:List Sk),([mk 46]:List Sk),(ls.getD 1 []:List Sk),([mk 59]:List Sk)].flatten
 else if k=12 then [([kwS [108,111,99,107]]:List Sk),(ls.getD 0 []:List Sk),(if x=1 then [kwS [97,108,108],mk 59] else [kwS [115,104,97,114,101,100],mk 59]:List Sk)].flatten
 else if k=13 then [([kwS [114,101,108,101,97,115,101]]:List Sk),(ls.getD 0 []:List Sk),([mk 59]:List Sk)].flatten
 else if k=14 then [([kwS [105,102]]:List Sk),(ls.getD 0 []:List Sk),(if x=1 then [(3,[61,61],0)] else [mk 60]:List Sk),(ls.getD 1 []:List Sk),([mk 123]:List Sk)].flatten++(bk.getD 2 []++((if 3<ls.length then [mk 125,kwS [101,108,115,101],mk 123]++bk.getD 3 [] else [])++[mk 125]))
 else if k=15 then [([kwS [102,111,114]]:List Sk),([kwS t]:List Sk),([mk 61]:List Sk),(ls.getD 0 []:List Sk),([kwS [116,111]]:List Sk),(ls.getD 1 []:List Sk),([mk 123]:List Sk)].flatten++(bk.getD 2 []++[mk 125])
 else if k=16 then [([kwS [108,101,116]]:List Sk),([kwS t]:List Sk),([mk 61]:List Sk),(ls.getD 0 []:List Sk),([mk 59]:List Sk)].flatten
 else if k=17 then [([kwS [101,109,105,116]]:List Sk),(ls.getD 0 []:List Sk),([mk 59]:List Sk)].flatten
 else if k=18 then [([kwS [114,111,108,108,98,97,99,107],mk 59]:List Sk)].flatten
 else if k=19 then [([kwS [99,104,111,112],mk 59]:List Sk)].flatten
 else []
def Fo.stk:Fo→List (List Sk × List Sk)
 | .nil=>[]
 | .cons k p t x c r=>(jS k t x c.tok (c.stk.map Prod.snd),(c.stk.map Prod.fst).flatten)::r.stk
def zA7 (k:Nat)(t:Bs)(x:Int)(ls inn bk:List (List Sk)):List Sk:=
 if k=2 then [([kwS [116,97,98,108,101]]:List Sk),([kwS t]:List Sk),([mk 40]:List Sk),(ZX ls:List Sk),([mk 41,mk 59]:List Sk)].flatten
 else [([kwS [112,114,111,99]]:List Sk),([kwS t]:List Sk),([mk 40]:List Sk),(inn.getD 0 []:List Sk),([mk 41]:List Sk),(if x=1 then [kwS [115,105,110,103,108,101],mk 123] else [mk 123]:List Sk)].flatten++(bk.getD 1 []++[mk 125])
def Fo.zH2:Fo→List (List Sk)
 | .nil=>[]
 | .cons k p t x c r=>ZX c.tok::r.zH2
def Fo.zA7:Fo→List (List Sk)
 | .nil=>[]
 | .cons k p t x c r=>Go.Proofs.YtioffpjajhalaaaGreatDoor.zA7 k t x c.tok c.zH2 (c.stk.map Prod.snd)::r.zA7
theorem zT1 {k:Nat}{w:Int}(hw:w=0∨w=5∨w=20∨w=21)(h:TT.jH w (k:Int)=true):isT k:=by
 rcases hw with rfl | rfl | rfl | rfl
 ·exact .inr (.inr (JF h))
 ·exact .inl (ZF (w:=5) (by decide) h)
 ·exact .inr (.inl (ZF (w:=20) (by decide) h))
 ·obtain rfl:=ZF (w:=21) (by decide) h;exact .inr (.inr ⟨by decide,by decide⟩)
theorem xV {kk:List Nat}{want:List Int}(h:TT.isR (xK kk) want=true)(i:Nat)(hi:i<want.length)(hw:want.getD i 0=0∨want.getD i 0=5∨want.getD i 0=20∨want.getD i 0=21):i<kk.length∧isT (kk.getD i 0):=by
 have h1:=VV h i hi;have hl:=ZP h;rw[show(xK kk).getD i 0=((kk.getD i 0:Nat):Int) from VM kk i] at h1;exact⟨by have:(xK kk).length=kk.length:=yN ..; omega,zT1 hw h1⟩
theorem zXx (d:Nat)(t:Bs)(x:Int)(kk:List Nat)(ls:List Bs)(lt:List (List Sk))(bk:List Bs)(bt:List (List Sk))(hk:xU 7 t x kk)(hl:ls.length=kk.length)(hm:lt.length=kk.length)(HT:∀j,j<kk.length→isT (kk.getD j 0)→LT (ls.getD j []) (lt.getD j []))(HB:∀j,LF (bk.getD j []) (bt.getD j [])):LF (xW d 7 t x ls bk) (jS 7 t x lt bt):=fun AA=>by
 obtain⟨_,_,hw,AB⟩:=hk;obtain⟨w1,w2,w3⟩:=vD hw;have hn:zAo t=true:=w1 (by decide);have hr:TT.isR (xK kk) [20,5]=true:=AB;have h0:LT (ls.getD 0 []) (lt.getD 0 []):=HT 0 (xV hr 0 (by decide) (by decide)).1 (xV hr 0 (by decide) (by decide)).2;have h1:LT (ls.getD 1 []) (lt.getD 1 []):=HT 1 (xV hr 1 (by decide) (by decide)).1 (xV hr 1 (by decide) (by decide)).2
 have hx:x=0∨x=1:=by have hm:TT.XP ((7:Nat):Int)=1:=rfl; omega
 rcases hx with rfl | rfl
 ·exact LX.line d [([114,101,97,100,32],[kwS [114,101,97,100]]),(t,[kwS t]),([32,61,32],[mk 61]),(ls.getD 0 [],lt.getD 0 []),([46],[mk 46]),(ls.getD 1 [],lt.getD 1 []),([59],[mk 59])] _ ⟨zVr _,LX.name hn rfl,zK8 _,h0 _ rfl,zQj _,h1 _ rfl,zJy _,trivial⟩
 ·exact LX.line d [([114,101,97,100,32],[kwS [114,101,97,100]]),(t,[kwS t]),([32,61,32],[mk 61]),(ls.getD 0 [],lt.getD 0 []),([46],[mk 46]),(ls.getD 1 [],lt.getD 1 []),([32,102,111,114,32,117,112,100,97,116,101,59],[kwS [102,111,114],kwS [117,112,100,97,116,101],mk 59])] _ ⟨zVr _,LX.name hn rfl,zK8 _,h0 _ rfl,zQj _,h1 _ rfl,zW3 _,trivial⟩
theorem zXt (d:Nat)(t:Bs)(x:Int)(kk:List Nat)(ls:List Bs)(lt:List (List Sk))(bk:List Bs)(bt:List (List Sk))(hk:xU 8 t x kk)(hl:ls.length=kk.length)(hm:lt.length=kk.length)(HT:∀j,j<kk.length→isT (kk.getD j 0)→LT (ls.getD j []) (lt.getD j []))(HB:∀j,LF (bk.getD j []) (bt.getD j [])):LF (xW d 8 t x ls bk) (jS 8 t x lt bt):=fun AA=>by
 obtain⟨_,_,hw,AB⟩:=hk;obtain⟨w1,w2,w3⟩:=vD hw;have hr:TT.isR (xK kk) [20,5,0]=true:=AB;have h0:LT (ls.getD 0 []) (lt.getD 0 []):=HT 0 (xV hr 0 (by decide) (by decide)).1 (xV hr 0 (by decide) (by decide)).2;have h1:LT (ls.getD 1 []) (lt.getD 1 []):=HT 1 (xV hr 1 (by decide) (by decide)).1 (xV hr 1 (by decide) (by decide)).2;have h2:LT (ls.getD 2 []) (lt.getD 2 []):=HT 2 (xV hr 2 (by decide) (by decide)).1 (xV hr 2 (by decide) (by decide)).2;exact LX.line d [([115,101,116,32],[kwS [115,101,116]]),(ls.getD 0 [],lt.getD 0 []),([46],[mk 46]),(ls.getD 1 [],lt.getD 1 []),([32,61,32],[mk 61]),(ls.getD 2 [],lt.getD 2 []),([59],[mk 59])] _ ⟨zWV _,h0 _ rfl,zQj _,h1 _ rfl,zK8 _,h2 _ rfl,zJy _,trivial⟩
theorem zXu (d:Nat)(t:Bs)(x:Int)(kk:List Nat)(ls:List Bs)(lt:List (List Sk))(bk:List Bs)(bt:List (List Sk))(hk:xU 9 t x kk)(hl:ls.length=kk.length)(hm:lt.length=kk.length)(HT:∀j,j<kk.length→isT (kk.getD j 0)→LT (ls.getD j []) (lt.getD j []))(HB:∀j,LF (bk.getD j []) (bt.getD j [])):LF (xW d 9 t x ls bk) (jS 9 t x lt bt):=fun AD=>by
 obtain⟨_,_,hw,AF⟩:=hk;obtain⟨w1,w2,w3⟩:=vD hw;have hr:(decide (1<(xK kk).length)&&((xK kk).getD 0 0==20&&TT.zCY (xK kk) 1 0))=true:=AF;simp only[zF,zE,zN] at hr;obtain⟨AG,AE,AA⟩:=hr;have AC:(xK kk).length=kk.length:=yN ..;have h0:LT (ls.getD 0 []) (lt.getD 0 []):=HT 0 (by omega) (.inr (.inl (by rw[show(xK kk).getD 0 0=((kk.getD 0 0:Nat):Int) from VM kk 0] at AE; omega)))
 have hc:LT (jD (ls.drop 1)) (ZX (lt.drop 1)):=zF7 _ _ (by rw[List.length_drop,List.length_drop,hl,hm]) fun j hj=>by
  rw[List.length_drop] at hj;rw[yE,yE,List.getElem?_drop,List.getElem?_drop,←yE,←yE];refine HT (1+j) (by omega) (.inr (.inr ?_));unfold TT.zCY at AA;rw[zG] at AA
  have hb:TT.zE7 0 ((kk.getD (1+j) 0:Nat):Int)=true:=AA _ (by
   rw[←VM kk (1+j)]
   have AB:1+j<(xK kk).length:=by omega
   rw[show(kk.map fun (j:Nat)=>(j:Int))=xK kk from rfl,yE,yG AB]
   show(xK kk)[1+j] ∈ (xK kk).drop 1
   rw[List.mem_iff_getElem]
   exact⟨j,by rw[List.length_drop]; omega,by rw[List.getElem_drop]⟩)
  exact JF hb
 exact LX.line d [([112,117,116,32],[kwS [112,117,116]]),(ls.getD 0 [],lt.getD 0 []),([40],[mk 40]),(jD (ls.drop 1),ZX (lt.drop 1)),([41,59],[mk 41,mk 59])] _ ⟨zXg _,h0 _ rfl,zXj _,hc _ rfl,zW4 _,trivial⟩
theorem zXk (d:Nat)(t:Bs)(x:Int)(kk:List Nat)(ls:List Bs)(lt:List (List Sk))(bk:List Bs)(bt:List (List Sk))(hk:xU 10 t x kk)(hl:ls.length=kk.length)(hm:lt.length=kk.length)(HT:∀j,j<kk.length→isT (kk.getD j 0)→LT (ls.getD j []) (lt.getD j []))(HB:∀j,LF (bk.getD j []) (bt.getD j [])):LF (xW d 10 t x ls bk) (jS 10 t x lt bt):=fun AA=>by
 obtain⟨_,_,hw,AB⟩:=hk;obtain⟨w1,w2,w3⟩:=vD hw;have hr:TT.isR (xK kk) [20]=true:=AB;have h0:LT (ls.getD 0 []) (lt.getD 0 []):=HT 0 (xV hr 0 (by decide) (by decide)).1 (xV hr 0 (by decide) (by decide)).2;exact LX.line d [([100,101,108,101,116,101,32],[kwS [100,101,108,101,116,101]]),(ls.getD 0 [],lt.getD 0 []),([59],[mk 59])] _ ⟨zXf _,h0 _ rfl,zJy _,trivial⟩
theorem zWO (d:Nat)(t:Bs)(x:Int)(kk:List Nat)(ls:List Bs)(lt:List (List Sk))(bk:List Bs)(bt:List (List Sk))(hk:xU 11 t x kk)(hl:ls.length=kk.length)(hm:lt.length=kk.length)(HT:∀j,j<kk.length→isT (kk.getD j 0)→LT (ls.getD j []) (lt.getD j []))(HB:∀j,LF (bk.getD j []) (bt.getD j [])):LF (xW d 11 t x ls bk) (jS 11 t x lt bt):=fun AA=>by
 obtain⟨_,_,hw,AB⟩:=hk;obtain⟨w1,w2,w3⟩:=vD hw;have hn:zAo t=true:=w1 (by decide);have hr:TT.isR (xK kk) [5,5]=true:=AB;have h0:LT (ls.getD 0 []) (lt.getD 0 []):=HT 0 (xV hr 0 (by decide) (by decide)).1 (xV hr 0 (by decide) (by decide)).2;have h1:LT (ls.getD 1 []) (lt.getD 1 []):=HT 1 (xV hr 1 (by decide) (by decide)).1 (xV hr 1 (by decide) (by decide)).2;exact LX.line d [([115,99,97,110,32],[kwS [115,99,97,110]]),(t,[kwS t]),([32,61,32],[mk 61]),(ls.getD 0 [],lt.getD 0 []),([46],[mk 46]),(ls.getD 1 [],lt.getD 1 []),([59],[mk 59])] _ ⟨zVT _,LX.name hn rfl,zK8 _,h0 _ rfl,zQj _,h1 _ rfl,zJy _,trivial⟩
theorem zWP (d:Nat)(t:Bs)(x:Int)(kk:List Nat)(ls:List Bs)(lt:List (List Sk))(bk:List Bs)(bt:List (List Sk))(hk:xU 12 t x kk)(hl:ls.length=kk.length)(hm:lt.length=kk.length)(HT:∀j,j<kk.length→isT (kk.getD j 0)→LT (ls.getD j []) (lt.getD j []))(HB:∀j,LF (bk.getD j []) (bt.getD j [])):LF (xW d 12 t x ls bk) (jS 12 t x lt bt):=fun AA=>by
 obtain⟨_,_,hw,AB⟩:=hk;obtain⟨w1,w2,w3⟩:=vD hw;have hr:TT.isR (xK kk) [5]=true:=AB;have h0:LT (ls.getD 0 []) (lt.getD 0 []):=HT 0 (xV hr 0 (by decide) (by decide)).1 (xV hr 0 (by decide) (by decide)).2
 have hx:x=0∨x=1:=by have hm:TT.XP ((12:Nat):Int)=1:=rfl; omega
 rcases hx with rfl | rfl
 ·exact LX.line d [([108,111,99,107,32],[kwS [108,111,99,107]]),(ls.getD 0 [],lt.getD 0 []),([32,115,104,97,114,101,100,59],[kwS [115,104,97,114,101,100],mk 59])] _ ⟨zSs _,h0 _ rfl,zWe _,trivial⟩
 ·exact LX.line d [([108,111,99,107,32],[kwS [108,111,99,107]]),(ls.getD 0 [],lt.getD 0 []),([32,97,108,108,59],[kwS [97,108,108],mk 59])] _ ⟨zSs _,h0 _ rfl,zVR _,trivial⟩
theorem zXi (d:Nat)(t:Bs)(x:Int)(kk:List Nat)(ls:List Bs)(lt:List (List Sk))(bk:List Bs)(bt:List (List Sk))(hk:xU 13 t x kk)(hl:ls.length=kk.length)(hm:lt.length=kk.length)(HT:∀j,j<kk.length→isT (kk.getD j 0)→LT (ls.getD j []) (lt.getD j []))(HB:∀j,LF (bk.getD j []) (bt.getD j [])):LF (xW d 13 t x ls bk) (jS 13 t x lt bt):=fun AA=>by
 obtain⟨_,_,hw,AB⟩:=hk;obtain⟨w1,w2,w3⟩:=vD hw;have hr:(TT.isR (xK kk) [5]||TT.isR (xK kk) [20])=true:=AB
 have h0:LT (ls.getD 0 []) (lt.getD 0 []):=by
  rcases(Bool.or_eq_true_iff.1 hr) with hr | hr <;> exact HT 0 (xV hr 0 (by decide) (by decide)).1 (xV hr 0 (by decide) (by decide)).2
 exact LX.line d [([114,101,108,101,97,115,101,32],[kwS [114,101,108,101,97,115,101]]),(ls.getD 0 [],lt.getD 0 []),([59],[mk 59])] _ ⟨zWt _,h0 _ rfl,zJy _,trivial⟩
theorem zW2 (d:Nat)(t:Bs)(x:Int)(kk:List Nat)(ls:List Bs)(lt:List (List Sk))(bk:List Bs)(bt:List (List Sk))(hk:xU 14 t x kk)(hl:ls.length=kk.length)(hm:lt.length=kk.length)(HT:∀j,j<kk.length→isT (kk.getD j 0)→LT (ls.getD j []) (lt.getD j []))(HB:∀j,LF (bk.getD j []) (bt.getD j [])):LF (xW d 14 t x ls bk) (jS 14 t x lt bt):=fun AA=>by
 obtain⟨_,_,hw,AB⟩:=hk;obtain⟨w1,w2,w3⟩:=vD hw;have hr:(TT.isR (xK kk) [0,0,6]||TT.isR (xK kk) [0,0,6,6])=true:=AB
 have h0:LT (ls.getD 0 []) (lt.getD 0 []):=by
  rcases(Bool.or_eq_true_iff.1 hr) with hr | hr <;> exact HT 0 (xV hr 0 (by decide) (by decide)).1 (xV hr 0 (by decide) (by decide)).2
 have h1:LT (ls.getD 1 []) (lt.getD 1 []):=by
  rcases(Bool.or_eq_true_iff.1 hr) with hr | hr <;> exact HT 1 (xV hr 1 (by decide) (by decide)).1 (xV hr 1 (by decide) (by decide)).2
 have hx:x=0∨x=1:=by have hm:TT.XP ((14:Nat):Int)=1:=rfl; omega
 rcases hx with rfl | rfl
 ·refine(LX.line d [([105,102,32],[kwS [105,102]]),(ls.getD 0 [],lt.getD 0 []),([32,60,32],[mk 60]),(ls.getD 1 [],lt.getD 1 []),([32,123],[mk 123])] _ ⟨zTH _,h0 _ rfl,zVJ _,h1 _ rfl,zOp _,trivial⟩).app ((HB 2 _).app ?_)
  show LX ((if 3<ls.length then xR d [[125,32,101,108,115,101,32,123]]++bk.getD 3 [] else [])++xR d [[125]]) ((if 3<lt.length then [mk 125,kwS [101,108,115,101],mk 123]++bt.getD 3 [] else [])++[mk 125]) AA
  refine LX.app ?_ (LX.line d [([125],[mk 125])] _ ⟨zPi _,trivial⟩);rw[hl,hm]
  split
  ·exact(LX.line d [([125,32,101,108,115,101,32,123],[mk 125,kwS [101,108,115,101],mk 123])] _ ⟨zR4 _,trivial⟩).app (HB 3 _)
  ·exact LX.nil _
 ·refine(LX.line d [([105,102,32],[kwS [105,102]]),(ls.getD 0 [],lt.getD 0 []),([32,61,61,32],[(3,[61,61],0)]),(ls.getD 1 [],lt.getD 1 []),([32,123],[mk 123])] _ ⟨zTH _,h0 _ rfl,zWm _,h1 _ rfl,zOp _,trivial⟩).app ((HB 2 _).app ?_)
  show LX ((if 3<ls.length then xR d [[125,32,101,108,115,101,32,123]]++bk.getD 3 [] else [])++xR d [[125]]) ((if 3<lt.length then [mk 125,kwS [101,108,115,101],mk 123]++bt.getD 3 [] else [])++[mk 125]) AA
  refine LX.app ?_ (LX.line d [([125],[mk 125])] _ ⟨zPi _,trivial⟩);rw[hl,hm]
  split
  ·exact(LX.line d [([125,32,101,108,115,101,32,123],[mk 125,kwS [101,108,115,101],mk 123])] _ ⟨zR4 _,trivial⟩).app (HB 3 _)
  ·exact LX.nil _
theorem zWT (d:Nat)(t:Bs)(x:Int)(kk:List Nat)(ls:List Bs)(lt:List (List Sk))(bk:List Bs)(bt:List (List Sk))(hk:xU 15 t x kk)(hl:ls.length=kk.length)(hm:lt.length=kk.length)(HT:∀j,j<kk.length→isT (kk.getD j 0)→LT (ls.getD j []) (lt.getD j []))(HB:∀j,LF (bk.getD j []) (bt.getD j [])):LF (xW d 15 t x ls bk) (jS 15 t x lt bt):=fun AA=>by
 obtain⟨_,_,hw,AB⟩:=hk;obtain⟨w1,w2,w3⟩:=vD hw;have hn:zAo t=true:=w1 (by decide);have hr:TT.isR (xK kk) [21,21,6]=true:=AB;have h0:LT (ls.getD 0 []) (lt.getD 0 []):=HT 0 (xV hr 0 (by decide) (by decide)).1 (xV hr 0 (by decide) (by decide)).2;have h1:LT (ls.getD 1 []) (lt.getD 1 []):=HT 1 (xV hr 1 (by decide) (by decide)).1 (xV hr 1 (by decide) (by decide)).2;exact(LX.line d [([102,111,114,32],[kwS [102,111,114]]),(t,[kwS t]),([32,61,32],[mk 61]),(ls.getD 0 [],lt.getD 0 []),([32,116,111,32],[kwS [116,111]]),(ls.getD 1 [],lt.getD 1 []),([32,123],[mk 123])] _ ⟨zWy _,LX.name hn rfl,zK8 _,h0 _ rfl,zWx _,h1 _ rfl,zOp _,trivial⟩).app ((HB 2 _).app (LX.line d [([125],[mk 125])] _ ⟨zPi _,trivial⟩))
theorem zXl (d:Nat)(t:Bs)(x:Int)(kk:List Nat)(ls:List Bs)(lt:List (List Sk))(bk:List Bs)(bt:List (List Sk))(hk:xU 16 t x kk)(hl:ls.length=kk.length)(hm:lt.length=kk.length)(HT:∀j,j<kk.length→isT (kk.getD j 0)→LT (ls.getD j []) (lt.getD j []))(HB:∀j,LF (bk.getD j []) (bt.getD j [])):LF (xW d 16 t x ls bk) (jS 16 t x lt bt):=fun AA=>by
 obtain⟨_,_,hw,AB⟩:=hk;obtain⟨w1,w2,w3⟩:=vD hw;have hn:zAo t=true:=w1 (by decide);have hr:TT.isR (xK kk) [0]=true:=AB;have h0:LT (ls.getD 0 []) (lt.getD 0 []):=HT 0 (xV hr 0 (by decide) (by decide)).1 (xV hr 0 (by decide) (by decide)).2;exact LX.line d [([108,101,116,32],[kwS [108,101,116]]),(t,[kwS t]),([32,61,32],[mk 61]),(ls.getD 0 [],lt.getD 0 []),([59],[mk 59])] _ ⟨zVV _,LX.name hn rfl,zK8 _,h0 _ rfl,zJy _,trivial⟩
theorem zWQ (d:Nat)(t:Bs)(x:Int)(kk:List Nat)(ls:List Bs)(lt:List (List Sk))(bk:List Bs)(bt:List (List Sk))(hk:xU 17 t x kk)(hl:ls.length=kk.length)(hm:lt.length=kk.length)(HT:∀j,j<kk.length→isT (kk.getD j 0)→LT (ls.getD j []) (lt.getD j []))(HB:∀j,LF (bk.getD j []) (bt.getD j [])):LF (xW d 17 t x ls bk) (jS 17 t x lt bt):=fun AA=>by
 obtain⟨_,_,hw,AB⟩:=hk;obtain⟨w1,w2,w3⟩:=vD hw;have hr:TT.isR (xK kk) [0]=true:=AB;have h0:LT (ls.getD 0 []) (lt.getD 0 []):=HT 0 (xV hr 0 (by decide) (by decide)).1 (xV hr 0 (by decide) (by decide)).2;exact LX.line d [([101,109,105,116,32],[kwS [101,109,105,116]]),(ls.getD 0 [],lt.getD 0 []),([59],[mk 59])] _ ⟨zVH _,h0 _ rfl,zJy _,trivial⟩
theorem zXe (d:Nat)(t:Bs)(x:Int)(kk:List Nat)(ls:List Bs)(lt:List (List Sk))(bk:List Bs)(bt:List (List Sk))(hk:xU 18 t x kk)(hl:ls.length=kk.length)(hm:lt.length=kk.length)(HT:∀j,j<kk.length→isT (kk.getD j 0)→LT (ls.getD j []) (lt.getD j []))(HB:∀j,LF (bk.getD j []) (bt.getD j [])):LF (xW d 18 t x ls bk) (jS 18 t x lt bt):=fun AA=>by
 obtain⟨_,_,hw,AB⟩:=hk;obtain⟨w1,w2,w3⟩:=vD hw;exact LX.line d [([114,111,108,108,98,97,99,107,59],[kwS [114,111,108,108,98,97,99,107],mk 59])] _ ⟨zV7 _,trivial⟩
theorem zXn (d:Nat)(t:Bs)(x:Int)(kk:List Nat)(ls:List Bs)(lt:List (List Sk))(bk:List Bs)(bt:List (List Sk))(hk:xU 19 t x kk)(hl:ls.length=kk.length)(hm:lt.length=kk.length)(HT:∀j,j<kk.length→isT (kk.getD j 0)→LT (ls.getD j []) (lt.getD j []))(HB:∀j,LF (bk.getD j []) (bt.getD j [])):LF (xW d 19 t x ls bk) (jS 19 t x lt bt):=fun AA=>by
 obtain⟨_,_,hw,AB⟩:=hk;obtain⟨w1,w2,w3⟩:=vD hw;exact LX.line d [([99,104,111,112,59],[kwS [99,104,111,112],mk 59])] _ ⟨zV4 _,trivial⟩
theorem zU7 (d k:Nat)(t:Bs)(x:Int)(kk:List Nat)(ls:List Bs)(lt:List (List Sk))(bk:List Bs)(bt:List (List Sk))(hk:xU k t x kk)(hl:ls.length=kk.length)(hm:lt.length=kk.length)(HT:∀j,j<kk.length→isT (kk.getD j 0)→LT (ls.getD j []) (lt.getD j []))(HB:∀j,LF (bk.getD j []) (bt.getD j [])):LF (xW d k t x ls bk) (jS k t x lt bt):=by
 by_cases hc:7≤k∧k≤19
 ·have hc:k=7∨k=8∨k=9∨k=10∨k=11∨k=12∨k=13∨k=14∨k=15∨k=16∨k=17∨k=18∨k=19:=by omega
  rcases hc with rfl | rfl | rfl | rfl | rfl | rfl | rfl | rfl | rfl | rfl | rfl | rfl | rfl
  ·exact zXx d t x kk ls lt bk bt hk hl hm HT HB
  ·exact zXt d t x kk ls lt bk bt hk hl hm HT HB
  ·exact zXu d t x kk ls lt bk bt hk hl hm HT HB
  ·exact zXk d t x kk ls lt bk bt hk hl hm HT HB
  ·exact zWO d t x kk ls lt bk bt hk hl hm HT HB
  ·exact zWP d t x kk ls lt bk bt hk hl hm HT HB
  ·exact zXi d t x kk ls lt bk bt hk hl hm HT HB
  ·exact zW2 d t x kk ls lt bk bt hk hl hm HT HB
  ·exact zWT d t x kk ls lt bk bt hk hl hm HT HB
  ·exact zXl d t x kk ls lt bk bt hk hl hm HT HB
  ·exact zWQ d t x kk ls lt bk bt hk hl hm HT HB
  ·exact zXe d t x kk ls lt bk bt hk hl hm HT HB
  ·exact zXn d t x kk ls lt bk bt hk hl hm HT HB
 ·have h1:xW d k t x ls bk=[]:=by
   unfold xW
   repeat rw[if_neg (by omega)]
  have h2:jS k t x lt bt=[]:=by
   unfold jS
   repeat rw[if_neg (by omega)]
  rw[h1,h2];exact fun AA=>LX.nil AA
def STq:List (Bs × Bs)→List (List Sk × List Sk)→Prop
 | [],[]=>True
 | a::r,l::q=>(LF a.1 l.1∧LF a.2 l.2)∧STq r q
 | _,_=>False
theorem STq.fst:∀ {a:List (Bs × Bs)} {l:List (List Sk × List Sk)},STq a l→LF (a.map Prod.fst).flatten (l.map Prod.fst).flatten
 | [],[],_=>fun AA=>LX.nil AA
 | a::r,l::q,h=>fun AA=>(h.1.1 _).app (h.2.fst AA)
 | [],_::_,h=>False.elim h
 | _::_,[],h=>False.elim h
theorem STq.snd:∀ {a:List (Bs × Bs)} {l:List (List Sk × List Sk)},STq a l→∀j,LF ((a.map Prod.snd).getD j []) ((l.map Prod.snd).getD j [])
 | [],[],_,j=>fun AA=>by
  rw[show((([]:List (Bs × Bs)).map Prod.snd).getD j [])=[] from rfl,show((([]:List (List Sk × List Sk)).map Prod.snd).getD j [])=[] from rfl];exact LX.nil AA
 | a::r,l::q,h,0=>h.1.2
 | a::r,l::q,h,j+1=>h.2.snd j
 | [],_::_,h,_=>False.elim h
 | _::_,[],h,_=>False.elim h
theorem zPG {M:Nat}:∀(f:Fo),f.ok M→∀d,STq (f.st d) f.stk
 | .nil,_,d=>trivial
 | .cons k p t x c r,h,d=>⟨⟨zU7 d k t x c.kinds c.txt c.tok _ _ h.1.1 (VZ c) (zF5 c) (zLy c h.2.1) (zPG c h.2.1 (d+1)).snd,(zPG c h.2.1 d).fst⟩,zPG r h.2.2 d⟩
def Fo.z:Fo→Fo
 | .nil=>.nil
 | .cons k p t x c r=>.cons k 0 t x c.z r.z
theorem zAk:∀f g:Fo,(f.app g).z=f.z.app g.z
 | .nil,g=>rfl
 | .cons k p t x c r,g=>by
  show Fo.cons k 0 t x c.z (r.app g).z=Fo.cons k 0 t x c.z (r.z.app g.z)
  rw[zAk r g]
theorem zSJ:∀(e:Ex) (r:Fo),(e.fo r).z=e.z.fo r.z
 | .leaf k p t n,r=>rfl
 | .neg p a,r=>by
  show Fo.cons 26 0 [] 0 (a.fo .nil).z r.z=Fo.cons 26 0 [] 0 (a.z.fo .nil) r.z
  rw[zSJ a]; rfl
 | .bin k p a b,r=>by
  show Fo.cons k 0 [] 0 (a.fo (b.fo .nil)).z r.z=Fo.cons k 0 [] 0 (a.z.fo (b.z.fo .nil)) r.z
  rw[zSJ a,zSJ b]; rfl
structure AtP (pre:List Nd)(i k p:Nat)(t:Bs)(x:Int)(f:Fo)(s:Ps)(l:List Sk)(d:Nat):Prop where
 len:pre.length=i
 nd:s.nd=pre++⟨k,p,t,x,f.roots (i+1)⟩::f.flat (i+1)
 ts:s.ts.map Tok.sk=l
 dp:s.deep=d
def RD (r:Res Unit)(Q:Ps→Prop):Prop:=∃s,r=.ok () s∧Q s
theorem zAS {Q:Ps→Prop}{s:Ps}(q:Q s):RD (.ok () s) Q:=⟨s,rfl,q⟩
theorem xZ {r:Res Unit}{k:Unit→Ps→Res Unit}{Q T:Ps→Prop}(h:RD r Q)(hk:∀s,Q s→RD (k () s) T):RD (r.bind k) T:=by
 obtain⟨s,rfl,q⟩:=h;exact hk s q
theorem vN {r:Res Unit}{Q T:Ps→Prop}(h:RD r Q)(hk:∀s,Q s→T s):RD r T:=by
 obtain⟨s,e,q⟩:=h;exact⟨s,e,hk s q⟩
def GG (pre:List Nd)(i k p:Nat)(t:Bs)(x:Int)(f c:Fo)(l:List Sk)(d:Nat)(s:Ps):Prop:=∃g:Fo,g.z=c.z∧AtP pre i k p t x (f.app g) s l d
section
variable {pre:List Nd} {i k p:Nat} {t:Bs} {x:Int} {f:Fo} {s:Ps} {l r:List Sk} {d:Nat} {u:Sk}
theorem AtP.ss (h:AtP pre i k p t x f s l d):SS s l d s.nd:=⟨h.ts,h.dp,rfl⟩
theorem AtP.is (h:AtP pre i k p t x f s l d)(b:Bs):isP b s=isK b l:=h.ss.is b
theorem AtP.adv (h:AtP pre i k p t x f s (u::r) d):AtP pre i k p t x f s.adv r d:=⟨h.len,h.nd,h.ss.adv.1,h.dp⟩
theorem AtP.deep (h:AtP pre i k p t x f s l d)(e:Nat):AtP pre i k p t x f { s with deep:=e } l e:=⟨h.len,h.nd,h.ts,rfl⟩
theorem AtP.on (h:AtP pre i k p t x f s l d)(g:Nd→Nd)(k':Nat)(t':Bs)(x':Int)(hg:∀c,g ⟨k,p,t,x,c⟩=⟨k',p,t',x',c⟩):AtP pre i k' p t' x' f (s.on i g) l d:=⟨h.len,by
 show s.nd.modify i g=_
 rw[h.nd,zBu _ _ _ _ _ h.len,hg],h.ts,h.dp⟩
theorem AtP.text (h:AtP pre i k p t x f s l d)(t':Bs):AtP pre i k p t' x f (s.text i t') l d:=h.on _ k t' x fun c=>rfl
theorem AtP.num (h:AtP pre i k p t x f s l d)(x':Int):AtP pre i k p t x' f (s.num i x') l d:=h.on _ k t x' fun c=>rfl
theorem AtP.kind (h:AtP pre i k p t x f s l d)(k':Nat):AtP pre i k' p t x f (s.kind i k') l d:=h.on _ k' t x fun c=>rfl
theorem AtP.size (h:AtP pre i k p t x f s l d):s.nd.length=i+1+f.size:=by
 rw[h.nd,yM,zJ,vK,h.len]; omega
theorem AtP.add (h:AtP pre i k p t x f s l d)(k2 p2:Nat)(t2:Bs)(x2:Int):AtP (XO pre i k p t x f) s.nd.length k2 p2 t2 x2 .nil ((s.kid i).add ⟨k2,p2,t2,x2,[]⟩) l d:=by
 have hs:=h.size;refine⟨?_,?_,h.ts,h.dp⟩
 ·unfold XO;rw[yM,zJ,vK,h.len]; omega
 ·show s.nd.modify i _++_=_
  rw[hs,h.nd,zBu _ _ _ _ _ h.len]
  rfl
theorem AtP.xB (h:AtP pre i k p t x f s l d)(k2:Nat):AtP (XO pre i k p t x f) s.nd.length k2 (s.kid i).hd.at_ [] 0 .nil (s.xB i k2) l d:=h.add k2 _ [] 0
theorem AtP.close {j k2 p2:Nat}{t2:Bs}{x2:Int}{g:Fo}(h0:pre.length=i)(h:AtP (XO pre i k p t x f) j k2 p2 t2 x2 g s l d):AtP pre i k p t x (f.app (Fo.one k2 p2 t2 x2 g)) s l d:=by
 have hj:j=i+1+f.size:=by
  rw[←h.len];unfold XO;rw[yM,zJ,vK,h0]; omega
 subst hj;refine⟨h0,?_,h.ts,h.dp⟩;rw[h.nd,zES,zF6];unfold XO;simp[Fo.one,Fo.roots,Fo.flat]
theorem AtP.gg {j k2 p2:Nat}{t2:Bs}{x2:Int}{g c:Fo}{p3:Nat}(h:AtP (XO pre i k p t x f) j k2 p2 t2 x2 g s l d)(h0:pre.length=i)(hg:g.z=c.z):GG pre i k p t x f (Fo.one k2 p3 t2 x2 c) l d s:=⟨Fo.one k2 p2 t2 x2 g,by
 show Fo.cons k2 0 t2 x2 g.z .nil=Fo.cons k2 0 t2 x2 c.z .nil
 rw[hg],h.close h0⟩
theorem GG.adv {c:Fo}(h:GG pre i k p t x f c (u::r) d s):GG pre i k p t x f c r d s.adv:=by
 obtain⟨g,h1,h2⟩:=h;exact⟨g,h1,h2.adv⟩
theorem GG.deep {c:Fo}(h:GG pre i k p t x f c l d s)(e:Nat):GG pre i k p t x f c l e { s with deep:=e }:=by
 obtain⟨g,h1,h2⟩:=h;exact⟨g,h1,h2.deep e⟩
theorem GG.is {c:Fo}(h:GG pre i k p t x f c l d s)(b:Bs):isP b s=isK b l:=by
 obtain⟨g,h1,h2⟩:=h;exact h2.is b
theorem GG.behind {g c c2:Fo}(hg:g.z=c.z)(h:GG pre i k p t x (f.app g) c2 l d s):GG pre i k p t x f (c.app c2) l d s:=by
 obtain⟨g2,h1,h2⟩:=h;exact⟨g.app g2,by rw[zAk,zAk,hg,h1],by rw[←zIF]; exact h2⟩
theorem YP (h:AtP pre i k p t x f s (u::r) d)(b:Bs)(hb:isK b (u::r)=true):RD (vE b s) (AtP pre i k p t x f · r d):=by
 unfold vE;rw[if_pos (by rw[h.is]; exact hb)];exact zAS h.adv
theorem zAu {w:Bs}(h:AtP pre i k p t x f s (kwS w::r) d):RD (vS i s) (AtP pre i k p w x f · r d):=by
 have hh:s.hd.sk=kwS w:=h.ss.hd;have hk:s.hd.kind=1:=congrArg Prod.fst hh;have ht:s.hd.text=w:=congrArg (fun u:Sk=>u.2.1) hh;unfold vS ofP;rw[if_pos hk,vT,ht];exact zAS (h.adv.text w)
theorem zGi {w:Bs}{p3:Nat}(h:AtP pre i k p t x f s (kwS w::r) d):RD (JN i s) (GG pre i k p t x f (Fo.one 5 p3 w 0 .nil) r d):=vN (zAu (h.xB 5)) fun s' h'=>h'.gg h.len rfl
theorem zKt {b:Bs}{n:Int}{p3:Nat}(h:AtP pre i k p t x f s ((2,b,n)::r) d):RD (JX i s) (GG pre i k p t x f (Fo.one 21 p3 [] n .nil) r d):=by
 have h2:=h.xB 21;have hh:(s.xB i 21).hd.sk=(2,b,n):=h2.ss.hd;have hk:(s.xB i 21).hd.kind=2:=congrArg Prod.fst hh;have ht:(s.xB i 21).hd.n=n:=congrArg (fun u:Sk=>u.2.2) hh;unfold JX zBr ofP;rw[if_pos hk,vT,ht];exact zAS ((h2.adv.num n).gg h.len rfl)
theorem zLV:∀(e:Ex) {pre:List Nd} {i k p:Nat} {t:Bs} {x:Int} {f:Fo} {s:Ps},AtP pre i k p t x f s l d→AtP pre i k p t x (f.app (e.fo .nil)) (zAe i e s) l d
 | .leaf k2 p2 t2 x2,pre,i,k,p,t,x,f,s,h=>(h.add k2 p2 t2 x2).close h.len
 | .neg p2 a,pre,i,k,p,t,x,f,s,h=>(zLV a (h.add 26 p2 [] 0)).close h.len
 | .bin k2 p2 a b,pre,i,k,p,t,x,f,s,h=>by
  have h2:=zLV b (zLV a (h.add k2 p2 [] 0));rw[show(Fo.nil.app (a.fo .nil)).app (b.fo .nil)=a.fo (b.fo .nil) from by rw[show Fo.nil.app (a.fo .nil)=a.fo .nil from rfl,zC0]; rfl] at h2;exact h2.close h.len
def zOm (l:List Sk):Prop:=zLD l∧zS7 l
theorem zCj {M:Nat}{e:Ex}(q:QX M e)(h:AtP pre i k p t x f s (e.tk++r) d)(hd:d+e.dp≤64)(hr:zOm r):RD (XC i s) (GG pre i k p t x f (e.fo .nil) r d):=by
 obtain⟨e1,s1,e2,hz,h1⟩:=zWS q s r d s.nd h.ss hd hr.1 hr.2;unfold XC;rw[e2,vT];exact zAS ⟨e1.fo .nil,by rw[zSJ,zSJ,hz],zLV e1 ⟨h.len,by rw[h1.2.2]; exact h.nd,h1.1,h1.2.1⟩⟩
theorem zGR {a z:Bs}{body:Pm Unit}{v:Sk}{c:Fo}(h:AtP pre i k p t x f s (u::l) d)(ha:isK a (u::l)=true)(hd:d+1≤64)(hz:z≠[])(hv:isK z (v::r)=true)
  (hb:∀s1,AtP pre i k p t x f s1 l (d+1)→RD (body s1) (GG pre i k p t x f c (v::r) (d+1))):RD (xY a z body s) (GG pre i k p t x f c r d):=by
 unfold xY;rw[if_pos (by rw[h.is]; exact ha),h.dp,if_neg (by omega)];refine xZ (hb _ (h.adv.deep (d+1))) fun s2 h2=>?_;rw[if_neg hz,show vE z s2=.ok () s2.adv from if_pos (by rw[h2.is]; exact hv),vT];obtain⟨g,h3,h4⟩:=h2;have h5:=h4.adv.deep (s2.adv.deep-1);rw[show s2.adv.deep-1=d from by have:=h4.adv.dp; omega] at h5 ⊢;exact zAS ⟨g,h3,h5⟩
theorem rd_key {M:Nat}{e:Ex}(q:QX M e)(h:AtP pre i k p t x f s (mk 91::(e.tk++mk 93::r)) d)(hd:d+(1+e.dp)≤64):RD (zD5 i s) (GG pre i k p t x f (e.fo .nil) r d):=
 zGR h rfl (by omega) (by decide) rfl fun s1 h1=>zCj q h1 (by omega) ⟨rfl,rfl,rfl⟩
theorem zOr {M:Nat}{w:Bs}{e:Ex}{p3:Nat}(q:QX M e)(h:AtP pre i k p t x f s (kwS w::mk 91::(e.tk++mk 93::r)) d)(hd:d+(1+e.dp)≤64):RD (zEn i s) (GG pre i k p t x f (Fo.one 20 p3 w 0 (e.fo .nil)) r d):=
 xZ (zAu (h.xB 20)) fun s1 h1=>vN (rd_key q h1 hd) fun s2 ⟨g,hg,h2⟩=>h2.gg h.len hg
theorem zPJ {M:Nat}{w v:Bs}{e:Ex}{p3 p4:Nat}(q:QX M e)(h:AtP pre i k p t x f s (kwS w::mk 91::(e.tk++mk 93::mk 46::kwS v::r)) d)(hd:d+(1+e.dp)≤64):RD (zEF i s) (GG pre i k p t x f ((Fo.one 20 p3 w 0 (e.fo .nil)).app (Fo.one 5 p4 v 0 .nil)) r d):=
 xZ (zOr (p3:=p3) q h hd) fun s1 ⟨g,hg,h1⟩=>xZ (YP h1 _ rfl) fun s2 h2=>vN (zGi (p3:=p4) h2) fun s3 h3=>h3.behind hg
def zCg (ls:List (List Sk)):List Sk:=(ls.map fun a=>mk 44::a).flatten
theorem zFp (a:List Sk):∀(ls:List (List Sk)),ZX (a::ls)=a++zCg ls
 | []=>by simp[ZX,zCg]
 | b::ls=>by
  show a++mk 44::ZX (b::ls)=a++(mk 44::b++zCg ls)
  rw[zFp b ls]
  rfl
def zRr (one:Pm Unit)(pre:List Nd)(i k p:Nat)(t:Bs)(x:Int)(d:Nat):Fo→Prop
 | .nil=>True
 | .cons k2 p2 t2 x2 c2 r=>(∀f s l,AtP pre i k p t x f s (zCX k2 t2 x2 c2.tok c2.kinds++l) d→zOm l→RD (one s) (GG pre i k p t x f (.cons k2 p2 t2 x2 c2 .nil) l d))∧zRr one pre i k p t x d r
theorem zVp (l:List Sk):zOm (mk 44::l):=⟨rfl,rfl,rfl⟩
theorem zQh {one:Pm Unit}:∀(c:Fo) (n:Nat) (f:Fo) (s:Ps),zRr one pre i k p t x d c→AtP pre i k p t x f s (zCg c.tok++r) d→c.kinds.length+1≤n→zOm r→isK [44] r=false→RD (JU one n s) (GG pre i k p t x f c r d)
 | .nil,0,f,s,_,h,hn,_,_=>by simp[Fo.kinds] at hn
 | .nil,n+1,f,s,_,h,hn,hr,hc=>by
  have h:AtP pre i k p t x f s r d:=h;rw[JU,if_neg (by rw[h.is,hc]; exact Bool.false_ne_true)];exact zAS ⟨.nil,rfl,by rw[zEV]; exact h⟩
 | .cons k2 p2 t2 x2 c2 c,0,f,s,_,h,hn,_,_=>by simp at hn
 | .cons k2 p2 t2 x2 c2 c,n+1,f,s,ha,h,hn,hr,hc=>by
  have h:AtP pre i k p t x f s (mk 44::(zCX k2 t2 x2 c2.tok c2.kinds++(zCg c.tok++r))) d:=by
   have e:zCg (Fo.cons k2 p2 t2 x2 c2 c).tok++r=mk 44::(zCX k2 t2 x2 c2.tok c2.kinds++(zCg c.tok++r)):=by
    show(mk 44::zCX k2 t2 x2 c2.tok c2.kinds++zCg c.tok)++r=_
    simp[List.append_assoc]
   rw[e] at h; exact h
  have he:zOm (zCg c.tok++r):=by
   cases c with
   | nil=>exact hr
   | cons=>exact zVp _
  rw[JU,if_pos (by rw[h.is]; rfl)];exact xZ (ha.1 _ _ _ h.adv he) fun s1 ⟨g,hg,h1⟩=>vN (zQh c n _ _ ha.2 h1 (by have hn:c.kinds.length+1+1≤n+1:=hn; omega) hr hc) fun s2 h2=>GG.behind (c:=.cons k2 p2 t2 x2 c2 .nil) hg h2
theorem zOc (r:List Sk):∀ls:List (List Sk),ls.length≤(zCg ls++r).length
 | []=>zT _
 | a::ls=>by
  have:=zOc r ls
  show ls.length+1≤((mk 44::a++zCg ls)++r).length
  simp only[yM,zJ] at this ⊢;omega
theorem zLO {one:Pm Unit}{k2 p2:Nat}{t2:Bs}{x2:Int}{c2 c:Fo}(ha:zRr one pre i k p t x d (.cons k2 p2 t2 x2 c2 c))(h:AtP pre i k p t x f s (ZX (Fo.cons k2 p2 t2 x2 c2 c).tok++r) d)(hr:zOm r)(hc:isK [44] r=false):RD (JC one s) (GG pre i k p t x f (.cons k2 p2 t2 x2 c2 c) r d):=by
 have h:AtP pre i k p t x f s (zCX k2 t2 x2 c2.tok c2.kinds++(zCg c.tok++r)) d:=by
  have e:ZX (Fo.cons k2 p2 t2 x2 c2 c).tok++r=zCX k2 t2 x2 c2.tok c2.kinds++(zCg c.tok++r):=by
   show ZX (zCX k2 t2 x2 c2.tok c2.kinds::c.tok)++r=_
   rw[zFp,List.append_assoc]
  rw[e] at h; exact h
 have he:zOm (zCg c.tok++r):=by
  cases c with
  | nil=>exact hr
  | cons=>exact zVp _
 exact xZ (ha.1 _ _ _ h he) fun s1 ⟨g,hg,h1⟩=>vN (zQh c _ _ _ ha.2 h1 (by
  rw[show s1.ts.length=(zCg c.tok++r).length from h1.ss.len]
  have:=zOc r c.tok
  rw[zF5] at this
  omega) hr hc) fun s2 h2=>GG.behind (c:=.cons k2 p2 t2 x2 c2 .nil) hg h2
end
end Go.Proofs.YtioffpjajhalaaaGreatDoor
