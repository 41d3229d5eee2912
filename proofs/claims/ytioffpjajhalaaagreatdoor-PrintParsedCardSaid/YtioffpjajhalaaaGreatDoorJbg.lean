/- What is printed of a statement is no longer than it costs. No program in sight; condition: so many tabs at most. (and what follows of it). The conditions stand at each lemma. -/
import Derived.Test.YtioffpjajhalaaaGreatDoorJaa
import Derived.Test.YtioffpjajhalaaaGreatDoorJbf
set_option linter.unusedVariables false
set_option linter.unusedSimpArgs false
set_option maxRecDepth 100000
set_option maxHeartbeats 16000000
namespace Go.Proofs.YtioffpjajhalaaaGreatDoor
theorem zHa:∀(l:List Nat),l.getD 0 0+l.getD 1 0+l.getD 2 0+l.getD 3 0≤l.sum
 | []=>by simp
 | [a]=>by simp
 | [a,b]=>by simp
 | [a,b,c]=>by simp; omega
 | a::b::c::d::l=>by simp; omega
theorem YS (d:Nat)(ps:List Bs):(xR d ps).length=d+ps.flatten.length+1:=zKE d ps
theorem zGa (x:Int)(a b:Bs):(JB x a b).length≤max a.length b.length:=by
 unfold JB
 split <;> omega
theorem zKR:∀(ls:List Bs) (cs:List Nat),ls.length=cs.length→(∀j,j<ls.length→(ls.getD j []).length+2≤cs.getD j 0)→(jD ls).length≤cs.sum
 | [],cs,_,_=>by simp[jD,Lib.join_nil]
 | x::r,[],h,_=>by cases h
 | x::r,c::cs,h,hj=>by
  have h1:=zLp (x::r)
  have h2:∀(ls:List Bs) (cs:List Nat),ls.length=cs.length→(∀j,j<ls.length→(ls.getD j []).length+2≤cs.getD j 0)→zAD ls+2*ls.length≤cs.sum:=fun ls=>by
   induction ls with
   | nil=>intro cs _ _; simp[zAD]
   | cons a l ih=>
    intro cs hl hj
    cases cs with
    | nil=>cases hl
    | cons b cs=>
     have h0:=hj 0 (by simp);have h3:=ih cs (Nat.succ.inj hl) fun j h=>hj (j+1) (by simpa using h);have h0:a.length+2≤b:=h0
     show(a.length+zAD l)+2*(l.length+1)≤(b::cs).sum
     rw[List.sum_cons];omega
  exact Nat.le_trans h1 (h2 _ _ h hj)
theorem zD9 {kk:List Nat}{want:List Int}(h:TT.isR (xK kk) want=true)(i:Nat)(hi:i<want.length)(hw:want.getD i 0=6):i<kk.length∧kk.getD i 0=6:=by
 have h1:=VV h i hi;have hl:=ZP h;rw[show(xK kk).getD i 0=((kk.getD i 0:Nat):Int) from VM kk i,hw] at h1;exact⟨by have:(xK kk).length=kk.length:=yN ..; omega,ZF (w:=6) (by decide) h1⟩
theorem zWJ (d:Nat)(t:Bs)(x:Int)(kk:List Nat)(ls bk:List Bs)(cs:List Nat)(hk:xU 7 t x kk)(hd:d≤65)(hl:ls.length=kk.length)(hcl:cs.length=kk.length)(HT:∀j,j<kk.length→isT (kk.getD j 0)→(ls.getD j []).length+2≤cs.getD j 0)(HB:∀j,j<kk.length→kk.getD j 0=6→(bk.getD j []).length+80≤cs.getD j 0):(xW d 7 t x ls bk).length≤t.length+100+cs.sum:=by
 obtain⟨_,_,hw,AA⟩:=hk;have s4:=zHa cs;have hr:TT.isR (xK kk) [20,5]=true:=AA;have h0:=HT 0 (xV hr 0 (by simp) (by decide)).1 (xV hr 0 (by simp) (by decide)).2;have h1:=HT 1 (xV hr 1 (by simp) (by decide)).1 (xV hr 1 (by simp) (by decide)).2;have hp:=zGa x [59] [32,102,111,114,32,117,112,100,97,116,101,59];simp only[zJ,zK] at hp
 show(xR d [[114,101,97,100,32],t,[32,61,32],(ls.getD 0 []),[46],(ls.getD 1 []),(JB x [59] [32,102,111,114,32,117,112,100,97,116,101,59])]).length≤_
 simp only[List.flatten_cons,List.flatten_nil,yM,zJ,zK,YS];omega
theorem zXr (d:Nat)(t:Bs)(x:Int)(kk:List Nat)(ls bk:List Bs)(cs:List Nat)(hk:xU 8 t x kk)(hd:d≤65)(hl:ls.length=kk.length)(hcl:cs.length=kk.length)(HT:∀j,j<kk.length→isT (kk.getD j 0)→(ls.getD j []).length+2≤cs.getD j 0)(HB:∀j,j<kk.length→kk.getD j 0=6→(bk.getD j []).length+80≤cs.getD j 0):(xW d 8 t x ls bk).length≤t.length+100+cs.sum:=by
 obtain⟨_,_,hw,AA⟩:=hk;have s4:=zHa cs;have hr:TT.isR (xK kk) [20,5,0]=true:=AA;have h0:=HT 0 (xV hr 0 (by simp) (by decide)).1 (xV hr 0 (by simp) (by decide)).2;have h1:=HT 1 (xV hr 1 (by simp) (by decide)).1 (xV hr 1 (by simp) (by decide)).2;have h2:=HT 2 (xV hr 2 (by simp) (by decide)).1 (xV hr 2 (by simp) (by decide)).2
 show(xR d [[115,101,116,32],(ls.getD 0 []),[46],(ls.getD 1 []),[32,61,32],(ls.getD 2 []),[59]]).length≤_
 simp only[List.flatten_cons,List.flatten_nil,yM,zJ,zK,YS];omega
theorem zW6 (d:Nat)(t:Bs)(x:Int)(kk:List Nat)(ls bk:List Bs)(cs:List Nat)(hk:xU 9 t x kk)(hd:d≤65)(hl:ls.length=kk.length)(hcl:cs.length=kk.length)(HT:∀j,j<kk.length→isT (kk.getD j 0)→(ls.getD j []).length+2≤cs.getD j 0)(HB:∀j,j<kk.length→kk.getD j 0=6→(bk.getD j []).length+80≤cs.getD j 0):(xW d 9 t x ls bk).length≤t.length+100+cs.sum:=by
 obtain⟨_,_,hw,AE⟩:=hk;have s4:=zHa cs;have hr:(decide (1<(xK kk).length)&&((xK kk).getD 0 0==20&&TT.zCY (xK kk) 1 0))=true:=AE;simp only[zF,zE,zN] at hr;obtain⟨AF,AD,AA⟩:=hr;have AC:(xK kk).length=kk.length:=yN ..;have h0:=HT 0 (by omega) (.inr (.inl (by rw[show(xK kk).getD 0 0=((kk.getD 0 0:Nat):Int) from VM kk 0] at AD; omega)))
 have hc:(jD (ls.drop 1)).length≤(cs.drop 1).sum:=zKR _ _ (by rw[List.length_drop,List.length_drop,hl,hcl]) fun j hj=>by
  rw[List.length_drop] at hj;rw[yE,yE,List.getElem?_drop,List.getElem?_drop,←yE,←yE];refine HT (1+j) (by omega) (.inr (.inr ?_));unfold TT.zCY at AA;rw[zG] at AA
  have hb:TT.zE7 0 ((kk.getD (1+j) 0:Nat):Int)=true:=AA _ (by
   rw[←VM kk (1+j)]
   have AB:1+j<(xK kk).length:=by omega
   rw[show(kk.map fun (j:Nat)=>(j:Int))=xK kk from rfl,yE,yG AB]
   show(xK kk)[1+j] ∈ (xK kk).drop 1
   rw[List.mem_iff_getElem]
   exact⟨j,by rw[List.length_drop]; omega,by rw[List.getElem_drop]⟩)
  exact JF hb
 have hs:cs.getD 0 0+(cs.drop 1).sum=cs.sum:=by
  cases cs with
  | nil=>rfl
  | cons a l=>rw[List.sum_cons]; rfl
 show(xR d [[112,117,116,32],(ls.getD 0 []),[40],(jD (ls.drop 1)),[41,59]]).length≤_
 simp only[List.flatten_cons,List.flatten_nil,yM,zJ,zK,YS];omega
theorem zWk (d:Nat)(t:Bs)(x:Int)(kk:List Nat)(ls bk:List Bs)(cs:List Nat)(hk:xU 10 t x kk)(hd:d≤65)(hl:ls.length=kk.length)(hcl:cs.length=kk.length)(HT:∀j,j<kk.length→isT (kk.getD j 0)→(ls.getD j []).length+2≤cs.getD j 0)(HB:∀j,j<kk.length→kk.getD j 0=6→(bk.getD j []).length+80≤cs.getD j 0):(xW d 10 t x ls bk).length≤t.length+100+cs.sum:=by
 obtain⟨_,_,hw,AA⟩:=hk;have s4:=zHa cs;have hr:TT.isR (xK kk) [20]=true:=AA;have h0:=HT 0 (xV hr 0 (by simp) (by decide)).1 (xV hr 0 (by simp) (by decide)).2
 show(xR d [[100,101,108,101,116,101,32],(ls.getD 0 []),[59]]).length≤_
 simp only[List.flatten_cons,List.flatten_nil,yM,zJ,zK,YS];omega
theorem zVA (d:Nat)(t:Bs)(x:Int)(kk:List Nat)(ls bk:List Bs)(cs:List Nat)(hk:xU 11 t x kk)(hd:d≤65)(hl:ls.length=kk.length)(hcl:cs.length=kk.length)(HT:∀j,j<kk.length→isT (kk.getD j 0)→(ls.getD j []).length+2≤cs.getD j 0)(HB:∀j,j<kk.length→kk.getD j 0=6→(bk.getD j []).length+80≤cs.getD j 0):(xW d 11 t x ls bk).length≤t.length+100+cs.sum:=by
 obtain⟨_,_,hw,AA⟩:=hk;have s4:=zHa cs;have hr:TT.isR (xK kk) [5,5]=true:=AA;have h0:=HT 0 (xV hr 0 (by simp) (by decide)).1 (xV hr 0 (by simp) (by decide)).2;have h1:=HT 1 (xV hr 1 (by simp) (by decide)).1 (xV hr 1 (by simp) (by decide)).2
 show(xR d [[115,99,97,110,32],t,[32,61,32],(ls.getD 0 []),[46],(ls.getD 1 []),[59]]).length≤_
 simp only[List.flatten_cons,List.flatten_nil,yM,zJ,zK,YS];omega
theorem zWG (d:Nat)(t:Bs)(x:Int)(kk:List Nat)(ls bk:List Bs)(cs:List Nat)(hk:xU 12 t x kk)(hd:d≤65)(hl:ls.length=kk.length)(hcl:cs.length=kk.length)(HT:∀j,j<kk.length→isT (kk.getD j 0)→(ls.getD j []).length+2≤cs.getD j 0)(HB:∀j,j<kk.length→kk.getD j 0=6→(bk.getD j []).length+80≤cs.getD j 0):(xW d 12 t x ls bk).length≤t.length+100+cs.sum:=by
 obtain⟨_,_,hw,AA⟩:=hk;have s4:=zHa cs;have hr:TT.isR (xK kk) [5]=true:=AA;have h0:=HT 0 (xV hr 0 (by simp) (by decide)).1 (xV hr 0 (by simp) (by decide)).2;have hp:=zGa x [32,115,104,97,114,101,100,59] [32,97,108,108,59];simp only[zJ,zK] at hp
 show(xR d [[108,111,99,107,32],(ls.getD 0 []),(JB x [32,115,104,97,114,101,100,59] [32,97,108,108,59])]).length≤_
 simp only[List.flatten_cons,List.flatten_nil,yM,zJ,zK,YS];omega
theorem zVO (d:Nat)(t:Bs)(x:Int)(kk:List Nat)(ls bk:List Bs)(cs:List Nat)(hk:xU 13 t x kk)(hd:d≤65)(hl:ls.length=kk.length)(hcl:cs.length=kk.length)(HT:∀j,j<kk.length→isT (kk.getD j 0)→(ls.getD j []).length+2≤cs.getD j 0)(HB:∀j,j<kk.length→kk.getD j 0=6→(bk.getD j []).length+80≤cs.getD j 0):(xW d 13 t x ls bk).length≤t.length+100+cs.sum:=by
 obtain⟨_,_,hw,AA⟩:=hk;have s4:=zHa cs;have hr:(TT.isR (xK kk) [5]||TT.isR (xK kk) [20])=true:=AA
 rcases Bool.or_eq_true_iff.1 hr with hr | hr
 ·have h0:=HT 0 (xV hr 0 (by simp) (by decide)).1 (xV hr 0 (by simp) (by decide)).2
  show(xR d [[114,101,108,101,97,115,101,32],(ls.getD 0 []),[59]]).length≤_
  simp only[List.flatten_cons,List.flatten_nil,yM,zJ,zK,YS];omega
 ·have h0:=HT 0 (xV hr 0 (by simp) (by decide)).1 (xV hr 0 (by simp) (by decide)).2
  show(xR d [[114,101,108,101,97,115,101,32],(ls.getD 0 []),[59]]).length≤_
  simp only[List.flatten_cons,List.flatten_nil,yM,zJ,zK,YS];omega
theorem zVu (d:Nat)(t:Bs)(x:Int)(kk:List Nat)(ls bk:List Bs)(cs:List Nat)(hk:xU 14 t x kk)(hd:d≤65)(hl:ls.length=kk.length)(hcl:cs.length=kk.length)(HT:∀j,j<kk.length→isT (kk.getD j 0)→(ls.getD j []).length+2≤cs.getD j 0)(HB:∀j,j<kk.length→kk.getD j 0=6→(bk.getD j []).length+80≤cs.getD j 0):(xW d 14 t x ls bk).length≤t.length+100+cs.sum:=by
 obtain⟨_,_,hw,AA⟩:=hk;have s4:=zHa cs;have hp:=zGa x [32,60,32] [32,61,61,32];simp only[zJ,zK] at hp;have hr:(TT.isR (xK kk) [0,0,6]||TT.isR (xK kk) [0,0,6,6])=true:=AA
 rcases Bool.or_eq_true_iff.1 hr with hr | hr
 ·have hn:kk.length=3:=by have:=ZP hr; simpa [xK] using this
  have h0:=HT 0 (xV hr 0 (by simp) (by decide)).1 (xV hr 0 (by simp) (by decide)).2;have h1:=HT 1 (xV hr 1 (by simp) (by decide)).1 (xV hr 1 (by simp) (by decide)).2;have h2:=HB 2 (zD9 hr 2 (by simp) rfl).1 (zD9 hr 2 (by simp) rfl).2
  have e:(3<ls.length)=False:=by rw[hl,hn]; simp
  have e2:xW d 14 t x ls bk=xR d [[105,102,32],(ls.getD 0 []),(JB x [32,60,32] [32,61,61,32]),(ls.getD 1 []),[32,123]]++(bk.getD 2 []++(([]:Bs)++xR d [[125]])):=by show xR d [[105,102,32],(ls.getD 0 []),(JB x [32,60,32] [32,61,61,32]),(ls.getD 1 []),[32,123]]++(bk.getD 2 []++((if 3<ls.length then xR d [[125,32,101,108,115,101,32,123]]++bk.getD 3 [] else [])++xR d [[125]]))=_; simp[e]
  rw[e2];simp only[List.flatten_cons,List.flatten_nil,yM,zJ,zK,YS];omega
 ·have hn:kk.length=4:=by have:=ZP hr; simpa [xK] using this
  have h0:=HT 0 (xV hr 0 (by simp) (by decide)).1 (xV hr 0 (by simp) (by decide)).2;have h1:=HT 1 (xV hr 1 (by simp) (by decide)).1 (xV hr 1 (by simp) (by decide)).2;have h2:=HB 2 (zD9 hr 2 (by simp) rfl).1 (zD9 hr 2 (by simp) rfl).2;have h3:=HB 3 (zD9 hr 3 (by simp) rfl).1 (zD9 hr 3 (by simp) rfl).2
  have e:(3<ls.length)=True:=by rw[hl,hn]; simp
  have e2:xW d 14 t x ls bk=xR d [[105,102,32],(ls.getD 0 []),(JB x [32,60,32] [32,61,61,32]),(ls.getD 1 []),[32,123]]++(bk.getD 2 []++((xR d [[125,32,101,108,115,101,32,123]]++bk.getD 3 [])++xR d [[125]])):=by show xR d [[105,102,32],(ls.getD 0 []),(JB x [32,60,32] [32,61,61,32]),(ls.getD 1 []),[32,123]]++(bk.getD 2 []++((if 3<ls.length then xR d [[125,32,101,108,115,101,32,123]]++bk.getD 3 [] else [])++xR d [[125]]))=_; simp[e]
  rw[e2];simp only[List.flatten_cons,List.flatten_nil,yM,zJ,zK,YS];omega
theorem zV1 (d:Nat)(t:Bs)(x:Int)(kk:List Nat)(ls bk:List Bs)(cs:List Nat)(hk:xU 15 t x kk)(hd:d≤65)(hl:ls.length=kk.length)(hcl:cs.length=kk.length)(HT:∀j,j<kk.length→isT (kk.getD j 0)→(ls.getD j []).length+2≤cs.getD j 0)(HB:∀j,j<kk.length→kk.getD j 0=6→(bk.getD j []).length+80≤cs.getD j 0):(xW d 15 t x ls bk).length≤t.length+100+cs.sum:=by
 obtain⟨_,_,hw,AA⟩:=hk;have s4:=zHa cs;have hr:TT.isR (xK kk) [21,21,6]=true:=AA;have h0:=HT 0 (xV hr 0 (by simp) (by decide)).1 (xV hr 0 (by simp) (by decide)).2;have h1:=HT 1 (xV hr 1 (by simp) (by decide)).1 (xV hr 1 (by simp) (by decide)).2;have h2:=HB 2 (zD9 hr 2 (by simp) rfl).1 (zD9 hr 2 (by simp) rfl).2
 show(xR d [[102,111,114,32],t,[32,61,32],(ls.getD 0 []),[32,116,111,32],(ls.getD 1 []),[32,123]]++(bk.getD 2 []++xR d [[125]])).length≤_
 simp only[List.flatten_cons,List.flatten_nil,yM,zJ,zK,YS];omega
theorem zWv (d:Nat)(t:Bs)(x:Int)(kk:List Nat)(ls bk:List Bs)(cs:List Nat)(hk:xU 16 t x kk)(hd:d≤65)(hl:ls.length=kk.length)(hcl:cs.length=kk.length)(HT:∀j,j<kk.length→isT (kk.getD j 0)→(ls.getD j []).length+2≤cs.getD j 0)(HB:∀j,j<kk.length→kk.getD j 0=6→(bk.getD j []).length+80≤cs.getD j 0):(xW d 16 t x ls bk).length≤t.length+100+cs.sum:=by
 obtain⟨_,_,hw,AA⟩:=hk;have s4:=zHa cs;have hr:TT.isR (xK kk) [0]=true:=AA;have h0:=HT 0 (xV hr 0 (by simp) (by decide)).1 (xV hr 0 (by simp) (by decide)).2
 show(xR d [[108,101,116,32],t,[32,61,32],(ls.getD 0 []),[59]]).length≤_
 simp only[List.flatten_cons,List.flatten_nil,yM,zJ,zK,YS];omega
theorem zVy (d:Nat)(t:Bs)(x:Int)(kk:List Nat)(ls bk:List Bs)(cs:List Nat)(hk:xU 17 t x kk)(hd:d≤65)(hl:ls.length=kk.length)(hcl:cs.length=kk.length)(HT:∀j,j<kk.length→isT (kk.getD j 0)→(ls.getD j []).length+2≤cs.getD j 0)(HB:∀j,j<kk.length→kk.getD j 0=6→(bk.getD j []).length+80≤cs.getD j 0):(xW d 17 t x ls bk).length≤t.length+100+cs.sum:=by
 obtain⟨_,_,hw,AA⟩:=hk;have s4:=zHa cs;have hr:TT.isR (xK kk) [0]=true:=AA;have h0:=HT 0 (xV hr 0 (by simp) (by decide)).1 (xV hr 0 (by simp) (by decide)).2
 show(xR d [[101,109,105,116,32],(ls.getD 0 []),[59]]).length≤_
 simp only[List.flatten_cons,List.flatten_nil,yM,zJ,zK,YS];omega
theorem zVC (d:Nat)(t:Bs)(x:Int)(kk:List Nat)(ls bk:List Bs)(cs:List Nat)(hk:xU 18 t x kk)(hd:d≤65)(hl:ls.length=kk.length)(hcl:cs.length=kk.length)(HT:∀j,j<kk.length→isT (kk.getD j 0)→(ls.getD j []).length+2≤cs.getD j 0)(HB:∀j,j<kk.length→kk.getD j 0=6→(bk.getD j []).length+80≤cs.getD j 0):(xW d 18 t x ls bk).length≤t.length+100+cs.sum:=by
 obtain⟨_,_,hw,AA⟩:=hk;have s4:=zHa cs
 show(xR d [[114,111,108,108,98,97,99,107,59]]).length≤_
 simp only[List.flatten_cons,List.flatten_nil,yM,zJ,zK,YS];omega
theorem zVz (d:Nat)(t:Bs)(x:Int)(kk:List Nat)(ls bk:List Bs)(cs:List Nat)(hk:xU 19 t x kk)(hd:d≤65)(hl:ls.length=kk.length)(hcl:cs.length=kk.length)(HT:∀j,j<kk.length→isT (kk.getD j 0)→(ls.getD j []).length+2≤cs.getD j 0)(HB:∀j,j<kk.length→kk.getD j 0=6→(bk.getD j []).length+80≤cs.getD j 0):(xW d 19 t x ls bk).length≤t.length+100+cs.sum:=by
 obtain⟨_,_,hw,AA⟩:=hk;have s4:=zHa cs
 show(xR d [[99,104,111,112,59]]).length≤_
 simp only[List.flatten_cons,List.flatten_nil,yM,zJ,zK,YS];omega
theorem zSf (d k:Nat)(t:Bs)(x:Int)(kk:List Nat)(ls bk:List Bs)(cs:List Nat)(hs:7≤k∧k≤19)(hk:xU k t x kk)(hd:d≤65)(hl:ls.length=kk.length)(hcl:cs.length=kk.length)(HT:∀j,j<kk.length→isT (kk.getD j 0)→(ls.getD j []).length+2≤cs.getD j 0)(HB:∀j,j<kk.length→kk.getD j 0=6→(bk.getD j []).length+80≤cs.getD j 0):(xW d k t x ls bk).length≤t.length+100+cs.sum:=by
 have h:k=7∨k=8∨k=9∨k=10∨k=11∨k=12∨k=13∨k=14∨k=15∨k=16∨k=17∨k=18∨k=19:=by omega
 rcases h with rfl | rfl | rfl | rfl | rfl | rfl | rfl | rfl | rfl | rfl | rfl | rfl | rfl
 ·exact zWJ d t x kk ls bk cs hk hd hl hcl HT HB
 ·exact zXr d t x kk ls bk cs hk hd hl hcl HT HB
 ·exact zW6 d t x kk ls bk cs hk hd hl hcl HT HB
 ·exact zWk d t x kk ls bk cs hk hd hl hcl HT HB
 ·exact zVA d t x kk ls bk cs hk hd hl hcl HT HB
 ·exact zWG d t x kk ls bk cs hk hd hl hcl HT HB
 ·exact zVO d t x kk ls bk cs hk hd hl hcl HT HB
 ·exact zVu d t x kk ls bk cs hk hd hl hcl HT HB
 ·exact zV1 d t x kk ls bk cs hk hd hl hcl HT HB
 ·exact zWv d t x kk ls bk cs hk hd hl hcl HT HB
 ·exact zVy d t x kk ls bk cs hk hd hl hcl HT HB
 ·exact zVC d t x kk ls bk cs hk hd hl hcl HT HB
 ·exact zVz d t x kk ls bk cs hk hd hl hcl HT HB
theorem zUa {M:Nat}{k p:Nat}{t:Bs}{x:Int}{c:Fo}(hk:(Fo.cons k p t x c .nil).ok M)(ht:isT k):(zAt k t x c.txt c.kinds).length+2≤t.length+jE k+c.cost:=by
 rcases ht with rfl | rfl | h
 ·show t.length+2≤t.length+25+c.cost
  omega
 ·obtain⟨e,q,rfl,_⟩:=zGD hk;rw[zED e _ q,zEJ]
  have:=zGI e q
  show(((t++[91])++e.bs)++[93]).length+2≤t.length+25+(e.cost+0)
  simp only[yM,zJ,zK];omega
 ·obtain⟨e,q,fe,_⟩:=zDV hk h;have h1:=congrArg Fo.txt (fe .nil);have h2:=congrArg Fo.cost (fe .nil);rw[zED e _ q] at h1;rw[zEJ] at h2;have h1:zAt k t x c.txt c.kinds=e.bs:=(List.cons.inj h1).1;have h2:(t.length+jE k+c.cost)+0=e.cost+0:=h2
  have:=zGI e q
  rw[h1];omega
theorem zV3 {M:Nat}:∀(f:Fo),f.ok M→∀j,j<f.kinds.length→isT (f.kinds.getD j 0)→(f.txt.getD j []).length+2≤f.zCi.getD j 0
 | .nil,_,j,hj,_=>by cases hj
 | .cons k p t x c r,h,0,_,ht=>zUa ⟨h.1,h.2.1,trivial⟩ ht
 | .cons k p t x c r,h,j+1,hj,ht=>zV3 r h.2.2 j (Nat.lt_of_succ_lt_succ hj) ht
theorem zGF:∀f:Fo,f.zCi.length=f.kinds.length
 | .nil=>rfl
 | .cons k p t x c r=>by show r.zCi.length+1=r.kinds.length+1; rw[zGF r]
theorem zPI:∀(c:Fo) (d:Nat),(∀j,j<c.kinds.length→(((c.st d).getD j ([],[])).1).length≤c.zCi.getD j 0)→((c.st d).map Prod.fst).flatten.length≤c.cost
 | .nil,d,_=>zU _
 | .cons k p t x c2 c,d,h=>by
  have h0:=h 0 (Nat.zero_lt_succ _);have h1:=zPI c d fun j hj=>h (j+1) (Nat.succ_lt_succ hj);have h0:(xW d k t x c2.txt ((c2.st (d+1)).map Prod.snd)).length≤t.length+jE k+c2.cost:=h0
  show(xW d k t x c2.txt ((c2.st (d+1)).map Prod.snd)++((c.st d).map Prod.fst).flatten).length≤(t.length+jE k+c2.cost)+c.cost
  rw[yM];omega
theorem zIG {M:Nat}:∀(f:Fo),f.ok M→∀(d j:Nat),j<f.kinds.length→((7≤f.kinds.getD j 0∧f.kinds.getD j 0≤19)→d+vV f.xP≤65→(((f.st d).getD j ([],[])).1).length≤f.zCi.getD j 0)∧(f.kinds.getD j 0=6→d+vV f.xP≤66→(((f.st d).getD j ([],[])).2).length+80≤f.zCi.getD j 0)
 | .nil,_,d,j,hj=>by cases hj
 | .cons k p t x c r,h,d,j+1,hj=>by
  have h1:=zIG r h.2.2 d j (Nat.lt_of_succ_lt_succ hj);refine⟨fun hs hd=>h1.1 hs ?_,fun hs hd=>h1.2 hs ?_⟩
  ·have hd:d+max (ZI k c.xP c.kinds) (vV r.xP)≤65:=hd;omega
  ·have hd:d+max (ZI k c.xP c.kinds) (vV r.xP)≤66:=hd;omega
 | .cons k p t x c r,h,d,0,hj=>by
  refine⟨fun hs hd=>?_,fun hs hd=>?_⟩
  ·have hs:7≤k∧k≤19:=hs;have hd:d+max (ZI k c.xP c.kinds) (vV r.xP)≤65:=hd
   have hn:ZI k c.xP c.kinds=vV c.xP:=by
    unfold ZI;rw[if_neg (by omega),if_neg (by omega),if_neg (by omega)]
   have hc:jE k=100:=by
    unfold jE;rw[if_neg (by omega),if_neg (by omega),if_pos (by omega)]
   have h1:=zSf d k t x c.kinds c.txt ((c.st (d+1)).map Prod.snd) c.zCi hs h.1.1 (by omega) (VZ c) (zGF c) (zV3 c h.2.1) fun j hj h6=>by
    rw[zFM];exact(zIG c h.2.1 (d+1) j hj).2 h6 (by omega)
   rw[zGC] at h1
   show(xW d k t x c.txt ((c.st (d+1)).map Prod.snd)).length≤t.length+jE k+c.cost
   omega
  ·obtain rfl:k=6:=hs;have hd:d+max (1+vV c.xP) (vV r.xP)≤66:=hd;obtain⟨_,_,_,hb⟩:=zE3 h;have h1:=zPI c d fun j hj=>(zIG c h.2.1 d j hj).1 (hb j hj) (by omega)
   show(((c.st d).map Prod.fst).flatten).length+80≤t.length+80+c.cost
   omega
theorem zSU {M:Nat}{c:Fo}(hc:c.ok M)(h5:∀j,j<c.kinds.length→c.kinds.getD j 0=5):(jD c.txt).length≤c.cost:=by
 rw[←zGC c];exact zKR _ _ (by rw[VZ,zGF]) fun j hj=>zV3 c hc j (by rw[←VZ]; exact hj) (.inl (h5 j (by rw[←VZ]; exact hj)))
theorem zTs {M k:Nat}{t:Bs}{x:Int}{c:Fo}(hs:k=2∨k=3)(hk:xU k t x c.kinds)(hc:c.ok M)(hd:vV c.xP≤65):(zJN k t x c.txt c.inn ((c.st 1).map Prod.snd)).length≤t.length+jE k+c.cost:=by
 obtain⟨_,_,hw,AB⟩:=hk
 rcases hs with rfl | rfl
 ·have hr:(decide (0<(xK c.kinds).length)&&TT.zCY (xK c.kinds) 0 5)=true:=AB;rw[zF] at hr;have AC:=zSU hc (zQN hr.2)
  show(xR 0 [[116,97,98,108,101,32],t,[40],jD c.txt,[41,59]]).length≤t.length+100+c.cost
  simp only[List.flatten_cons,List.flatten_nil,yM,zJ,zK,YS];omega
 ·obtain⟨k4,p4,t4,x4,c4,k6,p6,t6,x6,c6,rfl,ha,hb⟩:=zG0 (f:=c) (a:=4) (b:=6) AB;obtain rfl:=ZF (w:=4) (by decide) ha;obtain rfl:=ZF (w:=6) (by decide) hb;have AC:=zSU hc.2.1 (zQN (kk:=c4.kinds) hc.1.1.2.2.2);have AA:=(zIG _ hc 1 1 (Nat.lt_succ_self 1)).2 rfl (by omega);have AA:((((Fo.cons 4 p4 t4 x4 c4 (.cons 6 p6 t6 x6 c6 .nil)).st 1).getD 1 ([],[])).2).length+80≤t6.length+80+c6.cost:=AA;have hp:=zGa x [32,123] [32,115,105,110,103,108,101,32,123];simp only[zJ,zK] at hp
  show(xR 0 [[112,114,111,99,32],t,[40],jD c4.txt,[41],JB x [32,123] [32,115,105,110,103,108,101,32,123]]++((((Fo.cons 4 p4 t4 x4 c4 (.cons 6 p6 t6 x6 c6 .nil)).st 1).map Prod.snd).getD 1 []++xR 0 [[125]])).length≤t.length+100+((t4.length+0+c4.cost)+((t6.length+80+c6.cost)+0))
  rw[zFM];simp only[List.flatten_cons,List.flatten_nil,yM,zJ,zK,YS];omega
theorem zFl {M:Nat}:∀(f:Fo),f.ok M→(∀j,j<f.kinds.length→f.kinds.getD j 0=2∨f.kinds.getD j 0=3)→vV f.xP≤64→f.print.length≤f.cost
 | .nil,_,_,_=>zU _
 | .cons k p t x c r,h,hs,hd=>by
  have h0:k=2∨k=3:=hs 0 (Nat.zero_lt_succ _);have hd:max (ZI k c.xP c.kinds) (vV r.xP)≤64:=hd
  have hn:ZI k c.xP c.kinds=vV c.xP:=by
   unfold ZI;rw[if_neg (by omega),if_neg (by omega),if_neg (by omega)]
  have h1:=zTs (M:=M) h0 h.1.1 h.2.1 (by omega);have h2:=zFl r h.2.2 (fun j hj=>hs (j+1) (Nat.succ_lt_succ hj)) (by omega)
  show(zJN k t x c.txt c.inn ((c.st 1).map Prod.snd)++r.print).length≤(t.length+jE k+c.cost)+r.cost
  rw[yM];omega
theorem zD8:∀(f g:Fo) (a:Nat),f.flat a=g.flat a→f.roots a=g.roots a→f=g
 | .nil,.nil,a,_,_=>rfl
 | .nil,.cons ..,a,h,_=>by cases h
 | .cons ..,.nil,a,h,_=>by cases h
 | .cons k p t x c r,.cons k' p' t' x' c' r',a,h,hr=>by
  have h:(⟨k,p,t,x,c.roots (a+1)⟩:Nd)::(c.flat (a+1)++r.flat (a+1+c.size))=⟨k',p',t',x',c'.roots (a+1)⟩::(c'.flat (a+1)++r'.flat (a+1+c'.size)):=h;have hr:a::r.roots (a+1+c.size)=a::r'.roots (a+1+c'.size):=hr;obtain⟨h1,h2⟩:=List.cons.inj h;obtain⟨_,h3⟩:=List.cons.inj hr;injection h1 with e1 e2 e3 e4 e5;subst e1 e2 e3 e4
  have hs:c.size=c'.size:=by
   have AA:=congrArg List.length h2;simp only[yM,vK] at AA
   cases r with
   | nil=>
    cases r' with
    | nil=>simp only[Fo.size] at AA; omega
    | cons=>cases h3
   | cons k1 p1 t1 x1 c1 r1=>
    cases r' with
    | nil=>cases h3
    | cons=>
     have:=(List.cons.inj h3).1
     omega
  rw[←hs] at h2 h3;obtain⟨h4,h5⟩:=List.append_inj h2 (by rw[vK,vK,hs]);rw[zD8 c c' _ h4 e5,zD8 r r' _ h5 h3]
def BD (n:Nat)(s:Ps)(r:Res Ex):Prop:=s.deep≤64→∀e s',r=.ok e s'→s'.deep=s.deep∧s'.nd=s.nd∧s.deep+br n (exK e) e.dp≤64
theorem zWZ {n m k d:Nat}(h:n≤m):br n k d≤br m k d:=by
 unfold br
 split <;> split <;> omega
theorem zLm {s:Ps}{a z:Bs}{body:Pm Ex}{n:Nat}(hb:∀s1,BD n s1 (body s1))(hd:s.deep≤64):∀e s',xY a z body s=.ok e s'→s'.deep=s.deep∧s'.nd=s.nd∧s.deep+1+br n (exK e) e.dp≤64:=by
 intro x s' e;unfold xY at e
 split at e
 ·split at e
  ·cases e
  ·rename_i AA
   cases hr:body { s.adv with deep:=s.deep+1 } with
   | err i p=>rw[hr] at e; cases e
   | ok y s1=>
    obtain⟨h1,h2,h3⟩:=hb _ (show s.deep+1≤64 by omega) y s1 hr;have h1:s1.deep=s.deep+1:=h1;have h2:s1.nd=s.nd:=h2;have h3:s.deep+1+br n (exK y) y.dp≤64:=h3;rw[hr,vT] at e
    split at e
    ·injection e with e1 e;subst e e1;exact⟨by show s1.deep-1=s.deep; omega,h2,h3⟩
    ·unfold vE at e
     split at e
     ·injection e with e1 e;subst e e1;exact⟨by show s1.deep-1=s.deep; omega,h2,h3⟩
     ·cases e
 ·cases e
theorem zKv {ms:List (Bs × Nat)}{part:Pm Ex}{n:Nat}(hm:∀m ∈ ms,zD3 m.2=n∧zDG m.2=n+1∧vB m.2=n)(hp:∀s,BD (n+1) s (part s)):∀(f:Nat) (e:Ex) (s:Ps),s.deep≤64→s.deep+br n (exK e) e.dp≤64→∀e' s',ZE ms part f e s=.ok e' s'→s'.deep=s.deep∧s'.nd=s.nd∧s.deep+br n (exK e') e'.dp≤64
 | 0,e,s,_,_,e',s',h=>by cases h
 | f+1,e,s,hd,he,e',s',h=>by
  unfold ZE at h
  split at h
  ·injection h with h1 h2;subst h1 h2;exact⟨rfl,rfl,he⟩
  ·rename_i k hk
   have AA:zD3 k=n∧zDG k=n+1∧vB k=n:=by
    unfold zAi at hk;obtain⟨m,h1,rfl⟩:=Option.map_eq_some_iff.1 hk;exact hm m (List.mem_of_find?_eq_some h1)
   cases hr:part s.adv with
   | err i p=>rw[hr] at h; cases h
   | ok r u=>
    obtain⟨h1,h2,h3⟩:=hp s.adv hd r u hr;have h1:u.deep=s.deep:=h1;have h2:u.nd=s.nd:=h2;have h3:s.deep+br (n+1) (exK r) r.dp≤64:=h3;rw[hr,vT] at h
    have hb:(Ex.bin k e.pos e r).dp=max (br n (exK e) e.dp) (br (n+1) (exK r) r.dp):=by
     show max (if vB (exK e)<zD3 k then 1+e.dp else e.dp) (if vB (exK r)<zDG k then 1+r.dp else r.dp)=_
     rw[AA.1,AA.2.1]
     rfl
    have AB:br n (exK (Ex.bin k e.pos e r)) (Ex.bin k e.pos e r).dp=(Ex.bin k e.pos e r).dp:=if_neg (by show ¬vB k<n; omega);obtain⟨h4,h5,h6⟩:=zKv hm hp f _ u (by omega) (by rw[AB,hb]; omega) e' s' h;exact⟨by omega,by rw[h5,h2],by omega⟩
theorem zN5 {ms:List (Bs × Nat)}{part:Pm Ex}{n:Nat}(hm:∀m ∈ ms,zD3 m.2=n∧zDG m.2=n+1∧vB m.2=n)(hp:∀s,BD (n+1) s (part s))(s:Ps):BD n s (ZL ms part s):=fun hd e s' h=>by
 unfold ZL at h
 cases hr:part s with
 | err i p=>rw[hr] at h; cases h
 | ok r u=>
  obtain⟨h1,h2,h3⟩:=hp s hd r u hr;rw[hr,vT] at h
  have:=zWZ (k:=exK r) (d:=r.dp) (Nat.le_succ n)
  obtain⟨h4,h5,h6⟩:=zKv hm hp _ r u (by omega) (by have:br n (exK r) r.dp≤br (n+1) (exK r) r.dp:=this; omega) e s' h;exact⟨by omega,by rw[h5,h2],by omega⟩
theorem zNM {part:Pm Ex}(hp:∀s,BD 3 s (part s))(s:Ps):BD 1 s (sumOf part s):=zN5 (by decide) (fun s=>zN5 (by decide) hp s) s
theorem zG9:∀(f:Nat) (s:Ps),BD 3 s (xM f s)
 | 0,s=>fun _ e s' h=>by cases h
 | f+1,s=>fun hd e s' h=>by
  unfold xM at h
  split at h
  ·injection h with h1 h2;subst h1 h2;exact⟨rfl,rfl,hd⟩
  ·split at h
   ·injection h with h1 h2;subst h1 h2;exact⟨rfl,rfl,hd⟩
   ·split at h
    ·cases hr:xY [45] [] (xM f) s with
     | err i p=>rw[hr] at h; cases h
     | ok r u=>
      obtain⟨h1,h2,h3⟩:=zLm (fun s1=>zG9 f s1) hd r u hr;rw[hr,vT] at h;injection h with h4 h5;subst h4 h5;refine⟨h1,h2,?_⟩
      show s.deep+(1+br 3 (exK r) r.dp)≤64
      omega
    ·obtain⟨h1,h2,h3⟩:=zLm (fun s1=>zNM (fun s=>zG9 f s) s1) hd e s' h;refine⟨h1,h2,?_⟩;have e1:br 1 (exK e) e.dp=e.dp:=if_neg (zDJ _)
     have e2:br 3 (exK e) e.dp≤1+e.dp:=by unfold br; split <;> omega
     omega
structure AtD (pre:List Nd)(i k p:Nat)(t:Bs)(x:Int)(f:Fo)(s:Ps)(d:Nat):Prop where
 len:pre.length=i
 nd:s.nd=pre++⟨k,p,t,x,f.roots (i+1)⟩::f.flat (i+1)
 dp:s.deep=d
 dl:d≤64
def GD (pre:List Nd)(i k p:Nat)(t:Bs)(x:Int)(f:Fo)(d:Nat)(s:Ps):Prop:=∃g:Fo,d+vV g.xP≤64∧AtD pre i k p t x (f.app g) s d
theorem zHb:∀f g:Fo,(f.app g).xP=f.xP++g.xP
 | .nil,g=>rfl
 | .cons k p t x c r,g=>by show ZI k c.xP c.kinds::(r.app g).xP=ZI k c.xP c.kinds::(r.xP++g.xP); rw[zHb r g]
theorem zJ5:∀a b:List Nat,vV (a++b)=max (vV a) (vV b)
 | [],b=>by show vV b=max 0 (vV b); omega
 | x::a,b=>by show max x (vV (a++b))=max (max x (vV a)) (vV b); rw[zJ5 a b]; omega
section
variable {pre:List Nd} {i k p:Nat} {t:Bs} {x:Int} {f:Fo} {s:Ps} {d:Nat}
theorem AtD.adv (h:AtD pre i k p t x f s d):AtD pre i k p t x f s.adv d:=⟨h.len,h.nd,h.dp,h.dl⟩
theorem AtD.deep (h:AtD pre i k p t x f s d)(e:Nat)(he:e≤64):AtD pre i k p t x f { s with deep:=e } e:=⟨h.len,h.nd,rfl,he⟩
theorem AtD.on (h:AtD pre i k p t x f s d)(g:Nd→Nd)(k':Nat)(t':Bs)(x':Int)(hg:∀c,g ⟨k,p,t,x,c⟩=⟨k',p,t',x',c⟩):AtD pre i k' p t' x' f (s.on i g) d:=⟨h.len,by
 show s.nd.modify i g=_
 rw[h.nd,zBu _ _ _ _ _ h.len,hg],h.dp,h.dl⟩
theorem AtD.text (h:AtD pre i k p t x f s d)(t':Bs):AtD pre i k p t' x f (s.text i t') d:=h.on _ k t' x fun c=>rfl
theorem AtD.num (h:AtD pre i k p t x f s d)(x':Int):AtD pre i k p t x' f (s.num i x') d:=h.on _ k t x' fun c=>rfl
theorem AtD.kind (h:AtD pre i k p t x f s d)(k':Nat):AtD pre i k' p t x f (s.kind i k') d:=h.on _ k' t x fun c=>rfl
theorem AtD.size (h:AtD pre i k p t x f s d):s.nd.length=i+1+f.size:=by
 rw[h.nd,yM,zJ,vK,h.len]; omega
theorem AtD.add (h:AtD pre i k p t x f s d)(k2 p2:Nat)(t2:Bs)(x2:Int):AtD (XO pre i k p t x f) s.nd.length k2 p2 t2 x2 .nil ((s.kid i).add ⟨k2,p2,t2,x2,[]⟩) d:=by
 have hs:=h.size;refine⟨?_,?_,h.dp,h.dl⟩
 ·unfold XO;rw[yM,zJ,vK,h.len]; omega
 ·show s.nd.modify i _++_=_
  rw[hs,h.nd,zBu _ _ _ _ _ h.len]
  rfl
theorem AtD.xB (h:AtD pre i k p t x f s d)(k2:Nat):AtD (XO pre i k p t x f) s.nd.length k2 (s.kid i).hd.at_ [] 0 .nil (s.xB i k2) d:=h.add k2 _ [] 0
theorem AtD.close {j k2 p2:Nat}{t2:Bs}{x2:Int}{g:Fo}(h0:pre.length=i)(h:AtD (XO pre i k p t x f) j k2 p2 t2 x2 g s d):AtD pre i k p t x (f.app (Fo.one k2 p2 t2 x2 g)) s d:=by
 have hj:j=i+1+f.size:=by
  rw[←h.len];unfold XO;rw[yM,zJ,vK,h0]; omega
 subst hj;refine⟨h0,?_,h.dp,h.dl⟩;rw[h.nd,zES,zF6];unfold XO;simp[Fo.one,Fo.roots,Fo.flat]
theorem AtD.gd {j k2 p2:Nat}{t2:Bs}{x2:Int}{g:Fo}(h:AtD (XO pre i k p t x f) j k2 p2 t2 x2 g s d)(h0:pre.length=i)(hg:d+ZI k2 g.xP g.kinds≤64):GD pre i k p t x f d s:=⟨Fo.one k2 p2 t2 x2 g,by show d+max (ZI k2 g.xP g.kinds) 0≤64; omega,h.close h0⟩
theorem GD.behind {g:Fo}(hg:d+vV g.xP≤64)(h:GD pre i k p t x (f.app g) d s):GD pre i k p t x f d s:=by
 obtain⟨g2,h1,h2⟩:=h;exact⟨g.app g2,by rw[zHb,zJ5]; omega,by rw[←zIF]; exact h2⟩
theorem GD.adv (h:GD pre i k p t x f d s):GD pre i k p t x f d s.adv:=by
 obtain⟨g,h1,h2⟩:=h;exact⟨g,h1,h2.adv⟩
end
section
variable {pre:List Nd} {i k p:Nat} {t:Bs} {x:Int} {f:Fo} {s:Ps} {d:Nat}
theorem YG (h:AtD pre i k p t x f s d)(b:Bs):KR (fun _ s'=>AtD pre i k p t x f s' d) (vE b s):=vW (jG h.adv) YE
theorem zA4 (h:AtD pre i k p t x f s d):KR (fun _ s'=>∃t',AtD pre i k p t' x f s' d) (vS i s):=by
 unfold vS ofP
 split
 ·rw[vT];exact jG ⟨_,h.adv.text _⟩
 ·exact YE
theorem zF1 (h:AtD pre i k p t x f s d):KR (fun _ s'=>GD pre i k p t x f d s') (JN i s):=vC (zA4 (h.xB 5)) fun _ s' ⟨t',h'⟩=>h'.gd h.len (by have:=h.dl; show d+0≤64; omega)
theorem zKs (h:AtD pre i k p t x f s d):KR (fun _ s'=>GD pre i k p t x f d s') (JX i s):=by
 unfold JX zBr ofP
 split
 ·rw[vT];exact jG (((h.xB 21).adv.num _).gd h.len (by have:=h.dl; show d+0≤64; omega))
 ·exact YE
theorem zLS:∀(e:Ex) {pre:List Nd} {i k p:Nat} {t:Bs} {x:Int} {f:Fo} {s:Ps} {d:Nat},AtD pre i k p t x f s d→AtD pre i k p t x (f.app (e.fo .nil)) (zAe i e s) d
 | .leaf k2 p2 t2 x2,pre,i,k,p,t,x,f,s,d,h=>(h.add k2 p2 t2 x2).close h.len
 | .neg p2 a,pre,i,k,p,t,x,f,s,d,h=>(zLS a (h.add 26 p2 [] 0)).close h.len
 | .bin k2 p2 a b,pre,i,k,p,t,x,f,s,d,h=>by
  have h2:=zLS b (zLS a (h.add k2 p2 [] 0));rw[show(Fo.nil.app (a.fo .nil)).app (b.fo .nil)=a.fo (b.fo .nil) from by rw[show Fo.nil.app (a.fo .nil)=a.fo .nil from rfl,zC0]; rfl] at h2;exact h2.close h.len
end
def KX:Ex→Prop
 | .leaf k _ _ _=>k=21∨k=22
 | .neg _ a=>KX a
 | .bin k _ a b=>(k=23∨k=24∨k=25)∧KX a∧KX b
theorem zGg:∀(e:Ex) (r:Fo),KX e→(e.fo r).xP=e.dp::r.xP
 | .leaf k p t n,r,q=>by
  rcases q with rfl | rfl <;> rfl
 | .neg p a,r,q=>by
  show ZI 26 (a.fo .nil).xP (a.fo .nil).kinds::r.xP=_
  rw[zGg a .nil q,ZT]
  rfl
 | .bin k p a b,r,q=>by
  show ZI k (a.fo (b.fo .nil)).xP (a.fo (b.fo .nil)).kinds::r.xP=_
  rw[zGg a _ q.2.1,zGg b _ q.2.2,ZT,ZT]
  rcases q.1 with rfl | rfl | rfl <;> rfl
theorem zLs {a z:Bs}{body:Pm Ex}{s:Ps}(hb:∀s,KR (fun e _=>KX e) (body s)):KR (fun e _=>KX e) (xY a z body s):=by
 unfold xY;refine vW (vW YE (xD (hb _) fun y u hu=>vW (jG hu) (xD (Q:=fun _ _=>True) (fun _ _ _=>trivial) fun _ v _=>jG hu))) YE
theorem zLu {ms:List (Bs × Nat)}(hm:∀m ∈ ms,m.2=23∨m.2=24∨m.2=25){part:Pm Ex}(hp:∀s,KR (fun e _=>KX e) (part s)):∀(f:Nat) (e:Ex) (s:Ps),KX e→KR (fun e _=>KX e) (ZE ms part f e s)
 | 0,e,s,q=>YE
 | f+1,e,s,q=>by
  unfold ZE
  split
  ·exact jG q
  ·rename_i k hk;exact xD (hp _) fun r u hu=>zLu hm hp f _ _ ⟨zMh hm hk,q,hu⟩
theorem zNn {ms:List (Bs × Nat)}(hm:∀m ∈ ms,m.2=23∨m.2=24∨m.2=25){part:Pm Ex}(hp:∀s,KR (fun e _=>KX e) (part s))(s:Ps):KR (fun e _=>KX e) (ZL ms part s):=xD (hp s) fun e u hu=>zLu hm hp _ _ _ hu
theorem zNT {part:Pm Ex}(hp:∀s,KR (fun e _=>KX e) (part s))(s:Ps):KR (fun e _=>KX e) (sumOf part s):=zNn (by decide) (fun s=>zNn (by decide) hp s) s
theorem zGv:∀(f:Nat) (s:Ps),KR (fun e _=>KX e) (xM f s)
 | 0,s=>YE
 | f+1,s=>by
  unfold xM;exact vW (jG (.inr rfl)) (vW (jG (.inl rfl)) (vW (xD (zLs fun s=>zGv f s) fun a u hu=>jG hu) (zLs fun s=>zNT (fun s=>zGv f s) s)))
section
variable {pre:List Nd} {i k p:Nat} {t:Bs} {x:Int} {f:Fo} {s:Ps} {d:Nat}
theorem zDF (h:AtD pre i k p t x f s d):KR (fun _ s'=>GD pre i k p t x f d s') (XC i s):=fun a s' hr=>by
 unfold XC at hr
 cases he:zLN s with
 | err j q=>rw[he] at hr; cases hr
 | ok e u=>
  rw[he,vT] at hr;injection hr with _ hr;subst hr;obtain⟨h1,h2,h3⟩:=zNM (fun s=>zG9 _ s) s (by rw[h.dp]; exact h.dl) e u he;have hk:=zNT (fun s=>zGv _ s) s e u he;have e1:br 1 (exK e) e.dp=e.dp:=if_neg (zDJ _);rw[h.dp] at h1 h3;refine⟨e.fo .nil,?_,zLS e ⟨h.len,by rw[h2]; exact h.nd,h1,h.dl⟩⟩;rw[zGg e _ hk]
  show d+max e.dp 0≤64
  omega
theorem zLr {Q:Unit→Ps→Prop}{a z:Bs}{body:Pm Unit}(h:AtD pre i k p t x f s d)(hb:d+1≤64→KR (fun _ s'=>GD pre i k p t x f (d+1) s') (body { s.adv with deep:=d+1 })):KR (fun _ s'=>∃g:Fo,d+1+vV g.xP≤64∧AtD pre i k p t x (f.app g) s' d) (xY a z body s):=by
 have hd:=h.dl;unfold xY;rw[h.dp];refine vW ?_ YE
 split
 ·exact YE
 ·rename_i AB;refine xD (hb (by omega)) fun y u ⟨g,hg,hu⟩=>?_
  have AA:∀u:Ps,AtD pre i k p t x (f.app g) u (d+1)→AtD pre i k p t x (f.app g) { u with deep:=u.deep-1 } d:=fun u hu=>by
   have h1:=hu.deep (u.deep-1) (by rw[hu.dp]; omega)
   have e:u.deep-1=d:=by rw[hu.dp]; omega
   rw[e] at h1 ⊢;exact h1
  refine vW (jG ⟨g,hg,AA u hu⟩) (xD (Q:=fun _ v=>AtD pre i k p t x (f.app g) v (d+1)) (YG hu z) fun _ v hv=>jG ⟨g,hg,AA v hv⟩)
theorem zTP (h:AtD pre i k p t x f s d):KR (fun _ s'=>∃g:Fo,d+1+vV g.xP≤64∧AtD pre i k p t x (f.app g) s' d) (zD5 i s):=zLr (Q:=fun _ _=>True) h fun hd=>zDF (h.adv.deep (d+1) hd)
theorem zOO (h:AtD pre i k p t x f s d):KR (fun _ s'=>GD pre i k p t x f d s') (zEn i s):=xD (zA4 (h.xB 20)) fun _ u ⟨t',hu⟩=>vC (zTP hu) fun _ v ⟨g,hg,hv⟩=>AtD.gd (g:=g) hv h.len (by show d+(1+vV g.xP)≤64; omega)
theorem zPS (h:AtD pre i k p t x f s d):KR (fun _ s'=>GD pre i k p t x f d s') (zEF i s):=xD (zOO h) fun _ u ⟨g,hg,hu⟩=>xD (YG hu _) fun _ v hv=>vC (zF1 hv) fun _ w hw=>hw.behind hg
theorem GD.none (h:AtD pre i k p t x f s d):GD pre i k p t x f d s:=⟨.nil,by have:=h.dl; show d+0≤64; omega,by rw[zEV]; exact h⟩
theorem zPZ {one:Pm Unit}(ho:∀f s,AtD pre i k p t x f s d→KR (fun _ s'=>GD pre i k p t x f d s') (one s)):∀(n:Nat) (f:Fo) (s:Ps),AtD pre i k p t x f s d→KR (fun _ s'=>GD pre i k p t x f d s') (JU one n s)
 | 0,f,s,h=>YE
 | n+1,f,s,h=>by
  unfold JU;exact vW (xD (ho f _ h.adv) fun _ u ⟨g,hg,hu⟩=>vC (zPZ ho n _ u hu) fun _ v hv=>hv.behind hg) (jG (GD.none h))
theorem zQc {one:Pm Unit}(ho:∀f s,AtD pre i k p t x f s d→KR (fun _ s'=>GD pre i k p t x f d s') (one s))(h:AtD pre i k p t x f s d):KR (fun _ s'=>GD pre i k p t x f d s') (JC one s):=xD (ho f s h) fun _ u ⟨g,hg,hu⟩=>vC (zPZ ho _ _ u hu) fun _ v hv=>hv.behind hg
end
end Go.Proofs.YtioffpjajhalaaaGreatDoor
