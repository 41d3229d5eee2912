/- How a reader of tokens lies in memory: its tokens, its nodes, each node's kids; what a step of it may change. (and what follows of it). The conditions stand at each lemma. -/
import Derived.Test.YtbadjmmjbpeocaaGreatDoorKaa
import Derived.Test.YtbadjmmjbpeocaaGreatDoorKae
import Derived.Test.YtbadjmmjbpeocaaGreatDoorKaf
import Derived.Deep.AppendLies
set_option linter.unusedVariables false
set_option linter.unusedSimpArgs false
set_option maxRecDepth 100000
set_option maxHeartbeats 16000000
namespace Go.Proofs.YtbadjmmjbpeocaaGreatDoor
open Go Go.RowKit
abbrev Hd2:=Option Addr × Nat
def ints (l:List Nat):List Value:=l.map fun (k:Nat)=>Value.int .i64 (k:Int)
def YH (x:Nd × Hd2):List Value:=[.int .u8 (x.1.kind:Int),.int .i64 (x.1.pos:Int),.string (xI x.1.text),.int .i64 x.1.num,.slice x.2.1 x.1.kids.length x.2.2]
def ncs (l:List (Nd × Hd2)):List Value:=l.flatMap YH
theorem vY (l:List Nat):(ints l).length=l.length:=by simp[ints]
theorem zPD (l:List Nat)(k:Nat):ints (l++[k])=ints l++[.int .i64 (k:Int)]:=by simp[ints]
theorem zPd (l:List (Nd × Hd2)):(ncs l).length=l.length*5:=by
 unfold ncs
 induction l with
 | nil=>rfl
 | cons t l ih=>rw[List.flatMap_cons,yP,ih,zK]; show 5+_=_; omega
theorem zSQ (l:List (Nd × Hd2))(x:Nd × Hd2):ncs (l++[x])=ncs l++YH x:=by unfold ncs; simp
theorem zSW (l:List (Nd × Hd2)):∀(i:Nat) (hi:i<l.length) (j:Nat),j<5→(ncs l)[i*5+j]?=(YH l[i])[j]?:=by
 induction l with
 | nil=>intro i hi; simp at hi
 | cons x l ih=>
  intro i hi j hj
  show(YH x++ncs l)[i*5+j]?=_
  match i,hi with
  | 0,_=>rw[Nat.zero_mul,Nat.zero_add,List.getElem?_append_left (by show j<5; exact hj)]; rfl
  | i+1,hi=>
   have e:(i+1)*5+j=5+(i*5+j):=by omega
   rw[e,List.getElem?_append_right (by show 5≤_; omega),show 5+(i*5+j)-(YH x).length=i*5+j from by show 5+(i*5+j)-5=_; omega];exact ih i (by simpa using hi) j hj
theorem zJa (l:List (Nd × Hd2))(i:Nat)(hi:i<l.length)(j:Nat)(hj:j<5)(u:Value)(f:Nd × Hd2→Nd × Hd2)(hf:YH (f l[i])=(YH l[i]).set j u):ncs (l.modify i f)=(ncs l).set (i*5+j) u:=by
 induction l generalizing i with
 | nil=>simp at hi
 | cons x l ih=>
  match i,hi with
  | 0,_=>
   simp only[List.getElem_cons_zero] at hf;rw[List.modify_zero_cons]
   show YH (f x)++ncs l=(YH x++ncs l).set (0*5+j) u
   rw[hf,Nat.zero_mul,Nat.zero_add,List.set_append_left _ _ (by show j<5; exact hj)]
  | i+1,hi=>
   rw[List.modify_succ_cons]
   show YH x++ncs (l.modify i f)=(YH x++ncs l).set ((i+1)*5+j) u
   rw[ih i (by simpa using hi) (by simpa using hf),List.set_append_right _ _ (by show 5≤_; omega)]
   congr 2
   show _=(i+1)*5+j-5
   omega
structure NS (w:World)(B:Nat)(tn ti:TypeId)(A:Option Addr)(c:Nat)(nh:List (Nd × Hd2)):Prop where
 row:w.ownsRow B tn 5 (.slice A nh.length c) nh.length (ncs nh)
 kids:∀x ∈ nh,w.ownsRow B ti 1 (.slice x.2.1 x.1.kids.length x.2.2) x.1.kids.length (ints x.1.kids)
 apart:∀(i j:Nat) (hi:i<nh.length) (hj:j<nh.length),nh[i].2.1=nh[j].2.1→nh[i].2.1≠none→i=j
 rz:nh.length=0→c=0
 kz:∀x ∈ nh,x.1.kids.length=0→x.2.2=0
def zG6 (A:Option Addr)(nh:List (Nd × Hd2))(b:Nat):Prop:=A=some ⟨b,0,none⟩∨some (⟨b,0,none⟩:Addr) ∈ nh.map fun x=>x.2.1
structure xD (w:World)(M:Nat→Prop)(w':World)(M':Nat→Prop):Prop where
 os:w'.os=w.os
 tape:w'.tape=w.tape
 output:w'.output=w.output
 size:w.heap.size≤w'.heap.size
 jL:∀b,b<w.heap.size→¬M b→w'.heap[b]?=w.heap[b]?
 zDv:∀b,M' b→M b∨w.heap.size≤b
theorem xD.refl (w:World)(M:Nat→Prop):xD w M w M:=⟨rfl,rfl,rfl,zX _,fun _ _ _=>rfl,fun _ h=>.inl h⟩
theorem xD.trans {w w1 w2:World}{M M1 M2:Nat→Prop}(h:xD w M w1 M1)(k:xD w1 M1 w2 M2):xD w M w2 M2:=by
 refine⟨k.os.trans h.os,k.tape.trans h.tape,k.output.trans h.output,Nat.le_trans h.size k.size,fun b hb hM=>?_,fun b hb=>?_⟩
 ·rw[k.jL b (yU hb h.size) (fun h1=>by rcases h.zDv b h1 with h2 | h2 <;> first | exact hM h2 | omega)]
  exact h.jL b hb hM
 ·rcases k.zDv b hb with h1 | h1
  ·exact h.zDv b h1
  ·exact .inr (Nat.le_trans h.size h1)
theorem xD.ext {w w':World}{M:Nat→Prop}(h:Ext w w'):xD w M w' M:=⟨h.os,h.tape,h.output,h.size,fun b hb _=>h.block b hb,fun _ h=>.inl h⟩
theorem xD.below {w w':World}{M M':Nat→Prop}{B:Nat}(h:xD w M w' M')(hM:∀b,M b→B≤b)(hB:B≤w.heap.size):Below B w w':=⟨h.os,h.tape,h.output,h.size,fun b hb=>h.jL b (by omega) (fun hm=>by have:=hM b hm; omega)⟩
def Safe (w:World)(M:Nat→Prop)(g:Nat)(t:TypeId)(cs:Array Value):Prop:=Blk w g t cs∧¬M g
theorem Safe.xG {w w':World}{M M':Nat→Prop}{g:Nat}{t:TypeId}{cs:Array Value}(h:Safe w M g t cs)(k:xD w M w' M'):Safe w' M' g t cs:=
 ⟨(k.jL g h.1.lt h.2).trans h.1,fun h1=>by rcases k.zDv g h1 with h2 | h2 <;> first | exact h.2 h2 | (have:=h.1.lt; omega)⟩
def XE (w:World)(M:Nat→Prop)(A:Option Addr)(cs:List Value):Prop:=cs=[]∨∃b off,A=some ⟨b,off,none⟩∧b<w.heap.size∧¬M b∧∀k,k<cs.length→w.cell? ⟨b,off+k,none⟩=cs[k]?
theorem XE.cells {w:World}{M:Nat→Prop}{A:Option Addr}{cs:List Value}(h:XE w M A cs):Cells w A cs:=by
 rcases h with h | ⟨b,off,h1,h2,_,h3⟩
 ·exact .inl h
 ·exact .inr ⟨b,off,h1,h2,h3⟩
theorem XE.xG {w w':World}{M M':Nat→Prop}{A:Option Addr}{cs:List Value}(h:XE w M A cs)(k:xD w M w' M'):XE w' M' A cs:=by
 rcases h with h | ⟨b,off,h1,h2,h3,h4⟩
 ·exact .inl h
 ·refine .inr ⟨b,off,h1,yU h2 k.size,fun h5=>by rcases k.zDv b h5 with h6 | h6 <;> first | exact h3 h6 | omega,fun j hj=>?_⟩
  rw[World.cell?_of_block (w:=w) (k.jL b h2 h3)];exact h4 j hj
theorem jE {w:World}{B:Nat}{t:TypeId}{s n c m:Nat}{A:Option Addr}{xs:List Value}(h:w.ownsRow B t s (.slice A m c) n xs){b:Nat}(e:A=some ⟨b,0,none⟩):B≤b∧b<w.heap.size:=by
 rcases h.2 with ⟨hv,_⟩ | ⟨g,cap,cur,hv,hb,hh,_⟩
 ·rw[e] at hv; cases hv
 ·rw[e] at hv;injection hv with h1;injection h1 with h1;injection h1 with h1;subst h1;exact⟨hb,(Array.getElem?_eq_some_iff.1 hh).1⟩
theorem xY {w:World}{B:Nat}{t:TypeId}{s n c m:Nat}{A:Option Addr}{xs:List Value}(h:w.ownsRow B t s (.slice A m c) n xs){b:Nat}(e:A=some ⟨b,0,none⟩):∃cur,Blk w b t cur:=by
 rcases h.2 with ⟨hv,_⟩ | ⟨g,cap,cur,hv,hb,hh,_⟩
 ·rw[e] at hv; cases hv
 ·rw[e] at hv;injection hv with h1;injection h1 with h1;injection h1 with h1;subst h1;exact⟨cur,hh⟩
theorem zAQ {w:World}{B:Nat}{t:TypeId}{s n c m:Nat}{A:Option Addr}{xs:List Value}(h:w.ownsRow B t s (.slice A m c) n xs):A=none∨∃b,A=some ⟨b,0,none⟩:=by
 rcases h.2 with ⟨hv,_⟩ | ⟨g,cap,cur,hv,hb,hh,_⟩
 ·injection hv with h1; exact .inl h1
 ·injection hv with h1; exact .inr ⟨g,h1⟩
theorem NS.ZU {w:World}{B:Nat}{tn ti:TypeId}{A:Option Addr}{c:Nat}{nh:List (Nd × Hd2)}(h:NS w B tn ti A c nh){b:Nat}(hb:zG6 A nh b):B≤b∧b<w.heap.size:=by
 rcases hb with hb | hb
 ·exact jE h.row hb
 ·obtain⟨x,hx,e⟩:=List.mem_map.1 hb;exact jE (h.kids x hx) e
theorem NS.zDg {w:World}{B:Nat}{tn ti:TypeId}{A:Option Addr}{c:Nat}{nh:List (Nd × Hd2)}(h:NS w B tn ti A c nh){g:Nat}{t:TypeId}{cs:Array Value}(hg:Blk w g t cs)(h1:t≠tn)(h2:t≠ti):¬zG6 A nh g:=by
 rintro (hb | hb)
 ·obtain⟨cur,hc⟩:=xY h.row hb;exact Blk.differ hg hc h1 rfl
 ·obtain⟨x,hx,e⟩:=List.mem_map.1 hb;obtain⟨cur,hc⟩:=xY (h.kids x hx) e;exact Blk.differ hg hc h2 rfl
theorem NS.jL {w w':World}{B:Nat}{tn ti:TypeId}{A:Option Addr}{c:Nat}{nh:List (Nd × Hd2)}(h:NS w B tn ti A c nh)(hk:∀b,zG6 A nh b→w'.heap[b]?=w.heap[b]?):NS w' B tn ti A c nh:=by
 refine⟨⟨h.row.1,?_⟩,fun x hx=>⟨(h.kids x hx).1,?_⟩,h.apart,h.rz,h.kz⟩
 ·rcases h.row.2 with hn | ⟨g,cap,cur,hv,hb,hh,r⟩
  ·exact .inl hn
  ·injection hv with e1 e2 e3;exact .inr ⟨g,cap,cur,by rw[e1,e3],hb,(hk g (.inl e1)).trans hh,r⟩
 ·rcases(h.kids x hx).2 with hn | ⟨g,cap,cur,hv,hb,hh,r⟩
  ·exact .inl hn
  ·injection hv with e1 e2 e3;exact .inr ⟨g,cap,cur,by rw[e1,e3],hb,(hk g (.inr (by rw[←e1]; exact List.mem_map.2 ⟨x,hx,rfl⟩))).trans hh,r⟩
theorem NS.ext {w w':World}{B:Nat}{tn ti:TypeId}{A:Option Addr}{c:Nat}{nh:List (Nd × Hd2)}(h:NS w B tn ti A c nh)(hx:Ext w w'):NS w' B tn ti A c nh:=h.jL fun b hb=>hx.block b (h.ZU hb).2
theorem zFu {w w':World}{b1:Nat}{t1:TypeId}{s1 n1 c1:Nat}{A1:Option Addr}{xs1:List Value}{o:Option Nat}(h1:w.ownsRow b1 t1 s1 (.slice A1 n1 c1) n1 xs1)(hg:w.grownBy w' o)(hne:∀b,A1=some ⟨b,0,none⟩→o≠some b):w'.ownsRow b1 t1 s1 (.slice A1 n1 c1) n1 xs1:=by
 refine h1.kept hg ?_
 rcases zAQ h1 with e | ⟨b,e⟩
 ·rw[e]; exact .inl rfl
 ·refine .inr fun e2=>hne b e ?_;rw[←e2,e]
  rfl
theorem zJP {A:Option Addr}{n c b:Nat}(h:(Value.slice A n c).ownBlock=some b):∃a,A=some a∧a.block=b:=by
 cases A with
 | none=>cases h
 | some a=>exact⟨a,rfl,by simpa [Value.ownBlock] using h⟩
theorem xP {w:World}{B:Nat}{t:TypeId}{s n c m:Nat}{A:Option Addr}{xs:List Value}(h:w.ownsRow B t s (.slice A m c) n xs){b:Nat}(e:(Value.slice A m c).ownBlock=some b):A=some ⟨b,0,none⟩:=by
 obtain⟨a,ea,eb⟩:=zJP e
 rcases zAQ h with e0 | ⟨b',e0⟩
 ·rw[e0] at ea; cases ea
 ·rw[e0] at ea ⊢;injection ea with ea;subst ea
  simp only at eb
  rw[eb]
theorem NS.snoc {w w':World}{B:Nat}{tn ti:TypeId}{A:Option Addr}{c:Nat}{nh:List (Nd × Hd2)}(h:NS w B tn ti A c nh)(hne:tn≠ti)(x:Nd)(hx:x.kids=[]){g cap:Nat}
  (ho:w'.ownsRow B tn 5 (.slice (some ⟨g,0,none⟩) (nh.length+1) cap) (nh.length+1) (ncs nh++YH (x,(none,0)))) (hg:w.grownBy w' (Value.slice A nh.length c).ownBlock):NS w' B tn ti (some ⟨g,0,none⟩) cap (nh++[(x,(none,0))]):=by
 refine⟨by rw[zSQ,yP]; exact ho,fun y hy=>?_,fun i j hi hj he hn=>?_,fun h0=>by simp at h0,fun y hy h0=>?_⟩
 ·rcases List.mem_append.1 hy with hy | hy
  ·refine zFu (h.kids y hy) hg fun b e e2=>?_;obtain⟨cur,hc⟩:=xY (h.kids y hy) e;exact XT h.row hc hne e2
  ·have:=List.mem_singleton.1 hy
   subst this
   show w'.ownsRow B ti 1 (.slice none x.kids.length 0) x.kids.length (ints x.kids)
   rw[hx];exact zR _ _ _ _
 ·rw[yP] at hi hj;simp only[zK,zL,Nat.zero_add] at hi hj
  by_cases hi':i<nh.length
  ·rw[List.getElem_append_left hi'] at he hn
   by_cases hj':j<nh.length
   ·rw[List.getElem_append_left hj'] at he;exact h.apart i j hi' hj' he hn
   ·exfalso
    apply hn;rw[he,List.getElem_append_right (by omega)]
    simp
  ·exfalso
   apply hn;rw[List.getElem_append_right (by omega)]
   simp
 ·rcases List.mem_append.1 hy with hy | hy
  ·exact h.kz y hy h0
  ·rw[List.mem_singleton.1 hy]
theorem zIF {w:World}{base g n m c k sz:Nat}{e:TypeId}{xs:List Value}(h:w.ownsRow base e sz (.slice (some ⟨g,0,none⟩) m c) n xs)(hk:k<n*sz)(u:Value):(w.setCell ⟨g,k,none⟩ u).ownsRow base e sz (.slice (some ⟨g,0,none⟩) m c) n (xs.set k u):=by
 refine⟨by rw[zB]; exact h.1,?_⟩
 rcases h.2 with ⟨hv,_⟩ | ⟨g',cap,cur,hv,hb,hh,h1,h2,h3,h4⟩
 ·cases hv
 ·injection hv with e1 e2 e3;injection e1 with e1;injection e1 with e1;subst e1 e3;refine .inr ⟨g,c,cur.setIfInBounds k u,by rw[e2],hb,?_,h1,h2,by simpa using h3,?_⟩
  ·simp[World.setCell,Array.getElem?_modify,hh]
  ·rw[Array.toList_setIfInBounds,List.take_set,h4]
theorem zAy {w:World}{b1 g:Nat}{t1:TypeId}{s1 n1:Nat}{v1:Value}{xs1:List Value}{t:TypeId}{cs:Array Value}(h1:w.ownsRow b1 t1 s1 v1 n1 xs1)(h2:Blk w g t cs)(ht:t1≠t)(k:Nat)(u:Value):(w.setCell ⟨g,k,none⟩ u).ownsRow b1 t1 s1 v1 n1 xs1:=zPw h1 (XT h1 h2 ht) u
theorem NS.put {w:World}{B:Nat}{tn ti:TypeId}{A:Option Addr}{c:Nat}{nh:List (Nd × Hd2)}(h:NS w B tn ti A c nh)(hne:tn≠ti)(i:Nat)(hi:i<nh.length)(j:Nat)(hj:j<5)(u:Value)(f:Nd→Nd)(hk:∀x,(f x).kids=x.kids)(hf:YH (f nh[i].1,nh[i].2)=(YH nh[i]).set j u){g:Nat}(hA:A=some ⟨g,0,none⟩) :
  NS (w.setCell ⟨g,i*5+j,none⟩ u) B tn ti A c (nh.modify i fun x=>(f x.1,x.2)):=by
 subst hA;obtain⟨cur,hc⟩:=xY h.row rfl;refine⟨?_,fun y hy=>?_,fun a b ha hb he hn=>?_,fun h0=>h.rz (by rw[List.length_modify] at h0; exact h0),fun y hy h0=>?_⟩
 ·rw[List.length_modify,zJa nh i hi j hj u _ hf];exact zIF h.row (by omega) u
 ·obtain⟨a,ha,rfl⟩:=List.mem_iff_getElem.1 hy;rw[List.length_modify] at ha;have hb:=zAy (h.kids _ (yO ha)) hc (Ne.symm hne) (i*5+j) u;rw[List.getElem_modify]
  split
  ·simp only[hk];exact hb
  ·exact hb
 ·rw[List.length_modify] at ha hb
  have e:∀(a:Nat) (ha:a<nh.length),((nh.modify i fun x=>(f x.1,x.2))[a]'(by rw[List.length_modify]; exact ha)).2.1=nh[a].2.1:=fun a ha=>by
   rw[List.getElem_modify]; split <;> rfl
  rw[e a ha,e b hb] at he;rw[e a ha] at hn;exact h.apart a b ha hb he hn
 ·obtain⟨a,ha,rfl⟩:=List.mem_iff_getElem.1 hy;rw[List.length_modify] at ha;rw[List.getElem_modify] at h0 ⊢
  split
  ·rename_i hia;rw[if_pos hia] at h0;simp only[hk] at h0;exact h.kz nh[a] (yO ha) h0
  ·rename_i hia;rw[if_neg hia] at h0;exact h.kz _ (yO ha) h0
theorem zRI {A:Option Addr}{nh:List (Nd × Hd2)}(i:Nat)(f:Nd→Nd)(b:Nat)(hb:zG6 A (nh.modify i fun x=>(f x.1,x.2)) b):zG6 A nh b:=by
 rcases hb with hb | hb
 ·exact .inl hb
 ·refine .inr ?_;obtain⟨x,hx,e⟩:=List.mem_map.1 hb;obtain⟨a,ha,rfl⟩:=List.mem_iff_getElem.1 hx;rw[List.length_modify] at ha;rw[List.getElem_modify] at e;refine List.mem_map.2 ⟨nh[a],yO ha,?_⟩
  split at e <;> exact e
theorem NS.kid {W w1:World}{B:Nat}{tn ti:TypeId}{A:Option Addr}{c:Nat}{nh:List (Nd × Hd2)}(h:NS W B tn ti A c nh)(hne:tn≠ti)(i:Nat)(hi:i<nh.length)(k:Nat){g gk cap:Nat}(hA:A=some ⟨g,0,none⟩)
  (ho:w1.ownsRow B ti 1 (.slice (some ⟨gk,0,none⟩) (nh[i].1.kids.length+1) cap) (nh[i].1.kids.length+1) (ints nh[i].1.kids++[.int .i64 (k:Int)])) (hg:W.grownBy w1 (Value.slice nh[i].2.1 nh[i].1.kids.length nh[i].2.2).ownBlock)
  (hf:(Value.slice nh[i].2.1 nh[i].1.kids.length nh[i].2.2).ownBlock=some gk∨W.heap.size≤gk) :
  NS (w1.setCell ⟨g,i*5+4,none⟩ (.slice (some ⟨gk,0,none⟩) (nh[i].1.kids.length+1) cap)) B tn ti A c (nh.modify i fun x=>({ x.1 with kids:=x.1.kids++[k] },(some ⟨gk,0,none⟩,cap))):=by
 subst hA
 have hrow:=zFu h.row hg fun b e e2=>by
  have e3:=xP (h.kids _ (yO hi)) e2;obtain⟨c1,h1⟩:=xY h.row e;obtain⟨c2,h2⟩:=xY (h.kids _ (yO hi)) e3;exact Blk.differ h1 h2 hne rfl
 obtain⟨cur,hc⟩:=xY hrow rfl;refine⟨?_,fun y hy=>?_,fun a b ha hb he hn=>?_,fun h0=>h.rz (by rw[List.length_modify] at h0; exact h0),fun y hy h0=>?_⟩
 ·rw[List.length_modify,zJa nh i hi 4 (by decide) (.slice (some ⟨gk,0,none⟩) (nh[i].1.kids.length+1) cap) _ (by simp[YH])];exact zIF hrow (by omega) _
 ·obtain⟨a,ha,rfl⟩:=List.mem_iff_getElem.1 hy;rw[List.length_modify] at ha;rw[List.getElem_modify]
  split
  ·rename_i hia;subst hia;have hb:=zAy ho hc (Ne.symm hne) (i*5+4) (.slice (some ⟨gk,0,none⟩) (nh[i].1.kids.length+1) cap);rw[←zPD] at hb;simp only[yP,zK,zL,Nat.zero_add];exact hb
  ·rename_i hia;refine zAy (zFu (h.kids _ (yO ha)) hg fun b e e2=>?_) hc (Ne.symm hne) _ _;have e3:=xP (h.kids _ (yO hi)) e2;exact hia (h.apart i a hi ha (e3.trans e.symm) (by rw[e3]; simp))
 ·rw[List.length_modify] at ha hb
  have key:∀(a:Nat) (ha:a<nh.length),i≠a→nh[a].2.1≠some ⟨gk,0,none⟩:=by
   intro a ha hia e
   rcases hf with hf | hf
   ·have e3:=xP (h.kids _ (yO hi)) hf;exact hia (h.apart i a hi ha (e3.trans e.symm) (by rw[e3]; simp))
   ·have:=(jE (h.kids _ (yO ha)) e).2
    omega
  rw[List.getElem_modify,List.getElem_modify] at he;rw[List.getElem_modify] at hn
  split at he <;> split at he
  ·omega
  ·rename_i h1 h2;exact absurd he.symm (key b hb h2)
  ·rename_i h1 h2;exact absurd he (key a ha h1)
  ·rename_i h1 h2;rw[if_neg h1] at hn;exact h.apart a b ha hb he hn
 ·obtain⟨a,ha,rfl⟩:=List.mem_iff_getElem.1 hy;rw[List.length_modify] at ha;rw[List.getElem_modify] at h0 ⊢
  split
  ·rename_i hia;rw[if_pos hia] at h0
   simp at h0
  ·rename_i hia;rw[if_neg hia] at h0;exact h.kz _ (yO ha) h0
theorem zRx {W:World}{B:Nat}{tn ti:TypeId}{A:Option Addr}{c:Nat}{nh:List (Nd × Hd2)}(h:NS W B tn ti A c nh){i:Nat}(hi:i<nh.length)(f:Nd→Nd){gk cap:Nat}
  (hf:(Value.slice nh[i].2.1 nh[i].1.kids.length nh[i].2.2).ownBlock=some gk∨W.heap.size≤gk) (b:Nat) (hb:zG6 A (nh.modify i fun x=>(f x.1,(some ⟨gk,0,none⟩,cap))) b):zG6 A nh b∨W.heap.size≤b:=by
 rcases hb with hb | hb
 ·exact .inl (.inl hb)
 ·obtain⟨x,hx,e⟩:=List.mem_map.1 hb;obtain⟨a,ha,rfl⟩:=List.mem_iff_getElem.1 hx;rw[List.length_modify] at ha;rw[List.getElem_modify] at e
  split at e
  ·injection e with e;injection e with e;subst e
   rcases hf with hf | hf
   ·exact .inl (.inr (List.mem_map.2 ⟨nh[i],yO hi,xP (h.kids _ (yO hi)) hf⟩))
   ·exact .inr hf
  ·exact .inl (.inr (List.mem_map.2 ⟨nh[a],yO ha,e⟩))
structure xV where
 bt:Nat
 ot:Nat
 ct:Nat
 A:Option Addr
 c:Nat
 nh:List (Nd × Hd2)
structure PS (w:World)(p B:Nat)(s:Ps)(R:xV):Prop where
 blk:Blk w p 72 #[.slice (some ⟨R.bt,R.ot,none⟩) s.ts.length R.ct,.slice R.A R.nh.length R.c,.int .i64 (s.deep:Int)]
 zMQ:∀k,k<s.ts.length*5→w.cell? ⟨R.bt,R.ot+k,none⟩=(jP s.ts)[k]?
 zJo:s.ts.length≤R.ct
 zEY:R.bt<B
 nodes:s.nd=R.nh.map Prod.fst
 ns:NS w B 39 3 R.A R.c R.nh
 pB:B≤p
 xS:zEq s
def xL (p:Nat)(R:xV)(b:Nat):Prop:=b=p∨zG6 R.A R.nh b
theorem PS.ext {w w':World}{p B:Nat}{s:Ps}{R:xV}(h:PS w p B s R)(hx:Ext w w'):PS w' p B s R:=
 ⟨h.blk.ext hx,fun k hk=>(hx.cell (p:=⟨R.bt,R.ot+k,none⟩) (yU h.zEY (Nat.le_trans h.pB (zV h.blk.lt)))).trans (h.zMQ k hk),h.zJo,h.zEY,h.nodes,h.ns.ext hx,h.pB,h.xS⟩
theorem PS.len {w:World}{p B:Nat}{s:Ps}{R:xV}(h:PS w p B s R):s.nd.length=R.nh.length:=by rw[h.nodes,yQ]
theorem PS.tok {w:World}{p B:Nat}{s:Ps}{R:xV}(h:PS w p B s R)(j:Nat)(hj:j<5):w.cell? ⟨R.bt,R.ot+j,none⟩=(ZW s.hd)[j]?:=by
 obtain⟨t,r,hs,ht⟩:=h.xS.hd;have hp:=h.xS.pos;rw[h.zMQ j (by omega),hs,ht]
 show(ZW t++jP r)[j]?=_
 rw[List.getElem?_append_left (by show j<5; exact hj)]
theorem PS.x0 {w:World}{p B:Nat}{s:Ps}{R:xV}(h:PS w p B s R):w.cell? ⟨p,0,none⟩=some (.slice (some ⟨R.bt,R.ot,none⟩) s.ts.length R.ct):=h.blk.cell 0
theorem PS.x1 {w:World}{p B:Nat}{s:Ps}{R:xV}(h:PS w p B s R):w.cell? ⟨p,1,none⟩=some (.slice R.A R.nh.length R.c):=h.blk.cell 1
theorem PS.x2 {w:World}{p B:Nat}{s:Ps}{R:xV}(h:PS w p B s R):w.cell? ⟨p,2,none⟩=some (.int .i64 (s.deep:Int)):=h.blk.cell 2
theorem PS.t0 {w:World}{p B:Nat}{s:Ps}{R:xV}(h:PS w p B s R):w.cell? ⟨R.bt,R.ot,none⟩=some (.int .u8 (s.hd.kind:Int)):=h.tok 0 (by decide)
theorem PS.t1 {w:World}{p B:Nat}{s:Ps}{R:xV}(h:PS w p B s R):w.cell? ⟨R.bt,R.ot+1,none⟩=some (.int .i64 (s.hd.at_:Int)):=h.tok 1 (by decide)
theorem PS.t2 {w:World}{p B:Nat}{s:Ps}{R:xV}(h:PS w p B s R):w.cell? ⟨R.bt,R.ot+2,none⟩=some (.int .i64 (s.hd.en:Int)):=h.tok 2 (by decide)
theorem PS.t3 {w:World}{p B:Nat}{s:Ps}{R:xV}(h:PS w p B s R):w.cell? ⟨R.bt,R.ot+3,none⟩=some (.string (xI s.hd.text)):=h.tok 3 (by decide)
theorem PS.t4 {w:World}{p B:Nat}{s:Ps}{R:xV}(h:PS w p B s R):w.cell? ⟨R.bt,R.ot+4,none⟩=some (.int .i64 s.hd.n):=h.tok 4 (by decide)
theorem PS.btl {w:World}{p B:Nat}{s:Ps}{R:xV}(h:PS w p B s R):R.bt<w.heap.size:=yU h.zEY (Nat.le_trans h.pB (zV h.blk.lt))
structure TS (w:World)(p:Nat)(s:Ps)(R:xV):Prop where
 blk:Blk w p 72 #[.slice (some ⟨R.bt,R.ot,none⟩) s.ts.length R.ct,.slice R.A R.nh.length R.c,.int .i64 (s.deep:Int)]
 tok:∀j,j<5→w.cell? ⟨R.bt,R.ot+j,none⟩=(ZW s.hd)[j]?
 btl:R.bt<w.heap.size
 pos:0<s.ts.length
theorem PS.ts {w:World}{p B:Nat}{s:Ps}{R:xV}(h:PS w p B s R):TS w p s R:=⟨h.blk,h.tok,h.btl,h.xS.pos⟩
theorem TS.grown {w w':World}{p:Nat}{s:Ps}{R:xV}{o:Option Nat}(h:TS w p s R)(hg:w.grownBy w' o)(h1:some p≠o)(h2:some R.bt≠o):TS w' p s R:=
 ⟨(hg.block p h.blk.lt h1).trans h.blk,fun j hj=>(World.cell?_of_block (w:=w) (hg.block R.bt h.btl h2)).trans (h.tok j hj),yU h.btl hg.size,h.pos⟩
theorem ZE (w:World)(p:Nat)(s:Ps)(R:xV)(h:TS w p s R) :
  Calls Tryz.prog 23 #[.pointer (some ⟨p,0,none⟩)] w fun e w'=>e=.returned (.agg (ZW s.hd).toArray)∧Ext w w':=by
 have x0:w.cell? ⟨p,0,none⟩=some (.slice (some ⟨R.bt,R.ot,none⟩) s.ts.length R.ct):=h.blk.cell 0;have t0:w.cell? ⟨R.bt,R.ot,none⟩=some (.int .u8 (s.hd.kind:Int)):=h.tok 0 (by decide);have t1:w.cell? ⟨R.bt,R.ot+1,none⟩=some (.int .i64 (s.hd.at_:Int)):=h.tok 1 (by decide);have t2:w.cell? ⟨R.bt,R.ot+2,none⟩=some (.int .i64 (s.hd.en:Int)):=h.tok 2 (by decide);have t3:w.cell? ⟨R.bt,R.ot+3,none⟩=some (.string (xI s.hd.text)):=h.tok 3 (by decide);have t4:w.cell? ⟨R.bt,R.ot+4,none⟩=some (.int .i64 s.hd.n):=h.tok 4 (by decide);have hpos:=h.pos
 have q0:(0:Int)<(s.ts.length:Int):=by omega
 have hpl:=h.blk.lt;have hbl:=h.btl;clear h;unfold ZW;generalize s.hd=t at *;generalize s.ts.length=n at *
 go_enter Tryz.func23,Tryz.ntmps23
 go_wp2
 refine bodyPost_ret (v:=.agg #[.int .u8 (t.kind:Int),.int .i64 (t.at_:Int),.int .i64 (t.en:Int),.string (xI t.text),.int .i64 t.n]) (by simp[results,Tryz.results23,go_sem]) rfl ⟨rfl,?_⟩;exact Ext.alloc _ _
theorem zUt (t:Bs)(s:Ps):isP t s=((s.hd.kind != 4&&s.hd.kind != 2)&&s.hd.text==t):=rfl
theorem XO (w:World)(p B:Nat)(s:Ps)(R:xV)(t:Bs)(b:Bool)(hb:Hid (isP t s=b))(h:PS w p B s R) :
  Calls Tryz.prog 48 #[.pointer (some ⟨p,0,none⟩),.string (xI t)] w fun e w'=>e=.returned (.bool b)∧Ext w w':=by
 have HP:=yG h;clear h;obtain⟨k,hk⟩:∃k,k=s.hd.kind:=⟨_,rfl⟩;obtain⟨x,hx⟩:∃x,x=s.hd.text:=⟨_,rfl⟩;have HB:Hid (((k != 4&&k != 2)&&x==t)=b):=yG (by rw[←hb.out,zUt,hk,hx])
 go_enter Tryz.func48,Tryz.ntmps48
 go_wp2_with fail
 refine(ZE w p s R HP.out.ts).mono ?_;rintro e w1 ⟨rfl,hx1⟩;have HX:=yG hx1;unfold ZW;rw[←hk,←hx];clear hx1 hk hx
 by_cases h4:k=4
 ·subst h4
  go_wp2_with fail
  go_ret;exact⟨zCD (by rw[←HB.out]; rfl),HX.out.trans (Ext.alloc _ _)⟩
 ·by_cases h2:k=2
  ·subst h2
   go_wp2_with fail
   go_ret;exact⟨zCD (by rw[←HB.out]; rfl),HX.out.trans (Ext.alloc _ _)⟩
  ·have i4:¬(k:Int)=4:=by omega
   have i2:¬(k:Int)=2:=by omega
   have HK:=yG (And.intro h4 h2);clear h4 h2
   go_wp2_with fail
   go_ret;refine⟨zCD ?_,HX.out.trans (Ext.alloc _ _)⟩;rw[←HB.out];simp only[VW];have h4:=HK.out.1;have h2:=HK.out.2
   have a4:((k:Int) != 4)=true:=by rw[zE]; omega
   have a2:((k:Int) != 2)=true:=by rw[zE]; omega
   have b4:(k != 4)=true:=by rw[zE]; omega
   have b2:(k != 2)=true:=by rw[zE]; omega
   rw[a4,a2,b4,b2]
theorem xD.set {w:World}{M:Nat→Prop}{g i:Nat}{u:Value}(h:M g):xD w M (w.setCell ⟨g,i,none⟩ u) M:=
 ⟨rfl,rfl,rfl,by simp[World.setCell],fun b hb hM=>zS w ⟨g,i,none⟩ u b (fun e=>hM (by rw[e]; exact h)),fun b h=>.inl h⟩
def jW (er:Int):Ending:=.panicked [{ v:=.iface 52 (.int .i64 er),recovered:=false }]
theorem xE {P:Program}{fn:Func}{R:Ending→World→Prop}{a:Act}{w:World}{er:Int}(hd:a.defers=[])(h:R (jW er) w):bodyPost P fn R (Exit.panic [{ v:=.iface 52 (.int .i64 er),recovered:=false }]) a w:=⟨hd,h⟩
def OkP (w:World)(p B:Nat)(R:xV)(s':Ps)(w':World):Prop:=∃R',PS w' p B s' R'∧xD w (xL p R) w' (xL p R')
def VH (w:World)(p B:Nat)(R:xV)(er:Int)(at_:Nat)(e:Ending)(w':World):Prop:=e=jW er∧∃s',s'.hd.at_=at_∧OkP w p B R s' w'
def xN (w:World)(p B:Nat)(R:xV)(r:Res Unit)(e:Ending)(w':World):Prop:=
 match r with
 | .ok _ s'=>e=.returned (.tuple #[])∧OkP w p B R s' w'
 | .err er a=>VH w p B R er a e w'
theorem xN.ok {w:World}{p B:Nat}{R:xV}{s':Ps}{w':World}(h:OkP w p B R s' w'):xN w p B R (.ok () s') (.returned (.tuple #[])) w':=⟨rfl,h⟩
theorem xN.err {w:World}{p B:Nat}{R:xV}{er:Int}{a:Nat}{e:Ending}{w':World}(h:VH w p B R er a e w'):xN w p B R (.err er a) e w':=h
theorem OkP.trans {w w1 w2:World}{p B:Nat}{R R1:xV}{s:Ps}(h:xD w (xL p R) w1 (xL p R1))(k:OkP w1 p B R1 s w2):OkP w p B R s w2:=let ⟨R2,a,b⟩:=k; ⟨R2,a,h.trans b⟩
theorem VH.trans {w w1 w2:World}{p B:Nat}{R R1:xV}{er:Int}{a:Nat}{e:Ending}(h:xD w (xL p R) w1 (xL p R1))(k:VH w1 p B R1 er a e w2):VH w p B R er a e w2:=let ⟨x,s,y,z⟩:=k; ⟨x,s,y,OkP.trans h z⟩
theorem xN.trans {w w1 w2:World}{p B:Nat}{R R1:xV}{r:Res Unit}{e:Ending}(h:xD w (xL p R) w1 (xL p R1))(k:xN w1 p B R1 r e w2):xN w p B R r e w2:=by
 cases r with
 | ok a s=>exact⟨k.1,OkP.trans h k.2⟩
 | err er a=>exact VH.trans h k
theorem PS.zTV {w:World}{p B:Nat}{s:Ps}{R:xV}(h:PS w p B s R)(hk:s.hd.kind≠4) :
  PS (w.setCell ⟨p,0,none⟩ (.slice (some ⟨R.bt,R.ot+5,none⟩) (s.ts.length-1) (R.ct-1))) p B s.adv { R with ot:=R.ot+5,ct:=R.ct-1 }:=by
 have hal:=jX (s:=s);obtain⟨t,r,hs,ht⟩:=h.xS.hd;have hpos:=h.xS.pos
 have hkt:s.adv.ts=r:=by show s.ts.tail=r; rw[hs]; rfl
 refine⟨?_,fun k hk'=>?_,?_,h.zEY,h.nodes,?_,h.pB,h.xS.adv hk⟩
 ·have:=h.blk.put 0 (.slice (some ⟨R.bt,R.ot+5,none⟩) (s.ts.length-1) (R.ct-1))
  rw[hal]
  show Blk _ p 72 #[_,_,.int .i64 (s.deep:Int)]
  simpa using this
 ·rw[hkt] at hk' ⊢
  have hne:R.bt≠p:=by have:=h.zEY; have:=h.pB; omega
  rw[World.cell?_of_block (w:=w) (zS w ⟨p,0,none⟩ _ R.bt hne)]
  show w.cell? ⟨R.bt,R.ot+5+k,none⟩=_
  rw[Nat.add_assoc,h.zMQ (5+k) (by rw[hs]; simp only[zK]; omega),hs]
  show(ZW t++jP r)[5+k]?=_
  rw[List.getElem?_append_right (by show 5≤_; omega)]
  show(jP r)[5+k-5]?=_
  rw[show 5+k-5=k by omega]
 ·have:=h.zJo
  show s.adv.ts.length≤R.ct-1
  omega
 ·refine h.ns.jL fun b hb=>zS w ⟨p,0,none⟩ _ b fun e=>?_;rw[e] at hb;exact h.ns.zDg h.blk (by decide) (by decide) hb
theorem zBo (w:World)(p:Nat)(er:Int):Calls Tryz.prog 51 #[.pointer (some ⟨p,0,none⟩),.int .i64 er] w fun e w'=>e=jW er∧w=w':=by
 go_enter Tryz.func51,Tryz.ntmps51
 go_wp2
 exact⟨rfl,rfl,rfl⟩
theorem zAR (w:World)(p B:Nat)(s:Ps)(R:xV)(t:Bs)(hb:Hid (isP t s=false))(h:PS w p B s R) :
  Calls Tryz.prog 94 #[.pointer (some ⟨p,0,none⟩),.string (xI t)] w fun e w'=>e=.returned (.bool false)∧Ext w w':=by
 have HP:=yG h;clear h
 go_enter Tryz.func94,Tryz.ntmps94
 go_wp2_with fail
 refine(XO w p B s R t false hb HP.out).mono ?_;rintro e w1 ⟨rfl,hx1⟩;have HX:=yG hx1;clear hx1
 go_wp2_with fail
 go_ret;exact⟨rfl,HX.out⟩
theorem VN (w:World)(p B:Nat)(s:Ps)(R:xV)(t:Bs)(hb:Hid (isP t s=true))(h:PS w p B s R) :
  Calls Tryz.prog 94 #[.pointer (some ⟨p,0,none⟩),.string (xI t)] w fun e w'=>e=.returned (.bool true)∧OkP w p B R s.adv w':=by
 have HP:=yG h;clear h
 go_enter Tryz.func94,Tryz.ntmps94
 go_wp2_with fail
 refine(XO w p B s R t true hb HP.out).mono ?_;rintro e w1 ⟨rfl,hx1⟩;have HX:=yG hx1;have HP1:=yG (HP.out.ext hx1);have hk:=(vN hb.out).1;have HF:Hid (OkP w p B R s.adv (w1.setCell ⟨p,0,none⟩ (.slice (some ⟨R.bt,R.ot+5,none⟩) (s.ts.length-1) (R.ct-1)))):=yG ⟨_,HP1.out.zTV hk,(xD.ext hx1).trans (xD.set (.inl rfl))⟩
 have h2:2≤s.ts.length:=by
  have hg:=(HP1.out.xS.adv hk).pos;rw[jX] at hg;omega
 have h3:=HP1.out.zJo;have x0:=HP1.out.x0;have z0:=HP1.out.blk.frozen 0;clear hx1 hk;generalize s.ts.length=n at *;generalize R.ct=ct at *
 go_wp2_with fail
 go_ret;exact⟨rfl,HF.out⟩
theorem PS.okp {w w':World}{p B:Nat}{s:Ps}{R:xV}(h:PS w p B s R)(hx:Ext w w'):OkP w p B R s w':=⟨R,h.ext hx,xD.ext hx⟩
theorem jH (w:World)(p B:Nat)(s:Ps)(R:xV)(t:Bs)(h:PS w p B s R) :
  Calls Tryz.prog 89 #[.pointer (some ⟨p,0,none⟩),.string (xI t)] w (xN w p B R (vW t s)):=by
 have HP:=yG h;clear h
 cases hi:isP t s with
 | true=>
  have HI:=yG hi;have HT:Hid (vW t s=.ok () s.adv):=yG (by unfold vW; rw[if_pos hi]);clear hi
  go_enter Tryz.func89,Tryz.ntmps89
  go_wp2_with fail
  refine(VN w p B s R t HI HP.out).mono ?_;rintro e w1 ⟨rfl,ho⟩;have HO:=yG ho;clear ho
  go_wp2_with fail
  go_end0;rw[HT.out];exact xN.ok HO.out
 | false=>
  have HI:=yG hi;have HT:Hid (vW t s=.err 50 s.hd.at_):=yG (by unfold vW; rw[hi]; rfl);clear hi
  go_enter Tryz.func89,Tryz.ntmps89
  go_wp2_with fail
  refine(zAR w p B s R t HI HP.out).mono ?_;rintro e w1 ⟨rfl,hx⟩;have HX:=yG hx;clear hx
  go_wp2_with fail
  refine(zBo w1 p 50).mono ?_;rintro e w2 ⟨rfl,rfl⟩;have HE:Hid (xN w p B R (vW t s) (jW 50) w1):=yG (by rw[HT.out]; exact⟨rfl,s,rfl,HP.out.okp HX.out⟩);exact xE rfl HE.out
def zDS (w:World)(p B:Nat)(R:xV)(v:Value)(r:Res Unit)(e:Ending)(w':World):Prop:=
 match r with
 | .ok _ s'=>e=.returned v∧OkP w p B R s' w'
 | .err er a=>VH w p B R er a e w'
theorem PS.jL {w w':World}{p B:Nat}{s:Ps}{R:xV}(h:PS w p B s R)(hk:∀b,b<B∨xL p R b→w'.heap[b]?=w.heap[b]?):PS w' p B s R:=
 ⟨(hk p (.inr (.inl rfl))).trans h.blk,fun k hk'=>(World.cell?_of_block (w:=w) (hk R.bt (.inl h.zEY))).trans (h.zMQ k hk'),h.zJo,h.zEY,h.nodes,h.ns.jL fun b hb=>hk b (.inr (.inr hb)),h.pB,h.xS⟩
theorem PS.zDg {w:World}{p B:Nat}{s:Ps}{R:xV}(h:PS w p B s R){g:Nat}{t:TypeId}{cs:Array Value}(hg:Blk w g t cs)(h1:t≠39)(h2:t≠3)(h3:t≠72):¬xL p R g:=by
 rintro (hb | hb)
 ·subst hb; exact Blk.differ hg h.blk h3 rfl
 ·exact h.ns.zDg hg h1 h2 hb
def xV.adv (R:xV):xV:={ R with ot:=R.ot+5,ct:=R.ct-1 }
def OkR (w:World)(p B:Nat)(R R':xV)(s':Ps)(w':World):Prop:=PS w' p B s' R'∧xD w (xL p R) w' (xL p R')
theorem OkR.okp {w:World}{p B:Nat}{R R':xV}{s':Ps}{w':World}(h:OkR w p B R R' s' w'):OkP w p B R s' w':=⟨R',h⟩
theorem OkR.ext {w:World}{p B:Nat}{R R':xV}{s':Ps}{w' w2:World}(h:OkR w p B R R' s' w')(hx:Ext w' w2):OkR w p B R R' s' w2:=⟨h.1.ext hx,h.2.trans (xD.ext hx)⟩
theorem OkR.ZX {w W w':World}{p B g:Nat}{R R':xV}{s:Ps}(h:OkR w p B R R' s W)(ht:Touch g W w')(hg:w.heap.size≤g)(hB:B≤w.heap.size)(hn':¬xL p R' g):OkR w p B R R' s w':=by
 obtain⟨a,b⟩:=h;refine⟨a.jL fun k hk=>ht.other k fun e=>?_,?_⟩
 ·subst e
  rcases hk with hk | hk
  ·omega
  ·exact hn' hk
 ·exact⟨ht.os.trans b.os,ht.tape.trans b.tape,ht.output.trans b.output,by rw[ht.size]; exact b.size,fun k hk hM=>(ht.other k (by omega)).trans (b.jL k hk hM),b.zDv⟩
theorem OkP.ZX {w W w':World}{p B g:Nat}{R:xV}{s:Ps}(h:OkP w p B R s W)(ht:Touch g W w')(hg:w.heap.size≤g)(hB:B≤w.heap.size)(hn:∀R',PS W p B s R'→¬xL p R' g):OkP w p B R s w':=
 let ⟨R',a⟩:=h
 ⟨R',OkR.ZX a ht hg hB (hn R' a.1)⟩
theorem PS.okr {w W:World}{p B:Nat}{s:Ps}{R:xV}(h:PS W p B s R)(hx:Ext w W)(hk:s.hd.kind≠4):OkR w p B R R.adv s.adv (W.setCell ⟨p,0,none⟩ (.slice (some ⟨R.bt,R.ot+5,none⟩) (s.ts.length-1) (R.ct-1))):=
 ⟨h.zTV hk,(xD.ext hx).trans (xD.set (.inl rfl))⟩
theorem zIx (w:World)(p B:Nat)(s:Ps)(R:xV)(k:Nat)(hk:Hid (s.hd.kind=k))(h4:k≠4)(h:PS w p B s R) :
  Calls Tryz.prog 120 #[.pointer (some ⟨p,0,none⟩),.int .u8 (k:Int)] w fun e w'=>e=.returned (.agg (ZW s.hd).toArray)∧OkR w p B R R.adv s.adv w':=by
 have HP:=yG h;clear h
 go_enter Tryz.func120,Tryz.ntmps120
 go_wp2_with fail
 have HG0:=yG (Blk.new w 75 #[.int .u8 0,.int .i64 0,.int .i64 0,.string ⟨#[]⟩,.int .i64 0]);refine(ZE _ p s R (HP.out.ext (Ext.alloc _ _)).ts).mono ?_;rintro e w1 ⟨rfl,hx1⟩;have HG1:=yG (HG0.out.ext hx1);have HX:=yG ((Ext.alloc _ _).trans hx1)
 have hkk:(s.hd.kind:Int)=(k:Int):=by rw[hk.out]
 have h4':s.hd.kind≠4:=by rw[hk.out]; exact h4
 have HP1:=yG (HP.out.ext HX.out);have HO:=yG (HP1.out.okr HX.out h4');have hpg:p≠w.heap.size:=Nat.ne_of_lt HP.out.blk.lt;have HG2:Hid (Blk (w1.setCell ⟨p,0,none⟩ (.slice (some ⟨R.bt,R.ot+5,none⟩) (s.ts.length-1) (R.ct-1))) w.heap.size 75 #[.int .u8 0,.int .i64 0,.int .i64 0,.string ⟨#[]⟩,.int .i64 0]):=yG (HG1.out.far (p:=⟨p,0,none⟩) (Ne.symm hpg) _);have HBW:Hid (B≤w.heap.size):=yG (Nat.le_trans HP.out.pB (zV HP.out.blk.lt))
 have h2:2≤s.ts.length:=by
  have hg:=(HP1.out.xS.adv h4').pos;rw[jX] at hg;omega
 have h3:=HP1.out.zJo;have x0:=HP1.out.x0;have z0:=HP1.out.blk.frozen 0;have hpw:p<w1.heap.size:=HP1.out.blk.lt;unfold ZW at *;clear hx1 h4'
 go_wp2_with (refine vK rfl 75 (.tmp 4) (.tmp 22) rfl w.heap.size #[.int .u8 (k:Int),.int .i64 (s.hd.at_:Int),.int .i64 (s.hd.en:Int),.string (xI s.hd.text),.int .i64 s.hd.n] (by rfl) (by rfl) 75 _ (HG2.out.ext (Ext.alloc _ _)) (by kernel_rfl) rfl rfl ?_; intro w3 ht3 hb3)
 have HF:=yG ((HO.out.ext (Ext.alloc _ _)).ZX ht3 (zX _) HBW.out (HO.out.1.zDg HG2.out (by decide) (by decide) (by decide)));have HB3:=yG hb3;clear ht3 hb3
 go_wp2_with fail
 exact zCQ w.heap.size 75 _ _ Tryz.results120 rfl rfl HB3.out Tryz.underlying75 rfl (by kernel_rfl) ⟨by unfold ZW; rw[hkk],HF.out⟩
theorem zSI (w:World)(p B:Nat)(s:Ps)(R:xV)(k:Nat)(hk:Hid (s.hd.kind≠k))(h:PS w p B s R) :
  Calls Tryz.prog 120 #[.pointer (some ⟨p,0,none⟩),.int .u8 (k:Int)] w (VH w p B R 50 s.hd.at_):=by
 have HP:=yG h;clear h
 go_enter Tryz.func120,Tryz.ntmps120
 go_wp2_with fail
 refine(ZE _ p s R (HP.out.ext (Ext.alloc _ _)).ts).mono ?_;rintro e w1 ⟨rfl,hx1⟩;have HX:=yG ((Ext.alloc _ _).trans hx1)
 have hkk:¬(s.hd.kind:Int)=(k:Int):=by have:=hk.out; omega
 have HF:Hid (∀o,VH w p B R 50 s.hd.at_ (jW 50) (w1.alloc o)):=yG fun o=>⟨rfl,s,rfl,HP.out.okp (HX.out.trans (Ext.alloc _ _))⟩;unfold ZW;clear hx1
 go_wp2_with fail
 refine(zBo _ p 50).mono ?_;rintro e w2 ⟨rfl,rfl⟩;exact xE rfl (HF.out _)
end Go.Proofs.YtbadjmmjbpeocaaGreatDoor
