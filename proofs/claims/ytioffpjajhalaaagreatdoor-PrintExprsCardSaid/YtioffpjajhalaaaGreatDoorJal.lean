/- Kinds and numbers of a parsed tree's nodes: statements, procedures, the whole. (and what follows of it). The conditions stand at each lemma. -/
import Derived.Test.YtioffpjajhalaaaGreatDoorJaa
import Derived.Test.YtioffpjajhalaaaGreatDoorJak
import Derived.Test.YtioffpjajhalaaaGreatDoorJae
import Derived.Deep.AppendLies
set_option linter.unusedVariables false
set_option linter.unusedSimpArgs false
set_option maxRecDepth 100000
set_option maxHeartbeats 16000000
namespace Go.Proofs.YtioffpjajhalaaaGreatDoor
theorem ok1:okI 1:=zLc (by decide) (by decide)
theorem zU4 {t:Bs}{k:Nat}(h:jN t=some k):k<256:=by
 unfold jN at h;obtain⟨m,h1,rfl⟩:=Option.map_eq_some_iff.1 h;exact(show ∀m ∈ zGJ,m.2<256 by decide) m (List.mem_of_find?_eq_some h1)
section
variable {s:Ps}
theorem zT2 (h:KS s)(i:Nat):KP QT (zGb i s):=xX (zAW h i) fun _ s h _=>xX (YH h _) fun _ s h _=>xX (zP4 h i) fun _ s h _=>XX (xX (YH h.adv _) fun _ s h _=>VI (h.num _ ok1) trivial) (VI h trivial)
theorem zVW (h:KS s)(i:Nat):KP QT (zL4 i s):=xX (zP4 h i) fun _ s h _=>xX (YH h _) fun _ s h _=>zDE h i
theorem zRE (h:KS s)(i:Nat):KP QT (zCm i s):=xX (zPm h i) fun _ s h _=>xX (YH h _) fun _ s h _=>xX (zMt (fun s h=>zDE h i) h) fun _ s h _=>YH h _
theorem zUE (h:KS s)(i:Nat):KP QT (zFH i s):=xX (zAW h i) fun _ s h _=>xX (YH h _) fun _ s h _=>xX (zE2 h i) fun _ s h _=>xX (YH h _) fun _ s h _=>zE2 h i
theorem zTY (h:KS s)(i:Nat):KP QT (zFR i s):=xX (zE2 h i) fun _ s h _=>XX (VI (h.adv.num _ ok1) trivial) (YH h _)
theorem zOM (h:KS s)(i:Nat):KP QT (zAw i s):=xX (zAW (h.xB i (by decide)) _) fun _ t h _=>XX (zTM (h.kind _ (by decide)) _) (VI h trivial)
theorem zTS (h:KS s)(i:Nat):KP QT (zCN i s):=XX (VI (h.adv.num _ ok1) trivial) (YH h _)
theorem zV5 (h:KS s)(i:Nat):KP QT (zLI i s):=xX (zAW h i) fun _ s h _=>xX (YH h _) fun _ s h _=>zDE h i
theorem zM5 {st:Nat→Pm Unit}(hst:∀i s,KS s→KP QT (st i s))(i:Nat):∀(f:Nat) (s:Ps),KS s→KP QT (ZJ st i f s)
 | 0,s,h=>zBU
 | f+1,s,h=>by unfold ZJ; exact XX (VI h trivial) (xX (hst i s h) fun _ t ht _=>zM5 hst i f t ht)
theorem zDM {st:Nat→Pm Unit}(hst:∀i s,KS s→KP QT (st i s))(h:KS s)(i:Nat):KP QT (XN st i s):=zEW (fun t ht=>zM5 hst _ _ t ht) (h.xB i (by decide)) _ _
theorem zUy {st:Nat→Pm Unit}(hst:∀i s,KS s→KP QT (st i s))(h:KS s)(i:Nat):KP QT (zC4 st i s):=XX (zDM hst h.adv i) (VI h trivial)
theorem zQs {st:Nat→Pm Unit}(hst:∀i s,KS s→KP QT (st i s))(h:KS s)(i:Nat):KP QT (zAx st i s):=xX (zDE h i) fun _ s h _=>xX (zTS h i) fun _ s h _=>xX (zDE h i) fun _ s h _=>xX (zDM hst h i) fun _ s h _=>zUy hst h i
theorem zUA {st:Nat→Pm Unit}(hst:∀i s,KS s→KP QT (st i s))(h:KS s)(i:Nat):KP QT (zDC st i s):=xX (zAW h i) fun _ s h _=>xX (YH h _) fun _ s h _=>xX (zKz h i) fun _ s h _=>xX (YH h _) fun _ s h _=>xX (zKz h i) fun _ s h _=>zDM hst h i
theorem zR5 {st:Nat→Pm Unit}(hst:∀i s,KS s→KP QT (st i s))(h:KS s)(k i:Nat):KP QT (YO st k i s):=by
 unfold YO
 split
 ·exact zT2 h i
 split
 ·exact zVW h i
 split
 ·exact zRE h i
 split
 ·exact zPm h i
 split
 ·exact zUE h i
 split
 ·exact zTY h i
 split
 ·exact zOM h i
 split
 ·exact zQs hst h i
 split
 ·exact zUA hst h i
 split
 ·exact zV5 h i
 split
 ·exact zDE h i
 ·exact VI h trivial
theorem zPB:∀(f i:Nat) (s:Ps),KS s→KP QT (jO f i s)
 | 0,i,s,h=>zBU
 | f+1,i,s,h=>by
  unfold jO
  split
  ·exact zBU
  ·rename_i k hk
   have AA:k<256:=by
    split at hk
    ·exact zU4 hk
    ·cases hk
   exact xX (zR5 (fun i s h=>zPB f i s h) (h.xB i AA).adv _ _) fun _ t ht _=>XX (VI ht trivial) (YH ht _)
theorem zTk (h:KS s)(i:Nat):KP QT (zD4 i s):=zDM (fun i s h=>zPB _ i s h) h i
theorem zS3 (h:KS s)(i:Nat):KP QT (zAX i s):=xX (YH (h.xB i (by decide)) _) fun _ t h _=>xX (zAW h _) fun _ t h _=>xX (YH h _) fun _ t h _=>xX (zMt (fun s h=>zE2 h _) h) fun _ t h _=>xX (YH h _) fun _ t h _=>YH h _
theorem zR1 (h:KS s)(i:Nat):KP QT (JM i s):=XX (VI (h.xB i (by decide)) trivial) (zMt (fun s h=>zE2 h _) (h.xB i (by decide)))
theorem zRd (h:KS s)(i:Nat):KP QT (VF i s):=XX (VI (h.adv.num _ ok1) trivial) (VI h trivial)
theorem zUc (h:KS s)(i:Nat):KP QT (zCB i s):=xX (YH (h.xB i (by decide)) _) fun _ t h _=>xX (zAW h _) fun _ t h _=>xX (YH h _) fun _ t h _=>xX (zR1 h _) fun _ t h _=>xX (YH h _) fun _ t h _=>xX (zRd h _) fun _ t h _=>zTk h _
theorem zI1:∀(f:Nat) (s:Ps),KS s→KP QT (vY f s)
 | 0,s,h=>zBU
 | f+1,s,h=>by unfold vY; exact XX (VI h trivial) (XX (xX (zS3 h _) fun _ t ht _=>zI1 f t ht) (XX (xX (zUc h _) fun _ t ht _=>zI1 f t ht) zBU))
theorem zOu (h:KS s):KP QT (zAZ s):=zI1 _ _ (h.node (by decide))
end
theorem zLx {ts:List Tok}{nd:List Nd}(ht:∀t ∈ ts,okT t)(h:XY ts=.ok nd):∀n ∈ nd,okN n:=by
 unfold XY at h
 split at h
 ·rename_i a s hs;injection h with h;subst h;exact(zOu ⟨fun n hn=>(by cases hn),ht⟩ _ _ hs).1.nd
 ·cases h
end Go.Proofs.YtioffpjajhalaaaGreatDoor
namespace Go.Proofs.YtioffpjajhalaaaGreatDoor
open Go Go.RowKit
abbrev Hd2:=Option Addr × Nat
def ints (l:List Nat):List Value:=l.map fun (k:Nat)=>Value.int .i64 (k:Int)
def YU (x:Nd × Hd2):List Value:=[.int .u8 (x.1.kind:Int),.int .i64 (x.1.pos:Int),.string (yX x.1.text),.int .i64 x.1.num,.slice x.2.1 x.1.kids.length x.2.2]
def ncs (l:List (Nd × Hd2)):List Value:=l.flatMap YU
theorem zQt (l:List Nat)(k:Nat):ints (l++[k])=ints l++[.int .i64 (k:Int)]:=by simp[ints]
theorem zTB (l:List (Nd × Hd2))(x:Nd × Hd2):ncs (l++[x])=ncs l++YU x:=by unfold ncs; simp
theorem zWz (l:List (Nd × Hd2)):∀(i:Nat) (hi:i<l.length) (j:Nat),j<5→(ncs l)[i*5+j]?=(YU l[i])[j]?:=by
 induction l with
 | nil=>intro i hi; simp at hi
 | cons x l ih=>
  intro i hi j hj
  show(YU x++ncs l)[i*5+j]?=_
  match i,hi with
  | 0,_=>rw[Nat.zero_mul,Nat.zero_add,List.getElem?_append_left (by show j<5; exact hj)]; rfl
  | i+1,hi=>
   have e:(i+1)*5+j=5+(i*5+j):=by omega
   rw[e,List.getElem?_append_right (by show 5≤_; omega),show 5+(i*5+j)-(YU x).length=i*5+j from by show 5+(i*5+j)-5=_; omega];exact ih i (by simpa using hi) j hj
theorem zJv (l:List (Nd × Hd2))(i:Nat)(hi:i<l.length)(j:Nat)(hj:j<5)(u:Value)(f:Nd × Hd2→Nd × Hd2)(hf:YU (f l[i])=(YU l[i]).set j u):ncs (l.modify i f)=(ncs l).set (i*5+j) u:=by
 induction l generalizing i with
 | nil=>simp at hi
 | cons x l ih=>
  match i,hi with
  | 0,_=>
   simp only[List.getElem_cons_zero] at hf;rw[List.modify_zero_cons]
   show YU (f x)++ncs l=(YU x++ncs l).set (0*5+j) u
   rw[hf,Nat.zero_mul,Nat.zero_add,List.set_append_left _ _ (by show j<5; exact hj)]
  | i+1,hi=>
   rw[List.modify_succ_cons]
   show YU x++ncs (l.modify i f)=(YU x++ncs l).set ((i+1)*5+j) u
   rw[ih i (by simpa using hi) (by simpa using hf),List.set_append_right _ _ (by show 5≤_; omega)]
   congr 2
   show _=(i+1)*5+j-5
   omega
structure NS (w:World)(B:Nat)(tn ti:TypeId)(A:Option Addr)(c:Nat)(nh:List (Nd × Hd2)):Prop where
 row:w.ownsRow B tn 5 (.slice A nh.length c) nh.length (ncs nh)
 kids:∀x ∈ nh,w.ownsRow B ti 1 (.slice x.2.1 x.1.kids.length x.2.2) x.1.kids.length (ints x.1.kids)
 apart:∀(i j:Nat) (hi:i<nh.length) (hj:j<nh.length),nh[i].2.1=nh[j].2.1→nh[i].2.1≠none→i=j
 rz:nh.length=0→c=0
 kz:∀x ∈ nh,x.1.kids.length=0→x.2.2=0
def zHs (A:Option Addr)(nh:List (Nd × Hd2))(b:Nat):Prop:=A=some ⟨b,0,none⟩∨some (⟨b,0,none⟩:Addr) ∈ nh.map fun x=>x.2.1
structure xH (w:World)(M:Nat→Prop)(w':World)(M':Nat→Prop):Prop where
 os:w'.os=w.os
 tape:w'.tape=w.tape
 output:w'.output=w.output
 size:w.heap.size≤w'.heap.size
 zAf:∀b,b<w.heap.size→¬M b→w'.heap[b]?=w.heap[b]?
 zFT:∀b,M' b→M b∨w.heap.size≤b
theorem xH.refl (w:World)(M:Nat→Prop):xH w M w M:=⟨rfl,rfl,rfl,zU _,fun _ _ _=>rfl,fun _ h=>.inl h⟩
theorem xH.trans {w w1 w2:World}{M M1 M2:Nat→Prop}(h:xH w M w1 M1)(k:xH w1 M1 w2 M2):xH w M w2 M2:=by
 refine⟨k.os.trans h.os,k.tape.trans h.tape,k.output.trans h.output,Nat.le_trans h.size k.size,fun b hb hM=>?_,fun b hb=>?_⟩
 ·rw[k.zAf b (yR hb h.size) (fun h1=>by rcases h.zFT b h1 with h2 | h2 <;> first | exact hM h2 | omega)]
  exact h.zAf b hb hM
 ·rcases k.zFT b hb with h1 | h1
  ·exact h.zFT b h1
  ·exact .inr (Nat.le_trans h.size h1)
theorem xH.ext {w w':World}{M:Nat→Prop}(h:Ext w w'):xH w M w' M:=⟨h.os,h.tape,h.output,h.size,fun b hb _=>h.block b hb,fun _ h=>.inl h⟩
theorem xH.below {w w':World}{M M':Nat→Prop}{B:Nat}(h:xH w M w' M')(hM:∀b,M b→B≤b)(hB:B≤w.heap.size):Below B w w':=⟨h.os,h.tape,h.output,h.size,fun b hb=>h.zAf b (by omega) (fun hm=>by have:=hM b hm; omega)⟩
def Safe (w:World)(M:Nat→Prop)(g:Nat)(t:TypeId)(cs:Array Value):Prop:=Blk w g t cs∧¬M g
theorem Safe.xJ {w w':World}{M M':Nat→Prop}{g:Nat}{t:TypeId}{cs:Array Value}(h:Safe w M g t cs)(k:xH w M w' M'):Safe w' M' g t cs:=
 ⟨(k.zAf g h.1.lt h.2).trans h.1,fun h1=>by rcases k.zFT g h1 with h2 | h2 <;> first | exact h.2 h2 | (have:=h.1.lt; omega)⟩
def zFJ (w:World)(M:Nat→Prop)(A:Option Addr)(cs:List Value):Prop:=cs=[]∨∃b off,A=some ⟨b,off,none⟩∧b<w.heap.size∧¬M b∧∀k,k<cs.length→w.cell? ⟨b,off+k,none⟩=cs[k]?
theorem zFJ.cells {w:World}{M:Nat→Prop}{A:Option Addr}{cs:List Value}(h:zFJ w M A cs):Cells w A cs:=by
 rcases h with h | ⟨b,AA,h1,h2,_,h3⟩
 ·exact .inl h
 ·exact .inr ⟨b,AA,h1,h2,h3⟩
theorem zFJ.xJ {w w':World}{M M':Nat→Prop}{A:Option Addr}{cs:List Value}(h:zFJ w M A cs)(k:xH w M w' M'):zFJ w' M' A cs:=by
 rcases h with h | ⟨b,AA,h1,h2,h3,h4⟩
 ·exact .inl h
 ·refine .inr ⟨b,AA,h1,yR h2 k.size,fun h5=>by rcases k.zFT b h5 with h6 | h6 <;> first | exact h3 h6 | omega,fun j hj=>?_⟩
  rw[World.cell?_of_block (w:=w) (k.zAf b h2 h3)];exact h4 j hj
theorem VY {w:World}{B:Nat}{t:TypeId}{s n c m:Nat}{A:Option Addr}{xs:List Value}(h:w.ownsRow B t s (.slice A m c) n xs){b:Nat}(e:A=some ⟨b,0,none⟩):B≤b∧b<w.heap.size:=by
 rcases h.2 with ⟨hv,_⟩ | ⟨g,AB,AA,hv,hb,hh,_⟩
 ·rw[e] at hv; cases hv
 ·rw[e] at hv;injection hv with h1;injection h1 with h1;injection h1 with h1;subst h1;exact⟨hb,(Array.getElem?_eq_some_iff.1 hh).1⟩
theorem ZN {w:World}{B:Nat}{t:TypeId}{s n c m:Nat}{A:Option Addr}{xs:List Value}(h:w.ownsRow B t s (.slice A m c) n xs){b:Nat}(e:A=some ⟨b,0,none⟩):∃cur,Blk w b t cur:=by
 rcases h.2 with ⟨hv,_⟩ | ⟨g,AA,cur,hv,hb,hh,_⟩
 ·rw[e] at hv; cases hv
 ·rw[e] at hv;injection hv with h1;injection h1 with h1;injection h1 with h1;subst h1;exact⟨cur,hh⟩
theorem zFI {w:World}{B:Nat}{t:TypeId}{s n c m:Nat}{A:Option Addr}{xs:List Value}(h:w.ownsRow B t s (.slice A m c) n xs):A=none∨∃b,A=some ⟨b,0,none⟩:=by
 rcases h.2 with ⟨hv,_⟩ | ⟨g,AB,AA,hv,hb,hh,_⟩
 ·injection hv with h1; exact .inl h1
 ·injection hv with h1; exact .inr ⟨g,h1⟩
theorem NS.zDL {w:World}{B:Nat}{tn ti:TypeId}{A:Option Addr}{c:Nat}{nh:List (Nd × Hd2)}(h:NS w B tn ti A c nh){b:Nat}(hb:zHs A nh b):B≤b∧b<w.heap.size:=by
 rcases hb with hb | hb
 ·exact VY h.row hb
 ·obtain⟨x,hx,e⟩:=List.mem_map.1 hb;exact VY (h.kids x hx) e
theorem NS.zDm {w:World}{B:Nat}{tn ti:TypeId}{A:Option Addr}{c:Nat}{nh:List (Nd × Hd2)}(h:NS w B tn ti A c nh){g:Nat}{t:TypeId}{cs:Array Value}(hg:Blk w g t cs)(h1:t≠tn)(h2:t≠ti):¬zHs A nh g:=by
 rintro (hb | hb)
 ·obtain⟨AA,hc⟩:=ZN h.row hb;exact Blk.differ hg hc h1 rfl
 ·obtain⟨x,hx,e⟩:=List.mem_map.1 hb;obtain⟨AA,hc⟩:=ZN (h.kids x hx) e;exact Blk.differ hg hc h2 rfl
theorem NS.zAf {w w':World}{B:Nat}{tn ti:TypeId}{A:Option Addr}{c:Nat}{nh:List (Nd × Hd2)}(h:NS w B tn ti A c nh)(hk:∀b,zHs A nh b→w'.heap[b]?=w.heap[b]?):NS w' B tn ti A c nh:=by
 refine⟨⟨h.row.1,?_⟩,fun x hx=>⟨(h.kids x hx).1,?_⟩,h.apart,h.rz,h.kz⟩
 ·rcases h.row.2 with hn | ⟨g,AB,AA,hv,hb,hh,r⟩
  ·exact .inl hn
  ·injection hv with e1 e2 e3;exact .inr ⟨g,AB,AA,by rw[e1,e3],hb,(hk g (.inl e1)).trans hh,r⟩
 ·rcases(h.kids x hx).2 with hn | ⟨g,AB,AA,hv,hb,hh,r⟩
  ·exact .inl hn
  ·injection hv with e1 e2 e3;exact .inr ⟨g,AB,AA,by rw[e1,e3],hb,(hk g (.inr (by rw[←e1]; exact List.mem_map.2 ⟨x,hx,rfl⟩))).trans hh,r⟩
theorem NS.ext {w w':World}{B:Nat}{tn ti:TypeId}{A:Option Addr}{c:Nat}{nh:List (Nd × Hd2)}(h:NS w B tn ti A c nh)(hx:Ext w w'):NS w' B tn ti A c nh:=h.zAf fun b hb=>hx.block b (h.zDL hb).2
theorem zFu {w w':World}{b1:Nat}{t1:TypeId}{s1 n1 c1:Nat}{A1:Option Addr}{xs1:List Value}{o:Option Nat}(h1:w.ownsRow b1 t1 s1 (.slice A1 n1 c1) n1 xs1)(hg:w.grownBy w' o)(hne:∀b,A1=some ⟨b,0,none⟩→o≠some b):w'.ownsRow b1 t1 s1 (.slice A1 n1 c1) n1 xs1:=by
 refine h1.kept hg ?_
 rcases zFI h1 with e | ⟨b,e⟩
 ·rw[e]; exact .inl rfl
 ·refine .inr fun e2=>hne b e ?_;rw[←e2,e]
  rfl
theorem zKh {A:Option Addr}{n c b:Nat}(h:(Value.slice A n c).ownBlock=some b):∃a,A=some a∧a.block=b:=by
 cases A with
 | none=>cases h
 | some a=>exact⟨a,rfl,by simpa [Value.ownBlock] using h⟩
theorem jB {w:World}{B:Nat}{t:TypeId}{s n c m:Nat}{A:Option Addr}{xs:List Value}(h:w.ownsRow B t s (.slice A m c) n xs){b:Nat}(e:(Value.slice A m c).ownBlock=some b):A=some ⟨b,0,none⟩:=by
 obtain⟨a,ea,eb⟩:=zKh e
 rcases zFI h with e0 | ⟨b',e0⟩
 ·rw[e0] at ea; cases ea
 ·rw[e0] at ea ⊢;injection ea with ea;subst ea
  simp only at eb
  rw[eb]
theorem NS.snoc {w w':World}{B:Nat}{tn ti:TypeId}{A:Option Addr}{c:Nat}{nh:List (Nd × Hd2)}(h:NS w B tn ti A c nh)(hne:tn≠ti)(x:Nd)(hx:x.kids=[]){g cap:Nat}
  (ho:w'.ownsRow B tn 5 (.slice (some ⟨g,0,none⟩) (nh.length+1) cap) (nh.length+1) (ncs nh++YU (x,(none,0)))) (hg:w.grownBy w' (Value.slice A nh.length c).ownBlock):NS w' B tn ti (some ⟨g,0,none⟩) cap (nh++[(x,(none,0))]):=by
 refine⟨by rw[zTB,yM]; exact ho,fun y hy=>?_,fun i j hi hj he hn=>?_,fun h0=>by simp at h0,fun y hy h0=>?_⟩
 ·rcases List.mem_append.1 hy with hy | hy
  ·refine zFu (h.kids y hy) hg fun b e e2=>?_;obtain⟨AC,hc⟩:=ZN (h.kids y hy) e;exact XW h.row hc hne e2
  ·have:=List.mem_singleton.1 hy
   subst this
   show w'.ownsRow B ti 1 (.slice none x.kids.length 0) x.kids.length (ints x.kids)
   rw[hx];exact zP _ _ _ _
 ·rw[yM] at hi hj;simp only[zJ,zK,Nat.zero_add] at hi hj
  by_cases AA:i<nh.length
  ·rw[List.getElem_append_left AA] at he hn
   by_cases AB:j<nh.length
   ·rw[List.getElem_append_left AB] at he;exact h.apart i j AA AB he hn
   ·exfalso
    apply hn;rw[he,List.getElem_append_right (by omega)]
    simp
  ·exfalso
   apply hn;rw[List.getElem_append_right (by omega)]
   simp
 ·rcases List.mem_append.1 hy with hy | hy
  ·exact h.kz y hy h0
  ·rw[List.mem_singleton.1 hy]
theorem zMA {w:World}{base g n m c k sz:Nat}{e:TypeId}{xs:List Value}(h:w.ownsRow base e sz (.slice (some ⟨g,0,none⟩) m c) n xs)(hk:k<n*sz)(u:Value):(w.setCell ⟨g,k,none⟩ u).ownsRow base e sz (.slice (some ⟨g,0,none⟩) m c) n (xs.set k u):=by
 refine⟨by rw[zB]; exact h.1,?_⟩
 rcases h.2 with ⟨hv,_⟩ | ⟨g',AB,AA,hv,hb,hh,h1,h2,h3,h4⟩
 ·cases hv
 ·injection hv with e1 e2 e3;injection e1 with e1;injection e1 with e1;subst e1 e3;refine .inr ⟨g,c,AA.setIfInBounds k u,by rw[e2],hb,?_,h1,h2,by simpa using h3,?_⟩
  ·simp[World.setCell,Array.getElem?_modify,hh]
  ·rw[Array.toList_setIfInBounds,List.take_set,h4]
theorem zFv {w:World}{b1 g:Nat}{t1:TypeId}{s1 n1:Nat}{v1:Value}{xs1:List Value}{t:TypeId}{cs:Array Value}(h1:w.ownsRow b1 t1 s1 v1 n1 xs1)(h2:Blk w g t cs)(ht:t1≠t)(k:Nat)(u:Value):(w.setCell ⟨g,k,none⟩ u).ownsRow b1 t1 s1 v1 n1 xs1:=zQn h1 (XW h1 h2 ht) u
theorem NS.put {w:World}{B:Nat}{tn ti:TypeId}{A:Option Addr}{c:Nat}{nh:List (Nd × Hd2)}(h:NS w B tn ti A c nh)(hne:tn≠ti)(i:Nat)(hi:i<nh.length)(j:Nat)(hj:j<5)(u:Value)(f:Nd→Nd)(hk:∀x,(f x).kids=x.kids)(hf:YU (f nh[i].1,nh[i].2)=(YU nh[i]).set j u){g:Nat}(hA:A=some ⟨g,0,none⟩) :
  NS (w.setCell ⟨g,i*5+j,none⟩ u) B tn ti A c (nh.modify i fun x=>(f x.1,x.2)):=by
 subst hA;obtain⟨AB,hc⟩:=ZN h.row rfl;refine⟨?_,fun y hy=>?_,fun a b ha hb he hn=>?_,fun h0=>h.rz (by rw[List.length_modify] at h0; exact h0),fun y hy h0=>?_⟩
 ·rw[List.length_modify,zJv nh i hi j hj u _ hf];exact zMA h.row (by omega) u
 ·obtain⟨a,ha,rfl⟩:=List.mem_iff_getElem.1 hy;rw[List.length_modify] at ha;have hb:=zFv (h.kids _ (yL ha)) hc (Ne.symm hne) (i*5+j) u;rw[List.getElem_modify]
  split
  ·simp only[hk];exact hb
  ·exact hb
 ·rw[List.length_modify] at ha hb
  have e:∀(a:Nat) (ha:a<nh.length),((nh.modify i fun x=>(f x.1,x.2))[a]'(by rw[List.length_modify]; exact ha)).2.1=nh[a].2.1:=fun a ha=>by
   rw[List.getElem_modify]; split <;> rfl
  rw[e a ha,e b hb] at he;rw[e a ha] at hn;exact h.apart a b ha hb he hn
 ·obtain⟨a,ha,rfl⟩:=List.mem_iff_getElem.1 hy;rw[List.length_modify] at ha;rw[List.getElem_modify] at h0 ⊢
  split
  ·rename_i AA;rw[if_pos AA] at h0;simp only[hk] at h0;exact h.kz nh[a] (yL ha) h0
  ·rename_i AA;rw[if_neg AA] at h0;exact h.kz _ (yL ha) h0
theorem zSp {A:Option Addr}{nh:List (Nd × Hd2)}(i:Nat)(f:Nd→Nd)(b:Nat)(hb:zHs A (nh.modify i fun x=>(f x.1,x.2)) b):zHs A nh b:=by
 rcases hb with hb | hb
 ·exact .inl hb
 ·refine .inr ?_;obtain⟨x,hx,e⟩:=List.mem_map.1 hb;obtain⟨a,ha,rfl⟩:=List.mem_iff_getElem.1 hx;rw[List.length_modify] at ha;rw[List.getElem_modify] at e;refine List.mem_map.2 ⟨nh[a],yL ha,?_⟩
  split at e <;> exact e
theorem NS.kid {W w1:World}{B:Nat}{tn ti:TypeId}{A:Option Addr}{c:Nat}{nh:List (Nd × Hd2)}(h:NS W B tn ti A c nh)(hne:tn≠ti)(i:Nat)(hi:i<nh.length)(k:Nat){g gk cap:Nat}(hA:A=some ⟨g,0,none⟩)
  (ho:w1.ownsRow B ti 1 (.slice (some ⟨gk,0,none⟩) (nh[i].1.kids.length+1) cap) (nh[i].1.kids.length+1) (ints nh[i].1.kids++[.int .i64 (k:Int)])) (hg:W.grownBy w1 (Value.slice nh[i].2.1 nh[i].1.kids.length nh[i].2.2).ownBlock)
  (hf:(Value.slice nh[i].2.1 nh[i].1.kids.length nh[i].2.2).ownBlock=some gk∨W.heap.size≤gk) :
  NS (w1.setCell ⟨g,i*5+4,none⟩ (.slice (some ⟨gk,0,none⟩) (nh[i].1.kids.length+1) cap)) B tn ti A c (nh.modify i fun x=>({ x.1 with kids:=x.1.kids++[k] },(some ⟨gk,0,none⟩,cap))):=by
 subst hA
 have AB:=zFu h.row hg fun b e e2=>by
  have e3:=jB (h.kids _ (yL hi)) e2;obtain⟨c1,h1⟩:=ZN h.row e;obtain⟨c2,h2⟩:=ZN (h.kids _ (yL hi)) e3;exact Blk.differ h1 h2 hne rfl
 obtain⟨AD,hc⟩:=ZN AB rfl;refine⟨?_,fun y hy=>?_,fun a b ha hb he hn=>?_,fun h0=>h.rz (by rw[List.length_modify] at h0; exact h0),fun y hy h0=>?_⟩
 ·rw[List.length_modify,zJv nh i hi 4 (by decide) (.slice (some ⟨gk,0,none⟩) (nh[i].1.kids.length+1) cap) _ (by simp[YU])];exact zMA AB (by omega) _
 ·obtain⟨a,ha,rfl⟩:=List.mem_iff_getElem.1 hy;rw[List.length_modify] at ha;rw[List.getElem_modify]
  split
  ·rename_i AA;subst AA;have hb:=zFv ho hc (Ne.symm hne) (i*5+4) (.slice (some ⟨gk,0,none⟩) (nh[i].1.kids.length+1) cap);rw[←zQt] at hb;simp only[yM,zJ,zK,Nat.zero_add];exact hb
  ·rename_i AA;refine zFv (zFu (h.kids _ (yL ha)) hg fun b e e2=>?_) hc (Ne.symm hne) _ _;have e3:=jB (h.kids _ (yL hi)) e2;exact AA (h.apart i a hi ha (e3.trans e.symm) (by rw[e3]; simp))
 ·rw[List.length_modify] at ha hb
  have AC:∀(a:Nat) (ha:a<nh.length),i≠a→nh[a].2.1≠some ⟨gk,0,none⟩:=by
   intro a ha AA e
   rcases hf with hf | hf
   ·have e3:=jB (h.kids _ (yL hi)) hf;exact AA (h.apart i a hi ha (e3.trans e.symm) (by rw[e3]; simp))
   ·have:=(VY (h.kids _ (yL ha)) e).2
    omega
  rw[List.getElem_modify,List.getElem_modify] at he;rw[List.getElem_modify] at hn
  split at he <;> split at he
  ·omega
  ·rename_i h1 h2;exact absurd he.symm (AC b hb h2)
  ·rename_i h1 h2;exact absurd he (AC a ha h1)
  ·rename_i h1 h2;rw[if_neg h1] at hn;exact h.apart a b ha hb he hn
 ·obtain⟨a,ha,rfl⟩:=List.mem_iff_getElem.1 hy;rw[List.length_modify] at ha;rw[List.getElem_modify] at h0 ⊢
  split
  ·rename_i AA;rw[if_pos AA] at h0
   simp at h0
  ·rename_i AA;rw[if_neg AA] at h0;exact h.kz _ (yL ha) h0
theorem zSd {W:World}{B:Nat}{tn ti:TypeId}{A:Option Addr}{c:Nat}{nh:List (Nd × Hd2)}(h:NS W B tn ti A c nh){i:Nat}(hi:i<nh.length)(f:Nd→Nd){gk cap:Nat}
  (hf:(Value.slice nh[i].2.1 nh[i].1.kids.length nh[i].2.2).ownBlock=some gk∨W.heap.size≤gk) (b:Nat) (hb:zHs A (nh.modify i fun x=>(f x.1,(some ⟨gk,0,none⟩,cap))) b):zHs A nh b∨W.heap.size≤b:=by
 rcases hb with hb | hb
 ·exact .inl (.inl hb)
 ·obtain⟨x,hx,e⟩:=List.mem_map.1 hb;obtain⟨a,ha,rfl⟩:=List.mem_iff_getElem.1 hx;rw[List.length_modify] at ha;rw[List.getElem_modify] at e
  split at e
  ·injection e with e;injection e with e;subst e
   rcases hf with hf | hf
   ·exact .inl (.inr (List.mem_map.2 ⟨nh[i],yL hi,jB (h.kids _ (yL hi)) hf⟩))
   ·exact .inr hf
  ·exact .inl (.inr (List.mem_map.2 ⟨nh[a],yL ha,e⟩))
structure xS where
 bt:Nat
 ot:Nat
 ct:Nat
 A:Option Addr
 c:Nat
 nh:List (Nd × Hd2)
structure PS (w:World)(p B:Nat)(s:Ps)(R:xS):Prop where
 blk:Blk w p 75 #[.slice (some ⟨R.bt,R.ot,none⟩) s.ts.length R.ct,.slice R.A R.nh.length R.c,.int .i64 (s.deep:Int)]
 zNy:∀k,k<s.ts.length*5→w.cell? ⟨R.bt,R.ot+k,none⟩=(xL s.ts)[k]?
 zJS:s.ts.length≤R.ct
 zE4:R.bt<B
 nodes:s.nd=R.nh.map Prod.fst
 ns:NS w B 48 3 R.A R.c R.nh
 pB:B≤p
 xQ:zEo s
def xG (p:Nat)(R:xS)(b:Nat):Prop:=b=p∨zHs R.A R.nh b
theorem PS.ext {w w':World}{p B:Nat}{s:Ps}{R:xS}(h:PS w p B s R)(hx:Ext w w'):PS w' p B s R:=
 ⟨h.blk.ext hx,fun k hk=>(hx.cell (p:=⟨R.bt,R.ot+k,none⟩) (yR h.zE4 (Nat.le_trans h.pB (zS h.blk.lt)))).trans (h.zNy k hk),h.zJS,h.zE4,h.nodes,h.ns.ext hx,h.pB,h.xQ⟩
theorem PS.len {w:World}{p B:Nat}{s:Ps}{R:xS}(h:PS w p B s R):s.nd.length=R.nh.length:=by rw[h.nodes,yN]
theorem PS.tok {w:World}{p B:Nat}{s:Ps}{R:xS}(h:PS w p B s R)(j:Nat)(hj:j<5):w.cell? ⟨R.bt,R.ot+j,none⟩=(YC s.hd)[j]?:=by
 obtain⟨t,r,hs,ht⟩:=h.xQ.hd;have hp:=h.xQ.pos;rw[h.zNy j (by omega),hs,ht]
 show(YC t++xL r)[j]?=_
 rw[List.getElem?_append_left (by show j<5; exact hj)]
theorem PS.x0 {w:World}{p B:Nat}{s:Ps}{R:xS}(h:PS w p B s R):w.cell? ⟨p,0,none⟩=some (.slice (some ⟨R.bt,R.ot,none⟩) s.ts.length R.ct):=h.blk.cell 0
theorem PS.x1 {w:World}{p B:Nat}{s:Ps}{R:xS}(h:PS w p B s R):w.cell? ⟨p,1,none⟩=some (.slice R.A R.nh.length R.c):=h.blk.cell 1
theorem PS.x2 {w:World}{p B:Nat}{s:Ps}{R:xS}(h:PS w p B s R):w.cell? ⟨p,2,none⟩=some (.int .i64 (s.deep:Int)):=h.blk.cell 2
theorem PS.t0 {w:World}{p B:Nat}{s:Ps}{R:xS}(h:PS w p B s R):w.cell? ⟨R.bt,R.ot,none⟩=some (.int .u8 (s.hd.kind:Int)):=h.tok 0 (by decide)
theorem PS.t1 {w:World}{p B:Nat}{s:Ps}{R:xS}(h:PS w p B s R):w.cell? ⟨R.bt,R.ot+1,none⟩=some (.int .i64 (s.hd.at_:Int)):=h.tok 1 (by decide)
theorem PS.t2 {w:World}{p B:Nat}{s:Ps}{R:xS}(h:PS w p B s R):w.cell? ⟨R.bt,R.ot+2,none⟩=some (.int .i64 (s.hd.en:Int)):=h.tok 2 (by decide)
theorem PS.t3 {w:World}{p B:Nat}{s:Ps}{R:xS}(h:PS w p B s R):w.cell? ⟨R.bt,R.ot+3,none⟩=some (.string (yX s.hd.text)):=h.tok 3 (by decide)
theorem PS.t4 {w:World}{p B:Nat}{s:Ps}{R:xS}(h:PS w p B s R):w.cell? ⟨R.bt,R.ot+4,none⟩=some (.int .i64 s.hd.n):=h.tok 4 (by decide)
theorem PS.btl {w:World}{p B:Nat}{s:Ps}{R:xS}(h:PS w p B s R):R.bt<w.heap.size:=yR h.zE4 (Nat.le_trans h.pB (zS h.blk.lt))
structure TS (w:World)(p:Nat)(s:Ps)(R:xS):Prop where
 blk:Blk w p 75 #[.slice (some ⟨R.bt,R.ot,none⟩) s.ts.length R.ct,.slice R.A R.nh.length R.c,.int .i64 (s.deep:Int)]
 tok:∀j,j<5→w.cell? ⟨R.bt,R.ot+j,none⟩=(YC s.hd)[j]?
 btl:R.bt<w.heap.size
 pos:0<s.ts.length
theorem PS.ts {w:World}{p B:Nat}{s:Ps}{R:xS}(h:PS w p B s R):TS w p s R:=⟨h.blk,h.tok,h.btl,h.xQ.pos⟩
theorem TS.grown {w w':World}{p:Nat}{s:Ps}{R:xS}{o:Option Nat}(h:TS w p s R)(hg:w.grownBy w' o)(h1:some p≠o)(h2:some R.bt≠o):TS w' p s R:=
 ⟨(hg.block p h.blk.lt h1).trans h.blk,fun j hj=>(World.cell?_of_block (w:=w) (hg.block R.bt h.btl h2)).trans (h.tok j hj),yR h.btl hg.size,h.pos⟩
theorem ZG (w:World)(p:Nat)(s:Ps)(R:xS)(h:TS w p s R) :
  Calls Tryz.prog 38 #[.pointer (some ⟨p,0,none⟩)] w fun e w'=>e=.returned (.agg (YC s.hd).toArray)∧Ext w w':=by
 have x0:w.cell? ⟨p,0,none⟩=some (.slice (some ⟨R.bt,R.ot,none⟩) s.ts.length R.ct):=h.blk.cell 0;have t0:w.cell? ⟨R.bt,R.ot,none⟩=some (.int .u8 (s.hd.kind:Int)):=h.tok 0 (by decide);have t1:w.cell? ⟨R.bt,R.ot+1,none⟩=some (.int .i64 (s.hd.at_:Int)):=h.tok 1 (by decide);have t2:w.cell? ⟨R.bt,R.ot+2,none⟩=some (.int .i64 (s.hd.en:Int)):=h.tok 2 (by decide);have t3:w.cell? ⟨R.bt,R.ot+3,none⟩=some (.string (yX s.hd.text)):=h.tok 3 (by decide);have t4:w.cell? ⟨R.bt,R.ot+4,none⟩=some (.int .i64 s.hd.n):=h.tok 4 (by decide);have AA:=h.pos
 have q0:(0:Int)<(s.ts.length:Int):=by omega
 have AC:=h.blk.lt;have AB:=h.btl;clear h;unfold YC;generalize s.hd=t at *;generalize s.ts.length=n at *
 go_enter Tryz.func38,Tryz.ntmps38
 go_wp2
 refine bodyPost_ret (v:=.agg #[.int .u8 (t.kind:Int),.int .i64 (t.at_:Int),.int .i64 (t.en:Int),.string (yX t.text),.int .i64 t.n]) (by simp[results,Tryz.results38,go_sem]) rfl ⟨rfl,?_⟩;exact Ext.alloc _ _
theorem zVF (t:Bs)(s:Ps):isP t s=((s.hd.kind != 4&&s.hd.kind != 2)&&s.hd.text==t):=rfl
theorem XT (w:World)(p B:Nat)(s:Ps)(R:xS)(t:Bs)(b:Bool)(hb:Hid (isP t s=b))(h:PS w p B s R) :
  Calls Tryz.prog 82 #[.pointer (some ⟨p,0,none⟩),.string (yX t)] w fun e w'=>e=.returned (.bool b)∧Ext w w':=by
 have HP:=yD h;clear h;obtain⟨k,hk⟩:∃k,k=s.hd.kind:=⟨_,rfl⟩;obtain⟨x,hx⟩:∃x,x=s.hd.text:=⟨_,rfl⟩;have HB:Hid (((k != 4&&k != 2)&&x==t)=b):=yD (by rw[←hb.out,zVF,hk,hx])
 go_enter Tryz.func82,Tryz.ntmps82
 go_wp2_with fail
 refine(ZG w p s R HP.out.ts).mono ?_;rintro e w1 ⟨rfl,AA⟩;have HX:=yD AA;unfold YC;rw[←hk,←hx];clear AA hk hx
 by_cases h4:k=4
 ·subst h4
  go_wp2_with fail
  go_ret;exact⟨zDl (by rw[←HB.out]; rfl),HX.out.trans (Ext.alloc _ _)⟩
 ·by_cases h2:k=2
  ·subst h2
   go_wp2_with fail
   go_ret;exact⟨zDl (by rw[←HB.out]; rfl),HX.out.trans (Ext.alloc _ _)⟩
  ·have i4:¬(k:Int)=4:=by omega
   have i2:¬(k:Int)=2:=by omega
   have HK:=yD (And.intro h4 h2);clear h4 h2
   go_wp2_with fail
   go_ret;refine⟨zDl ?_,HX.out.trans (Ext.alloc _ _)⟩;rw[←HB.out];simp only[zBL];have h4:=HK.out.1;have h2:=HK.out.2
   have a4:((k:Int) != 4)=true:=by rw[zD]; omega
   have a2:((k:Int) != 2)=true:=by rw[zD]; omega
   have b4:(k != 4)=true:=by rw[zD]; omega
   have b2:(k != 2)=true:=by rw[zD]; omega
   rw[a4,a2,b4,b2]
theorem xH.set {w:World}{M:Nat→Prop}{g i:Nat}{u:Value}(h:M g):xH w M (w.setCell ⟨g,i,none⟩ u) M:=
 ⟨rfl,rfl,rfl,by simp[World.setCell],fun b hb hM=>zQ w ⟨g,i,none⟩ u b (fun e=>hM (by rw[e]; exact h)),fun b h=>.inl h⟩
def jW (er:Int):Ending:=.panicked [{ v:=.iface 54 (.int .i64 er),recovered:=false }]
theorem yZ {P:Program}{fn:Func}{R:Ending→World→Prop}{a:Act}{w:World}{er:Int}(hd:a.defers=[])(h:R (jW er) w):bodyPost P fn R (Exit.panic [{ v:=.iface 54 (.int .i64 er),recovered:=false }]) a w:=⟨hd,h⟩
def OkP (w:World)(p B:Nat)(R:xS)(s':Ps)(w':World):Prop:=∃R',PS w' p B s' R'∧xH w (xG p R) w' (xG p R')
def VK (w:World)(p B:Nat)(R:xS)(er:Int)(at_:Nat)(e:Ending)(w':World):Prop:=e=jW er∧∃s',s'.hd.at_=at_∧OkP w p B R s' w'
def xI (w:World)(p B:Nat)(R:xS)(r:Res Unit)(e:Ending)(w':World):Prop:=
 match r with
 | .ok _ s'=>e=.returned (.tuple #[])∧OkP w p B R s' w'
 | .err er a=>VK w p B R er a e w'
theorem xI.ok {w:World}{p B:Nat}{R:xS}{s':Ps}{w':World}(h:OkP w p B R s' w'):xI w p B R (.ok () s') (.returned (.tuple #[])) w':=⟨rfl,h⟩
theorem xI.err {w:World}{p B:Nat}{R:xS}{er:Int}{a:Nat}{e:Ending}{w':World}(h:VK w p B R er a e w'):xI w p B R (.err er a) e w':=h
theorem OkP.trans {w w1 w2:World}{p B:Nat}{R R1:xS}{s:Ps}(h:xH w (xG p R) w1 (xG p R1))(k:OkP w1 p B R1 s w2):OkP w p B R s w2:=let ⟨R2,a,b⟩:=k; ⟨R2,a,h.trans b⟩
theorem VK.trans {w w1 w2:World}{p B:Nat}{R R1:xS}{er:Int}{a:Nat}{e:Ending}(h:xH w (xG p R) w1 (xG p R1))(k:VK w1 p B R1 er a e w2):VK w p B R er a e w2:=let ⟨x,s,y,z⟩:=k; ⟨x,s,y,OkP.trans h z⟩
theorem xI.trans {w w1 w2:World}{p B:Nat}{R R1:xS}{r:Res Unit}{e:Ending}(h:xH w (xG p R) w1 (xG p R1))(k:xI w1 p B R1 r e w2):xI w p B R r e w2:=by
 cases r with
 | ok a s=>exact⟨k.1,OkP.trans h k.2⟩
 | err er a=>exact VK.trans h k
theorem PS.zUT {w:World}{p B:Nat}{s:Ps}{R:xS}(h:PS w p B s R)(hk:s.hd.kind≠4) :
  PS (w.setCell ⟨p,0,none⟩ (.slice (some ⟨R.bt,R.ot+5,none⟩) (s.ts.length-1) (R.ct-1))) p B s.adv { R with ot:=R.ot+5,ct:=R.ct-1 }:=by
 have AC:=jX (s:=s);obtain⟨t,r,hs,ht⟩:=h.xQ.hd;have AB:=h.xQ.pos
 have AE:s.adv.ts=r:=by show s.ts.tail=r; rw[hs]; rfl
 refine⟨?_,fun k AA=>?_,?_,h.zE4,h.nodes,?_,h.pB,h.xQ.adv hk⟩
 ·have:=h.blk.put 0 (.slice (some ⟨R.bt,R.ot+5,none⟩) (s.ts.length-1) (R.ct-1))
  rw[AC]
  show Blk _ p 75 #[_,_,.int .i64 (s.deep:Int)]
  simpa using this
 ·rw[AE] at AA ⊢
  have AD:R.bt≠p:=by have:=h.zE4; have:=h.pB; omega
  rw[World.cell?_of_block (w:=w) (zQ w ⟨p,0,none⟩ _ R.bt AD)]
  show w.cell? ⟨R.bt,R.ot+5+k,none⟩=_
  rw[Nat.add_assoc,h.zNy (5+k) (by rw[hs]; simp only[zJ]; omega),hs]
  show(YC t++xL r)[5+k]?=_
  rw[List.getElem?_append_right (by show 5≤_; omega)]
  show(xL r)[5+k-5]?=_
  rw[show 5+k-5=k by omega]
 ·have:=h.zJS
  show s.adv.ts.length≤R.ct-1
  omega
 ·refine h.ns.zAf fun b hb=>zQ w ⟨p,0,none⟩ _ b fun e=>?_;rw[e] at hb;exact h.ns.zDm h.blk (by decide) (by decide) hb
theorem zBx (w:World)(p:Nat)(er:Int):Calls Tryz.prog 85 #[.pointer (some ⟨p,0,none⟩),.int .i64 er] w fun e w'=>e=jW er∧w=w':=by
 go_enter Tryz.func85,Tryz.ntmps85
 go_wp2
 exact⟨rfl,rfl,rfl⟩
theorem zAQ (w:World)(p B:Nat)(s:Ps)(R:xS)(t:Bs)(hb:Hid (isP t s=false))(h:PS w p B s R) :
  Calls Tryz.prog 133 #[.pointer (some ⟨p,0,none⟩),.string (yX t)] w fun e w'=>e=.returned (.bool false)∧Ext w w':=by
 have HP:=yD h;clear h
 go_enter Tryz.func133,Tryz.ntmps133
 go_wp2_with fail
 refine(XT w p B s R t false hb HP.out).mono ?_;rintro e w1 ⟨rfl,AA⟩;have HX:=yD AA;clear AA
 go_wp2_with fail
 go_ret;exact⟨rfl,HX.out⟩
theorem VO (w:World)(p B:Nat)(s:Ps)(R:xS)(t:Bs)(hb:Hid (isP t s=true))(h:PS w p B s R) :
  Calls Tryz.prog 133 #[.pointer (some ⟨p,0,none⟩),.string (yX t)] w fun e w'=>e=.returned (.bool true)∧OkP w p B R s.adv w':=by
 have HP:=yD h;clear h
 go_enter Tryz.func133,Tryz.ntmps133
 go_wp2_with fail
 refine(XT w p B s R t true hb HP.out).mono ?_;rintro e w1 ⟨rfl,AB⟩;have HX:=yD AB;have AA:=yD (HP.out.ext AB);have hk:=(vI hb.out).1;have HF:Hid (OkP w p B R s.adv (w1.setCell ⟨p,0,none⟩ (.slice (some ⟨R.bt,R.ot+5,none⟩) (s.ts.length-1) (R.ct-1)))):=yD ⟨_,AA.out.zUT hk,(xH.ext AB).trans (xH.set (.inl rfl))⟩
 have h2:2≤s.ts.length:=by
  have hg:=(AA.out.xQ.adv hk).pos;rw[jX] at hg;omega
 have h3:=AA.out.zJS;have x0:=AA.out.x0;have z0:=AA.out.blk.frozen 0;clear AB hk;generalize s.ts.length=n at *;generalize R.ct=ct at *
 go_wp2_with fail
 go_ret;exact⟨rfl,HF.out⟩
theorem PS.okp {w w':World}{p B:Nat}{s:Ps}{R:xS}(h:PS w p B s R)(hx:Ext w w'):OkP w p B R s w':=⟨R,h.ext hx,xH.ext hx⟩
theorem vX (w:World)(p B:Nat)(s:Ps)(R:xS)(t:Bs)(h:PS w p B s R) :
  Calls Tryz.prog 128 #[.pointer (some ⟨p,0,none⟩),.string (yX t)] w (xI w p B R (vE t s)):=by
 have HP:=yD h;clear h
 cases hi:isP t s with
 | true=>
  have HI:=yD hi;have HT:Hid (vE t s=.ok () s.adv):=yD (by unfold vE; rw[if_pos hi]);clear hi
  go_enter Tryz.func128,Tryz.ntmps128
  go_wp2_with fail
  refine(VO w p B s R t HI HP.out).mono ?_;rintro e w1 ⟨rfl,ho⟩;have HO:=yD ho;clear ho
  go_wp2_with fail
  go_end0;rw[HT.out];exact xI.ok HO.out
 | false=>
  have HI:=yD hi;have HT:Hid (vE t s=.err 50 s.hd.at_):=yD (by unfold vE; rw[hi]; rfl);clear hi
  go_enter Tryz.func128,Tryz.ntmps128
  go_wp2_with fail
  refine(zAQ w p B s R t HI HP.out).mono ?_;rintro e w1 ⟨rfl,hx⟩;have HX:=yD hx;clear hx
  go_wp2_with fail
  refine(zBx w1 p 50).mono ?_;rintro e w2 ⟨rfl,rfl⟩;have HE:Hid (xI w p B R (vE t s) (jW 50) w1):=yD (by rw[HT.out]; exact⟨rfl,s,rfl,HP.out.okp HX.out⟩);exact yZ rfl HE.out
def zDW (w:World)(p B:Nat)(R:xS)(v:Value)(r:Res Unit)(e:Ending)(w':World):Prop:=
 match r with
 | .ok _ s'=>e=.returned v∧OkP w p B R s' w'
 | .err er a=>VK w p B R er a e w'
theorem PS.zAf {w w':World}{p B:Nat}{s:Ps}{R:xS}(h:PS w p B s R)(hk:∀b,b<B∨xG p R b→w'.heap[b]?=w.heap[b]?):PS w' p B s R:=
 ⟨(hk p (.inr (.inl rfl))).trans h.blk,fun k AA=>(World.cell?_of_block (w:=w) (hk R.bt (.inl h.zE4))).trans (h.zNy k AA),h.zJS,h.zE4,h.nodes,h.ns.zAf fun b hb=>hk b (.inr (.inr hb)),h.pB,h.xQ⟩
theorem PS.zDm {w:World}{p B:Nat}{s:Ps}{R:xS}(h:PS w p B s R){g:Nat}{t:TypeId}{cs:Array Value}(hg:Blk w g t cs)(h1:t≠48)(h2:t≠3)(h3:t≠75):¬xG p R g:=by
 rintro (hb | hb)
 ·subst hb; exact Blk.differ hg h.blk h3 rfl
 ·exact h.ns.zDm hg h1 h2 hb
def xS.adv (R:xS):xS:={ R with ot:=R.ot+5,ct:=R.ct-1 }
def OkR (w:World)(p B:Nat)(R R':xS)(s':Ps)(w':World):Prop:=PS w' p B s' R'∧xH w (xG p R) w' (xG p R')
theorem OkR.okp {w:World}{p B:Nat}{R R':xS}{s':Ps}{w':World}(h:OkR w p B R R' s' w'):OkP w p B R s' w':=⟨R',h⟩
theorem OkR.ext {w:World}{p B:Nat}{R R':xS}{s':Ps}{w' w2:World}(h:OkR w p B R R' s' w')(hx:Ext w' w2):OkR w p B R R' s' w2:=⟨h.1.ext hx,h.2.trans (xH.ext hx)⟩
theorem OkR.YD {w W w':World}{p B g:Nat}{R R':xS}{s:Ps}(h:OkR w p B R R' s W)(ht:Touch g W w')(hg:w.heap.size≤g)(hB:B≤w.heap.size)(hn':¬xG p R' g):OkR w p B R R' s w':=by
 obtain⟨a,b⟩:=h;refine⟨a.zAf fun k hk=>ht.other k fun e=>?_,?_⟩
 ·subst e
  rcases hk with hk | hk
  ·omega
  ·exact hn' hk
 ·exact⟨ht.os.trans b.os,ht.tape.trans b.tape,ht.output.trans b.output,by rw[ht.size]; exact b.size,fun k hk hM=>(ht.other k (by omega)).trans (b.zAf k hk hM),b.zFT⟩
theorem OkP.YD {w W w':World}{p B g:Nat}{R:xS}{s:Ps}(h:OkP w p B R s W)(ht:Touch g W w')(hg:w.heap.size≤g)(hB:B≤w.heap.size)(hn:∀R',PS W p B s R'→¬xG p R' g):OkP w p B R s w':=
 let ⟨R',a⟩:=h
 ⟨R',OkR.YD a ht hg hB (hn R' a.1)⟩
theorem PS.okr {w W:World}{p B:Nat}{s:Ps}{R:xS}(h:PS W p B s R)(hx:Ext w W)(hk:s.hd.kind≠4):OkR w p B R R.adv s.adv (W.setCell ⟨p,0,none⟩ (.slice (some ⟨R.bt,R.ot+5,none⟩) (s.ts.length-1) (R.ct-1))):=
 ⟨h.zUT hk,(xH.ext hx).trans (xH.set (.inl rfl))⟩
theorem zIN (w:World)(p B:Nat)(s:Ps)(R:xS)(k:Nat)(hk:Hid (s.hd.kind=k))(h4:k≠4)(h:PS w p B s R) :
  Calls Tryz.prog 161 #[.pointer (some ⟨p,0,none⟩),.int .u8 (k:Int)] w fun e w'=>e=.returned (.agg (YC s.hd).toArray)∧OkR w p B R R.adv s.adv w':=by
 have HP:=yD h;clear h
 go_enter Tryz.func161,Tryz.ntmps161
 go_wp2_with fail
 have AG:=yD (Blk.new w 29 #[.int .u8 0,.int .i64 0,.int .i64 0,.string ⟨#[]⟩,.int .i64 0]);refine(ZG _ p s R (HP.out.ext (Ext.alloc _ _)).ts).mono ?_;rintro e w1 ⟨rfl,AB⟩;have AJ:=yD (AG.out.ext AB);have HX:=yD ((Ext.alloc _ _).trans AB)
 have AH:(s.hd.kind:Int)=(k:Int):=by rw[hk.out]
 have AC:s.hd.kind≠4:=by rw[hk.out]; exact h4
 have AA:=yD (HP.out.ext HX.out);have HO:=yD (AA.out.okr HX.out AC);have AL:p≠w.heap.size:=Nat.ne_of_lt HP.out.blk.lt;have AF:Hid (Blk (w1.setCell ⟨p,0,none⟩ (.slice (some ⟨R.bt,R.ot+5,none⟩) (s.ts.length-1) (R.ct-1))) w.heap.size 29 #[.int .u8 0,.int .i64 0,.int .i64 0,.string ⟨#[]⟩,.int .i64 0]):=yD (AJ.out.far (p:=⟨p,0,none⟩) (Ne.symm AL) _);have AI:Hid (B≤w.heap.size):=yD (Nat.le_trans HP.out.pB (zS HP.out.blk.lt))
 have h2:2≤s.ts.length:=by
  have hg:=(AA.out.xQ.adv AC).pos;rw[jX] at hg;omega
 have h3:=AA.out.zJS;have x0:=AA.out.x0;have z0:=AA.out.blk.frozen 0;have AM:p<w1.heap.size:=AA.out.blk.lt;unfold YC at *;clear AB AC
 go_wp2_with (refine vJ rfl 29 (.tmp 4) (.tmp 22) rfl w.heap.size #[.int .u8 (k:Int),.int .i64 (s.hd.at_:Int),.int .i64 (s.hd.en:Int),.string (yX s.hd.text),.int .i64 s.hd.n] (by rfl) (by rfl) 29 _ (AF.out.ext (Ext.alloc _ _)) (by kernel_rfl) rfl rfl ?_; intro w3 AD AE)
 have HF:=yD ((HO.out.ext (Ext.alloc _ _)).YD AD (zU _) AI.out (HO.out.1.zDm AF.out (by decide) (by decide) (by decide)));have AK:=yD AE;clear AD AE
 go_wp2_with fail
 exact zCk w.heap.size 29 _ _ Tryz.results161 rfl rfl AK.out Tryz.underlying29 rfl (by kernel_rfl) ⟨by unfold YC; rw[AH],HF.out⟩
theorem zTo (w:World)(p B:Nat)(s:Ps)(R:xS)(k:Nat)(hk:Hid (s.hd.kind≠k))(h:PS w p B s R) :
  Calls Tryz.prog 161 #[.pointer (some ⟨p,0,none⟩),.int .u8 (k:Int)] w (VK w p B R 50 s.hd.at_):=by
 have HP:=yD h;clear h
 go_enter Tryz.func161,Tryz.ntmps161
 go_wp2_with fail
 refine(ZG _ p s R (HP.out.ext (Ext.alloc _ _)).ts).mono ?_;rintro e w1 ⟨rfl,AA⟩;have HX:=yD ((Ext.alloc _ _).trans AA)
 have AB:¬(s.hd.kind:Int)=(k:Int):=by have:=hk.out; omega
 have HF:Hid (∀o,VK w p B R 50 s.hd.at_ (jW 50) (w1.alloc o)):=yD fun o=>⟨rfl,s,rfl,HP.out.okp (HX.out.trans (Ext.alloc _ _))⟩;unfold YC;clear AA
 go_wp2_with fail
 refine(zBx _ p 50).mono ?_;rintro e w2 ⟨rfl,rfl⟩;exact yZ rfl (HF.out _)
end Go.Proofs.YtioffpjajhalaaaGreatDoor
