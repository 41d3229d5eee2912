/- Appends onto rows of the call's own, elements of five cells and of one: what each leaves as it was; where the new row lies. (and what follows of it). The conditions stand at each lemma. -/
import Derived.Test.YtbadjmmjbpeocaaGreatJaa
import Derived.Test.YtbadjmmjbpeocaaGreatJah
import Derived.Deep.Cut
set_option linter.unusedVariables false
set_option linter.unusedSimpArgs false
set_option maxRecDepth 100000
set_option maxHeartbeats 16000000
namespace Go.Proofs.YtbadjmmjbpeocaaGreat
open Go Go.RowKit
def zAj (N:Nat)(e:TypeId)(n:Nat)(xs:List Value)(v:Value)(w:World):Prop:=
 w.ownsRow N e 5 v n xs∧∃A c,v=.slice A n c∧(A=none→c=0)∧(n=0→c=0)
def zKA (e:TypeId)(k:Nat)(cs:Array Value)(v:Value)(w:World):Prop:=∃g,v=.slice (some ⟨g,0,none⟩) k k∧Blk w g e cs
def zIh (e:TypeId)(cs:Array Value)(N:Nat)(v:Value)(w:World):Prop:=∃g,v=.pointer (some ⟨g,0,none⟩)∧Blk w g e cs∧N≤g
structure zLL (N g n m cap:Nat)(e:TypeId)(xs news:List Value)(w w':World):Prop where
 other:∀k,k≠g→w'.heap[k]?=w.heap[k]?
 room:n+m≤cap
 xl:xs.length=n*5
 ml:news.length=m*5
 cells:∃cur cur':Array Value,w.heap[g]?=some (.cells cur e (0,0))∧w'.heap[g]?=some (.cells cur' e (0,0))∧cur.size=cap*5∧cur'.size=cap*5∧cur.toList.take (n*5)=xs∧cur'.toList.take ((n+m)*5)=xs++news
theorem zAj.ext {N:Nat}{e:TypeId}{n:Nat}{xs:List Value}{v:Value}{w w':World}(h:zAj N e n xs v w)(hx:Ext w w'):zAj N e n xs v w':=⟨zB1 h.1 hx,h.2⟩
theorem zKA.ext {e:TypeId}{k:Nat}{cs:Array Value}{v:Value}{w w':World}(h:zKA e k cs v w)(hx:Ext w w'):zKA e k cs v w':=let ⟨g,a,b⟩:=h; ⟨g,a,b.ext hx⟩
theorem zIh.ext {e:TypeId}{cs:Array Value}{N:Nat}{v:Value}{w w':World}(h:zIh e cs N v w)(hx:Ext w w'):zIh e cs N v w':=let ⟨g,a,b,c⟩:=h; ⟨g,a,b.ext hx,c⟩
theorem zKA.roomy {N g n m cap:Nat}{e e':TypeId}{xs news:List Value}{w w':World}{k:Nat}{cs:Array Value}{v:Value}(hr:zLL N g n m cap e xs news w w')(h:zKA e' k cs v w)(hs:cs.size<(n+m)*5):zKA e' k cs v w':=by
 obtain⟨g',rfl,hb⟩:=h;refine⟨g',rfl,?_⟩
 by_cases hg:g'=g
 ·subst hg;obtain⟨AB,AA,h1,h2,h3,_⟩:=hr.cells;unfold Blk at hb;rw[hb] at h1;injection h1 with h1;injection h1 with h1;subst h1
  have:=hr.room
  have:(n+m)*5≤cap*5:=Nat.mul_le_mul_right _ this
  omega
 ·exact(hr.other g' hg).trans hb
theorem zIh.roomy {N g n m cap:Nat}{e e':TypeId}{xs news:List Value}{w w':World}{cs:Array Value}{M:Nat}{v:Value}(hr:zLL N g n m cap e xs news w w')(h:zIh e' cs M v w)(hs:e'≠e):zIh e' cs M v w':=by
 obtain⟨g',rfl,hb,hM⟩:=h;refine⟨g',rfl,?_,hM⟩
 by_cases hg:g'=g
 ·subst hg;obtain⟨AB,AA,h1,h2,h3,_⟩:=hr.cells;unfold Blk at hb;rw[hb] at h1;injection h1 with h1;injection h1 with h1 h4;exact absurd h4 hs
 ·exact(hr.other g' hg).trans hb
theorem zAj.roomy {N g n m cap:Nat}{e:TypeId}{xs news:List Value}{w w':World}{k:Nat}{ys:List Value}{v:Value}(hr:zLL N g n m cap e xs news w w')(h:zAj N e k ys v w)(hs:k≤n∨(k=n+m∧ys=xs++news)):zAj N e k ys v w':=by
 refine⟨⟨h.1.1,?_⟩,h.2⟩;have AG:=h.1.1
 rcases h.1.2 with hn | ⟨g',AC,AA,hv,hb,hh,a1,a2,a3,a4⟩
 ·exact .inl hn
 ·by_cases hg:g'=g
  ·subst hg;obtain⟨AF,AB,h1,h2,h3,h4,h5,h6⟩:=hr.cells;rw[hh] at h1;injection h1 with h1;injection h1 with h1;subst h1;refine .inr ⟨g',AC,AB,hv,hb,h2,a1,a2,by omega,?_⟩
   rcases hs with hs | ⟨rfl,rfl⟩
   ·have AE:k*5≤n*5:=Nat.mul_le_mul_right _ hs
    have AD:k*5≤(n+m)*5:=by omega
    have e1:(AB.toList.take ((n+m)*5)).take (k*5)=AB.toList.take (k*5):=by rw[List.take_take,Nat.min_eq_left AD]
    have e2:(AA.toList.take (n*5)).take (k*5)=AA.toList.take (k*5):=by rw[List.take_take,Nat.min_eq_left AE]
    rw[←e1,h6,List.take_append_of_le_length (by rw[hr.xl]; exact AE),←h5,e2,a4]
   ·exact h6
  ·exact .inr ⟨g',AC,AA,hv,hb,(hr.other g' hg).trans hh,a1,a2,a3,a4⟩
theorem zLb {P:Program}(w:World)(N:Nat)(t ty e:TypeId)(i:TypeInfo)(z:Value)(bytes:Nat)(ht:P.underlying t=some (.slice e))(hi:P.info? e=some i)(hz:i.zero=some z)
  (hsize:i.size=5) (hby:i.bytes=bytes) (hzs:z.cells.size=5) (v:Value) (n:Nat) (xs:List Value) (hrow:zAj N e n xs v w)
  (A:Option Addr) (m c:Nat) (news:List Value) (hc0:A=none→c=0) (hl:news.length=m*5) (hr:Cells w A news) (h1:∀u ∈ news,u.oneCell'=true)
  (h63:n+m≤maxLen) (hbytes:(n+m)*bytes≤140737488355328) (hN:N≤w.heap.size) :
  ∃v' w',(Builtin.append_ #[t,t] ty #[v,.slice A m c]).run P w=.ok v' w'∧zAj N e (n+m) (xs++news) v' w'∧(Ext w w'∨(0<n∧0<m∧Below N w w'∧∃g cap,v.ownBlock=some g∧zLL N g n m cap e xs news w w'))∧(m=0∨v'.ownBlock=v.ownBlock∨v'.ownBlock=some w.heap.size):=by
 have AK:n+m≤9223372036854775807:=by simp only[maxLen] at h63; omega
 have AD:(xs++news).length=(n+m)*5:=by rw[yP,hrow.1.1,hl,Nat.add_mul]
 by_cases hm:m=0
 ·subst hm;have hn:news=[]:=List.eq_nil_of_length_eq_zero (by simpa using hl);subst hn;refine⟨v,w,?_,by simpa using hrow,.inl (Ext.refl w),.inl rfl⟩
  cases A with
  | none=>
   have:=hc0 rfl
   subst this;exact run_append_owned_none (P:=P) w N t ty e i 5 ht hi v n xs hrow.1
  | some ad=>
   rcases hrow.1.2 with ⟨rfl,rfl⟩ | ⟨g,cap,AB,rfl,_,hg,AN,_,AJ,_⟩
   ·simp[Builtin.append_,run_underlying ht,sizeOf,typeInfo,hi,Builtin.lenOf,Builtin.firstCells,loadCells,loadCellsFrom]
   ·have AG:n*i.size+([]:List Value).length≤AB.size:=by rw[hsize,AJ]; simp only[zL,Nat.add_zero]; exact Nat.mul_le_mul_right _ AN
    have:=run_append_room (P:=P) w t ty e i ht hi g n cap AB hg ad 0 c [] (by simp) (fun j u hu=>by simp at hu) (fun u hu=>by simp at hu) (by omega) AG
    rw[this];simp only[Nat.add_zero,List.append_nil,zL,List.take_append_drop,Array.toArray_toList];rw[setRow_self w g AB e (0,0) hg]
 ·obtain⟨ad,rfl⟩:∃ad,A=some ad:=by
   rcases hr with hr | ⟨b,AS,hA,_⟩
   ·subst hr; simp at hl; omega
   ·exact⟨_,hA⟩
  have AC:∀j u,news[j]?=some u→w.cell? (ad.add j)=some u:=by
   intro j u hu
   rcases hr with hr | ⟨b,AS,hA,_,hk⟩
   ·subst hr; simp at hu
   ·injection hA with hA;subst hA;have hj:j<news.length:=(List.getElem?_eq_some_iff.1 hu).1
    have:=(hk j hj).trans hu
    unfold Addr.add
    by_cases h0:j=0
    ·subst h0; simpa using this
    ·simp only[h0,if_false]; exact this
  subst hby
  have grown:∀(AF:Nat),AF<n+m →
    zAj N e (n+m) (xs++news) (.slice (some ⟨w.heap.size,0,none⟩) (n+m) (grownCap w (n+m) AF e)) (w.drew.alloc (.cells (xs.toArray++news.toArray++Builtin.zeroCells z.cells (grownCap w (n+m) AF e-(n+m))) e)) ∧
    Ext w (w.drew.alloc (.cells (xs.toArray++news.toArray++Builtin.zeroCells z.cells (grownCap w (n+m) AF e-(n+m))) e)):=by
   intro AF ho;have AR:=grownCap_ge w (n+m) AF e;have AL:grownCap w (n+m) AF e≤maxLen:=grownCap_le_maxLen w (n+m) AF e h63;refine⟨⟨⟨AD,.inr ⟨w.heap.size,_,_,rfl,hN,zQ w.drew _,AR,AL,?_,?_⟩⟩,_,_,rfl,(fun h=>by cases h),(fun h=>by omega)⟩,Ext.trans (Below.drew (Below.refl _ _)) (Ext.alloc _ _)⟩
   ·simp only[Array.size_append,List.size_toArray,size_zeroCells,hzs,hrow.1.1,hl,←Nat.add_mul]
    congr 1
    omega
   ·simp only[Array.toList_append,List.append_assoc];rw[←List.append_assoc,←AD];exact List.take_left
  rcases hrow.1.2 with ⟨rfl,rfl⟩ | ⟨g,cap,AB,rfl,AT,hg,AN,AL,AJ,AE⟩
  ·have hx:xs=[]:=List.eq_nil_of_length_eq_zero (by simpa using hrow.1.1);subst hx;have hr:=run_append_nil (P:=P) w t ty e i z ht hi hz ad m c news (by rw[hsize]; exact hl) AC (by omega) (by omega) (by have hb:=hbytes; simp only[Nat.zero_add] at hb; omega);have AH:=grown 0 (by omega);simp only[Nat.zero_add,List.nil_append,Array.empty_append] at AH ⊢;exact⟨_,_,hr,AH.1,.inl AH.2,.inr (.inr rfl)⟩
  ·by_cases AA:n+m≤cap
   ·have AO:0<n:=by
     rcases Nat.eq_zero_or_pos n with h0 | h0
     ·obtain⟨A',c',AQ,_,AP⟩:=hrow.2;injection AQ with _ _ hcc
      have:=AP h0
      omega
     ·exact h0
    have AG:n*i.size+news.length≤AB.size:=by rw[hl,AJ,hsize,←Nat.add_mul]; exact Nat.mul_le_mul_right _ AA
    have hr:=run_append_room (P:=P) w t ty e i ht hi g n cap AB hg ad m c news (by rw[hsize]; exact hl) AC h1 AA AG
    have AI:(AB.toList.take (n*i.size)++news++AB.toList.drop (n*i.size+news.length)).toArray.size=cap*5:=by
     simp only[List.size_toArray,yP,List.length_take,List.length_drop,Array.length_toList];omega
    have AM:(AB.toList.take (n*i.size)++news++AB.toList.drop (n*i.size+news.length)).toArray.toList.take ((n+m)*5)=xs++news:=by
     rw[hsize,AE,←AD];exact List.take_left
    refine⟨_,_,hr,⟨⟨AD,.inr ⟨g,cap,_,rfl,AT,setRow_heap w g AB _ e _ hg,AA,AL,AI,AM⟩⟩,_,_,rfl,(fun h=>by cases h),(fun h=>by omega)⟩,.inr ⟨AO,by omega,⟨rfl,rfl,rfl,by simp,fun k hk=>setRow_other w g k _ (by omega)⟩,g,cap,rfl,?_⟩,.inr (.inl rfl)⟩;exact⟨fun k hk=>setRow_other w g k _ hk,AA,hrow.1.1,hl,AB,_,hg,setRow_heap w g AB _ e _ hg,AJ,AI,AE,AM⟩
   ·have holds:∀j u,xs[j]?=some u→w.cell? ((⟨g,0,none⟩:Addr).add j)=some u:=hrow.1.cells (g:=g) rfl;have hr:=run_append_grow (P:=P) w t ty e i z ht hi hz ⟨g,0,none⟩ n cap xs (by rw[hsize]; exact hrow.1.1) holds ad m c news (by rw[hsize]; exact hl) AC (by omega) (by omega) (growslice_fits (by omega) hbytes);have AH:=grown cap (by omega);exact⟨_,_,hr,AH.1,.inl AH.2,.inr (.inr rfl)⟩
def VO (N:Nat)(e:TypeId)(n:Nat)(xs:List Value)(v:Value)(w:World):Prop:=
 w.ownsRow N e 1 v n xs∧∃A c,v=.slice A n c∧(A=none→c=0)∧(n=0→c=0)
def zKO (e:TypeId)(k:Nat)(cs:Array Value)(v:Value)(w:World):Prop:=∃g,v=.slice (some ⟨g,0,none⟩) k k∧Blk w g e cs
def zJ5 (e:TypeId)(cs:Array Value)(N:Nat)(v:Value)(w:World):Prop:=∃g,v=.pointer (some ⟨g,0,none⟩)∧Blk w g e cs∧N≤g
structure zLW (N g n m cap:Nat)(e:TypeId)(xs news:List Value)(w w':World):Prop where
 other:∀k,k≠g→w'.heap[k]?=w.heap[k]?
 room:n+m≤cap
 xl:xs.length=n*1
 ml:news.length=m*1
 cells:∃cur cur':Array Value,w.heap[g]?=some (.cells cur e (0,0))∧w'.heap[g]?=some (.cells cur' e (0,0))∧cur.size=cap*1∧cur'.size=cap*1∧cur.toList.take (n*1)=xs∧cur'.toList.take ((n+m)*1)=xs++news
theorem VO.ext {N:Nat}{e:TypeId}{n:Nat}{xs:List Value}{v:Value}{w w':World}(h:VO N e n xs v w)(hx:Ext w w'):VO N e n xs v w':=⟨zB1 h.1 hx,h.2⟩
theorem zKO.ext {e:TypeId}{k:Nat}{cs:Array Value}{v:Value}{w w':World}(h:zKO e k cs v w)(hx:Ext w w'):zKO e k cs v w':=let ⟨g,a,b⟩:=h; ⟨g,a,b.ext hx⟩
theorem zJ5.ext {e:TypeId}{cs:Array Value}{N:Nat}{v:Value}{w w':World}(h:zJ5 e cs N v w)(hx:Ext w w'):zJ5 e cs N v w':=let ⟨g,a,b,c⟩:=h; ⟨g,a,b.ext hx,c⟩
theorem zKO.roomy {N g n m cap:Nat}{e e':TypeId}{xs news:List Value}{w w':World}{k:Nat}{cs:Array Value}{v:Value}(hr:zLW N g n m cap e xs news w w')(h:zKO e' k cs v w)(hs:cs.size<(n+m)*1):zKO e' k cs v w':=by
 obtain⟨g',rfl,hb⟩:=h;refine⟨g',rfl,?_⟩
 by_cases hg:g'=g
 ·subst hg;obtain⟨AB,AA,h1,h2,h3,_⟩:=hr.cells;unfold Blk at hb;rw[hb] at h1;injection h1 with h1;injection h1 with h1;subst h1
  have:=hr.room
  have:(n+m)*1≤cap*1:=Nat.mul_le_mul_right _ this
  omega
 ·exact(hr.other g' hg).trans hb
theorem zJ5.roomy {N g n m cap:Nat}{e e':TypeId}{xs news:List Value}{w w':World}{cs:Array Value}{M:Nat}{v:Value}(hr:zLW N g n m cap e xs news w w')(h:zJ5 e' cs M v w)(hs:e'≠e):zJ5 e' cs M v w':=by
 obtain⟨g',rfl,hb,hM⟩:=h;refine⟨g',rfl,?_,hM⟩
 by_cases hg:g'=g
 ·subst hg;obtain⟨AB,AA,h1,h2,h3,_⟩:=hr.cells;unfold Blk at hb;rw[hb] at h1;injection h1 with h1;injection h1 with h1 h4;exact absurd h4 hs
 ·exact(hr.other g' hg).trans hb
theorem VO.roomy {N g n m cap:Nat}{e:TypeId}{xs news:List Value}{w w':World}{k:Nat}{ys:List Value}{v:Value}(hr:zLW N g n m cap e xs news w w')(h:VO N e k ys v w)(hs:k≤n∨(k=n+m∧ys=xs++news)):VO N e k ys v w':=by
 refine⟨⟨h.1.1,?_⟩,h.2⟩;have AG:=h.1.1
 rcases h.1.2 with hn | ⟨g',AC,AA,hv,hb,hh,a1,a2,a3,a4⟩
 ·exact .inl hn
 ·by_cases hg:g'=g
  ·subst hg;obtain⟨AF,AB,h1,h2,h3,h4,h5,h6⟩:=hr.cells;rw[hh] at h1;injection h1 with h1;injection h1 with h1;subst h1;refine .inr ⟨g',AC,AB,hv,hb,h2,a1,a2,by omega,?_⟩
   rcases hs with hs | ⟨rfl,rfl⟩
   ·have AE:k*1≤n*1:=Nat.mul_le_mul_right _ hs
    have AD:k*1≤(n+m)*1:=by omega
    have e1:(AB.toList.take ((n+m)*1)).take (k*1)=AB.toList.take (k*1):=by rw[List.take_take,Nat.min_eq_left AD]
    have e2:(AA.toList.take (n*1)).take (k*1)=AA.toList.take (k*1):=by rw[List.take_take,Nat.min_eq_left AE]
    rw[←e1,h6,List.take_append_of_le_length (by rw[hr.xl]; exact AE),←h5,e2,a4]
   ·exact h6
  ·exact .inr ⟨g',AC,AA,hv,hb,(hr.other g' hg).trans hh,a1,a2,a3,a4⟩
theorem zLf {P:Program}(w:World)(N:Nat)(t ty e:TypeId)(i:TypeInfo)(z:Value)(bytes:Nat)(ht:P.underlying t=some (.slice e))(hi:P.info? e=some i)(hz:i.zero=some z)
  (hsize:i.size=1) (hby:i.bytes=bytes) (hzs:z.cells.size=1) (v:Value) (n:Nat) (xs:List Value) (hrow:VO N e n xs v w)
  (A:Option Addr) (m c:Nat) (news:List Value) (hc0:A=none→c=0) (hl:news.length=m*1) (hr:Cells w A news) (h1:∀u ∈ news,u.oneCell'=true)
  (h63:n+m≤maxLen) (hbytes:(n+m)*bytes≤140737488355328) (hN:N≤w.heap.size) :
  ∃v' w',(Builtin.append_ #[t,t] ty #[v,.slice A m c]).run P w=.ok v' w'∧VO N e (n+m) (xs++news) v' w'∧(Ext w w'∨(0<n∧0<m∧Below N w w'∧∃g cap,v.ownBlock=some g∧zLW N g n m cap e xs news w w'))∧(m=0∨v'.ownBlock=v.ownBlock∨v'.ownBlock=some w.heap.size):=by
 have AK:n+m≤9223372036854775807:=by simp only[maxLen] at h63; omega
 have AD:(xs++news).length=(n+m)*1:=by rw[yP,hrow.1.1,hl,Nat.add_mul]
 by_cases hm:m=0
 ·subst hm;have hn:news=[]:=List.eq_nil_of_length_eq_zero (by simpa using hl);subst hn;refine⟨v,w,?_,by simpa using hrow,.inl (Ext.refl w),.inl rfl⟩
  cases A with
  | none=>
   have:=hc0 rfl
   subst this;exact run_append_owned_none (P:=P) w N t ty e i 1 ht hi v n xs hrow.1
  | some ad=>
   rcases hrow.1.2 with ⟨rfl,rfl⟩ | ⟨g,cap,AB,rfl,_,hg,AN,_,AJ,_⟩
   ·simp[Builtin.append_,run_underlying ht,sizeOf,typeInfo,hi,Builtin.lenOf,Builtin.firstCells,loadCells,loadCellsFrom]
   ·have AG:n*i.size+([]:List Value).length≤AB.size:=by rw[hsize,AJ]; simp only[zL,Nat.add_zero]; exact Nat.mul_le_mul_right _ AN
    have:=run_append_room (P:=P) w t ty e i ht hi g n cap AB hg ad 0 c [] (by simp) (fun j u hu=>by simp at hu) (fun u hu=>by simp at hu) (by omega) AG
    rw[this];simp only[Nat.add_zero,List.append_nil,zL,List.take_append_drop,Array.toArray_toList];rw[setRow_self w g AB e (0,0) hg]
 ·obtain⟨ad,rfl⟩:∃ad,A=some ad:=by
   rcases hr with hr | ⟨b,AS,hA,_⟩
   ·subst hr; simp at hl; omega
   ·exact⟨_,hA⟩
  have AC:∀j u,news[j]?=some u→w.cell? (ad.add j)=some u:=by
   intro j u hu
   rcases hr with hr | ⟨b,AS,hA,_,hk⟩
   ·subst hr; simp at hu
   ·injection hA with hA;subst hA;have hj:j<news.length:=(List.getElem?_eq_some_iff.1 hu).1
    have:=(hk j hj).trans hu
    unfold Addr.add
    by_cases h0:j=0
    ·subst h0; simpa using this
    ·simp only[h0,if_false]; exact this
  subst hby
  have grown:∀(AF:Nat),AF<n+m →
    VO N e (n+m) (xs++news) (.slice (some ⟨w.heap.size,0,none⟩) (n+m) (grownCap w (n+m) AF e)) (w.drew.alloc (.cells (xs.toArray++news.toArray++Builtin.zeroCells z.cells (grownCap w (n+m) AF e-(n+m))) e)) ∧
    Ext w (w.drew.alloc (.cells (xs.toArray++news.toArray++Builtin.zeroCells z.cells (grownCap w (n+m) AF e-(n+m))) e)):=by
   intro AF ho;have AR:=grownCap_ge w (n+m) AF e;have AL:grownCap w (n+m) AF e≤maxLen:=grownCap_le_maxLen w (n+m) AF e h63;refine⟨⟨⟨AD,.inr ⟨w.heap.size,_,_,rfl,hN,zQ w.drew _,AR,AL,?_,?_⟩⟩,_,_,rfl,(fun h=>by cases h),(fun h=>by omega)⟩,Ext.trans (Below.drew (Below.refl _ _)) (Ext.alloc _ _)⟩
   ·simp only[Array.size_append,List.size_toArray,size_zeroCells,hzs,hrow.1.1,hl,←Nat.add_mul]
    congr 1
    omega
   ·simp only[Array.toList_append,List.append_assoc];rw[←List.append_assoc,←AD];exact List.take_left
  rcases hrow.1.2 with ⟨rfl,rfl⟩ | ⟨g,cap,AB,rfl,AT,hg,AN,AL,AJ,AE⟩
  ·have hx:xs=[]:=List.eq_nil_of_length_eq_zero (by simpa using hrow.1.1);subst hx;have hr:=run_append_nil (P:=P) w t ty e i z ht hi hz ad m c news (by rw[hsize]; exact hl) AC (by omega) (by omega) (by have hb:=hbytes; simp only[Nat.zero_add] at hb; omega);have AH:=grown 0 (by omega);simp only[Nat.zero_add,List.nil_append,Array.empty_append] at AH ⊢;exact⟨_,_,hr,AH.1,.inl AH.2,.inr (.inr rfl)⟩
  ·by_cases AA:n+m≤cap
   ·have AO:0<n:=by
     rcases Nat.eq_zero_or_pos n with h0 | h0
     ·obtain⟨A',c',AQ,_,AP⟩:=hrow.2;injection AQ with _ _ hcc
      have:=AP h0
      omega
     ·exact h0
    have AG:n*i.size+news.length≤AB.size:=by rw[hl,AJ,hsize,←Nat.add_mul]; exact Nat.mul_le_mul_right _ AA
    have hr:=run_append_room (P:=P) w t ty e i ht hi g n cap AB hg ad m c news (by rw[hsize]; exact hl) AC h1 AA AG
    have AI:(AB.toList.take (n*i.size)++news++AB.toList.drop (n*i.size+news.length)).toArray.size=cap*1:=by
     simp only[List.size_toArray,yP,List.length_take,List.length_drop,Array.length_toList];omega
    have AM:(AB.toList.take (n*i.size)++news++AB.toList.drop (n*i.size+news.length)).toArray.toList.take ((n+m)*1)=xs++news:=by
     rw[hsize,AE,←AD];exact List.take_left
    refine⟨_,_,hr,⟨⟨AD,.inr ⟨g,cap,_,rfl,AT,setRow_heap w g AB _ e _ hg,AA,AL,AI,AM⟩⟩,_,_,rfl,(fun h=>by cases h),(fun h=>by omega)⟩,.inr ⟨AO,by omega,⟨rfl,rfl,rfl,by simp,fun k hk=>setRow_other w g k _ (by omega)⟩,g,cap,rfl,?_⟩,.inr (.inl rfl)⟩;exact⟨fun k hk=>setRow_other w g k _ hk,AA,hrow.1.1,hl,AB,_,hg,setRow_heap w g AB _ e _ hg,AJ,AI,AE,AM⟩
   ·have holds:∀j u,xs[j]?=some u→w.cell? ((⟨g,0,none⟩:Addr).add j)=some u:=hrow.1.cells (g:=g) rfl;have hr:=run_append_grow (P:=P) w t ty e i z ht hi hz ⟨g,0,none⟩ n cap xs (by rw[hsize]; exact hrow.1.1) holds ad m c news (by rw[hsize]; exact hl) AC (by omega) (by omega) (growslice_fits (by omega) hbytes);have AH:=grown cap (by omega);exact⟨_,_,hr,AH.1,.inl AH.2,.inr (.inr rfl)⟩
def vF (o:Option Nat)(Fs:List (Value→World→Prop))(w w':World):Prop:=w.grownBy w' o∧∀F ∈ Fs,∀v,F v w→F v w'
theorem zFe {o:Option Nat}{a b c:World}(h:a.grownBy b o)(k:b.grownBy c o):a.grownBy c o:=
 ⟨k.os.trans h.os,k.tape.trans h.tape,k.output.trans h.output,Nat.le_trans h.size k.size,fun n hn ho=>(k.block n (yU hn h.size) ho).trans (h.block n hn ho)⟩
theorem zAK {o:Option Nat}{a b:World}(h:Ext a b):a.grownBy b o:=⟨h.os,h.tape,h.output,h.size,fun n hn _=>h.block n hn⟩
theorem vF.trans {o:Option Nat}{Fs:List (Value→World→Prop)}(a b c:World)(h:vF o Fs a b)(k:vF o Fs b c):vF o Fs a c:=⟨zFe h.1 k.1,fun F hF v hv=>k.2 F hF v (h.2 F hF v hv)⟩
theorem vF.ext {o:Option Nat}{Fs:List (Value→World→Prop)}{w w':World}(hE:∀F ∈ Fs,∀v w w',F v w→Ext w w'→F v w')(h:Ext w w'):vF o Fs w w':=⟨zAK h,fun F hF v hv=>hE F hF v _ _ hv h⟩
theorem vF.refl {o:Option Nat}{Fs:List (Value→World→Prop)}(w:World):vF o Fs w w:=⟨zAK (Ext.refl w),fun _ _ _ h=>h⟩
theorem zA9 {P:Program}{id:Nat}{Q':Exit→Act→World→Prop}{a:Act}{w:World}{l:List Oper}{ks:List Take}(o:Option Nat)(Fs:List (Value→World→Prop))(m:Nat)(hm:P.follows .mixedOrders=true)(hB:YG l.toArray m=true)(hT:zBY l.toArray m=true)
  (hE:∀F ∈ Fs,∀v w w',F v w→Ext w w'→F v w')
  (h:ZF P l.toArray (vF o Fs) w (fun a' w'=>wpList P l.toArray Q' (l.drop m) a' w') (l.take m) ks a []):(Code.region id l.toArray true).wp P Q' a w:=
 ZZ (R:=vF o Fs) m ks hm hB hT vF.trans (vF.ext hE (Below.drew (Below.refl _ _))) h
def zBf (e:TypeId)(H:Nat)(cs:Array Value)(v:Value)(w:World):Prop:=∃g,v=.slice (some ⟨g,0,none⟩) 1 1∧Blk w g e cs∧H≤g
theorem zBf.ext {e:TypeId}{H:Nat}{cs:Array Value}{v:Value}{w w':World}(h:zBf e H cs v w)(hx:Ext w w'):zBf e H cs v w':=let ⟨g,a,b,c⟩:=h; ⟨g,a,b.ext hx,c⟩
def zME (N:Nat)(e:TypeId)(o:Option Nat)(H n:Nat)(ys:List Value)(v:Value)(w:World):Prop:=zAj N e n ys v w∧(v.ownBlock=o∨∃g,v.ownBlock=some g∧H≤g)
def FsK (N:Nat)(e:TypeId)(v0:Value)(H n:Nat)(xs news:List Value):List (Value→World→Prop):=[fun _ w=>zAj N e n xs v0 w,zBf e H news.toArray,zME N e v0.ownBlock H (n+1) (xs++news)]
theorem zHq (N:Nat)(e:TypeId)(v0:Value)(H n:Nat)(xs news:List Value):∀F ∈ FsK N e v0 H n xs news,∀v w w',F v w→Ext w w'→F v w':=by
 intro F hF v w w' h hx;simp only[FsK,zU,List.not_mem_nil,or_false] at hF
 rcases hF with rfl | rfl | rfl
 ·exact zAj.ext h hx
 ·exact h.ext hx
 ·exact⟨h.1.ext hx,h.2⟩
theorem zEv {P:Program}{w:World}{ρ:Operand→Value}{o:Oper}(N H:Nat)(s x:Operand)(t:TypeId)(ho:o.op=.call { callee:=.builtin .append,args:=#[s,x],argTypes:=#[t,t] })
  (e:TypeId) (i:TypeInfo) (z:Value) (bytes:Nat) (ht:P.underlying t=some (.slice e)) (hi:P.info? e=some i) (hz:i.zero=some z)
  (hsize:i.size=5) (hby:i.bytes=bytes) (hzs:z.cells.size=5) (v0:Value) (n:Nat) (xs news:List Value) (hs:ρ s=v0) (hrow:zAj N e n xs v0 w)
  (u:Value) (hu:ρ x=u) (hx:zBf e H news.toArray u w) (hl:news.length=5) (h1:∀u ∈ news,u.oneCell'=true) (h63:n+1≤maxLen) (hbytes:(n+1)*bytes≤140737488355328) (hN:N≤w.heap.size) (hH:H≤w.heap.size) (hog:∀g,v0.ownBlock=some g→g<H) :
  xA P ρ o w fun v' w'=>zME N e v0.ownBlock H (n+1) (xs++news) v' w'∧vF v0.ownBlock (FsK N e v0 H n xs news) w w':=by
 obtain⟨g,AE,hb,hg⟩:=hx;rw[AE] at hu;have hc:Cells w (some ⟨g,0,none⟩) news:=.inr ⟨g,0,rfl,hb.lt,fun k hk=>by rw[Nat.zero_add,hb.cell k]; simp⟩;obtain⟨v',w',AC,h2,h3,h4⟩:=zLb (P:=P) w N t o.type e i z bytes ht hi hz hsize hby hzs v0 n xs hrow (some ⟨g,0,none⟩) 1 1 news (fun h=>by cases h) (by rw[hl]) hc h1 h63 hbytes hN;unfold xA execOp;simp only[ho,resolve,invoke,builtin,Sem.run_bind,Sem.run_pure,Result.andThen_ok,List.map_toArray,List.map_cons,List.map_nil,hs,hu,AC];refine⟨⟨h2,?_⟩,?_⟩
 ·rcases h4 with h4 | h4 | h4
  ·omega
  ·exact .inl h4
  ·exact .inr ⟨_,h4,hH⟩
 ·rcases h3 with h3 | ⟨hn,hm,AB,g0,cap,AD,AA⟩
  ·exact vF.ext (zHq _ _ _ _ _ _ _) h3
  ·refine⟨⟨AB.os,AB.tape,AB.output,AB.size,fun k hk ho=>AA.other k fun e=>ho (by rw[e,AD])⟩,fun F hF v h=>?_⟩;have AF:=hog g0 AD;simp only[FsK,zU,List.not_mem_nil,or_false] at hF
   rcases hF with rfl | rfl | rfl
   ·exact zAj.roomy AA h (.inl (zX _))
   ·obtain⟨g',a,b,c⟩:=h;exact⟨g',a,(AA.other g' (by omega)).trans b,c⟩
   ·exact⟨zAj.roomy AA h.1 (.inr ⟨rfl,rfl⟩),h.2⟩
def zJB (N:Nat)(e:TypeId)(o:Option Nat)(H n:Nat)(ys:List Value)(v:Value)(w:World):Prop:=VO N e n ys v w∧(v.ownBlock=o∨∃g,v.ownBlock=some g∧H≤g)
def FsH (N:Nat)(e:TypeId)(v0:Value)(H n:Nat)(xs news:List Value):List (Value→World→Prop):=[fun _ w=>VO N e n xs v0 w,zBf e H news.toArray,zJB N e v0.ownBlock H (n+1) (xs++news)]
theorem zF1 (N:Nat)(e:TypeId)(v0:Value)(H n:Nat)(xs news:List Value):∀F ∈ FsH N e v0 H n xs news,∀v w w',F v w→Ext w w'→F v w':=by
 intro F hF v w w' h hx;simp only[FsH,zU,List.not_mem_nil,or_false] at hF
 rcases hF with rfl | rfl | rfl
 ·exact VO.ext h hx
 ·exact h.ext hx
 ·exact⟨h.1.ext hx,h.2⟩
theorem zCz {P:Program}{w:World}{ρ:Operand→Value}{o:Oper}(N H:Nat)(s x:Operand)(t:TypeId)(ho:o.op=.call { callee:=.builtin .append,args:=#[s,x],argTypes:=#[t,t] })
  (e:TypeId) (i:TypeInfo) (z:Value) (bytes:Nat) (ht:P.underlying t=some (.slice e)) (hi:P.info? e=some i) (hz:i.zero=some z)
  (hsize:i.size=1) (hby:i.bytes=bytes) (hzs:z.cells.size=1) (v0:Value) (n:Nat) (xs news:List Value) (hs:ρ s=v0) (hrow:VO N e n xs v0 w)
  (u:Value) (hu:ρ x=u) (hx:zBf e H news.toArray u w) (hl:news.length=1) (h1:∀u ∈ news,u.oneCell'=true) (h63:n+1≤maxLen) (hbytes:(n+1)*bytes≤140737488355328) (hN:N≤w.heap.size) (hH:H≤w.heap.size) (hog:∀g,v0.ownBlock=some g→g<H) :
  xA P ρ o w fun v' w'=>zJB N e v0.ownBlock H (n+1) (xs++news) v' w'∧vF v0.ownBlock (FsH N e v0 H n xs news) w w':=by
 obtain⟨g,AE,hb,hg⟩:=hx;rw[AE] at hu;have hc:Cells w (some ⟨g,0,none⟩) news:=.inr ⟨g,0,rfl,hb.lt,fun k hk=>by rw[Nat.zero_add,hb.cell k]; simp⟩;obtain⟨v',w',AC,h2,h3,h4⟩:=zLf (P:=P) w N t o.type e i z bytes ht hi hz hsize hby hzs v0 n xs hrow (some ⟨g,0,none⟩) 1 1 news (fun h=>by cases h) (by rw[hl]) hc h1 h63 hbytes hN;unfold xA execOp;simp only[ho,resolve,invoke,builtin,Sem.run_bind,Sem.run_pure,Result.andThen_ok,List.map_toArray,List.map_cons,List.map_nil,hs,hu,AC];refine⟨⟨h2,?_⟩,?_⟩
 ·rcases h4 with h4 | h4 | h4
  ·omega
  ·exact .inl h4
  ·exact .inr ⟨_,h4,hH⟩
 ·rcases h3 with h3 | ⟨hn,hm,AB,g0,cap,AD,AA⟩
  ·exact vF.ext (zF1 _ _ _ _ _ _ _) h3
  ·refine⟨⟨AB.os,AB.tape,AB.output,AB.size,fun k hk ho=>AA.other k fun e=>ho (by rw[e,AD])⟩,fun F hF v h=>?_⟩;have AF:=hog g0 AD;simp only[FsH,zU,List.not_mem_nil,or_false] at hF
   rcases hF with rfl | rfl | rfl
   ·exact VO.roomy AA h (.inl (zX _))
   ·obtain⟨g',a,b,c⟩:=h;exact⟨g',a,(AA.other g' (by omega)).trans b,c⟩
   ·exact⟨VO.roomy AA h.1 (.inr ⟨rfl,rfl⟩),h.2⟩
theorem zMR:(Tryz.prog.info? 38).map (fun i=>(i.zero,i.size,i.bytes))=some (some (.agg #[.int .u8 0,.int .i64 0,.string ⟨#[]⟩,.int .i64 0,.slice none 0 0]),5,64):=by kernel_rfl
theorem zHo:(Tryz.prog.info? 3).map (fun i=>(i.zero,i.size,i.bytes))=some (some (.int .i64 0),1,8):=by kernel_rfl
theorem PS.snoc {w W w1:World}{p B:Nat}{s:Ps}{R:xX}(h:PS W p B s R)(hw:Ext w W)(x:Nd)(hx:x.kids=[]){g cap:Nat}
  (ho:w1.ownsRow B 38 5 (.slice (some ⟨g,0,none⟩) (R.nh.length+1) cap) (R.nh.length+1) (ncs R.nh++YM (x,(none,0)))) (hg:W.grownBy w1 (Value.slice R.A R.nh.length R.c).ownBlock)
  (hf:(Value.slice R.A R.nh.length R.c).ownBlock=some g∨w.heap.size≤g) :
  PS (w1.setCell ⟨p,1,none⟩ (.slice (some ⟨g,0,none⟩) (R.nh.length+1) cap)) p B (s.add x) { R with A:=some ⟨g,0,none⟩,c:=cap,nh:=R.nh++[(x,(none,0))] } ∧
   xC w (xK p R) (w1.setCell ⟨p,1,none⟩ (.slice (some ⟨g,0,none⟩) (R.nh.length+1) cap)) (xK p { R with A:=some ⟨g,0,none⟩,c:=cap,nh:=R.nh++[(x,(none,0))] }):=by
 have AA:(Value.slice R.A R.nh.length R.c).ownBlock≠some p:=fun e=>by
  obtain⟨AG,hc⟩:=vA h.ns.row (xP h.ns.row e);exact Blk.differ h.blk hc (by decide) rfl
 have AC:Blk w1 p 101 _:=(hg.block p h.blk.lt (fun e=>AA e.symm)).trans h.blk;have AI:=h.pB;have AH:=h.blk.lt;have AB:=(h.ns.snoc (by decide) x hx ho hg);refine⟨⟨?_,fun k hk=>?_,h.zIr,h.zE9,?_,?_,h.pB,⟨h.xV.last,h.xV.deep⟩⟩,?_⟩
 ·have:=AC.put 1 (.slice (some ⟨g,0,none⟩) (R.nh.length+1) cap)
  show Blk _ p 101 #[.slice _ s.ts.length _,.slice _ (R.nh++[(x,(none,0))]).length _,.int .i64 (s.deep:Int)]
  rw[yP]
  simpa using this
 ·have AF:=h.zE9
  have AD:R.bt≠p:=by omega
  show(w1.setCell _ _).cell? ⟨R.bt,R.ot+k,none⟩=_
  have e1:w1.heap[R.bt]?=W.heap[R.bt]?:=hg.block R.bt h.btl fun e=>by
   have:=(jD h.ns.row (xP h.ns.row e.symm)).1
   omega
  have e2:=World.cell?_of_block (w:=W) (w':=w1.setCell ⟨p,1,none⟩ (.slice (some ⟨g,0,none⟩) (R.nh.length+1) cap)) (a:=⟨R.bt,R.ot+k,none⟩) ((zS w1 ⟨p,1,none⟩ _ R.bt AD).trans e1);exact e2.trans (h.zMX k hk)
 ·show s.nd++[x]=_
  rw[h.nodes,List.map_append]
  rfl
 ·refine AB.jL fun b hb=>zS w1 ⟨p,1,none⟩ _ b fun e=>?_;rw[e] at hb;exact AB.zDr AC (by decide) (by decide) hb
 ·refine⟨hg.os.trans hw.os,hg.tape.trans hw.tape,hg.output.trans hw.output,?_,fun b hb hM=>?_,fun b hb=>?_⟩
  ·have h1:=hw.size;have h2:=hg.size;simp[World.setCell];omega
  ·have h1:=hw.size;have AE:b≠p:=fun e=>hM (.inl e);rw[zS w1 ⟨p,1,none⟩ _ b AE,hg.block b (by omega) (fun e=>hM (.inr (.inl (xP h.ns.row e.symm))))];exact hw.block b hb
  ·have h1:=hw.size
   rcases hb with rfl | hb | hb
   ·exact .inl (.inl rfl)
   ·injection hb with hb;injection hb with hb;subst hb
    rcases hf with hf | hf
    ·exact .inl (.inr (.inl (xP h.ns.row hf)))
    ·exact .inr hf
   ·simp only[List.map_append] at hb
    rcases List.mem_append.1 hb with hb | hb
    ·exact .inl (.inr (.inr hb))
    ·simp at hb
theorem zDh (a at_ en n:Int)(x:ByteArray)(w:World):(Instr.field 104 (.agg #[.int .u8 a,.int .i64 at_,.int .i64 en,.string x,.int .i64 n]) 0).run Tryz.prog w=.ok (.int .u8 a) w:=by kernel_rfl
theorem zKY (a at_ en n:Int)(x:ByteArray)(w:World):(Instr.field 104 (.agg #[.int .u8 a,.int .i64 at_,.int .i64 en,.string x,.int .i64 n]) 1).run Tryz.prog w=.ok (.int .i64 at_) w:=by kernel_rfl
theorem zAf (a at_ en n:Int)(x:ByteArray)(w:World):(Instr.field 104 (.agg #[.int .u8 a,.int .i64 at_,.int .i64 en,.string x,.int .i64 n]) 3).run Tryz.prog w=.ok (.string x) w:=by kernel_rfl
theorem zDp (a at_ en n:Int)(x:ByteArray)(w:World):(Instr.field 104 (.agg #[.int .u8 a,.int .i64 at_,.int .i64 en,.string x,.int .i64 n]) 4).run Tryz.prog w=.ok (.int .i64 n) w:=by kernel_rfl
structure KF where
 K:Nat
 first:Array Value
 cap:Array Value
 m:Pm Unit
def KF.val (f:KF):Value:=.func (.func f.K) f.first f.cap
def zDb:List KF→Pm Unit
 | [],s=>.ok () s
 | f::l,s=>(f.m s).bind fun _ s=>zDb l s
theorem zKM (x:Nd × Hd2):∀u ∈ YM x,u.oneCell'=true:=by
 intro u hu;simp only[YM,zU,List.not_mem_nil,or_false] at hu
 rcases hu with rfl | rfl | rfl | rfl | rfl <;> rfl
theorem NS.zUX {w:World}{B:Nat}{tn ti:TypeId}{A:Option Addr}{c:Nat}{nh:List (Nd × Hd2)}(h:NS w B tn ti A c nh):zAj B tn nh.length (ncs nh) (.slice A nh.length c) w:=by
 refine⟨h.row,A,c,rfl,fun e=>?_,h.rz⟩;subst e
 rcases h.row.2 with ⟨hv,_⟩ | ⟨g,cap,AA,hv,_⟩
 ·injection hv
 ·cases hv
theorem NS.zUL {w:World}{B:Nat}{tn ti:TypeId}{A:Option Addr}{c:Nat}{nh:List (Nd × Hd2)}(h:NS w B tn ti A c nh)(x:Nd × Hd2)(hx:x ∈ nh):VO B ti x.1.kids.length (ints x.1.kids) (.slice x.2.1 x.1.kids.length x.2.2) w:=by
 refine⟨h.kids x hx,_,_,rfl,fun e=>?_,h.kz x hx⟩;have hk:=(h.kids x hx).2;rw[e] at hk
 rcases hk with ⟨hv,_⟩ | ⟨g,cap,AA,hv,_⟩
 ·injection hv
 ·cases hv
theorem zAj.at {N:Nat}{e:TypeId}{n:Nat}{xs:List Value}{v:Value}{w:World}(h:zAj N e (n+1) xs v w):∃g cap,v=.slice (some ⟨g,0,none⟩) (n+1) cap:=by
 rcases h.1.2 with ⟨_,h0⟩ | ⟨g,cap,AA,hv,_⟩
 ·omega
 ·exact⟨g,cap,hv⟩
theorem VO.at {N:Nat}{e:TypeId}{n:Nat}{xs:List Value}{v:Value}{w:World}(h:VO N e (n+1) xs v w):∃g cap,v=.slice (some ⟨g,0,none⟩) (n+1) cap:=by
 rcases h.1.2 with ⟨_,h0⟩ | ⟨g,cap,AA,hv,_⟩
 ·omega
 ·exact⟨g,cap,hv⟩
theorem zKT:∀(l:List KF) (k:Nat) (hk:k<l.length) (s s':Ps),zDb (l.take k) s=.ok () s'→zDb (l.take (k+1)) s=(l[k].m s').bind fun _ s=>.ok () s
 | f::l,0,_,s,s',h=>by
  injection h with _ h;subst h
  rfl
 | f::l,k+1,hk,s,s',h=>by
  show(f.m s).bind (fun _ s=>zDb (l.take (k+1)) s)=_
  have h':(f.m s).bind (fun _ s=>zDb (l.take k) s)=.ok () s':=h
  cases hm:f.m s with
  | err e p=>rw[hm] at h'; cases h'
  | ok a t=>
   rw[hm] at h';exact zKT l k (by simpa using hk) t s' h'
theorem zNt:∀(l:List KF) (k:Nat) (hk:k<l.length) (s s':Ps),zDb (l.take k) s=.ok () s'→∀er a,l[k].m s'=.err er a→zDb l s=.err er a
 | f::l,0,_,s,s',h,er,a,he=>by
  injection h with _ h;subst h
  show(f.m s).bind _=_
  rw[show f.m s=.err er a from he]
  rfl
 | f::l,k+1,hk,s,s',h,er,a,he=>by
  show(f.m s).bind (fun _ s=>zDb l s)=_
  have h':(f.m s).bind (fun _ s=>zDb (l.take k) s)=.ok () s':=h
  cases hm:f.m s with
  | err e p=>rw[hm] at h'; cases h'
  | ok b t=>
   rw[hm] at h';exact zNt l k (by simpa using hk) t s' h' er a he
theorem zKU (w:World)(p B:Nat)(s:Ps)(R:xX)(kind:Nat)(F:Option Addr)(l:List KF)(fc:Nat)(h:PS w p B s R)(hbig:s.nd.length≤1000000)(hl:l.length≤10)
  (hF:XF w (xK p R) F (l.map KF.val)) (he:∀f ∈ l,∀args w,(callFunc f.K args).run Tryz.prog w=.ok (.enter f.K args) w)
  (hd:∀(k:Nat) (hk:k<l.length) (s':Ps) (wr:World) (R':xX),zDb (l.take k) (s.node kind)=.ok () s'→xC w (xK p R) wr (xK p R')→PS wr p B s' R'→Calls Tryz.prog l[k].K (l[k].first++#[.int .i64 (s.nd.length:Int)]++l[k].cap) wr (xM wr p B R' (l[k].m s'))) :
  Calls Tryz.prog 71 #[.pointer (some ⟨p,0,none⟩),.int .u8 (kind:Int),.slice F l.length fc] w (zD3 w p B R (.int .i64 (s.nd.length:Int)) (zDb l (s.node kind))):=by
 obtain⟨i0,hi,As,Af,Ah⟩:=info_parts zMR;have HP:=yG h;have Ac:=yG hF;have HE:=yG he;have HD:=yG hd;have x1:=h.x1;have AB:=h.len;have AT:=h.blk.lt;have AX:=yG AB;rw[AB] at hbig;have Ar:=zKY;obtain⟨o,HO⟩:∃o,Hid ((Value.slice R.A R.nh.length R.c).ownBlock=o):=⟨_,yG rfl⟩
 have AN:Hid (some p≠o):=yG fun e=>by
  rw[←HO.out] at e;obtain⟨Au,hc⟩:=vA h.ns.row (xP h.ns.row e.symm);exact Blk.differ h.blk hc (by decide) rfl
 have Ai:Hid (some R.bt≠o):=yG fun e=>by
  rw[←HO.out] at e;have h1:=(jD h.ns.row (xP h.ns.row e.symm)).1;have h2:=h.zE9;omega
 have Ao:Hid (∀g,o=some g→g<w.heap.size):=yG fun g e=>by
  rw[←HO.out] at e;exact(jD h.ns.row (xP h.ns.row e)).2
 have Ak:Hid (B≤w.heap.size):=yG (Nat.le_trans h.pB (zV AT));obtain⟨Fs,AE⟩:∃Fs,Hid (FsK B 38 (.slice R.A R.nh.length R.c) w.heap.size R.nh.length (ncs R.nh) (YM (⟨kind,s.hd.at_,[],0,[]⟩,(none,0)))=Fs):=⟨_,yG rfl⟩
 have hE:∀F ∈ Fs,∀v w w',F v w→Ext w w'→F v w':=by rw[←AE.out]; exact zHq _ _ _ _ _ _ _
 have m0:(fun (_:Value) w=>zAj B 38 R.nh.length (ncs R.nh) (.slice R.A R.nh.length R.c) w) ∈ Fs:=by rw[←AE.out]; simp only[FsK,zU,true_or]
 have m1:zBf 38 w.heap.size (YM (⟨kind,s.hd.at_,[],0,[]⟩,(none,0))).toArray ∈ Fs:=by rw[←AE.out]; simp only[FsK,zU,true_or,or_true]
 have m2:zME B 38 o w.heap.size (R.nh.length+1) (ncs R.nh++YM (⟨kind,s.hd.at_,[],0,[]⟩,(none,0))) ∈ Fs:=by rw[←AE.out,←HO.out]; simp only[FsK,zU,true_or,or_true]
 have AL:=yG hE;have M0:=yG m0;have M1:=yG m1;have M2:=yG m2;clear h hF he hd AB hE m0 m1 m2
 go_enter Tryz.func71,Tryz.ntmps71
 go_upto_region 2 with fail
 apply zA9 o Fs 14 (by kernel_rfl) (by kernel_rfl) (by kernel_rfl) AL.out;dsimp only[List.take_succ_cons,List.take_zero,List.drop_succ_cons,List.drop_zero];apply sG vF.refl (.pointer (some ⟨p,0,none⟩));apply sG vF.refl (.pointer (some ⟨p,0,none⟩));apply sG vF.refl (.pointer (some ⟨p,0,none⟩));apply sG vF.refl (.pointer (some ⟨p,1,none⟩));apply xB (.slice R.A R.nh.length R.c) rfl rfl rfl
 ·intro w' AA hH;have hR:=vF.refl (o:=o) (Fs:=Fs) w';have cc:=Blk.cell ((AA.1.block p AT AN.out).trans HP.out.blk) 1;clear hH AA;simp[xA,go_sem,cc];exact hR
 apply sG vF.refl (.int .u8 (kind:Int));apply sG vF.refl (.pointer (some ⟨p,0,none⟩));apply xB (.agg (ZY s.hd).toArray) rfl rfl rfl
 ·intro w' AA hH;have ht:=HP.out.ts.grown AA.1 AN.out Ai.out;clear hH AA;simp[xA,go_sem];refine(ZC w' p s R ht).mono ?_;rintro e w2 ⟨rfl,hx⟩;exact⟨_,rfl,rfl,vF.ext AL.out hx⟩
 apply xB (.int .i64 (s.hd.at_:Int)) rfl rfl rfl
 ·intro w' AA hH;clear hH AA;unfold ZY;simp[xA,go_sem,Ar];exact vF.refl _
 apply sG vF.refl (.agg #[.int .u8 (kind:Int),.int .i64 (s.hd.at_:Int),.string ⟨#[]⟩,.int .i64 0,.slice none 0 0]);apply xZ (zBf 38 w.heap.size (YM (⟨kind,s.hd.at_,[],0,[]⟩,(none,0))).toArray) (fun v w w' h hx=>hx.2 _ M1.out v h) rfl rfl rfl
 ·intro w' AA hH;have hz:=AA.1.size;clear hH AA;simp[xA,go_sem];exact⟨⟨_,rfl,Blk.new _ _ _,hz⟩,vF.ext AL.out (Ext.alloc _ _)⟩
 intro Al;(try simp only[Act.put,yD,yE,yF]);apply xZ (zME B 38 o w.heap.size (R.nh.length+1) (ncs R.nh++YM (⟨kind,s.hd.at_,[],0,[]⟩,(none,0)))) (fun v w w' h hx=>hx.2 _ M2.out v h) rfl rfl rfl
 ·intro w' AA hH;have AQ:=hH _ (List.mem_cons_self ..) ⟨_,rfl,by decide⟩;have AI:=AA.2 _ M0.out undef HP.out.ns.zUX;have hz:=AA.1.size;clear hH AA;rw[←AE.out,←HO.out];exact zEv B w.heap.size (.tmp 19) (.tmp 25) 25 rfl 38 i0 _ 64 Tryz.underlying25 hi As Af Ah rfl (.slice R.A R.nh.length R.c) R.nh.length (ncs R.nh) (YM (⟨kind,s.hd.at_,[],0,[]⟩,(none,0))) (by kernel_rfl) AI Al (by kernel_rfl) AQ rfl (zKM _) (by unfold maxLen; omega) (by omega) (Nat.le_trans Ak.out hz) hz (fun g e=>Ao.out g (by rw[←HO.out]; exact e))
 intro At;apply sG vF.refl (.pointer (some ⟨p,0,none⟩));apply sG vF.refl (.pointer (some ⟨p,1,none⟩));apply xR;intro w2 AS hH;have AG:=hH _ (List.mem_cons_self ..);clear hH;obtain⟨g,cap,rfl⟩:=AG.1.at;have AP:=AS.1;rw[←HO.out] at AP;have AK:Blk w2 p 101 _:=(AS.1.block p AT AN.out).trans HP.out.blk
 obtain⟨AW,Aa⟩:=PS.snoc (w:=w) HP.out (Ext.refl w) ⟨kind,s.hd.at_,[],0,[]⟩ rfl AG.1.1 AP (by
  rcases AG.2 with e | ⟨g',e,Av⟩
  ·left; rw[HO.out,←e]; rfl
  ·right; have:g=g':=by simpa [Value.ownBlock] using e
   omega)
 have y1:w2.cell? ⟨p,1,none⟩=some (.slice R.A R.nh.length R.c):=AK.cell 1;have z1:=AK.frozen 1;have HS:Hid (OkP w p B R (s.node kind) (w2.setCell ⟨p,1,none⟩ (.slice (some ⟨g,0,none⟩) (R.nh.length+1) cap))):=yG ⟨_,AW,Aa⟩;clear AG AP AK AW Aa AS x1;(try simp only[Act.put,yD,yF,yE])
 go_wp2_with fail
 clear y1 z1;generalize w2.setCell ⟨p,1,none⟩ (.slice (some ⟨g,0,none⟩) (R.nh.length+1) cap)=w3 at *
 go_loopw [31] (fun i wr=>∃(k:Nat) (s':Ps),k≤l.length∧i=.int .i64 k∧Hid (zDb (l.take k) (s.node kind)=.ok () s')∧Hid (OkP w p B R s' wr)) (fun i _=>l.length-(intOf i).toNat)
 case atStart=>exact⟨0,s.node kind,zW _,rfl,yG rfl,HS⟩
 case round=>
  obtain⟨k,s',hk,rfl,HQ,AY⟩:=hrel;obtain⟨wa,rfl⟩:∃wa:World,wa=wr:=⟨_,rfl⟩
  by_cases AD:k<l.length
  ·have d0:decide ((k:Int)<(l.length:Int))=true:=yS (by omega)
   have q0:(k:Int)<(l.length:Int):=by omega
   obtain⟨R',AO,AH⟩:=AY.out;have Aw:=yG AO;have Ab:=yG AH;obtain⟨b,Aq,rfl,hb,AZ⟩:=(Ac.out.xE AH).cells.at_ (by simp; omega)
   have x0:wa.cell? ⟨b,Aq+k,none⟩=some (l[k].val):=by rw[AZ k (by simpa using AD)]; simp[AD]
   have AU:=zKT l k AD (s.node kind) s' HQ.out;have AC:=zNt l k AD (s.node kind) s' HQ.out;have AR:=HD.out k AD s' wa R' HQ.out AH AO;have Ag:=HE.out _ (yO AD);clear AZ AO AH;generalize l[k]=f at *;obtain⟨K,first,AJ,m⟩:=f;unfold KF.val at x0
   simp only at x0 AU AR Ag AC
   have AF:Calls Tryz.prog K (first.push (.int .i64 (R.nh.length:Int))++AJ) wa (xM wa p B R' (m s')):=by
    have:=AR
    rw[AX.out,Array.append_singleton] at this;exact this
   have Ae:=yG AC;have Aj:=yG AU;have AV:=yG AF;clear AU AR AF AC
   cases hm:m s' with
   | ok a s2=>
    have AM:Hid (xM wa p B R' (m s')=xM wa p B R' (.ok a s2)):=yG (by rw[hm]);have An:Hid (zDb (l.take (k+1)) (s.node kind)=.ok () s2):=yG (by rw[Aj.out,hm]; rfl);clear hm
    go_wp2_with fail
    refine AV.out.mono ?_;rw[AM.out];rintro e w4 ⟨rfl,ho⟩;have Ap:=yG (OkP.trans Ab.out ho);clear ho
    go_wp2_with fail
    go_roundw
    case rel=>exact⟨k+1,s2,by omega,by go_num,An,Ap⟩
    case measure=>simp[intOf]; omega
   | err er a=>
    have AM:Hid (xM wa p B R' (m s')=xM wa p B R' (.err er a)):=yG (by rw[hm]);have Ad:=yG (Ae.out er a hm);clear hm
    go_wp2_with fail
    refine AV.out.mono ?_;rw[AM.out];rintro e w4 ⟨rfl,ho⟩;refine xD (P:=Tryz.prog) (fn:=Tryz.f71) rfl ?_;rw[Ad.out];exact VF.trans Ab.out ⟨rfl,ho⟩
  ·obtain rfl:k=l.length:=by omega
   have d0:decide ((l.length:Int)<(l.length:Int))=false:=by simp
   have d1:decide (l.length<l.length)=false:=by simp
   have Am:Hid (zDb l (s.node kind)=.ok () s'):=yG (by have:=HQ.out; rw[List.take_length] at this; exact this)
   go_wp2_with fail
   go_ret;rw[Am.out];exact⟨JG (by rw[AX.out]),AY.out⟩
end Go.Proofs.YtbadjmmjbpeocaaGreat
