/- Appends onto rows of the call's own, elements of five cells and of one: what each leaves as it was; where the new row lies. (and what follows of it). The conditions stand at each lemma. -/
import Derived.Test.YtioffpjajhalaaaGreatDoorKaa
import Derived.Test.YtioffpjajhalaaaGreatDoorKab
import Derived.Test.YtioffpjajhalaaaGreatDoorKah
import Derived.Deep.Cut
set_option linter.unusedVariables false
set_option linter.unusedSimpArgs false
set_option maxRecDepth 100000
set_option maxHeartbeats 16000000
namespace Go.Proofs.YtioffpjajhalaaaGreatDoor
open Go Go.RowKit
def zAB (N:Nat)(e:TypeId)(n:Nat)(xs:List Value)(v:Value)(w:World):Prop:=
 w.ownsRow N e 5 v n xs∧∃A c,v=.slice A n c∧(A=none→c=0)∧(n=0→c=0)
def zK5 (e:TypeId)(k:Nat)(cs:Array Value)(v:Value)(w:World):Prop:=∃g,v=.slice (some ⟨g,0,none⟩) k k∧Blk w g e cs
def zK3 (e:TypeId)(cs:Array Value)(N:Nat)(v:Value)(w:World):Prop:=∃g,v=.pointer (some ⟨g,0,none⟩)∧Blk w g e cs∧N≤g
structure zL3 (N g n m cap:Nat)(e:TypeId)(xs news:List Value)(w w':World):Prop where
 other:∀k,k≠g→w'.heap[k]?=w.heap[k]?
 room:n+m≤cap
 xl:xs.length=n*5
 ml:news.length=m*5
 cells:∃cur cur':Array Value,w.heap[g]?=some (.cells cur e (0,0))∧w'.heap[g]?=some (.cells cur' e (0,0))∧cur.size=cap*5∧cur'.size=cap*5∧cur.toList.take (n*5)=xs∧cur'.toList.take ((n+m)*5)=xs++news
theorem zAB.ext {N:Nat}{e:TypeId}{n:Nat}{xs:List Value}{v:Value}{w w':World}(h:zAB N e n xs v w)(hx:Ext w w'):zAB N e n xs v w':=⟨zFi h.1 hx,h.2⟩
theorem zK5.ext {e:TypeId}{k:Nat}{cs:Array Value}{v:Value}{w w':World}(h:zK5 e k cs v w)(hx:Ext w w'):zK5 e k cs v w':=let ⟨g,a,b⟩:=h; ⟨g,a,b.ext hx⟩
theorem zK3.ext {e:TypeId}{cs:Array Value}{N:Nat}{v:Value}{w w':World}(h:zK3 e cs N v w)(hx:Ext w w'):zK3 e cs N v w':=let ⟨g,a,b,c⟩:=h; ⟨g,a,b.ext hx,c⟩
theorem zK5.roomy {N g n m cap:Nat}{e e':TypeId}{xs news:List Value}{w w':World}{k:Nat}{cs:Array Value}{v:Value}(hr:zL3 N g n m cap e xs news w w')(h:zK5 e' k cs v w)(hs:cs.size<(n+m)*5):zK5 e' k cs v w':=by
 obtain⟨g',rfl,hb⟩:=h;refine⟨g',rfl,?_⟩
 by_cases hg:g'=g
 ·subst hg;obtain⟨AB,AA,h1,h2,h3,_⟩:=hr.cells;unfold Blk at hb;rw[hb] at h1;injection h1 with h1;injection h1 with h1;subst h1
  have:=hr.room
  have:(n+m)*5≤cap*5:=Nat.mul_le_mul_right _ this
  omega
 ·exact(hr.other g' hg).trans hb
theorem zK3.roomy {N g n m cap:Nat}{e e':TypeId}{xs news:List Value}{w w':World}{cs:Array Value}{M:Nat}{v:Value}(hr:zL3 N g n m cap e xs news w w')(h:zK3 e' cs M v w)(hs:e'≠e):zK3 e' cs M v w':=by
 obtain⟨g',rfl,hb,hM⟩:=h;refine⟨g',rfl,?_,hM⟩
 by_cases hg:g'=g
 ·subst hg;obtain⟨AB,AA,h1,h2,h3,_⟩:=hr.cells;unfold Blk at hb;rw[hb] at h1;injection h1 with h1;injection h1 with h1 h4;exact absurd h4 hs
 ·exact(hr.other g' hg).trans hb
theorem zAB.roomy {N g n m cap:Nat}{e:TypeId}{xs news:List Value}{w w':World}{k:Nat}{ys:List Value}{v:Value}(hr:zL3 N g n m cap e xs news w w')(h:zAB N e k ys v w)(hs:k≤n∨(k=n+m∧ys=xs++news)):zAB N e k ys v w':=by
 refine⟨⟨h.1.1,?_⟩,h.2⟩;have AG:=h.1.1
 rcases h.1.2 with hn | ⟨g',AC,AB,hv,hb,hh,a1,a2,a3,a4⟩
 ·exact .inl hn
 ·by_cases hg:g'=g
  ·subst hg;obtain⟨AF,AA,h1,h2,h3,h4,h5,h6⟩:=hr.cells;rw[hh] at h1;injection h1 with h1;injection h1 with h1;subst h1;refine .inr ⟨g',AC,AA,hv,hb,h2,a1,a2,by omega,?_⟩
   rcases hs with hs | ⟨rfl,rfl⟩
   ·have AE:k*5≤n*5:=Nat.mul_le_mul_right _ hs
    have AD:k*5≤(n+m)*5:=by omega
    have e1:(AA.toList.take ((n+m)*5)).take (k*5)=AA.toList.take (k*5):=by rw[List.take_take,Nat.min_eq_left AD]
    have e2:(AB.toList.take (n*5)).take (k*5)=AB.toList.take (k*5):=by rw[List.take_take,Nat.min_eq_left AE]
    rw[←e1,h6,List.take_append_of_le_length (by rw[hr.xl]; exact AE),←h5,e2,a4]
   ·exact h6
  ·exact .inr ⟨g',AC,AB,hv,hb,(hr.other g' hg).trans hh,a1,a2,a3,a4⟩
theorem zLA {P:Program}(w:World)(N:Nat)(t ty e:TypeId)(i:TypeInfo)(z:Value)(bytes:Nat)(ht:P.underlying t=some (.slice e))(hi:P.info? e=some i)(hz:i.zero=some z)
  (hsize:i.size=5) (hby:i.bytes=bytes) (hzs:z.cells.size=5) (v:Value) (n:Nat) (xs:List Value) (hrow:zAB N e n xs v w)
  (A:Option Addr) (m c:Nat) (news:List Value) (hc0:A=none→c=0) (hl:news.length=m*5) (hr:Cells w A news) (h1:∀u ∈ news,u.oneCell'=true)
  (h63:n+m≤maxLen) (hbytes:(n+m)*bytes≤140737488355328) (hN:N≤w.heap.size) :
  ∃v' w',(Builtin.append_ #[t,t] ty #[v,.slice A m c]).run P w=.ok v' w'∧zAB N e (n+m) (xs++news) v' w'∧(Ext w w'∨(0<n∧0<m∧Below N w w'∧∃g AC,v.ownBlock=some g∧zL3 N g n m AC e xs news w w'))∧(m=0∨v'.ownBlock=v.ownBlock∨v'.ownBlock=some w.heap.size):=by
 have AM:n+m≤9223372036854775807:=by simp only[maxLen] at h63; omega
 have AE:(xs++news).length=(n+m)*5:=by rw[yN,hrow.1.1,hl,Nat.add_mul]
 by_cases hm:m=0
 ·subst hm;have hn:news=[]:=List.eq_nil_of_length_eq_zero (by simpa using hl);subst hn;refine⟨v,w,?_,by simpa using hrow,.inl (Ext.refl w),.inl rfl⟩
  cases A with
  | none=>
   have:=hc0 rfl
   subst this;exact run_append_owned_none (P:=P) w N t ty e i 5 ht hi v n xs hrow.1
  | some ad=>
   rcases hrow.1.2 with ⟨rfl,rfl⟩ | ⟨g,AC,AB,rfl,_,hg,AO,_,AK,_⟩
   ·simp[Builtin.append_,run_underlying ht,sizeOf,typeInfo,hi,Builtin.lenOf,Builtin.firstCells,loadCells,loadCellsFrom]
   ·have AH:n*i.size+([]:List Value).length≤AB.size:=by rw[hsize,AK]; simp only[zK,Nat.add_zero]; exact Nat.mul_le_mul_right _ AO
    have:=run_append_room (P:=P) w t ty e i ht hi g n AC AB hg ad 0 c [] (by simp) (fun j u hu=>by simp at hu) (fun u hu=>by simp at hu) (by omega) AH
    rw[this];simp only[Nat.add_zero,List.append_nil,zK,List.take_append_drop,Array.toArray_toList];rw[setRow_self w g AB e (0,0) hg]
 ·obtain⟨ad,rfl⟩:∃ad,A=some ad:=by
   rcases hr with hr | ⟨b,AQ,hA,_⟩
   ·subst hr; simp at hl; omega
   ·exact⟨_,hA⟩
  have AD:∀j u,news[j]?=some u→w.cell? (ad.add j)=some u:=by
   intro j u hu
   rcases hr with hr | ⟨b,AQ,hA,_,hk⟩
   ·subst hr; simp at hu
   ·injection hA with hA;subst hA;have hj:j<news.length:=(List.getElem?_eq_some_iff.1 hu).1
    have:=(hk j hj).trans hu
    unfold Addr.add
    by_cases h0:j=0
    ·subst h0; simpa using this
    ·simp only[h0,if_false]; exact this
  subst hby
  have grown:∀(AF:Nat),AF<n+m →
    zAB N e (n+m) (xs++news) (.slice (some ⟨w.heap.size,0,none⟩) (n+m) (grownCap w (n+m) AF e)) (w.drew.alloc (.cells (xs.toArray++news.toArray++Builtin.zeroCells z.cells (grownCap w (n+m) AF e-(n+m))) e)) ∧
    Ext w (w.drew.alloc (.cells (xs.toArray++news.toArray++Builtin.zeroCells z.cells (grownCap w (n+m) AF e-(n+m))) e)):=by
   intro AF ho;have AT:=grownCap_ge w (n+m) AF e;have AL:grownCap w (n+m) AF e≤maxLen:=grownCap_le_maxLen w (n+m) AF e h63;refine⟨⟨⟨AE,.inr ⟨w.heap.size,_,_,rfl,hN,zO w.drew _,AT,AL,?_,?_⟩⟩,_,_,rfl,(fun h=>by cases h),(fun h=>by omega)⟩,Ext.trans (Below.drew (Below.refl _ _)) (Ext.alloc _ _)⟩
   ·simp only[Array.size_append,List.size_toArray,size_zeroCells,hzs,hrow.1.1,hl,←Nat.add_mul]
    congr 1
    omega
   ·simp only[Array.toList_append,List.append_assoc];rw[←List.append_assoc,←AE];exact List.take_left
  rcases hrow.1.2 with ⟨rfl,rfl⟩ | ⟨g,AC,AB,rfl,AU,hg,AO,AL,AK,AG⟩
  ·have hx:xs=[]:=List.eq_nil_of_length_eq_zero (by simpa using hrow.1.1);subst hx;have hr:=run_append_nil (P:=P) w t ty e i z ht hi hz ad m c news (by rw[hsize]; exact hl) AD (by omega) (by omega) (by have hb:=hbytes; simp only[Nat.zero_add] at hb; omega);have AI:=grown 0 (by omega);simp only[Nat.zero_add,List.nil_append,Array.empty_append] at AI ⊢;exact⟨_,_,hr,AI.1,.inl AI.2,.inr (.inr rfl)⟩
  ·by_cases AA:n+m≤AC
   ·have AR:0<n:=by
     rcases Nat.eq_zero_or_pos n with h0 | h0
     ·obtain⟨A',c',AS,_,AP⟩:=hrow.2;injection AS with _ _ hcc
      have:=AP h0
      omega
     ·exact h0
    have AH:n*i.size+news.length≤AB.size:=by rw[hl,AK,hsize,←Nat.add_mul]; exact Nat.mul_le_mul_right _ AA
    have hr:=run_append_room (P:=P) w t ty e i ht hi g n AC AB hg ad m c news (by rw[hsize]; exact hl) AD h1 AA AH
    have AJ:(AB.toList.take (n*i.size)++news++AB.toList.drop (n*i.size+news.length)).toArray.size=AC*5:=by
     simp only[List.size_toArray,yN,List.length_take,List.length_drop,Array.length_toList];omega
    have AN:(AB.toList.take (n*i.size)++news++AB.toList.drop (n*i.size+news.length)).toArray.toList.take ((n+m)*5)=xs++news:=by
     rw[hsize,AG,←AE];exact List.take_left
    refine⟨_,_,hr,⟨⟨AE,.inr ⟨g,AC,_,rfl,AU,setRow_heap w g AB _ e _ hg,AA,AL,AJ,AN⟩⟩,_,_,rfl,(fun h=>by cases h),(fun h=>by omega)⟩,.inr ⟨AR,by omega,⟨rfl,rfl,rfl,by simp,fun k hk=>setRow_other w g k _ (by omega)⟩,g,AC,rfl,?_⟩,.inr (.inl rfl)⟩;exact⟨fun k hk=>setRow_other w g k _ hk,AA,hrow.1.1,hl,AB,_,hg,setRow_heap w g AB _ e _ hg,AK,AJ,AG,AN⟩
   ·have holds:∀j u,xs[j]?=some u→w.cell? ((⟨g,0,none⟩:Addr).add j)=some u:=hrow.1.cells (g:=g) rfl;have hr:=run_append_grow (P:=P) w t ty e i z ht hi hz ⟨g,0,none⟩ n AC xs (by rw[hsize]; exact hrow.1.1) holds ad m c news (by rw[hsize]; exact hl) AD (by omega) (by omega) (growslice_fits (by omega) hbytes);have AI:=grown AC (by omega);exact⟨_,_,hr,AI.1,.inl AI.2,.inr (.inr rfl)⟩
def zAK (N:Nat)(e:TypeId)(n:Nat)(xs:List Value)(v:Value)(w:World):Prop:=
 w.ownsRow N e 1 v n xs∧∃A c,v=.slice A n c∧(A=none→c=0)∧(n=0→c=0)
def zLk (e:TypeId)(k:Nat)(cs:Array Value)(v:Value)(w:World):Prop:=∃g,v=.slice (some ⟨g,0,none⟩) k k∧Blk w g e cs
def zKF (e:TypeId)(cs:Array Value)(N:Nat)(v:Value)(w:World):Prop:=∃g,v=.pointer (some ⟨g,0,none⟩)∧Blk w g e cs∧N≤g
structure zMc (N g n m cap:Nat)(e:TypeId)(xs news:List Value)(w w':World):Prop where
 other:∀k,k≠g→w'.heap[k]?=w.heap[k]?
 room:n+m≤cap
 xl:xs.length=n*1
 ml:news.length=m*1
 cells:∃cur cur':Array Value,w.heap[g]?=some (.cells cur e (0,0))∧w'.heap[g]?=some (.cells cur' e (0,0))∧cur.size=cap*1∧cur'.size=cap*1∧cur.toList.take (n*1)=xs∧cur'.toList.take ((n+m)*1)=xs++news
theorem zAK.ext {N:Nat}{e:TypeId}{n:Nat}{xs:List Value}{v:Value}{w w':World}(h:zAK N e n xs v w)(hx:Ext w w'):zAK N e n xs v w':=⟨zFi h.1 hx,h.2⟩
theorem zLk.ext {e:TypeId}{k:Nat}{cs:Array Value}{v:Value}{w w':World}(h:zLk e k cs v w)(hx:Ext w w'):zLk e k cs v w':=let ⟨g,a,b⟩:=h; ⟨g,a,b.ext hx⟩
theorem zKF.ext {e:TypeId}{cs:Array Value}{N:Nat}{v:Value}{w w':World}(h:zKF e cs N v w)(hx:Ext w w'):zKF e cs N v w':=let ⟨g,a,b,c⟩:=h; ⟨g,a,b.ext hx,c⟩
theorem zLk.roomy {N g n m cap:Nat}{e e':TypeId}{xs news:List Value}{w w':World}{k:Nat}{cs:Array Value}{v:Value}(hr:zMc N g n m cap e xs news w w')(h:zLk e' k cs v w)(hs:cs.size<(n+m)*1):zLk e' k cs v w':=by
 obtain⟨g',rfl,hb⟩:=h;refine⟨g',rfl,?_⟩
 by_cases hg:g'=g
 ·subst hg;obtain⟨AB,AA,h1,h2,h3,_⟩:=hr.cells;unfold Blk at hb;rw[hb] at h1;injection h1 with h1;injection h1 with h1;subst h1
  have:=hr.room
  have:(n+m)*1≤cap*1:=Nat.mul_le_mul_right _ this
  omega
 ·exact(hr.other g' hg).trans hb
theorem zKF.roomy {N g n m cap:Nat}{e e':TypeId}{xs news:List Value}{w w':World}{cs:Array Value}{M:Nat}{v:Value}(hr:zMc N g n m cap e xs news w w')(h:zKF e' cs M v w)(hs:e'≠e):zKF e' cs M v w':=by
 obtain⟨g',rfl,hb,hM⟩:=h;refine⟨g',rfl,?_,hM⟩
 by_cases hg:g'=g
 ·subst hg;obtain⟨AB,AA,h1,h2,h3,_⟩:=hr.cells;unfold Blk at hb;rw[hb] at h1;injection h1 with h1;injection h1 with h1 h4;exact absurd h4 hs
 ·exact(hr.other g' hg).trans hb
theorem zAK.roomy {N g n m cap:Nat}{e:TypeId}{xs news:List Value}{w w':World}{k:Nat}{ys:List Value}{v:Value}(hr:zMc N g n m cap e xs news w w')(h:zAK N e k ys v w)(hs:k≤n∨(k=n+m∧ys=xs++news)):zAK N e k ys v w':=by
 refine⟨⟨h.1.1,?_⟩,h.2⟩;have AG:=h.1.1
 rcases h.1.2 with hn | ⟨g',AC,AB,hv,hb,hh,a1,a2,a3,a4⟩
 ·exact .inl hn
 ·by_cases hg:g'=g
  ·subst hg;obtain⟨AF,AA,h1,h2,h3,h4,h5,h6⟩:=hr.cells;rw[hh] at h1;injection h1 with h1;injection h1 with h1;subst h1;refine .inr ⟨g',AC,AA,hv,hb,h2,a1,a2,by omega,?_⟩
   rcases hs with hs | ⟨rfl,rfl⟩
   ·have AE:k*1≤n*1:=Nat.mul_le_mul_right _ hs
    have AD:k*1≤(n+m)*1:=by omega
    have e1:(AA.toList.take ((n+m)*1)).take (k*1)=AA.toList.take (k*1):=by rw[List.take_take,Nat.min_eq_left AD]
    have e2:(AB.toList.take (n*1)).take (k*1)=AB.toList.take (k*1):=by rw[List.take_take,Nat.min_eq_left AE]
    rw[←e1,h6,List.take_append_of_le_length (by rw[hr.xl]; exact AE),←h5,e2,a4]
   ·exact h6
  ·exact .inr ⟨g',AC,AB,hv,hb,(hr.other g' hg).trans hh,a1,a2,a3,a4⟩
theorem zLD {P:Program}(w:World)(N:Nat)(t ty e:TypeId)(i:TypeInfo)(z:Value)(bytes:Nat)(ht:P.underlying t=some (.slice e))(hi:P.info? e=some i)(hz:i.zero=some z)
  (hsize:i.size=1) (hby:i.bytes=bytes) (hzs:z.cells.size=1) (v:Value) (n:Nat) (xs:List Value) (hrow:zAK N e n xs v w)
  (A:Option Addr) (m c:Nat) (news:List Value) (hc0:A=none→c=0) (hl:news.length=m*1) (hr:Cells w A news) (h1:∀u ∈ news,u.oneCell'=true)
  (h63:n+m≤maxLen) (hbytes:(n+m)*bytes≤140737488355328) (hN:N≤w.heap.size) :
  ∃v' w',(Builtin.append_ #[t,t] ty #[v,.slice A m c]).run P w=.ok v' w'∧zAK N e (n+m) (xs++news) v' w'∧(Ext w w'∨(0<n∧0<m∧Below N w w'∧∃g AC,v.ownBlock=some g∧zMc N g n m AC e xs news w w'))∧(m=0∨v'.ownBlock=v.ownBlock∨v'.ownBlock=some w.heap.size):=by
 have AM:n+m≤9223372036854775807:=by simp only[maxLen] at h63; omega
 have AE:(xs++news).length=(n+m)*1:=by rw[yN,hrow.1.1,hl,Nat.add_mul]
 by_cases hm:m=0
 ·subst hm;have hn:news=[]:=List.eq_nil_of_length_eq_zero (by simpa using hl);subst hn;refine⟨v,w,?_,by simpa using hrow,.inl (Ext.refl w),.inl rfl⟩
  cases A with
  | none=>
   have:=hc0 rfl
   subst this;exact run_append_owned_none (P:=P) w N t ty e i 1 ht hi v n xs hrow.1
  | some ad=>
   rcases hrow.1.2 with ⟨rfl,rfl⟩ | ⟨g,AC,AB,rfl,_,hg,AO,_,AK,_⟩
   ·simp[Builtin.append_,run_underlying ht,sizeOf,typeInfo,hi,Builtin.lenOf,Builtin.firstCells,loadCells,loadCellsFrom]
   ·have AH:n*i.size+([]:List Value).length≤AB.size:=by rw[hsize,AK]; simp only[zK,Nat.add_zero]; exact Nat.mul_le_mul_right _ AO
    have:=run_append_room (P:=P) w t ty e i ht hi g n AC AB hg ad 0 c [] (by simp) (fun j u hu=>by simp at hu) (fun u hu=>by simp at hu) (by omega) AH
    rw[this];simp only[Nat.add_zero,List.append_nil,zK,List.take_append_drop,Array.toArray_toList];rw[setRow_self w g AB e (0,0) hg]
 ·obtain⟨ad,rfl⟩:∃ad,A=some ad:=by
   rcases hr with hr | ⟨b,AQ,hA,_⟩
   ·subst hr; simp at hl; omega
   ·exact⟨_,hA⟩
  have AD:∀j u,news[j]?=some u→w.cell? (ad.add j)=some u:=by
   intro j u hu
   rcases hr with hr | ⟨b,AQ,hA,_,hk⟩
   ·subst hr; simp at hu
   ·injection hA with hA;subst hA;have hj:j<news.length:=(List.getElem?_eq_some_iff.1 hu).1
    have:=(hk j hj).trans hu
    unfold Addr.add
    by_cases h0:j=0
    ·subst h0; simpa using this
    ·simp only[h0,if_false]; exact this
  subst hby
  have grown:∀(AF:Nat),AF<n+m →
    zAK N e (n+m) (xs++news) (.slice (some ⟨w.heap.size,0,none⟩) (n+m) (grownCap w (n+m) AF e)) (w.drew.alloc (.cells (xs.toArray++news.toArray++Builtin.zeroCells z.cells (grownCap w (n+m) AF e-(n+m))) e)) ∧
    Ext w (w.drew.alloc (.cells (xs.toArray++news.toArray++Builtin.zeroCells z.cells (grownCap w (n+m) AF e-(n+m))) e)):=by
   intro AF ho;have AT:=grownCap_ge w (n+m) AF e;have AL:grownCap w (n+m) AF e≤maxLen:=grownCap_le_maxLen w (n+m) AF e h63;refine⟨⟨⟨AE,.inr ⟨w.heap.size,_,_,rfl,hN,zO w.drew _,AT,AL,?_,?_⟩⟩,_,_,rfl,(fun h=>by cases h),(fun h=>by omega)⟩,Ext.trans (Below.drew (Below.refl _ _)) (Ext.alloc _ _)⟩
   ·simp only[Array.size_append,List.size_toArray,size_zeroCells,hzs,hrow.1.1,hl,←Nat.add_mul]
    congr 1
    omega
   ·simp only[Array.toList_append,List.append_assoc];rw[←List.append_assoc,←AE];exact List.take_left
  rcases hrow.1.2 with ⟨rfl,rfl⟩ | ⟨g,AC,AB,rfl,AU,hg,AO,AL,AK,AG⟩
  ·have hx:xs=[]:=List.eq_nil_of_length_eq_zero (by simpa using hrow.1.1);subst hx;have hr:=run_append_nil (P:=P) w t ty e i z ht hi hz ad m c news (by rw[hsize]; exact hl) AD (by omega) (by omega) (by have hb:=hbytes; simp only[Nat.zero_add] at hb; omega);have AI:=grown 0 (by omega);simp only[Nat.zero_add,List.nil_append,Array.empty_append] at AI ⊢;exact⟨_,_,hr,AI.1,.inl AI.2,.inr (.inr rfl)⟩
  ·by_cases AA:n+m≤AC
   ·have AR:0<n:=by
     rcases Nat.eq_zero_or_pos n with h0 | h0
     ·obtain⟨A',c',AS,_,AP⟩:=hrow.2;injection AS with _ _ hcc
      have:=AP h0
      omega
     ·exact h0
    have AH:n*i.size+news.length≤AB.size:=by rw[hl,AK,hsize,←Nat.add_mul]; exact Nat.mul_le_mul_right _ AA
    have hr:=run_append_room (P:=P) w t ty e i ht hi g n AC AB hg ad m c news (by rw[hsize]; exact hl) AD h1 AA AH
    have AJ:(AB.toList.take (n*i.size)++news++AB.toList.drop (n*i.size+news.length)).toArray.size=AC*1:=by
     simp only[List.size_toArray,yN,List.length_take,List.length_drop,Array.length_toList];omega
    have AN:(AB.toList.take (n*i.size)++news++AB.toList.drop (n*i.size+news.length)).toArray.toList.take ((n+m)*1)=xs++news:=by
     rw[hsize,AG,←AE];exact List.take_left
    refine⟨_,_,hr,⟨⟨AE,.inr ⟨g,AC,_,rfl,AU,setRow_heap w g AB _ e _ hg,AA,AL,AJ,AN⟩⟩,_,_,rfl,(fun h=>by cases h),(fun h=>by omega)⟩,.inr ⟨AR,by omega,⟨rfl,rfl,rfl,by simp,fun k hk=>setRow_other w g k _ (by omega)⟩,g,AC,rfl,?_⟩,.inr (.inl rfl)⟩;exact⟨fun k hk=>setRow_other w g k _ hk,AA,hrow.1.1,hl,AB,_,hg,setRow_heap w g AB _ e _ hg,AK,AJ,AG,AN⟩
   ·have holds:∀j u,xs[j]?=some u→w.cell? ((⟨g,0,none⟩:Addr).add j)=some u:=hrow.1.cells (g:=g) rfl;have hr:=run_append_grow (P:=P) w t ty e i z ht hi hz ⟨g,0,none⟩ n AC xs (by rw[hsize]; exact hrow.1.1) holds ad m c news (by rw[hsize]; exact hl) AD (by omega) (by omega) (growslice_fits (by omega) hbytes);have AI:=grown AC (by omega);exact⟨_,_,hr,AI.1,.inl AI.2,.inr (.inr rfl)⟩
def vK (o:Option Nat)(Fs:List (Value→World→Prop))(w w':World):Prop:=w.grownBy w' o∧∀F ∈ Fs,∀v,F v w→F v w'
theorem zKm {o:Option Nat}{a b c:World}(h:a.grownBy b o)(k:b.grownBy c o):a.grownBy c o:=
 ⟨k.os.trans h.os,k.tape.trans h.tape,k.output.trans h.output,Nat.le_trans h.size k.size,fun n hn ho=>(k.block n (yS hn h.size) ho).trans (h.block n hn ho)⟩
theorem zHW {o:Option Nat}{a b:World}(h:Ext a b):a.grownBy b o:=⟨h.os,h.tape,h.output,h.size,fun n hn _=>h.block n hn⟩
theorem vK.trans {o:Option Nat}{Fs:List (Value→World→Prop)}(a b c:World)(h:vK o Fs a b)(k:vK o Fs b c):vK o Fs a c:=⟨zKm h.1 k.1,fun F hF v hv=>k.2 F hF v (h.2 F hF v hv)⟩
theorem vK.ext {o:Option Nat}{Fs:List (Value→World→Prop)}{w w':World}(hE:∀F ∈ Fs,∀v w w',F v w→Ext w w'→F v w')(h:Ext w w'):vK o Fs w w':=⟨zHW h,fun F hF v hv=>hE F hF v _ _ hv h⟩
theorem vK.refl {o:Option Nat}{Fs:List (Value→World→Prop)}(w:World):vK o Fs w w:=⟨zHW (Ext.refl w),fun _ _ _ h=>h⟩
theorem zAO {P:Program}{id:Nat}{Q':Exit→Act→World→Prop}{a:Act}{w:World}{l:List Oper}{ks:List Take}(o:Option Nat)(Fs:List (Value→World→Prop))(m:Nat)(hm:P.follows .mixedOrders=true)(hB:zAr l.toArray m=true)(hT:zDE l.toArray m=true)
  (hE:∀F ∈ Fs,∀v w w',F v w→Ext w w'→F v w')
  (h:XJ P l.toArray (vK o Fs) w (fun a' w'=>wpList P l.toArray Q' (l.drop m) a' w') (l.take m) ks a []):(Code.region id l.toArray true).wp P Q' a w:=
 zCk (R:=vK o Fs) m ks hm hB hT vK.trans (vK.ext hE (Below.drew (Below.refl _ _))) h
def zDq (e:TypeId)(H:Nat)(cs:Array Value)(v:Value)(w:World):Prop:=∃g,v=.slice (some ⟨g,0,none⟩) 1 1∧Blk w g e cs∧H≤g
theorem zDq.ext {e:TypeId}{H:Nat}{cs:Array Value}{v:Value}{w w':World}(h:zDq e H cs v w)(hx:Ext w w'):zDq e H cs v w':=let ⟨g,a,b,c⟩:=h; ⟨g,a,b.ext hx,c⟩
def zKt (N:Nat)(e:TypeId)(o:Option Nat)(H n:Nat)(ys:List Value)(v:Value)(w:World):Prop:=zAB N e n ys v w∧(v.ownBlock=o∨∃g,v.ownBlock=some g∧H≤g)
def FsK (N:Nat)(e:TypeId)(v0:Value)(H n:Nat)(xs news:List Value):List (Value→World→Prop):=[fun _ w=>zAB N e n xs v0 w,zDq e H news.toArray,zKt N e v0.ownBlock H (n+1) (xs++news)]
theorem zF8 (N:Nat)(e:TypeId)(v0:Value)(H n:Nat)(xs news:List Value):∀F ∈ FsK N e v0 H n xs news,∀v w w',F v w→Ext w w'→F v w':=by
 intro F hF v w w' h hx;simp only[FsK,zR,List.not_mem_nil,or_false] at hF
 rcases hF with rfl | rfl | rfl
 ·exact zAB.ext h hx
 ·exact h.ext hx
 ·exact⟨h.1.ext hx,h.2⟩
theorem zDc {P:Program}{w:World}{ρ:Operand→Value}{o:Oper}(N H:Nat)(s x:Operand)(t:TypeId)(ho:o.op=.call { callee:=.builtin .append,args:=#[s,x],argTypes:=#[t,t] })
  (e:TypeId) (i:TypeInfo) (z:Value) (bytes:Nat) (ht:P.underlying t=some (.slice e)) (hi:P.info? e=some i) (hz:i.zero=some z)
  (hsize:i.size=5) (hby:i.bytes=bytes) (hzs:z.cells.size=5) (v0:Value) (n:Nat) (xs news:List Value) (hs:ρ s=v0) (hrow:zAB N e n xs v0 w)
  (u:Value) (hu:ρ x=u) (hx:zDq e H news.toArray u w) (hl:news.length=5) (h1:∀u ∈ news,u.oneCell'=true) (h63:n+1≤maxLen) (hbytes:(n+1)*bytes≤140737488355328) (hN:N≤w.heap.size) (hH:H≤w.heap.size) (hog:∀g,v0.ownBlock=some g→g<H) :
  xH P ρ o w fun v' w'=>zKt N e v0.ownBlock H (n+1) (xs++news) v' w'∧vK v0.ownBlock (FsK N e v0 H n xs news) w w':=by
 obtain⟨g,AE,hb,hg⟩:=hx;rw[AE] at hu;have hc:Cells w (some ⟨g,0,none⟩) news:=.inr ⟨g,0,rfl,hb.lt,fun k hk=>by rw[Nat.zero_add,hb.cell k]; simp⟩;obtain⟨v',w',AC,h2,h3,h4⟩:=zLA (P:=P) w N t o.type e i z bytes ht hi hz hsize hby hzs v0 n xs hrow (some ⟨g,0,none⟩) 1 1 news (fun h=>by cases h) (by rw[hl]) hc h1 h63 hbytes hN;unfold xH execOp;simp only[ho,resolve,invoke,builtin,Sem.run_bind,Sem.run_pure,Result.andThen_ok,List.map_toArray,List.map_cons,List.map_nil,hs,hu,AC];refine⟨⟨h2,?_⟩,?_⟩
 ·rcases h4 with h4 | h4 | h4
  ·omega
  ·exact .inl h4
  ·exact .inr ⟨_,h4,hH⟩
 ·rcases h3 with h3 | ⟨hn,hm,AB,g0,AF,AD,AA⟩
  ·exact vK.ext (zF8 _ _ _ _ _ _ _) h3
  ·refine⟨⟨AB.os,AB.tape,AB.output,AB.size,fun k hk ho=>AA.other k fun e=>ho (by rw[e,AD])⟩,fun F hF v h=>?_⟩;have AG:=hog g0 AD;simp only[FsK,zR,List.not_mem_nil,or_false] at hF
   rcases hF with rfl | rfl | rfl
   ·exact zAB.roomy AA h (.inl (zU _))
   ·obtain⟨g',a,b,c⟩:=h;exact⟨g',a,(AA.other g' (by omega)).trans b,c⟩
   ·exact⟨zAB.roomy AA h.1 (.inr ⟨rfl,rfl⟩),h.2⟩
def zNv (N:Nat)(e:TypeId)(o:Option Nat)(H n:Nat)(ys:List Value)(v:Value)(w:World):Prop:=zAK N e n ys v w∧(v.ownBlock=o∨∃g,v.ownBlock=some g∧H≤g)
def FsH (N:Nat)(e:TypeId)(v0:Value)(H n:Nat)(xs news:List Value):List (Value→World→Prop):=[fun _ w=>zAK N e n xs v0 w,zDq e H news.toArray,zNv N e v0.ownBlock H (n+1) (xs++news)]
theorem zI8 (N:Nat)(e:TypeId)(v0:Value)(H n:Nat)(xs news:List Value):∀F ∈ FsH N e v0 H n xs news,∀v w w',F v w→Ext w w'→F v w':=by
 intro F hF v w w' h hx;simp only[FsH,zR,List.not_mem_nil,or_false] at hF
 rcases hF with rfl | rfl | rfl
 ·exact zAK.ext h hx
 ·exact h.ext hx
 ·exact⟨h.1.ext hx,h.2⟩
theorem zED {P:Program}{w:World}{ρ:Operand→Value}{o:Oper}(N H:Nat)(s x:Operand)(t:TypeId)(ho:o.op=.call { callee:=.builtin .append,args:=#[s,x],argTypes:=#[t,t] })
  (e:TypeId) (i:TypeInfo) (z:Value) (bytes:Nat) (ht:P.underlying t=some (.slice e)) (hi:P.info? e=some i) (hz:i.zero=some z)
  (hsize:i.size=1) (hby:i.bytes=bytes) (hzs:z.cells.size=1) (v0:Value) (n:Nat) (xs news:List Value) (hs:ρ s=v0) (hrow:zAK N e n xs v0 w)
  (u:Value) (hu:ρ x=u) (hx:zDq e H news.toArray u w) (hl:news.length=1) (h1:∀u ∈ news,u.oneCell'=true) (h63:n+1≤maxLen) (hbytes:(n+1)*bytes≤140737488355328) (hN:N≤w.heap.size) (hH:H≤w.heap.size) (hog:∀g,v0.ownBlock=some g→g<H) :
  xH P ρ o w fun v' w'=>zNv N e v0.ownBlock H (n+1) (xs++news) v' w'∧vK v0.ownBlock (FsH N e v0 H n xs news) w w':=by
 obtain⟨g,AE,hb,hg⟩:=hx;rw[AE] at hu;have hc:Cells w (some ⟨g,0,none⟩) news:=.inr ⟨g,0,rfl,hb.lt,fun k hk=>by rw[Nat.zero_add,hb.cell k]; simp⟩;obtain⟨v',w',AC,h2,h3,h4⟩:=zLD (P:=P) w N t o.type e i z bytes ht hi hz hsize hby hzs v0 n xs hrow (some ⟨g,0,none⟩) 1 1 news (fun h=>by cases h) (by rw[hl]) hc h1 h63 hbytes hN;unfold xH execOp;simp only[ho,resolve,invoke,builtin,Sem.run_bind,Sem.run_pure,Result.andThen_ok,List.map_toArray,List.map_cons,List.map_nil,hs,hu,AC];refine⟨⟨h2,?_⟩,?_⟩
 ·rcases h4 with h4 | h4 | h4
  ·omega
  ·exact .inl h4
  ·exact .inr ⟨_,h4,hH⟩
 ·rcases h3 with h3 | ⟨hn,hm,AB,g0,AF,AD,AA⟩
  ·exact vK.ext (zI8 _ _ _ _ _ _ _) h3
  ·refine⟨⟨AB.os,AB.tape,AB.output,AB.size,fun k hk ho=>AA.other k fun e=>ho (by rw[e,AD])⟩,fun F hF v h=>?_⟩;have AG:=hog g0 AD;simp only[FsH,zR,List.not_mem_nil,or_false] at hF
   rcases hF with rfl | rfl | rfl
   ·exact zAK.roomy AA h (.inl (zU _))
   ·obtain⟨g',a,b,c⟩:=h;exact⟨g',a,(AA.other g' (by omega)).trans b,c⟩
   ·exact⟨zAK.roomy AA h.1 (.inr ⟨rfl,rfl⟩),h.2⟩
theorem zNc:(Tryz.prog.info? 48).map (fun i=>(i.zero,i.size,i.bytes))=some (some (.agg #[.int .u8 0,.int .i64 0,.string ⟨#[]⟩,.int .i64 0,.slice none 0 0]),5,64):=by kernel_rfl
theorem zE3:(Tryz.prog.info? 3).map (fun i=>(i.zero,i.size,i.bytes))=some (some (.int .i64 0),1,8):=by kernel_rfl
theorem PS.snoc {w W w1:World}{p B:Nat}{s:Ps}{R:vC}(h:PS W p B s R)(hw:Ext w W)(x:Nd)(hx:x.kids=[]){g cap:Nat}
  (ho:w1.ownsRow B 48 5 (.slice (some ⟨g,0,none⟩) (R.nh.length+1) cap) (R.nh.length+1) (ncs R.nh++jL (x,(none,0)))) (hg:W.grownBy w1 (Value.slice R.A R.nh.length R.c).ownBlock)
  (hf:(Value.slice R.A R.nh.length R.c).ownBlock=some g∨w.heap.size≤g) :
  PS (w1.setCell ⟨p,1,none⟩ (.slice (some ⟨g,0,none⟩) (R.nh.length+1) cap)) p B (s.add x) { R with A:=some ⟨g,0,none⟩,c:=cap,nh:=R.nh++[(x,(none,0))] } ∧
   yZ w (xO p R) (w1.setCell ⟨p,1,none⟩ (.slice (some ⟨g,0,none⟩) (R.nh.length+1) cap)) (xO p { R with A:=some ⟨g,0,none⟩,c:=cap,nh:=R.nh++[(x,(none,0))] }):=by
 have AA:(Value.slice R.A R.nh.length R.c).ownBlock≠some p:=fun e=>by
  obtain⟨AF,hc⟩:=vZ h.ns.row (vH h.ns.row e);exact Blk.differ h.blk hc (by decide) rfl
 have AB:Blk w1 p 75 _:=(hg.block p h.blk.lt (fun e=>AA e.symm)).trans h.blk;have AH:=h.pB;have AI:=h.blk.lt;have AC:=(h.ns.snoc (by decide) x hx ho hg);refine⟨⟨?_,fun k hk=>?_,h.zJ3,h.XZ,?_,?_,h.pB,⟨h.yY.last,h.yY.deep⟩⟩,?_⟩
 ·have:=AB.put 1 (.slice (some ⟨g,0,none⟩) (R.nh.length+1) cap)
  show Blk _ p 75 #[.slice _ s.ts.length _,.slice _ (R.nh++[(x,(none,0))]).length _,.int .i64 (s.deep:Int)]
  rw[yN]
  simpa using this
 ·have AG:=h.XZ
  have AE:R.bt≠p:=by omega
  show(w1.setCell _ _).cell? ⟨R.bt,R.ot+k,none⟩=_
  have e1:w1.heap[R.bt]?=W.heap[R.bt]?:=hg.block R.bt h.btl fun e=>by
   have:=(YP h.ns.row (vH h.ns.row e.symm)).1
   omega
  have e2:=World.cell?_of_block (w:=W) (w':=w1.setCell ⟨p,1,none⟩ (.slice (some ⟨g,0,none⟩) (R.nh.length+1) cap)) (a:=⟨R.bt,R.ot+k,none⟩) ((zQ w1 ⟨p,1,none⟩ _ R.bt AE).trans e1);exact e2.trans (h.zBX k hk)
 ·show s.nd++[x]=_
  rw[h.nodes,List.map_append]
  rfl
 ·refine AC.VS fun b hb=>zQ w1 ⟨p,1,none⟩ _ b fun e=>?_;rw[e] at hb;exact AC.zAH AB (by decide) (by decide) hb
 ·refine⟨hg.os.trans hw.os,hg.tape.trans hw.tape,hg.output.trans hw.output,?_,fun b hb hM=>?_,fun b hb=>?_⟩
  ·have h1:=hw.size;have h2:=hg.size;simp[World.setCell];omega
  ·have h1:=hw.size;have AD:b≠p:=fun e=>hM (.inl e);rw[zQ w1 ⟨p,1,none⟩ _ b AD,hg.block b (by omega) (fun e=>hM (.inr (.inl (vH h.ns.row e.symm))))];exact hw.block b hb
  ·have h1:=hw.size
   rcases hb with rfl | hb | hb
   ·exact .inl (.inl rfl)
   ·injection hb with hb;injection hb with hb;subst hb
    rcases hf with hf | hf
    ·exact .inl (.inr (.inl (vH h.ns.row hf)))
    ·exact .inr hf
   ·simp only[List.map_append] at hb
    rcases List.mem_append.1 hb with hb | hb
    ·exact .inl (.inr (.inr hb))
    ·simp at hb
theorem zDA (a at_ en n:Int)(x:ByteArray)(w:World):(Instr.field 29 (.agg #[.int .u8 a,.int .i64 at_,.int .i64 en,.string x,.int .i64 n]) 0).run Tryz.prog w=.ok (.int .u8 a) w:=by kernel_rfl
theorem zLp (a at_ en n:Int)(x:ByteArray)(w:World):(Instr.field 29 (.agg #[.int .u8 a,.int .i64 at_,.int .i64 en,.string x,.int .i64 n]) 1).run Tryz.prog w=.ok (.int .i64 at_) w:=by kernel_rfl
theorem zAx (a at_ en n:Int)(x:ByteArray)(w:World):(Instr.field 29 (.agg #[.int .u8 a,.int .i64 at_,.int .i64 en,.string x,.int .i64 n]) 3).run Tryz.prog w=.ok (.string x) w:=by kernel_rfl
theorem zDM (a at_ en n:Int)(x:ByteArray)(w:World):(Instr.field 29 (.agg #[.int .u8 a,.int .i64 at_,.int .i64 en,.string x,.int .i64 n]) 4).run Tryz.prog w=.ok (.int .i64 n) w:=by kernel_rfl
structure KF where
 K:Nat
 first:Array Value
 cap:Array Value
 m:Pm Unit
def KF.val (f:KF):Value:=.func (.func f.K) f.first f.cap
def zDs:List KF→Pm Unit
 | [],s=>.ok () s
 | f::l,s=>(f.m s).bind fun _ s=>zDs l s
theorem zFp (x:Nd × Hd2):∀u ∈ jL x,u.oneCell'=true:=by
 intro u hu;simp only[jL,zR,List.not_mem_nil,or_false] at hu
 rcases hu with rfl | rfl | rfl | rfl | rfl <;> rfl
theorem NS.zTD {w:World}{B:Nat}{tn ti:TypeId}{A:Option Addr}{c:Nat}{nh:List (Nd × Hd2)}(h:NS w B tn ti A c nh):zAB B tn nh.length (ncs nh) (.slice A nh.length c) w:=by
 refine⟨h.row,A,c,rfl,fun e=>?_,h.rz⟩;subst e
 rcases h.row.2 with ⟨hv,_⟩ | ⟨g,AA,AB,hv,_⟩
 ·injection hv
 ·cases hv
theorem NS.zUe {w:World}{B:Nat}{tn ti:TypeId}{A:Option Addr}{c:Nat}{nh:List (Nd × Hd2)}(h:NS w B tn ti A c nh)(x:Nd × Hd2)(hx:x ∈ nh):zAK B ti x.1.kids.length (ints x.1.kids) (.slice x.2.1 x.1.kids.length x.2.2) w:=by
 refine⟨h.kids x hx,_,_,rfl,fun e=>?_,h.kz x hx⟩;have hk:=(h.kids x hx).2;rw[e] at hk
 rcases hk with ⟨hv,_⟩ | ⟨g,AA,AB,hv,_⟩
 ·injection hv
 ·cases hv
theorem zAB.at {N:Nat}{e:TypeId}{n:Nat}{xs:List Value}{v:Value}{w:World}(h:zAB N e (n+1) xs v w):∃g cap,v=.slice (some ⟨g,0,none⟩) (n+1) cap:=by
 rcases h.1.2 with ⟨_,h0⟩ | ⟨g,cap,AA,hv,_⟩
 ·omega
 ·exact⟨g,cap,hv⟩
theorem zAK.at {N:Nat}{e:TypeId}{n:Nat}{xs:List Value}{v:Value}{w:World}(h:zAK N e (n+1) xs v w):∃g cap,v=.slice (some ⟨g,0,none⟩) (n+1) cap:=by
 rcases h.1.2 with ⟨_,h0⟩ | ⟨g,cap,AA,hv,_⟩
 ·omega
 ·exact⟨g,cap,hv⟩
theorem zLn:∀(l:List KF) (k:Nat) (hk:k<l.length) (s s':Ps),zDs (l.take k) s=.ok () s'→zDs (l.take (k+1)) s=(l[k].m s').bind fun _ s=>.ok () s
 | f::l,0,_,s,s',h=>by
  injection h with _ h;subst h
  rfl
 | f::l,k+1,hk,s,s',h=>by
  show(f.m s).bind (fun _ s=>zDs (l.take (k+1)) s)=_
  have h':(f.m s).bind (fun _ s=>zDs (l.take k) s)=.ok () s':=h
  cases hm:f.m s with
  | err e p=>rw[hm] at h'; cases h'
  | ok a t=>
   rw[hm] at h';exact zLn l k (by simpa using hk) t s' h'
theorem zNO:∀(l:List KF) (k:Nat) (hk:k<l.length) (s s':Ps),zDs (l.take k) s=.ok () s'→∀er a,l[k].m s'=.err er a→zDs l s=.err er a
 | f::l,0,_,s,s',h,er,a,he=>by
  injection h with _ h;subst h
  show(f.m s).bind _=_
  rw[show f.m s=.err er a from he]
  rfl
 | f::l,k+1,hk,s,s',h,er,a,he=>by
  show(f.m s).bind (fun _ s=>zDs l s)=_
  have h':(f.m s).bind (fun _ s=>zDs (l.take k) s)=.ok () s':=h
  cases hm:f.m s with
  | err e p=>rw[hm] at h'; cases h'
  | ok b t=>
   rw[hm] at h';exact zNO l k (by simpa using hk) t s' h' er a he
theorem zLo (w:World)(p B:Nat)(s:Ps)(R:vC)(kind:Nat)(F:Option Addr)(l:List KF)(fc:Nat)(h:PS w p B s R)(hbig:s.nd.length≤1000000)(hl:l.length≤10)
  (hF:zF7 w (xO p R) F (l.map KF.val)) (he:∀f ∈ l,∀args w,(callFunc f.K args).run Tryz.prog w=.ok (.enter f.K args) w)
  (hd:∀(k:Nat) (hk:k<l.length) (s':Ps) (wr:World) (R':vC),zDs (l.take k) (s.node kind)=.ok () s'→yZ w (xO p R) wr (xO p R')→PS wr p B s' R'→Calls Tryz.prog l[k].K (l[k].first++#[.int .i64 (s.nd.length:Int)]++l[k].cap) wr (xQ wr p B R' (l[k].m s'))) :
  Calls Tryz.prog 80 #[.pointer (some ⟨p,0,none⟩),.int .u8 (kind:Int),.slice F l.length fc] w (zEk w p B R (.int .i64 (s.nd.length:Int)) (zDs l (s.node kind))):=by
 obtain⟨i0,hi,At,Ai,Ah⟩:=info_parts zNc;have HP:=yE h;have Ad:=yE hF;have HE:=yE he;have HD:=yE hd;have x1:=h.x1;have AB:=h.len;have AO:=h.blk.lt;have AX:=yE AB;rw[AB] at hbig;have An:=zLp;obtain⟨o,HO⟩:∃o,Hid ((Value.slice R.A R.nh.length R.c).ownBlock=o):=⟨_,yE rfl⟩
 have AR:Hid (some p≠o):=yE fun e=>by
  rw[←HO.out] at e;obtain⟨Au,hc⟩:=vZ h.ns.row (vH h.ns.row e.symm);exact Blk.differ h.blk hc (by decide) rfl
 have Aq:Hid (some R.bt≠o):=yE fun e=>by
  rw[←HO.out] at e;have h1:=(YP h.ns.row (vH h.ns.row e.symm)).1;have h2:=h.XZ;omega
 have Ae:Hid (∀g,o=some g→g<w.heap.size):=yE fun g e=>by
  rw[←HO.out] at e;exact(YP h.ns.row (vH h.ns.row e)).2
 have Am:Hid (B≤w.heap.size):=yE (Nat.le_trans h.pB (zS AO));obtain⟨Fs,AF⟩:∃Fs,Hid (FsK B 48 (.slice R.A R.nh.length R.c) w.heap.size R.nh.length (ncs R.nh) (jL (⟨kind,s.hd.at_,[],0,[]⟩,(none,0)))=Fs):=⟨_,yE rfl⟩
 have hE:∀F ∈ Fs,∀v w w',F v w→Ext w w'→F v w':=by rw[←AF.out]; exact zF8 _ _ _ _ _ _ _
 have m0:(fun (_:Value) w=>zAB B 48 R.nh.length (ncs R.nh) (.slice R.A R.nh.length R.c) w) ∈ Fs:=by rw[←AF.out]; simp only[FsK,zR,true_or]
 have m1:zDq 48 w.heap.size (jL (⟨kind,s.hd.at_,[],0,[]⟩,(none,0))).toArray ∈ Fs:=by rw[←AF.out]; simp only[FsK,zR,true_or,or_true]
 have m2:zKt B 48 o w.heap.size (R.nh.length+1) (ncs R.nh++jL (⟨kind,s.hd.at_,[],0,[]⟩,(none,0))) ∈ Fs:=by rw[←AF.out,←HO.out]; simp only[FsK,zR,true_or,or_true]
 have AT:=yE hE;have M0:=yE m0;have M1:=yE m1;have M2:=yE m2;clear h hF he hd AB hE m0 m1 m2
 go_enter Tryz.func80,Tryz.ntmps80
 go_upto_region 2 with fail
 apply zAO o Fs 14 (by kernel_rfl) (by kernel_rfl) (by kernel_rfl) AT.out;dsimp only[List.take_succ_cons,List.take_zero,List.drop_succ_cons,List.drop_zero];apply sG vK.refl (.pointer (some ⟨p,0,none⟩));apply sG vK.refl (.pointer (some ⟨p,0,none⟩));apply sG vK.refl (.pointer (some ⟨p,0,none⟩));apply sG vK.refl (.pointer (some ⟨p,1,none⟩));apply xN (.slice R.A R.nh.length R.c) rfl rfl rfl
 ·intro w' AA hH;have hR:=vK.refl (o:=o) (Fs:=Fs) w';have cc:=Blk.cell ((AA.1.block p AO AR.out).trans HP.out.blk) 1;clear hH AA;simp[xH,go_sem,cc];exact hR
 apply sG vK.refl (.int .u8 (kind:Int));apply sG vK.refl (.pointer (some ⟨p,0,none⟩));apply xN (.agg (xS s.hd).toArray) rfl rfl rfl
 ·intro w' AA hH;have ht:=HP.out.ts.grown AA.1 AR.out Aq.out;clear hH AA;simp[xH,go_sem];refine(ZP w' p s R ht).mono ?_;rintro e w2 ⟨rfl,hx⟩;exact⟨_,rfl,rfl,vK.ext AT.out hx⟩
 apply xN (.int .i64 (s.hd.at_:Int)) rfl rfl rfl
 ·intro w' AA hH;clear hH AA;unfold xS;simp[xH,go_sem,An];exact vK.refl _
 apply sG vK.refl (.agg #[.int .u8 (kind:Int),.int .i64 (s.hd.at_:Int),.string ⟨#[]⟩,.int .i64 0,.slice none 0 0]);apply ZK (zDq 48 w.heap.size (jL (⟨kind,s.hd.at_,[],0,[]⟩,(none,0))).toArray) (fun v w w' h hx=>hx.2 _ M1.out v h) rfl rfl rfl
 ·intro w' AA hH;have hz:=AA.1.size;clear hH AA;simp[xH,go_sem];exact⟨⟨_,rfl,Blk.new _ _ _,hz⟩,vK.ext AT.out (Ext.alloc _ _)⟩
 intro Al;(try simp only[Act.put,yB,yC,yD]);apply ZK (zKt B 48 o w.heap.size (R.nh.length+1) (ncs R.nh++jL (⟨kind,s.hd.at_,[],0,[]⟩,(none,0)))) (fun v w w' h hx=>hx.2 _ M2.out v h) rfl rfl rfl
 ·intro w' AA hH;have AL:=hH _ (List.mem_cons_self ..) ⟨_,rfl,by decide⟩;have AS:=AA.2 _ M0.out undef HP.out.ns.zTD;have hz:=AA.1.size;clear hH AA;rw[←AF.out,←HO.out];exact zDc B w.heap.size (.tmp 19) (.tmp 25) 37 rfl 48 i0 _ 64 Tryz.underlying37 hi At Ai Ah rfl (.slice R.A R.nh.length R.c) R.nh.length (ncs R.nh) (jL (⟨kind,s.hd.at_,[],0,[]⟩,(none,0))) (by kernel_rfl) AS Al (by kernel_rfl) AL rfl (zFp _) (by unfold maxLen; omega) (by omega) (Nat.le_trans Am.out hz) hz (fun g e=>Ae.out g (by rw[←HO.out]; exact e))
 intro Aw;apply sG vK.refl (.pointer (some ⟨p,0,none⟩));apply sG vK.refl (.pointer (some ⟨p,1,none⟩));apply ZQ;intro w2 AM hH;have AG:=hH _ (List.mem_cons_self ..);clear hH;obtain⟨g,Ab,rfl⟩:=AG.1.at;have AU:=AM.1;rw[←HO.out] at AU;have AJ:Blk w2 p 75 _:=(AM.1.block p AO AR.out).trans HP.out.blk
 obtain⟨Ac,Aa⟩:=PS.snoc (w:=w) HP.out (Ext.refl w) ⟨kind,s.hd.at_,[],0,[]⟩ rfl AG.1.1 AU (by
  rcases AG.2 with e | ⟨g',e,Ax⟩
  ·left; rw[HO.out,←e]; rfl
  ·right; have:g=g':=by simpa [Value.ownBlock] using e
   omega)
 have y1:w2.cell? ⟨p,1,none⟩=some (.slice R.A R.nh.length R.c):=AJ.cell 1;have z1:=AJ.frozen 1;have HS:Hid (OkP w p B R (s.node kind) (w2.setCell ⟨p,1,none⟩ (.slice (some ⟨g,0,none⟩) (R.nh.length+1) Ab))):=yE ⟨_,Ac,Aa⟩;clear AG AU AJ Ac Aa AM x1;(try simp only[Act.put,yB,yD,yC])
 go_wp2_with fail
 clear y1 z1;generalize w2.setCell ⟨p,1,none⟩ (.slice (some ⟨g,0,none⟩) (R.nh.length+1) Ab)=w3 at *
 go_loopw [31] (fun i wr=>∃(k:Nat) (s':Ps),k≤l.length∧i=.int .i64 k∧Hid (zDs (l.take k) (s.node kind)=.ok () s')∧Hid (OkP w p B R s' wr)) (fun i _=>l.length-(intOf i).toNat)
 case atStart=>exact⟨0,s.node kind,zT _,rfl,yE rfl,HS⟩
 case round=>
  obtain⟨k,s',hk,rfl,HQ,AV⟩:=hrel;obtain⟨wa,rfl⟩:∃wa:World,wa=wr:=⟨_,rfl⟩
  by_cases AD:k<l.length
  ·have d0:decide ((k:Int)<(l.length:Int))=true:=yQ (by omega)
   have q0:(k:Int)<(l.length:Int):=by omega
   obtain⟨R',AK,AH⟩:=AV.out;have Av:=yE AK;have AY:=yE AH;obtain⟨b,Ag,rfl,hb,AZ⟩:=(Ad.out.xC AH).cells.at_ (by simp; omega)
   have x0:wa.cell? ⟨b,Ag+k,none⟩=some (l[k].val):=by rw[AZ k (by simpa using AD)]; simp[AD]
   have AQ:=zLn l k AD (s.node kind) s' HQ.out;have AC:=zNO l k AD (s.node kind) s' HQ.out;have AP:=HD.out k AD s' wa R' HQ.out AH AK;have Aj:=HE.out _ (yM AD);clear AZ AK AH;generalize l[k]=f at *;obtain⟨K,first,AN,m⟩:=f;unfold KF.val at x0
   simp only at x0 AQ AP Aj AC
   have AE:Calls Tryz.prog K (first.push (.int .i64 (R.nh.length:Int))++AN) wa (xQ wa p B R' (m s')):=by
    have:=AP
    rw[AX.out,Array.append_singleton] at this;exact this
   have Ak:=yE AC;have Af:=yE AQ;have AW:=yE AE;clear AQ AP AE AC
   cases hm:m s' with
   | ok a s2=>
    have AI:Hid (xQ wa p B R' (m s')=xQ wa p B R' (.ok a s2)):=yE (by rw[hm]);have Ar:Hid (zDs (l.take (k+1)) (s.node kind)=.ok () s2):=yE (by rw[Af.out,hm]; rfl);clear hm
    go_wp2_with fail
    refine AW.out.mono ?_;rw[AI.out];rintro e w4 ⟨rfl,ho⟩;have Ao:=yE (OkP.trans AY.out ho);clear ho
    go_wp2_with fail
    go_roundw
    case rel=>exact⟨k+1,s2,by omega,by go_num,Ar,Ao⟩
    case measure=>simp[intOf]; omega
   | err er a=>
    have AI:Hid (xQ wa p B R' (m s')=xQ wa p B R' (.err er a)):=yE (by rw[hm]);have As:=yE (Ak.out er a hm);clear hm
    go_wp2_with fail
    refine AW.out.mono ?_;rw[AI.out];rintro e w4 ⟨rfl,ho⟩;refine xB (P:=Tryz.prog) (fn:=Tryz.f80) rfl ?_;rw[As.out];exact zAa.trans AY.out ⟨rfl,ho⟩
  ·obtain rfl:k=l.length:=by omega
   have d0:decide ((l.length:Int)<(l.length:Int))=false:=by simp
   have d1:decide (l.length<l.length)=false:=by simp
   have Ap:Hid (zDs l (s.node kind)=.ok () s'):=yE (by have:=HQ.out; rw[List.take_length] at this; exact this)
   go_wp2_with fail
   go_ret;rw[Ap.out];exact⟨zGl (by rw[AX.out]),AV.out⟩
end Go.Proofs.YtioffpjajhalaaaGreatDoor
