/- Appends onto rows of the call's own, elements of five cells and of one: what each leaves as it was; where the new row lies. (and what follows of it). The conditions stand at each lemma. -/
import Derived.Test.YtioffpjajhalaaaGreatDoorJaa
import Derived.Test.YtioffpjajhalaaaGreatDoorJab
import Derived.Test.YtioffpjajhalaaaGreatDoorJal
import Derived.Deep.Cut
set_option linter.unusedVariables false
set_option linter.unusedSimpArgs false
set_option maxRecDepth 100000
set_option maxHeartbeats 16000000
namespace Go.Proofs.YtioffpjajhalaaaGreatDoor
open Go Go.RowKit
def zAO (N:Nat)(e:TypeId)(n:Nat)(xs:List Value)(v:Value)(w:World):Prop:=
 w.ownsRow N e 5 v n xs∧∃A c,v=.slice A n c∧(A=none→c=0)∧(n=0→c=0)
def zKX (e:TypeId)(k:Nat)(cs:Array Value)(v:Value)(w:World):Prop:=∃g,v=.slice (some ⟨g,0,none⟩) k k∧Blk w g e cs
def zKW (e:TypeId)(cs:Array Value)(N:Nat)(v:Value)(w:World):Prop:=∃g,v=.pointer (some ⟨g,0,none⟩)∧Blk w g e cs∧N≤g
structure zL5 (N g n m cap:Nat)(e:TypeId)(xs news:List Value)(w w':World):Prop where
 other:∀k,k≠g→w'.heap[k]?=w.heap[k]?
 room:n+m≤cap
 xl:xs.length=n*5
 ml:news.length=m*5
 cells:∃cur cur':Array Value,w.heap[g]?=some (.cells cur e (0,0))∧w'.heap[g]?=some (.cells cur' e (0,0))∧cur.size=cap*5∧cur'.size=cap*5∧cur.toList.take (n*5)=xs∧cur'.toList.take ((n+m)*5)=xs++news
theorem zAO.ext {N:Nat}{e:TypeId}{n:Nat}{xs:List Value}{v:Value}{w w':World}(h:zAO N e n xs v w)(hx:Ext w w'):zAO N e n xs v w':=⟨zFX h.1 hx,h.2⟩
theorem zKX.ext {e:TypeId}{k:Nat}{cs:Array Value}{v:Value}{w w':World}(h:zKX e k cs v w)(hx:Ext w w'):zKX e k cs v w':=let ⟨g,a,b⟩:=h; ⟨g,a,b.ext hx⟩
theorem zKW.ext {e:TypeId}{cs:Array Value}{N:Nat}{v:Value}{w w':World}(h:zKW e cs N v w)(hx:Ext w w'):zKW e cs N v w':=let ⟨g,a,b,c⟩:=h; ⟨g,a,b.ext hx,c⟩
theorem zKX.roomy {N g n m cap:Nat}{e e':TypeId}{xs news:List Value}{w w':World}{k:Nat}{cs:Array Value}{v:Value}(hr:zL5 N g n m cap e xs news w w')(h:zKX e' k cs v w)(hs:cs.size<(n+m)*5):zKX e' k cs v w':=by
 obtain⟨g',rfl,hb⟩:=h;refine⟨g',rfl,?_⟩
 by_cases hg:g'=g
 ·subst hg;obtain⟨AB,AA,h1,h2,h3,_⟩:=hr.cells;unfold Blk at hb;rw[hb] at h1;injection h1 with h1;injection h1 with h1;subst h1
  have:=hr.room
  have:(n+m)*5≤cap*5:=Nat.mul_le_mul_right _ this
  omega
 ·exact(hr.other g' hg).trans hb
theorem zKW.roomy {N g n m cap:Nat}{e e':TypeId}{xs news:List Value}{w w':World}{cs:Array Value}{M:Nat}{v:Value}(hr:zL5 N g n m cap e xs news w w')(h:zKW e' cs M v w)(hs:e'≠e):zKW e' cs M v w':=by
 obtain⟨g',rfl,hb,hM⟩:=h;refine⟨g',rfl,?_,hM⟩
 by_cases hg:g'=g
 ·subst hg;obtain⟨AB,AA,h1,h2,h3,_⟩:=hr.cells;unfold Blk at hb;rw[hb] at h1;injection h1 with h1;injection h1 with h1 h4;exact absurd h4 hs
 ·exact(hr.other g' hg).trans hb
theorem zAO.roomy {N g n m cap:Nat}{e:TypeId}{xs news:List Value}{w w':World}{k:Nat}{ys:List Value}{v:Value}(hr:zL5 N g n m cap e xs news w w')(h:zAO N e k ys v w)(hs:k≤n∨(k=n+m∧ys=xs++news)):zAO N e k ys v w':=by
 refine⟨⟨h.1.1,?_⟩,h.2⟩;have AF:=h.1.1
 rcases h.1.2 with hn | ⟨g',AC,AB,hv,hb,hh,a1,a2,a3,a4⟩
 ·exact .inl hn
 ·by_cases hg:g'=g
  ·subst hg;obtain⟨AG,AA,h1,h2,h3,h4,h5,h6⟩:=hr.cells;rw[hh] at h1;injection h1 with h1;injection h1 with h1;subst h1;refine .inr ⟨g',AC,AA,hv,hb,h2,a1,a2,by omega,?_⟩
   rcases hs with hs | ⟨rfl,rfl⟩
   ·have AE:k*5≤n*5:=Nat.mul_le_mul_right _ hs
    have AD:k*5≤(n+m)*5:=by omega
    have e1:(AA.toList.take ((n+m)*5)).take (k*5)=AA.toList.take (k*5):=by rw[List.take_take,Nat.min_eq_left AD]
    have e2:(AB.toList.take (n*5)).take (k*5)=AB.toList.take (k*5):=by rw[List.take_take,Nat.min_eq_left AE]
    rw[←e1,h6,List.take_append_of_le_length (by rw[hr.xl]; exact AE),←h5,e2,a4]
   ·exact h6
  ·exact .inr ⟨g',AC,AB,hv,hb,(hr.other g' hg).trans hh,a1,a2,a3,a4⟩
theorem zLv {P:Program}(w:World)(N:Nat)(t ty e:TypeId)(i:TypeInfo)(z:Value)(bytes:Nat)(ht:P.underlying t=some (.slice e))(hi:P.info? e=some i)(hz:i.zero=some z)
  (hsize:i.size=5) (hby:i.bytes=bytes) (hzs:z.cells.size=5) (v:Value) (n:Nat) (xs:List Value) (hrow:zAO N e n xs v w)
  (A:Option Addr) (m c:Nat) (news:List Value) (hc0:A=none→c=0) (hl:news.length=m*5) (hr:Cells w A news) (h1:∀u ∈ news,u.oneCell'=true)
  (h63:n+m≤maxLen) (hbytes:(n+m)*bytes≤140737488355328) (hN:N≤w.heap.size) :
  ∃v' w',(Builtin.append_ #[t,t] ty #[v,.slice A m c]).run P w=.ok v' w'∧zAO N e (n+m) (xs++news) v' w'∧(Ext w w'∨(0<n∧0<m∧Below N w w'∧∃g AD,v.ownBlock=some g∧zL5 N g n m AD e xs news w w'))∧(m=0∨v'.ownBlock=v.ownBlock∨v'.ownBlock=some w.heap.size):=by
 have AL:n+m≤9223372036854775807:=by simp only[maxLen] at h63; omega
 have AE:(xs++news).length=(n+m)*5:=by rw[yM,hrow.1.1,hl,Nat.add_mul]
 by_cases hm:m=0
 ·subst hm;have hn:news=[]:=List.eq_nil_of_length_eq_zero (by simpa using hl);subst hn;refine⟨v,w,?_,by simpa using hrow,.inl (Ext.refl w),.inl rfl⟩
  cases A with
  | none=>
   have:=hc0 rfl
   subst this;exact run_append_owned_none (P:=P) w N t ty e i 5 ht hi v n xs hrow.1
  | some ad=>
   rcases hrow.1.2 with ⟨rfl,rfl⟩ | ⟨g,AD,AB,rfl,_,hg,AO,_,AK,_⟩
   ·simp[Builtin.append_,run_underlying ht,sizeOf,typeInfo,hi,Builtin.lenOf,Builtin.firstCells,loadCells,loadCellsFrom]
   ·have AH:n*i.size+([]:List Value).length≤AB.size:=by rw[hsize,AK]; simp only[zK,Nat.add_zero]; exact Nat.mul_le_mul_right _ AO
    have:=run_append_room (P:=P) w t ty e i ht hi g n AD AB hg ad 0 c [] (by simp) (fun j u hu=>by simp at hu) (fun u hu=>by simp at hu) (by omega) AH
    rw[this];simp only[Nat.add_zero,List.append_nil,zK,List.take_append_drop,Array.toArray_toList];rw[setRow_self w g AB e (0,0) hg]
 ·obtain⟨ad,rfl⟩:∃ad,A=some ad:=by
   rcases hr with hr | ⟨b,AP,hA,_⟩
   ·subst hr; simp at hl; omega
   ·exact⟨_,hA⟩
  have AC:∀j u,news[j]?=some u→w.cell? (ad.add j)=some u:=by
   intro j u hu
   rcases hr with hr | ⟨b,AP,hA,_,hk⟩
   ·subst hr; simp at hu
   ·injection hA with hA;subst hA;have hj:j<news.length:=(List.getElem?_eq_some_iff.1 hu).1
    have:=(hk j hj).trans hu
    unfold Addr.add
    by_cases h0:j=0
    ·subst h0; simpa using this
    ·simp only[h0,if_false]; exact this
  subst hby
  have grown:∀(AF:Nat),AF<n+m →
    zAO N e (n+m) (xs++news) (.slice (some ⟨w.heap.size,0,none⟩) (n+m) (grownCap w (n+m) AF e)) (w.drew.alloc (.cells (xs.toArray++news.toArray++Builtin.zeroCells z.cells (grownCap w (n+m) AF e-(n+m))) e)) ∧
    Ext w (w.drew.alloc (.cells (xs.toArray++news.toArray++Builtin.zeroCells z.cells (grownCap w (n+m) AF e-(n+m))) e)):=by
   intro AF ho;have AS:=grownCap_ge w (n+m) AF e;have AM:grownCap w (n+m) AF e≤maxLen:=grownCap_le_maxLen w (n+m) AF e h63;refine⟨⟨⟨AE,.inr ⟨w.heap.size,_,_,rfl,hN,zO w.drew _,AS,AM,?_,?_⟩⟩,_,_,rfl,(fun h=>by cases h),(fun h=>by omega)⟩,Ext.trans (Below.drew (Below.refl _ _)) (Ext.alloc _ _)⟩
   ·simp only[Array.size_append,List.size_toArray,size_zeroCells,hzs,hrow.1.1,hl,←Nat.add_mul]
    congr 1
    omega
   ·simp only[Array.toList_append,List.append_assoc];rw[←List.append_assoc,←AE];exact List.take_left
  rcases hrow.1.2 with ⟨rfl,rfl⟩ | ⟨g,AD,AB,rfl,AT,hg,AO,AM,AK,AG⟩
  ·have hx:xs=[]:=List.eq_nil_of_length_eq_zero (by simpa using hrow.1.1);subst hx;have hr:=run_append_nil (P:=P) w t ty e i z ht hi hz ad m c news (by rw[hsize]; exact hl) AC (by omega) (by omega) (by have hb:=hbytes; simp only[Nat.zero_add] at hb; omega);have AI:=grown 0 (by omega);simp only[Nat.zero_add,List.nil_append,Array.empty_append] at AI ⊢;exact⟨_,_,hr,AI.1,.inl AI.2,.inr (.inr rfl)⟩
  ·by_cases AA:n+m≤AD
   ·have AQ:0<n:=by
     rcases Nat.eq_zero_or_pos n with h0 | h0
     ·obtain⟨A',c',AR,_,AU⟩:=hrow.2;injection AR with _ _ hcc
      have:=AU h0
      omega
     ·exact h0
    have AH:n*i.size+news.length≤AB.size:=by rw[hl,AK,hsize,←Nat.add_mul]; exact Nat.mul_le_mul_right _ AA
    have hr:=run_append_room (P:=P) w t ty e i ht hi g n AD AB hg ad m c news (by rw[hsize]; exact hl) AC h1 AA AH
    have AJ:(AB.toList.take (n*i.size)++news++AB.toList.drop (n*i.size+news.length)).toArray.size=AD*5:=by
     simp only[List.size_toArray,yM,List.length_take,List.length_drop,Array.length_toList];omega
    have AN:(AB.toList.take (n*i.size)++news++AB.toList.drop (n*i.size+news.length)).toArray.toList.take ((n+m)*5)=xs++news:=by
     rw[hsize,AG,←AE];exact List.take_left
    refine⟨_,_,hr,⟨⟨AE,.inr ⟨g,AD,_,rfl,AT,setRow_heap w g AB _ e _ hg,AA,AM,AJ,AN⟩⟩,_,_,rfl,(fun h=>by cases h),(fun h=>by omega)⟩,.inr ⟨AQ,by omega,⟨rfl,rfl,rfl,by simp,fun k hk=>setRow_other w g k _ (by omega)⟩,g,AD,rfl,?_⟩,.inr (.inl rfl)⟩;exact⟨fun k hk=>setRow_other w g k _ hk,AA,hrow.1.1,hl,AB,_,hg,setRow_heap w g AB _ e _ hg,AK,AJ,AG,AN⟩
   ·have holds:∀j u,xs[j]?=some u→w.cell? ((⟨g,0,none⟩:Addr).add j)=some u:=hrow.1.cells (g:=g) rfl;have hr:=run_append_grow (P:=P) w t ty e i z ht hi hz ⟨g,0,none⟩ n AD xs (by rw[hsize]; exact hrow.1.1) holds ad m c news (by rw[hsize]; exact hl) AC (by omega) (by omega) (growslice_fits (by omega) hbytes);have AI:=grown AD (by omega);exact⟨_,_,hr,AI.1,.inl AI.2,.inr (.inr rfl)⟩
def zAP (N:Nat)(e:TypeId)(n:Nat)(xs:List Value)(v:Value)(w:World):Prop:=
 w.ownsRow N e 1 v n xs∧∃A c,v=.slice A n c∧(A=none→c=0)∧(n=0→c=0)
def zK9 (e:TypeId)(k:Nat)(cs:Array Value)(v:Value)(w:World):Prop:=∃g,v=.slice (some ⟨g,0,none⟩) k k∧Blk w g e cs
def zKp (e:TypeId)(cs:Array Value)(N:Nat)(v:Value)(w:World):Prop:=∃g,v=.pointer (some ⟨g,0,none⟩)∧Blk w g e cs∧N≤g
structure zMg (N g n m cap:Nat)(e:TypeId)(xs news:List Value)(w w':World):Prop where
 other:∀k,k≠g→w'.heap[k]?=w.heap[k]?
 room:n+m≤cap
 xl:xs.length=n*1
 ml:news.length=m*1
 cells:∃cur cur':Array Value,w.heap[g]?=some (.cells cur e (0,0))∧w'.heap[g]?=some (.cells cur' e (0,0))∧cur.size=cap*1∧cur'.size=cap*1∧cur.toList.take (n*1)=xs∧cur'.toList.take ((n+m)*1)=xs++news
theorem zAP.ext {N:Nat}{e:TypeId}{n:Nat}{xs:List Value}{v:Value}{w w':World}(h:zAP N e n xs v w)(hx:Ext w w'):zAP N e n xs v w':=⟨zFX h.1 hx,h.2⟩
theorem zK9.ext {e:TypeId}{k:Nat}{cs:Array Value}{v:Value}{w w':World}(h:zK9 e k cs v w)(hx:Ext w w'):zK9 e k cs v w':=let ⟨g,a,b⟩:=h; ⟨g,a,b.ext hx⟩
theorem zKp.ext {e:TypeId}{cs:Array Value}{N:Nat}{v:Value}{w w':World}(h:zKp e cs N v w)(hx:Ext w w'):zKp e cs N v w':=let ⟨g,a,b,c⟩:=h; ⟨g,a,b.ext hx,c⟩
theorem zK9.roomy {N g n m cap:Nat}{e e':TypeId}{xs news:List Value}{w w':World}{k:Nat}{cs:Array Value}{v:Value}(hr:zMg N g n m cap e xs news w w')(h:zK9 e' k cs v w)(hs:cs.size<(n+m)*1):zK9 e' k cs v w':=by
 obtain⟨g',rfl,hb⟩:=h;refine⟨g',rfl,?_⟩
 by_cases hg:g'=g
 ·subst hg;obtain⟨AB,AA,h1,h2,h3,_⟩:=hr.cells;unfold Blk at hb;rw[hb] at h1;injection h1 with h1;injection h1 with h1;subst h1
  have:=hr.room
  have:(n+m)*1≤cap*1:=Nat.mul_le_mul_right _ this
  omega
 ·exact(hr.other g' hg).trans hb
theorem zKp.roomy {N g n m cap:Nat}{e e':TypeId}{xs news:List Value}{w w':World}{cs:Array Value}{M:Nat}{v:Value}(hr:zMg N g n m cap e xs news w w')(h:zKp e' cs M v w)(hs:e'≠e):zKp e' cs M v w':=by
 obtain⟨g',rfl,hb,hM⟩:=h;refine⟨g',rfl,?_,hM⟩
 by_cases hg:g'=g
 ·subst hg;obtain⟨AB,AA,h1,h2,h3,_⟩:=hr.cells;unfold Blk at hb;rw[hb] at h1;injection h1 with h1;injection h1 with h1 h4;exact absurd h4 hs
 ·exact(hr.other g' hg).trans hb
theorem zAP.roomy {N g n m cap:Nat}{e:TypeId}{xs news:List Value}{w w':World}{k:Nat}{ys:List Value}{v:Value}(hr:zMg N g n m cap e xs news w w')(h:zAP N e k ys v w)(hs:k≤n∨(k=n+m∧ys=xs++news)):zAP N e k ys v w':=by
 refine⟨⟨h.1.1,?_⟩,h.2⟩;have AF:=h.1.1
 rcases h.1.2 with hn | ⟨g',AC,AB,hv,hb,hh,a1,a2,a3,a4⟩
 ·exact .inl hn
 ·by_cases hg:g'=g
  ·subst hg;obtain⟨AG,AA,h1,h2,h3,h4,h5,h6⟩:=hr.cells;rw[hh] at h1;injection h1 with h1;injection h1 with h1;subst h1;refine .inr ⟨g',AC,AA,hv,hb,h2,a1,a2,by omega,?_⟩
   rcases hs with hs | ⟨rfl,rfl⟩
   ·have AE:k*1≤n*1:=Nat.mul_le_mul_right _ hs
    have AD:k*1≤(n+m)*1:=by omega
    have e1:(AA.toList.take ((n+m)*1)).take (k*1)=AA.toList.take (k*1):=by rw[List.take_take,Nat.min_eq_left AD]
    have e2:(AB.toList.take (n*1)).take (k*1)=AB.toList.take (k*1):=by rw[List.take_take,Nat.min_eq_left AE]
    rw[←e1,h6,List.take_append_of_le_length (by rw[hr.xl]; exact AE),←h5,e2,a4]
   ·exact h6
  ·exact .inr ⟨g',AC,AB,hv,hb,(hr.other g' hg).trans hh,a1,a2,a3,a4⟩
theorem zLC {P:Program}(w:World)(N:Nat)(t ty e:TypeId)(i:TypeInfo)(z:Value)(bytes:Nat)(ht:P.underlying t=some (.slice e))(hi:P.info? e=some i)(hz:i.zero=some z)
  (hsize:i.size=1) (hby:i.bytes=bytes) (hzs:z.cells.size=1) (v:Value) (n:Nat) (xs:List Value) (hrow:zAP N e n xs v w)
  (A:Option Addr) (m c:Nat) (news:List Value) (hc0:A=none→c=0) (hl:news.length=m*1) (hr:Cells w A news) (h1:∀u ∈ news,u.oneCell'=true)
  (h63:n+m≤maxLen) (hbytes:(n+m)*bytes≤140737488355328) (hN:N≤w.heap.size) :
  ∃v' w',(Builtin.append_ #[t,t] ty #[v,.slice A m c]).run P w=.ok v' w'∧zAP N e (n+m) (xs++news) v' w'∧(Ext w w'∨(0<n∧0<m∧Below N w w'∧∃g AD,v.ownBlock=some g∧zMg N g n m AD e xs news w w'))∧(m=0∨v'.ownBlock=v.ownBlock∨v'.ownBlock=some w.heap.size):=by
 have AL:n+m≤9223372036854775807:=by simp only[maxLen] at h63; omega
 have AE:(xs++news).length=(n+m)*1:=by rw[yM,hrow.1.1,hl,Nat.add_mul]
 by_cases hm:m=0
 ·subst hm;have hn:news=[]:=List.eq_nil_of_length_eq_zero (by simpa using hl);subst hn;refine⟨v,w,?_,by simpa using hrow,.inl (Ext.refl w),.inl rfl⟩
  cases A with
  | none=>
   have:=hc0 rfl
   subst this;exact run_append_owned_none (P:=P) w N t ty e i 1 ht hi v n xs hrow.1
  | some ad=>
   rcases hrow.1.2 with ⟨rfl,rfl⟩ | ⟨g,AD,AB,rfl,_,hg,AO,_,AK,_⟩
   ·simp[Builtin.append_,run_underlying ht,sizeOf,typeInfo,hi,Builtin.lenOf,Builtin.firstCells,loadCells,loadCellsFrom]
   ·have AH:n*i.size+([]:List Value).length≤AB.size:=by rw[hsize,AK]; simp only[zK,Nat.add_zero]; exact Nat.mul_le_mul_right _ AO
    have:=run_append_room (P:=P) w t ty e i ht hi g n AD AB hg ad 0 c [] (by simp) (fun j u hu=>by simp at hu) (fun u hu=>by simp at hu) (by omega) AH
    rw[this];simp only[Nat.add_zero,List.append_nil,zK,List.take_append_drop,Array.toArray_toList];rw[setRow_self w g AB e (0,0) hg]
 ·obtain⟨ad,rfl⟩:∃ad,A=some ad:=by
   rcases hr with hr | ⟨b,AP,hA,_⟩
   ·subst hr; simp at hl; omega
   ·exact⟨_,hA⟩
  have AC:∀j u,news[j]?=some u→w.cell? (ad.add j)=some u:=by
   intro j u hu
   rcases hr with hr | ⟨b,AP,hA,_,hk⟩
   ·subst hr; simp at hu
   ·injection hA with hA;subst hA;have hj:j<news.length:=(List.getElem?_eq_some_iff.1 hu).1
    have:=(hk j hj).trans hu
    unfold Addr.add
    by_cases h0:j=0
    ·subst h0; simpa using this
    ·simp only[h0,if_false]; exact this
  subst hby
  have grown:∀(AF:Nat),AF<n+m →
    zAP N e (n+m) (xs++news) (.slice (some ⟨w.heap.size,0,none⟩) (n+m) (grownCap w (n+m) AF e)) (w.drew.alloc (.cells (xs.toArray++news.toArray++Builtin.zeroCells z.cells (grownCap w (n+m) AF e-(n+m))) e)) ∧
    Ext w (w.drew.alloc (.cells (xs.toArray++news.toArray++Builtin.zeroCells z.cells (grownCap w (n+m) AF e-(n+m))) e)):=by
   intro AF ho;have AS:=grownCap_ge w (n+m) AF e;have AM:grownCap w (n+m) AF e≤maxLen:=grownCap_le_maxLen w (n+m) AF e h63;refine⟨⟨⟨AE,.inr ⟨w.heap.size,_,_,rfl,hN,zO w.drew _,AS,AM,?_,?_⟩⟩,_,_,rfl,(fun h=>by cases h),(fun h=>by omega)⟩,Ext.trans (Below.drew (Below.refl _ _)) (Ext.alloc _ _)⟩
   ·simp only[Array.size_append,List.size_toArray,size_zeroCells,hzs,hrow.1.1,hl,←Nat.add_mul]
    congr 1
    omega
   ·simp only[Array.toList_append,List.append_assoc];rw[←List.append_assoc,←AE];exact List.take_left
  rcases hrow.1.2 with ⟨rfl,rfl⟩ | ⟨g,AD,AB,rfl,AT,hg,AO,AM,AK,AG⟩
  ·have hx:xs=[]:=List.eq_nil_of_length_eq_zero (by simpa using hrow.1.1);subst hx;have hr:=run_append_nil (P:=P) w t ty e i z ht hi hz ad m c news (by rw[hsize]; exact hl) AC (by omega) (by omega) (by have hb:=hbytes; simp only[Nat.zero_add] at hb; omega);have AI:=grown 0 (by omega);simp only[Nat.zero_add,List.nil_append,Array.empty_append] at AI ⊢;exact⟨_,_,hr,AI.1,.inl AI.2,.inr (.inr rfl)⟩
  ·by_cases AA:n+m≤AD
   ·have AQ:0<n:=by
     rcases Nat.eq_zero_or_pos n with h0 | h0
     ·obtain⟨A',c',AR,_,AU⟩:=hrow.2;injection AR with _ _ hcc
      have:=AU h0
      omega
     ·exact h0
    have AH:n*i.size+news.length≤AB.size:=by rw[hl,AK,hsize,←Nat.add_mul]; exact Nat.mul_le_mul_right _ AA
    have hr:=run_append_room (P:=P) w t ty e i ht hi g n AD AB hg ad m c news (by rw[hsize]; exact hl) AC h1 AA AH
    have AJ:(AB.toList.take (n*i.size)++news++AB.toList.drop (n*i.size+news.length)).toArray.size=AD*1:=by
     simp only[List.size_toArray,yM,List.length_take,List.length_drop,Array.length_toList];omega
    have AN:(AB.toList.take (n*i.size)++news++AB.toList.drop (n*i.size+news.length)).toArray.toList.take ((n+m)*1)=xs++news:=by
     rw[hsize,AG,←AE];exact List.take_left
    refine⟨_,_,hr,⟨⟨AE,.inr ⟨g,AD,_,rfl,AT,setRow_heap w g AB _ e _ hg,AA,AM,AJ,AN⟩⟩,_,_,rfl,(fun h=>by cases h),(fun h=>by omega)⟩,.inr ⟨AQ,by omega,⟨rfl,rfl,rfl,by simp,fun k hk=>setRow_other w g k _ (by omega)⟩,g,AD,rfl,?_⟩,.inr (.inl rfl)⟩;exact⟨fun k hk=>setRow_other w g k _ hk,AA,hrow.1.1,hl,AB,_,hg,setRow_heap w g AB _ e _ hg,AK,AJ,AG,AN⟩
   ·have holds:∀j u,xs[j]?=some u→w.cell? ((⟨g,0,none⟩:Addr).add j)=some u:=hrow.1.cells (g:=g) rfl;have hr:=run_append_grow (P:=P) w t ty e i z ht hi hz ⟨g,0,none⟩ n AD xs (by rw[hsize]; exact hrow.1.1) holds ad m c news (by rw[hsize]; exact hl) AC (by omega) (by omega) (growslice_fits (by omega) hbytes);have AI:=grown AD (by omega);exact⟨_,_,hr,AI.1,.inl AI.2,.inr (.inr rfl)⟩
def jI (o:Option Nat)(Fs:List (Value→World→Prop))(w w':World):Prop:=w.grownBy w' o∧∀F ∈ Fs,∀v,F v w→F v w'
theorem zKb {o:Option Nat}{a b c:World}(h:a.grownBy b o)(k:b.grownBy c o):a.grownBy c o:=
 ⟨k.os.trans h.os,k.tape.trans h.tape,k.output.trans h.output,Nat.le_trans h.size k.size,fun n hn ho=>(k.block n (yR hn h.size) ho).trans (h.block n hn ho)⟩
theorem zHD {o:Option Nat}{a b:World}(h:Ext a b):a.grownBy b o:=⟨h.os,h.tape,h.output,h.size,fun n hn _=>h.block n hn⟩
theorem jI.trans {o:Option Nat}{Fs:List (Value→World→Prop)}(a b c:World)(h:jI o Fs a b)(k:jI o Fs b c):jI o Fs a c:=⟨zKb h.1 k.1,fun F hF v hv=>k.2 F hF v (h.2 F hF v hv)⟩
theorem jI.ext {o:Option Nat}{Fs:List (Value→World→Prop)}{w w':World}(hE:∀F ∈ Fs,∀v w w',F v w→Ext w w'→F v w')(h:Ext w w'):jI o Fs w w':=⟨zHD h,fun F hF v hv=>hE F hF v _ _ hv h⟩
theorem jI.refl {o:Option Nat}{Fs:List (Value→World→Prop)}(w:World):jI o Fs w w:=⟨zHD (Ext.refl w),fun _ _ _ h=>h⟩
theorem zDD {P:Program}{id:Nat}{Q':Exit→Act→World→Prop}{a:Act}{w:World}{l:List Oper}{ks:List Take}(o:Option Nat)(Fs:List (Value→World→Prop))(m:Nat)(hm:P.follows .mixedOrders=true)(hB:zAm l.toArray m=true)(hT:zDY l.toArray m=true)
  (hE:∀F ∈ Fs,∀v w w',F v w→Ext w w'→F v w')
  (h:YT P l.toArray (jI o Fs) w (fun a' w'=>wpList P l.toArray Q' (l.drop m) a' w') (l.take m) ks a []):(Code.region id l.toArray true).wp P Q' a w:=
 zAB (R:=jI o Fs) m ks hm hB hT jI.trans (jI.ext hE (Below.drew (Below.refl _ _))) h
def zFn (e:TypeId)(H:Nat)(cs:Array Value)(v:Value)(w:World):Prop:=∃g,v=.slice (some ⟨g,0,none⟩) 1 1∧Blk w g e cs∧H≤g
theorem zFn.ext {e:TypeId}{H:Nat}{cs:Array Value}{v:Value}{w w':World}(h:zFn e H cs v w)(hx:Ext w w'):zFn e H cs v w':=let ⟨g,a,b,c⟩:=h; ⟨g,a,b.ext hx,c⟩
def zQU (N:Nat)(e:TypeId)(o:Option Nat)(H n:Nat)(ys:List Value)(v:Value)(w:World):Prop:=zAO N e n ys v w∧(v.ownBlock=o∨∃g,v.ownBlock=some g∧H≤g)
def FsK (N:Nat)(e:TypeId)(v0:Value)(H n:Nat)(xs news:List Value):List (Value→World→Prop):=[fun _ w=>zAO N e n xs v0 w,zFn e H news.toArray,zQU N e v0.ownBlock H (n+1) (xs++news)]
theorem zLF (N:Nat)(e:TypeId)(v0:Value)(H n:Nat)(xs news:List Value):∀F ∈ FsK N e v0 H n xs news,∀v w w',F v w→Ext w w'→F v w':=by
 intro F hF v w w' h hx;simp only[FsK,zR,List.not_mem_nil,or_false] at hF
 rcases hF with rfl | rfl | rfl
 ·exact zAO.ext h hx
 ·exact h.ext hx
 ·exact⟨h.1.ext hx,h.2⟩
theorem zHk {P:Program}{w:World}{ρ:Operand→Value}{o:Oper}(N H:Nat)(s x:Operand)(t:TypeId)(ho:o.op=.call { callee:=.builtin .append,args:=#[s,x],argTypes:=#[t,t] })
  (e:TypeId) (i:TypeInfo) (z:Value) (bytes:Nat) (ht:P.underlying t=some (.slice e)) (hi:P.info? e=some i) (hz:i.zero=some z)
  (hsize:i.size=5) (hby:i.bytes=bytes) (hzs:z.cells.size=5) (v0:Value) (n:Nat) (xs news:List Value) (hs:ρ s=v0) (hrow:zAO N e n xs v0 w)
  (u:Value) (hu:ρ x=u) (hx:zFn e H news.toArray u w) (hl:news.length=5) (h1:∀u ∈ news,u.oneCell'=true) (h63:n+1≤maxLen) (hbytes:(n+1)*bytes≤140737488355328) (hN:N≤w.heap.size) (hH:H≤w.heap.size) (hog:∀g,v0.ownBlock=some g→g<H) :
  yY P ρ o w fun v' w'=>zQU N e v0.ownBlock H (n+1) (xs++news) v' w'∧jI v0.ownBlock (FsK N e v0 H n xs news) w w':=by
 obtain⟨g,AE,hb,hg⟩:=hx;rw[AE] at hu;have hc:Cells w (some ⟨g,0,none⟩) news:=.inr ⟨g,0,rfl,hb.lt,fun k hk=>by rw[Nat.zero_add,hb.cell k]; simp⟩;obtain⟨v',w',AC,h2,h3,h4⟩:=zLv (P:=P) w N t o.type e i z bytes ht hi hz hsize hby hzs v0 n xs hrow (some ⟨g,0,none⟩) 1 1 news (fun h=>by cases h) (by rw[hl]) hc h1 h63 hbytes hN;unfold yY execOp;simp only[ho,resolve,invoke,builtin,Sem.run_bind,Sem.run_pure,Result.andThen_ok,List.map_toArray,List.map_cons,List.map_nil,hs,hu,AC];refine⟨⟨h2,?_⟩,?_⟩
 ·rcases h4 with h4 | h4 | h4
  ·omega
  ·exact .inl h4
  ·exact .inr ⟨_,h4,hH⟩
 ·rcases h3 with h3 | ⟨hn,hm,AB,g0,AG,AD,AA⟩
  ·exact jI.ext (zLF _ _ _ _ _ _ _) h3
  ·refine⟨⟨AB.os,AB.tape,AB.output,AB.size,fun k hk ho=>AA.other k fun e=>ho (by rw[e,AD])⟩,fun F hF v h=>?_⟩;have AF:=hog g0 AD;simp only[FsK,zR,List.not_mem_nil,or_false] at hF
   rcases hF with rfl | rfl | rfl
   ·exact zAO.roomy AA h (.inl (zU _))
   ·obtain⟨g',a,b,c⟩:=h;exact⟨g',a,(AA.other g' (by omega)).trans b,c⟩
   ·exact⟨zAO.roomy AA h.1 (.inr ⟨rfl,rfl⟩),h.2⟩
def zRx (N:Nat)(e:TypeId)(o:Option Nat)(H n:Nat)(ys:List Value)(v:Value)(w:World):Prop:=zAP N e n ys v w∧(v.ownBlock=o∨∃g,v.ownBlock=some g∧H≤g)
def FsH (N:Nat)(e:TypeId)(v0:Value)(H n:Nat)(xs news:List Value):List (Value→World→Prop):=[fun _ w=>zAP N e n xs v0 w,zFn e H news.toArray,zRx N e v0.ownBlock H (n+1) (xs++news)]
theorem zL9 (N:Nat)(e:TypeId)(v0:Value)(H n:Nat)(xs news:List Value):∀F ∈ FsH N e v0 H n xs news,∀v w w',F v w→Ext w w'→F v w':=by
 intro F hF v w w' h hx;simp only[FsH,zR,List.not_mem_nil,or_false] at hF
 rcases hF with rfl | rfl | rfl
 ·exact zAP.ext h hx
 ·exact h.ext hx
 ·exact⟨h.1.ext hx,h.2⟩
theorem zHh {P:Program}{w:World}{ρ:Operand→Value}{o:Oper}(N H:Nat)(s x:Operand)(t:TypeId)(ho:o.op=.call { callee:=.builtin .append,args:=#[s,x],argTypes:=#[t,t] })
  (e:TypeId) (i:TypeInfo) (z:Value) (bytes:Nat) (ht:P.underlying t=some (.slice e)) (hi:P.info? e=some i) (hz:i.zero=some z)
  (hsize:i.size=1) (hby:i.bytes=bytes) (hzs:z.cells.size=1) (v0:Value) (n:Nat) (xs news:List Value) (hs:ρ s=v0) (hrow:zAP N e n xs v0 w)
  (u:Value) (hu:ρ x=u) (hx:zFn e H news.toArray u w) (hl:news.length=1) (h1:∀u ∈ news,u.oneCell'=true) (h63:n+1≤maxLen) (hbytes:(n+1)*bytes≤140737488355328) (hN:N≤w.heap.size) (hH:H≤w.heap.size) (hog:∀g,v0.ownBlock=some g→g<H) :
  yY P ρ o w fun v' w'=>zRx N e v0.ownBlock H (n+1) (xs++news) v' w'∧jI v0.ownBlock (FsH N e v0 H n xs news) w w':=by
 obtain⟨g,AE,hb,hg⟩:=hx;rw[AE] at hu;have hc:Cells w (some ⟨g,0,none⟩) news:=.inr ⟨g,0,rfl,hb.lt,fun k hk=>by rw[Nat.zero_add,hb.cell k]; simp⟩;obtain⟨v',w',AC,h2,h3,h4⟩:=zLC (P:=P) w N t o.type e i z bytes ht hi hz hsize hby hzs v0 n xs hrow (some ⟨g,0,none⟩) 1 1 news (fun h=>by cases h) (by rw[hl]) hc h1 h63 hbytes hN;unfold yY execOp;simp only[ho,resolve,invoke,builtin,Sem.run_bind,Sem.run_pure,Result.andThen_ok,List.map_toArray,List.map_cons,List.map_nil,hs,hu,AC];refine⟨⟨h2,?_⟩,?_⟩
 ·rcases h4 with h4 | h4 | h4
  ·omega
  ·exact .inl h4
  ·exact .inr ⟨_,h4,hH⟩
 ·rcases h3 with h3 | ⟨hn,hm,AB,g0,AG,AD,AA⟩
  ·exact jI.ext (zL9 _ _ _ _ _ _ _) h3
  ·refine⟨⟨AB.os,AB.tape,AB.output,AB.size,fun k hk ho=>AA.other k fun e=>ho (by rw[e,AD])⟩,fun F hF v h=>?_⟩;have AF:=hog g0 AD;simp only[FsH,zR,List.not_mem_nil,or_false] at hF
   rcases hF with rfl | rfl | rfl
   ·exact zAP.roomy AA h (.inl (zU _))
   ·obtain⟨g',a,b,c⟩:=h;exact⟨g',a,(AA.other g' (by omega)).trans b,c⟩
   ·exact⟨zAP.roomy AA h.1 (.inr ⟨rfl,rfl⟩),h.2⟩
theorem zNs:(Tryz.prog.info? 48).map (fun i=>(i.zero,i.size,i.bytes))=some (some (.agg #[.int .u8 0,.int .i64 0,.string ⟨#[]⟩,.int .i64 0,.slice none 0 0]),5,64):=by kernel_rfl
theorem zFC:(Tryz.prog.info? 3).map (fun i=>(i.zero,i.size,i.bytes))=some (some (.int .i64 0),1,8):=by kernel_rfl
theorem PS.snoc {w W w1:World}{p B:Nat}{s:Ps}{R:xS}(h:PS W p B s R)(hw:Ext w W)(x:Nd)(hx:x.kids=[]){g cap:Nat}
  (ho:w1.ownsRow B 48 5 (.slice (some ⟨g,0,none⟩) (R.nh.length+1) cap) (R.nh.length+1) (ncs R.nh++YU (x,(none,0)))) (hg:W.grownBy w1 (Value.slice R.A R.nh.length R.c).ownBlock)
  (hf:(Value.slice R.A R.nh.length R.c).ownBlock=some g∨w.heap.size≤g) :
  PS (w1.setCell ⟨p,1,none⟩ (.slice (some ⟨g,0,none⟩) (R.nh.length+1) cap)) p B (s.add x) { R with A:=some ⟨g,0,none⟩,c:=cap,nh:=R.nh++[(x,(none,0))] } ∧
   xH w (xG p R) (w1.setCell ⟨p,1,none⟩ (.slice (some ⟨g,0,none⟩) (R.nh.length+1) cap)) (xG p { R with A:=some ⟨g,0,none⟩,c:=cap,nh:=R.nh++[(x,(none,0))] }):=by
 have AA:(Value.slice R.A R.nh.length R.c).ownBlock≠some p:=fun e=>by
  obtain⟨AI,hc⟩:=ZN h.ns.row (jB h.ns.row e);exact Blk.differ h.blk hc (by decide) rfl
 have AB:Blk w1 p 75 _:=(hg.block p h.blk.lt (fun e=>AA e.symm)).trans h.blk;have AF:=h.pB;have AG:=h.blk.lt;have AC:=(h.ns.snoc (by decide) x hx ho hg);refine⟨⟨?_,fun k hk=>?_,h.zJS,h.zE4,?_,?_,h.pB,⟨h.xQ.last,h.xQ.deep⟩⟩,?_⟩
 ·have:=AB.put 1 (.slice (some ⟨g,0,none⟩) (R.nh.length+1) cap)
  show Blk _ p 75 #[.slice _ s.ts.length _,.slice _ (R.nh++[(x,(none,0))]).length _,.int .i64 (s.deep:Int)]
  rw[yM]
  simpa using this
 ·have AH:=h.zE4
  have AD:R.bt≠p:=by omega
  show(w1.setCell _ _).cell? ⟨R.bt,R.ot+k,none⟩=_
  have e1:w1.heap[R.bt]?=W.heap[R.bt]?:=hg.block R.bt h.btl fun e=>by
   have:=(VY h.ns.row (jB h.ns.row e.symm)).1
   omega
  have e2:=World.cell?_of_block (w:=W) (w':=w1.setCell ⟨p,1,none⟩ (.slice (some ⟨g,0,none⟩) (R.nh.length+1) cap)) (a:=⟨R.bt,R.ot+k,none⟩) ((zQ w1 ⟨p,1,none⟩ _ R.bt AD).trans e1);exact e2.trans (h.zNy k hk)
 ·show s.nd++[x]=_
  rw[h.nodes,List.map_append]
  rfl
 ·refine AC.zAf fun b hb=>zQ w1 ⟨p,1,none⟩ _ b fun e=>?_;rw[e] at hb;exact AC.zDm AB (by decide) (by decide) hb
 ·refine⟨hg.os.trans hw.os,hg.tape.trans hw.tape,hg.output.trans hw.output,?_,fun b hb hM=>?_,fun b hb=>?_⟩
  ·have h1:=hw.size;have h2:=hg.size;simp[World.setCell];omega
  ·have h1:=hw.size;have AE:b≠p:=fun e=>hM (.inl e);rw[zQ w1 ⟨p,1,none⟩ _ b AE,hg.block b (by omega) (fun e=>hM (.inr (.inl (jB h.ns.row e.symm))))];exact hw.block b hb
  ·have h1:=hw.size
   rcases hb with rfl | hb | hb
   ·exact .inl (.inl rfl)
   ·injection hb with hb;injection hb with hb;subst hb
    rcases hf with hf | hf
    ·exact .inl (.inr (.inl (jB h.ns.row hf)))
    ·exact .inr hf
   ·simp only[List.map_append] at hb
    rcases List.mem_append.1 hb with hb | hb
    ·exact .inl (.inr (.inr hb))
    ·simp at hb
theorem zDb (a at_ en n:Int)(x:ByteArray)(w:World):(Instr.field 29 (.agg #[.int .u8 a,.int .i64 at_,.int .i64 en,.string x,.int .i64 n]) 0).run Tryz.prog w=.ok (.int .u8 a) w:=by kernel_rfl
theorem zLg (a at_ en n:Int)(x:ByteArray)(w:World):(Instr.field 29 (.agg #[.int .u8 a,.int .i64 at_,.int .i64 en,.string x,.int .i64 n]) 1).run Tryz.prog w=.ok (.int .i64 at_) w:=by kernel_rfl
theorem zAh (a at_ en n:Int)(x:ByteArray)(w:World):(Instr.field 29 (.agg #[.int .u8 a,.int .i64 at_,.int .i64 en,.string x,.int .i64 n]) 3).run Tryz.prog w=.ok (.string x) w:=by kernel_rfl
theorem zDk (a at_ en n:Int)(x:ByteArray)(w:World):(Instr.field 29 (.agg #[.int .u8 a,.int .i64 at_,.int .i64 en,.string x,.int .i64 n]) 4).run Tryz.prog w=.ok (.int .i64 n) w:=by kernel_rfl
structure KF where
 K:Nat
 first:Array Value
 cap:Array Value
 m:Pm Unit
def KF.val (f:KF):Value:=.func (.func f.K) f.first f.cap
def zC3:List KF→Pm Unit
 | [],s=>.ok () s
 | f::l,s=>(f.m s).bind fun _ s=>zC3 l s
theorem zK5 (x:Nd × Hd2):∀u ∈ YU x,u.oneCell'=true:=by
 intro u hu;simp only[YU,zR,List.not_mem_nil,or_false] at hu
 rcases hu with rfl | rfl | rfl | rfl | rfl <;> rfl
theorem NS.zW7 {w:World}{B:Nat}{tn ti:TypeId}{A:Option Addr}{c:Nat}{nh:List (Nd × Hd2)}(h:NS w B tn ti A c nh):zAO B tn nh.length (ncs nh) (.slice A nh.length c) w:=by
 refine⟨h.row,A,c,rfl,fun e=>?_,h.rz⟩;subst e
 rcases h.row.2 with ⟨hv,_⟩ | ⟨g,AB,AA,hv,_⟩
 ·injection hv
 ·cases hv
theorem NS.zWK {w:World}{B:Nat}{tn ti:TypeId}{A:Option Addr}{c:Nat}{nh:List (Nd × Hd2)}(h:NS w B tn ti A c nh)(x:Nd × Hd2)(hx:x ∈ nh):zAP B ti x.1.kids.length (ints x.1.kids) (.slice x.2.1 x.1.kids.length x.2.2) w:=by
 refine⟨h.kids x hx,_,_,rfl,fun e=>?_,h.kz x hx⟩;have hk:=(h.kids x hx).2;rw[e] at hk
 rcases hk with ⟨hv,_⟩ | ⟨g,AB,AA,hv,_⟩
 ·injection hv
 ·cases hv
theorem zAO.at {N:Nat}{e:TypeId}{n:Nat}{xs:List Value}{v:Value}{w:World}(h:zAO N e (n+1) xs v w):∃g cap,v=.slice (some ⟨g,0,none⟩) (n+1) cap:=by
 rcases h.1.2 with ⟨_,h0⟩ | ⟨g,cap,AA,hv,_⟩
 ·omega
 ·exact⟨g,cap,hv⟩
theorem zAP.at {N:Nat}{e:TypeId}{n:Nat}{xs:List Value}{v:Value}{w:World}(h:zAP N e (n+1) xs v w):∃g cap,v=.slice (some ⟨g,0,none⟩) (n+1) cap:=by
 rcases h.1.2 with ⟨_,h0⟩ | ⟨g,cap,AA,hv,_⟩
 ·omega
 ·exact⟨g,cap,hv⟩
theorem zLe:∀(l:List KF) (k:Nat) (hk:k<l.length) (s s':Ps),zC3 (l.take k) s=.ok () s'→zC3 (l.take (k+1)) s=(l[k].m s').bind fun _ s=>.ok () s
 | f::l,0,_,s,s',h=>by
  injection h with _ h;subst h
  rfl
 | f::l,k+1,hk,s,s',h=>by
  show(f.m s).bind (fun _ s=>zC3 (l.take (k+1)) s)=_
  have h':(f.m s).bind (fun _ s=>zC3 (l.take k) s)=.ok () s':=h
  cases hm:f.m s with
  | err e p=>rw[hm] at h'; cases h'
  | ok a t=>
   rw[hm] at h';exact zLe l k (by simpa using hk) t s' h'
theorem zN3:∀(l:List KF) (k:Nat) (hk:k<l.length) (s s':Ps),zC3 (l.take k) s=.ok () s'→∀er a,l[k].m s'=.err er a→zC3 l s=.err er a
 | f::l,0,_,s,s',h,er,a,he=>by
  injection h with _ h;subst h
  show(f.m s).bind _=_
  rw[show f.m s=.err er a from he]
  rfl
 | f::l,k+1,hk,s,s',h,er,a,he=>by
  show(f.m s).bind (fun _ s=>zC3 l s)=_
  have h':(f.m s).bind (fun _ s=>zC3 (l.take k) s)=.ok () s':=h
  cases hm:f.m s with
  | err e p=>rw[hm] at h'; cases h'
  | ok b t=>
   rw[hm] at h';exact zN3 l k (by simpa using hk) t s' h' er a he
theorem zLf (w:World)(p B:Nat)(s:Ps)(R:xS)(kind:Nat)(F:Option Addr)(l:List KF)(fc:Nat)(h:PS w p B s R)(hbig:s.nd.length≤1000000)(hl:l.length≤10)
  (hF:zFJ w (xG p R) F (l.map KF.val)) (he:∀f ∈ l,∀args w,(callFunc f.K args).run Tryz.prog w=.ok (.enter f.K args) w)
  (hd:∀(k:Nat) (hk:k<l.length) (s':Ps) (wr:World) (R':xS),zC3 (l.take k) (s.node kind)=.ok () s'→xH w (xG p R) wr (xG p R')→PS wr p B s' R'→Calls Tryz.prog l[k].K (l[k].first++#[.int .i64 (s.nd.length:Int)]++l[k].cap) wr (xI wr p B R' (l[k].m s'))) :
  Calls Tryz.prog 80 #[.pointer (some ⟨p,0,none⟩),.int .u8 (kind:Int),.slice F l.length fc] w (zDW w p B R (.int .i64 (s.nd.length:Int)) (zC3 l (s.node kind))):=by
 obtain⟨i0,hi,An,Ag,As⟩:=info_parts zNs;have HP:=yD h;have Ar:=yD hF;have HE:=yD he;have HD:=yD hd;have x1:=h.x1;have AB:=h.len;have AK:=h.blk.lt;have Aa:=yD AB;rw[AB] at hbig;have Af:=zLg;obtain⟨o,HO⟩:∃o,Hid ((Value.slice R.A R.nh.length R.c).ownBlock=o):=⟨_,yD rfl⟩
 have AU:Hid (some p≠o):=yD fun e=>by
  rw[←HO.out] at e;obtain⟨Aw,hc⟩:=ZN h.ns.row (jB h.ns.row e.symm);exact Blk.differ h.blk hc (by decide) rfl
 have Aq:Hid (some R.bt≠o):=yD fun e=>by
  rw[←HO.out] at e;have h1:=(VY h.ns.row (jB h.ns.row e.symm)).1;have h2:=h.zE4;omega
 have Ai:Hid (∀g,o=some g→g<w.heap.size):=yD fun g e=>by
  rw[←HO.out] at e;exact(VY h.ns.row (jB h.ns.row e)).2
 have Aj:Hid (B≤w.heap.size):=yD (Nat.le_trans h.pB (zS AK));obtain⟨Fs,AE⟩:∃Fs,Hid (FsK B 48 (.slice R.A R.nh.length R.c) w.heap.size R.nh.length (ncs R.nh) (YU (⟨kind,s.hd.at_,[],0,[]⟩,(none,0)))=Fs):=⟨_,yD rfl⟩
 have hE:∀F ∈ Fs,∀v w w',F v w→Ext w w'→F v w':=by rw[←AE.out]; exact zLF _ _ _ _ _ _ _
 have m0:(fun (_:Value) w=>zAO B 48 R.nh.length (ncs R.nh) (.slice R.A R.nh.length R.c) w) ∈ Fs:=by rw[←AE.out]; simp only[FsK,zR,true_or]
 have m1:zFn 48 w.heap.size (YU (⟨kind,s.hd.at_,[],0,[]⟩,(none,0))).toArray ∈ Fs:=by rw[←AE.out]; simp only[FsK,zR,true_or,or_true]
 have m2:zQU B 48 o w.heap.size (R.nh.length+1) (ncs R.nh++YU (⟨kind,s.hd.at_,[],0,[]⟩,(none,0))) ∈ Fs:=by rw[←AE.out,←HO.out]; simp only[FsK,zR,true_or,or_true]
 have AR:=yD hE;have M0:=yD m0;have M1:=yD m1;have M2:=yD m2;clear h hF he hd AB hE m0 m1 m2
 go_enter Tryz.func80,Tryz.ntmps80
 go_upto_region 2 with fail
 apply zDD o Fs 14 (by kernel_rfl) (by kernel_rfl) (by kernel_rfl) AR.out;dsimp only[List.take_succ_cons,List.take_zero,List.drop_succ_cons,List.drop_zero];apply sG jI.refl (.pointer (some ⟨p,0,none⟩));apply sG jI.refl (.pointer (some ⟨p,0,none⟩));apply sG jI.refl (.pointer (some ⟨p,0,none⟩));apply sG jI.refl (.pointer (some ⟨p,1,none⟩));apply xA (.slice R.A R.nh.length R.c) rfl rfl rfl
 ·intro w' AA hH;have hR:=jI.refl (o:=o) (Fs:=Fs) w';have cc:=Blk.cell ((AA.1.block p AK AU.out).trans HP.out.blk) 1;clear hH AA;simp[yY,go_sem,cc];exact hR
 apply sG jI.refl (.int .u8 (kind:Int));apply sG jI.refl (.pointer (some ⟨p,0,none⟩));apply xA (.agg (YC s.hd).toArray) rfl rfl rfl
 ·intro w' AA hH;have ht:=HP.out.ts.grown AA.1 AU.out Aq.out;clear hH AA;simp[yY,go_sem];refine(ZG w' p s R ht).mono ?_;rintro e w2 ⟨rfl,hx⟩;exact⟨_,rfl,rfl,jI.ext AR.out hx⟩
 apply xA (.int .i64 (s.hd.at_:Int)) rfl rfl rfl
 ·intro w' AA hH;clear hH AA;unfold YC;simp[yY,go_sem,Af];exact jI.refl _
 apply sG jI.refl (.agg #[.int .u8 (kind:Int),.int .i64 (s.hd.at_:Int),.string ⟨#[]⟩,.int .i64 0,.slice none 0 0]);apply vF (zFn 48 w.heap.size (YU (⟨kind,s.hd.at_,[],0,[]⟩,(none,0))).toArray) (fun v w w' h hx=>hx.2 _ M1.out v h) rfl rfl rfl
 ·intro w' AA hH;have hz:=AA.1.size;clear hH AA;simp[yY,go_sem];exact⟨⟨_,rfl,Blk.new _ _ _,hz⟩,jI.ext AR.out (Ext.alloc _ _)⟩
 intro At;(try simp only[Act.put,yA,yB,yC]);apply vF (zQU B 48 o w.heap.size (R.nh.length+1) (ncs R.nh++YU (⟨kind,s.hd.at_,[],0,[]⟩,(none,0)))) (fun v w w' h hx=>hx.2 _ M2.out v h) rfl rfl rfl
 ·intro w' AA hH;have AJ:=hH _ (List.mem_cons_self ..) ⟨_,rfl,by decide⟩;have AS:=AA.2 _ M0.out undef HP.out.ns.zW7;have hz:=AA.1.size;clear hH AA;rw[←AE.out,←HO.out];exact zHk B w.heap.size (.tmp 19) (.tmp 25) 37 rfl 48 i0 _ 64 Tryz.underlying37 hi An Ag As rfl (.slice R.A R.nh.length R.c) R.nh.length (ncs R.nh) (YU (⟨kind,s.hd.at_,[],0,[]⟩,(none,0))) (by kernel_rfl) AS At (by kernel_rfl) AJ rfl (zK5 _) (by unfold maxLen; omega) (by omega) (Nat.le_trans Aj.out hz) hz (fun g e=>Ai.out g (by rw[←HO.out]; exact e))
 intro Av;apply sG jI.refl (.pointer (some ⟨p,0,none⟩));apply sG jI.refl (.pointer (some ⟨p,1,none⟩));apply vA;intro w2 AL hH;have AH:=hH _ (List.mem_cons_self ..);clear hH;obtain⟨g,AV,rfl⟩:=AH.1.at;have AI:=AL.1;rw[←HO.out] at AI;have AP:Blk w2 p 75 _:=(AL.1.block p AK AU.out).trans HP.out.blk
 obtain⟨AW,Ac⟩:=PS.snoc (w:=w) HP.out (Ext.refl w) ⟨kind,s.hd.at_,[],0,[]⟩ rfl AH.1.1 AI (by
  rcases AH.2 with e | ⟨g',e,Au⟩
  ·left; rw[HO.out,←e]; rfl
  ·right; have:g=g':=by simpa [Value.ownBlock] using e
   omega)
 have y1:w2.cell? ⟨p,1,none⟩=some (.slice R.A R.nh.length R.c):=AP.cell 1;have z1:=AP.frozen 1;have HS:Hid (OkP w p B R (s.node kind) (w2.setCell ⟨p,1,none⟩ (.slice (some ⟨g,0,none⟩) (R.nh.length+1) AV))):=yD ⟨_,AW,Ac⟩;clear AH AI AP AW Ac AL x1;(try simp only[Act.put,yA,yC,yB])
 go_wp2_with fail
 clear y1 z1;generalize w2.setCell ⟨p,1,none⟩ (.slice (some ⟨g,0,none⟩) (R.nh.length+1) AV)=w3 at *
 go_loopw [31] (fun i wr=>∃(k:Nat) (s':Ps),k≤l.length∧i=.int .i64 k∧Hid (zC3 (l.take k) (s.node kind)=.ok () s')∧Hid (OkP w p B R s' wr)) (fun i _=>l.length-(intOf i).toNat)
 case atStart=>exact⟨0,s.node kind,zT _,rfl,yD rfl,HS⟩
 case round=>
  obtain⟨k,s',hk,rfl,HQ,AZ⟩:=hrel;obtain⟨wa,rfl⟩:∃wa:World,wa=wr:=⟨_,rfl⟩
  by_cases AD:k<l.length
  ·have d0:decide ((k:Int)<(l.length:Int))=true:=yP (by omega)
   have q0:(k:Int)<(l.length:Int):=by omega
   obtain⟨R',AN,AG⟩:=AZ.out;have Ax:=yD AN;have AY:=yD AG;obtain⟨b,Ad,rfl,hb,AX⟩:=(Ar.out.xJ AG).cells.at_ (by simp; omega)
   have x0:wa.cell? ⟨b,Ad+k,none⟩=some (l[k].val):=by rw[AX k (by simpa using AD)]; simp[AD]
   have AM:=zLe l k AD (s.node kind) s' HQ.out;have AC:=zN3 l k AD (s.node kind) s' HQ.out;have AO:=HD.out k AD s' wa R' HQ.out AG AN;have Ak:=HE.out _ (yL AD);clear AX AN AG;generalize l[k]=f at *;obtain⟨K,first,AQ,m⟩:=f;unfold KF.val at x0
   simp only at x0 AM AO Ak AC
   have AF:Calls Tryz.prog K (first.push (.int .i64 (R.nh.length:Int))++AQ) wa (xI wa p B R' (m s')):=by
    have:=AO
    rw[Aa.out,Array.append_singleton] at this;exact this
   have Ah:=yD AC;have Ap:=yD AM;have Ab:=yD AF;clear AM AO AF AC
   cases hm:m s' with
   | ok a s2=>
    have AT:Hid (xI wa p B R' (m s')=xI wa p B R' (.ok a s2)):=yD (by rw[hm]);have Al:Hid (zC3 (l.take (k+1)) (s.node kind)=.ok () s2):=yD (by rw[Ap.out,hm]; rfl);clear hm
    go_wp2_with fail
    refine Ab.out.mono ?_;rw[AT.out];rintro e w4 ⟨rfl,ho⟩;have Ao:=yD (OkP.trans AY.out ho);clear ho
    go_wp2_with fail
    go_roundw
    case rel=>exact⟨k+1,s2,by omega,by go_num,Al,Ao⟩
    case measure=>simp[intOf]; omega
   | err er a=>
    have AT:Hid (xI wa p B R' (m s')=xI wa p B R' (.err er a)):=yD (by rw[hm]);have Ae:=yD (Ah.out er a hm);clear hm
    go_wp2_with fail
    refine Ab.out.mono ?_;rw[AT.out];rintro e w4 ⟨rfl,ho⟩;refine yZ (P:=Tryz.prog) (fn:=Tryz.f80) rfl ?_;rw[Ae.out];exact VK.trans AY.out ⟨rfl,ho⟩
  ·obtain rfl:k=l.length:=by omega
   have d0:decide ((l.length:Int)<(l.length:Int))=false:=by simp
   have d1:decide (l.length<l.length)=false:=by simp
   have Am:Hid (zC3 l (s.node kind)=.ok () s'):=yD (by have:=HQ.out; rw[List.take_length] at this; exact this)
   go_wp2_with fail
   go_ret;rw[Am.out];exact⟨zFW (by rw[Aa.out]),AZ.out⟩
end Go.Proofs.YtioffpjajhalaaaGreatDoor
