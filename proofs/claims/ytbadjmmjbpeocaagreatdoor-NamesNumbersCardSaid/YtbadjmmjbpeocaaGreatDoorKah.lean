/- Appends onto rows of the call's own, elements of five cells and of one: what each leaves as it was; where the new row lies. (and what follows of it). The conditions stand at each lemma. -/
import Derived.Test.YtbadjmmjbpeocaaGreatDoorKaa
import Derived.Test.YtbadjmmjbpeocaaGreatDoorKab
import Derived.Test.YtbadjmmjbpeocaaGreatDoorKag
import Derived.Deep.Cut
set_option linter.unusedVariables false
set_option linter.unusedSimpArgs false
set_option maxRecDepth 100000
set_option maxHeartbeats 16000000
namespace Go.Proofs.YtbadjmmjbpeocaaGreatDoor
open Go Go.RowKit
def zAj (N:Nat)(e:TypeId)(n:Nat)(xs:List Value)(v:Value)(w:World):Prop:=
 w.ownsRow N e 5 v n xs∧∃A c,v=.slice A n c∧(A=none→c=0)∧(n=0→c=0)
def zKs (e:TypeId)(k:Nat)(cs:Array Value)(v:Value)(w:World):Prop:=∃g,v=.slice (some ⟨g,0,none⟩) k k∧Blk w g e cs
def zJe (e:TypeId)(cs:Array Value)(N:Nat)(v:Value)(w:World):Prop:=∃g,v=.pointer (some ⟨g,0,none⟩)∧Blk w g e cs∧N≤g
structure zLA (N g n m cap:Nat)(e:TypeId)(xs news:List Value)(w w':World):Prop where
 other:∀k,k≠g→w'.heap[k]?=w.heap[k]?
 room:n+m≤cap
 xl:xs.length=n*5
 ml:news.length=m*5
 cells:∃cur cur':Array Value,w.heap[g]?=some (.cells cur e (0,0))∧w'.heap[g]?=some (.cells cur' e (0,0))∧cur.size=cap*5∧cur'.size=cap*5∧cur.toList.take (n*5)=xs∧cur'.toList.take ((n+m)*5)=xs++news
theorem zAj.ext {N:Nat}{e:TypeId}{n:Nat}{xs:List Value}{v:Value}{w w':World}(h:zAj N e n xs v w)(hx:Ext w w'):zAj N e n xs v w':=⟨zCM h.1 hx,h.2⟩
theorem zKs.ext {e:TypeId}{k:Nat}{cs:Array Value}{v:Value}{w w':World}(h:zKs e k cs v w)(hx:Ext w w'):zKs e k cs v w':=let ⟨g,a,b⟩:=h; ⟨g,a,b.ext hx⟩
theorem zJe.ext {e:TypeId}{cs:Array Value}{N:Nat}{v:Value}{w w':World}(h:zJe e cs N v w)(hx:Ext w w'):zJe e cs N v w':=let ⟨g,a,b,c⟩:=h; ⟨g,a,b.ext hx,c⟩
theorem zKs.roomy {N g n m cap:Nat}{e e':TypeId}{xs news:List Value}{w w':World}{k:Nat}{cs:Array Value}{v:Value}(hr:zLA N g n m cap e xs news w w')(h:zKs e' k cs v w)(hs:cs.size<(n+m)*5):zKs e' k cs v w':=by
 obtain⟨g',rfl,hb⟩:=h;refine⟨g',rfl,?_⟩
 by_cases hg:g'=g
 ·subst hg;obtain⟨cur,cur',h1,h2,h3,_⟩:=hr.cells;unfold Blk at hb;rw[hb] at h1;injection h1 with h1;injection h1 with h1;subst h1
  have:=hr.room
  have:(n+m)*5≤cap*5:=Nat.mul_le_mul_right _ this
  omega
 ·exact(hr.other g' hg).trans hb
theorem zJe.roomy {N g n m cap:Nat}{e e':TypeId}{xs news:List Value}{w w':World}{cs:Array Value}{M:Nat}{v:Value}(hr:zLA N g n m cap e xs news w w')(h:zJe e' cs M v w)(hs:e'≠e):zJe e' cs M v w':=by
 obtain⟨g',rfl,hb,hM⟩:=h;refine⟨g',rfl,?_,hM⟩
 by_cases hg:g'=g
 ·subst hg;obtain⟨cur,cur',h1,h2,h3,_⟩:=hr.cells;unfold Blk at hb;rw[hb] at h1;injection h1 with h1;injection h1 with h1 h4;exact absurd h4 hs
 ·exact(hr.other g' hg).trans hb
theorem zAj.roomy {N g n m cap:Nat}{e:TypeId}{xs news:List Value}{w w':World}{k:Nat}{ys:List Value}{v:Value}(hr:zLA N g n m cap e xs news w w')(h:zAj N e k ys v w)(hs:k≤n∨(k=n+m∧ys=xs++news)):zAj N e k ys v w':=by
 refine⟨⟨h.1.1,?_⟩,h.2⟩;have hyl:=h.1.1
 rcases h.1.2 with hn | ⟨g',cap',cur0,hv,hb,hh,a1,a2,a3,a4⟩
 ·exact .inl hn
 ·by_cases hg:g'=g
  ·subst hg;obtain⟨cur,cur',h1,h2,h3,h4,h5,h6⟩:=hr.cells;rw[hh] at h1;injection h1 with h1;injection h1 with h1;subst h1;refine .inr ⟨g',cap',cur',hv,hb,h2,a1,a2,by omega,?_⟩
   rcases hs with hs | ⟨rfl,rfl⟩
   ·have hle:k*5≤n*5:=Nat.mul_le_mul_right _ hs
    have hle2:k*5≤(n+m)*5:=by omega
    have e1:(cur'.toList.take ((n+m)*5)).take (k*5)=cur'.toList.take (k*5):=by rw[List.take_take,Nat.min_eq_left hle2]
    have e2:(cur0.toList.take (n*5)).take (k*5)=cur0.toList.take (k*5):=by rw[List.take_take,Nat.min_eq_left hle]
    rw[←e1,h6,List.take_append_of_le_length (by rw[hr.xl]; exact hle),←h5,e2,a4]
   ·exact h6
  ·exact .inr ⟨g',cap',cur0,hv,hb,(hr.other g' hg).trans hh,a1,a2,a3,a4⟩
theorem zK3 {P:Program}(w:World)(N:Nat)(t ty e:TypeId)(i:TypeInfo)(z:Value)(bytes:Nat)(ht:P.underlying t=some (.slice e))(hi:P.info? e=some i)(hz:i.zero=some z)
  (hsize:i.size=5) (hby:i.bytes=bytes) (hzs:z.cells.size=5) (v:Value) (n:Nat) (xs:List Value) (hrow:zAj N e n xs v w)
  (A:Option Addr) (m c:Nat) (news:List Value) (hc0:A=none→c=0) (hl:news.length=m*5) (hr:Cells w A news) (h1:∀u ∈ news,u.oneCell'=true)
  (h63:n+m≤maxLen) (hbytes:(n+m)*bytes≤140737488355328) (hN:N≤w.heap.size) :
  ∃v' w',(Builtin.append_ #[t,t] ty #[v,.slice A m c]).run P w=.ok v' w'∧zAj N e (n+m) (xs++news) v' w'∧(Ext w w'∨(0<n∧0<m∧Below N w w'∧∃g cap,v.ownBlock=some g∧zLA N g n m cap e xs news w w'))∧(m=0∨v'.ownBlock=v.ownBlock∨v'.ownBlock=some w.heap.size):=by
 have hsmall:n+m≤9223372036854775807:=by simp only[maxLen] at h63; omega
 have hlen:(xs++news).length=(n+m)*5:=by rw[yP,hrow.1.1,hl,Nat.add_mul]
 by_cases hm:m=0
 ·subst hm;have hn:news=[]:=List.eq_nil_of_length_eq_zero (by simpa using hl);subst hn;refine⟨v,w,?_,by simpa using hrow,.inl (Ext.refl w),.inl rfl⟩
  cases A with
  | none=>
   have:=hc0 rfl
   subst this;exact run_append_owned_none (P:=P) w N t ty e i 5 ht hi v n xs hrow.1
  | some ad=>
   rcases hrow.1.2 with ⟨rfl,rfl⟩ | ⟨g,cap,cur,rfl,_,hg,hnc,_,hcs,_⟩
   ·simp[Builtin.append_,run_underlying ht,sizeOf,typeInfo,hi,Builtin.lenOf,Builtin.firstCells,loadCells,loadCellsFrom]
   ·have hfit:n*i.size+([]:List Value).length≤cur.size:=by rw[hsize,hcs]; simp only[zL,Nat.add_zero]; exact Nat.mul_le_mul_right _ hnc
    have:=run_append_room (P:=P) w t ty e i ht hi g n cap cur hg ad 0 c [] (by simp) (fun j u hu=>by simp at hu) (fun u hu=>by simp at hu) (by omega) hfit
    rw[this];simp only[Nat.add_zero,List.append_nil,zL,List.take_append_drop,Array.toArray_toList];rw[setRow_self w g cur e (0,0) hg]
 ·obtain⟨ad,rfl⟩:∃ad,A=some ad:=by
   rcases hr with hr | ⟨b,off,hA,_⟩
   ·subst hr; simp at hl; omega
   ·exact⟨_,hA⟩
  have hnews:∀j u,news[j]?=some u→w.cell? (ad.add j)=some u:=by
   intro j u hu
   rcases hr with hr | ⟨b,off,hA,_,hk⟩
   ·subst hr; simp at hu
   ·injection hA with hA;subst hA;have hj:j<news.length:=(List.getElem?_eq_some_iff.1 hu).1
    have:=(hk j hj).trans hu
    unfold Addr.add
    by_cases h0:j=0
    ·subst h0; simpa using this
    ·simp only[h0,if_false]; exact this
  subst hby
  have grown:∀(old:Nat),old<n+m →
    zAj N e (n+m) (xs++news) (.slice (some ⟨w.heap.size,0,none⟩) (n+m) (grownCap w (n+m) old e)) (w.drew.alloc (.cells (xs.toArray++news.toArray++Builtin.zeroCells z.cells (grownCap w (n+m) old e-(n+m))) e)) ∧
    Ext w (w.drew.alloc (.cells (xs.toArray++news.toArray++Builtin.zeroCells z.cells (grownCap w (n+m) old e-(n+m))) e)):=by
   intro old ho;have hge:=grownCap_ge w (n+m) old e;have hcm:grownCap w (n+m) old e≤maxLen:=grownCap_le_maxLen w (n+m) old e h63;refine⟨⟨⟨hlen,.inr ⟨w.heap.size,_,_,rfl,hN,zQ w.drew _,hge,hcm,?_,?_⟩⟩,_,_,rfl,(fun h=>by cases h),(fun h=>by omega)⟩,Ext.trans (Below.drew (Below.refl _ _)) (Ext.alloc _ _)⟩
   ·simp only[Array.size_append,List.size_toArray,size_zeroCells,hzs,hrow.1.1,hl,←Nat.add_mul]
    congr 1
    omega
   ·simp only[Array.toList_append,List.append_assoc];rw[←List.append_assoc,←hlen];exact List.take_left
  rcases hrow.1.2 with ⟨rfl,rfl⟩ | ⟨g,cap,cur,rfl,hbg,hg,hnc,hcm,hcs,htake⟩
  ·have hx:xs=[]:=List.eq_nil_of_length_eq_zero (by simpa using hrow.1.1);subst hx;have hr:=run_append_nil (P:=P) w t ty e i z ht hi hz ad m c news (by rw[hsize]; exact hl) hnews (by omega) (by omega) (by have hb:=hbytes; simp only[Nat.zero_add] at hb; omega);have hgr:=grown 0 (by omega);simp only[Nat.zero_add,List.nil_append,Array.empty_append] at hgr ⊢;exact⟨_,_,hr,hgr.1,.inl hgr.2,.inr (.inr rfl)⟩
  ·by_cases hroom:n+m≤cap
   ·have hn0:0<n:=by
     rcases Nat.eq_zero_or_pos n with h0 | h0
     ·obtain⟨A',c',hA',_,hc'⟩:=hrow.2;injection hA' with _ _ hcc
      have:=hc' h0
      omega
     ·exact h0
    have hfit:n*i.size+news.length≤cur.size:=by rw[hl,hcs,hsize,←Nat.add_mul]; exact Nat.mul_le_mul_right _ hroom
    have hr:=run_append_room (P:=P) w t ty e i ht hi g n cap cur hg ad m c news (by rw[hsize]; exact hl) hnews h1 hroom hfit
    have hsz':(cur.toList.take (n*i.size)++news++cur.toList.drop (n*i.size+news.length)).toArray.size=cap*5:=by
     simp only[List.size_toArray,yP,List.length_take,List.length_drop,Array.length_toList];omega
    have htk:(cur.toList.take (n*i.size)++news++cur.toList.drop (n*i.size+news.length)).toArray.toList.take ((n+m)*5)=xs++news:=by
     rw[hsize,htake,←hlen];exact List.take_left
    refine⟨_,_,hr,⟨⟨hlen,.inr ⟨g,cap,_,rfl,hbg,setRow_heap w g cur _ e _ hg,hroom,hcm,hsz',htk⟩⟩,_,_,rfl,(fun h=>by cases h),(fun h=>by omega)⟩,.inr ⟨hn0,by omega,⟨rfl,rfl,rfl,by simp,fun k hk=>setRow_other w g k _ (by omega)⟩,g,cap,rfl,?_⟩,.inr (.inl rfl)⟩;exact⟨fun k hk=>setRow_other w g k _ hk,hroom,hrow.1.1,hl,cur,_,hg,setRow_heap w g cur _ e _ hg,hcs,hsz',htake,htk⟩
   ·have holds:∀j u,xs[j]?=some u→w.cell? ((⟨g,0,none⟩:Addr).add j)=some u:=hrow.1.cells (g:=g) rfl;have hr:=run_append_grow (P:=P) w t ty e i z ht hi hz ⟨g,0,none⟩ n cap xs (by rw[hsize]; exact hrow.1.1) holds ad m c news (by rw[hsize]; exact hl) hnews (by omega) (by omega) (growslice_fits (by omega) hbytes);have hgr:=grown cap (by omega);exact⟨_,_,hr,hgr.1,.inl hgr.2,.inr (.inr rfl)⟩
def VS (N:Nat)(e:TypeId)(n:Nat)(xs:List Value)(v:Value)(w:World):Prop:=
 w.ownsRow N e 1 v n xs∧∃A c,v=.slice A n c∧(A=none→c=0)∧(n=0→c=0)
def zKI (e:TypeId)(k:Nat)(cs:Array Value)(v:Value)(w:World):Prop:=∃g,v=.slice (some ⟨g,0,none⟩) k k∧Blk w g e cs
def zJX (e:TypeId)(cs:Array Value)(N:Nat)(v:Value)(w:World):Prop:=∃g,v=.pointer (some ⟨g,0,none⟩)∧Blk w g e cs∧N≤g
structure zLM (N g n m cap:Nat)(e:TypeId)(xs news:List Value)(w w':World):Prop where
 other:∀k,k≠g→w'.heap[k]?=w.heap[k]?
 room:n+m≤cap
 xl:xs.length=n*1
 ml:news.length=m*1
 cells:∃cur cur':Array Value,w.heap[g]?=some (.cells cur e (0,0))∧w'.heap[g]?=some (.cells cur' e (0,0))∧cur.size=cap*1∧cur'.size=cap*1∧cur.toList.take (n*1)=xs∧cur'.toList.take ((n+m)*1)=xs++news
theorem VS.ext {N:Nat}{e:TypeId}{n:Nat}{xs:List Value}{v:Value}{w w':World}(h:VS N e n xs v w)(hx:Ext w w'):VS N e n xs v w':=⟨zCM h.1 hx,h.2⟩
theorem zKI.ext {e:TypeId}{k:Nat}{cs:Array Value}{v:Value}{w w':World}(h:zKI e k cs v w)(hx:Ext w w'):zKI e k cs v w':=let ⟨g,a,b⟩:=h; ⟨g,a,b.ext hx⟩
theorem zJX.ext {e:TypeId}{cs:Array Value}{N:Nat}{v:Value}{w w':World}(h:zJX e cs N v w)(hx:Ext w w'):zJX e cs N v w':=let ⟨g,a,b,c⟩:=h; ⟨g,a,b.ext hx,c⟩
theorem zKI.roomy {N g n m cap:Nat}{e e':TypeId}{xs news:List Value}{w w':World}{k:Nat}{cs:Array Value}{v:Value}(hr:zLM N g n m cap e xs news w w')(h:zKI e' k cs v w)(hs:cs.size<(n+m)*1):zKI e' k cs v w':=by
 obtain⟨g',rfl,hb⟩:=h;refine⟨g',rfl,?_⟩
 by_cases hg:g'=g
 ·subst hg;obtain⟨cur,cur',h1,h2,h3,_⟩:=hr.cells;unfold Blk at hb;rw[hb] at h1;injection h1 with h1;injection h1 with h1;subst h1
  have:=hr.room
  have:(n+m)*1≤cap*1:=Nat.mul_le_mul_right _ this
  omega
 ·exact(hr.other g' hg).trans hb
theorem zJX.roomy {N g n m cap:Nat}{e e':TypeId}{xs news:List Value}{w w':World}{cs:Array Value}{M:Nat}{v:Value}(hr:zLM N g n m cap e xs news w w')(h:zJX e' cs M v w)(hs:e'≠e):zJX e' cs M v w':=by
 obtain⟨g',rfl,hb,hM⟩:=h;refine⟨g',rfl,?_,hM⟩
 by_cases hg:g'=g
 ·subst hg;obtain⟨cur,cur',h1,h2,h3,_⟩:=hr.cells;unfold Blk at hb;rw[hb] at h1;injection h1 with h1;injection h1 with h1 h4;exact absurd h4 hs
 ·exact(hr.other g' hg).trans hb
theorem VS.roomy {N g n m cap:Nat}{e:TypeId}{xs news:List Value}{w w':World}{k:Nat}{ys:List Value}{v:Value}(hr:zLM N g n m cap e xs news w w')(h:VS N e k ys v w)(hs:k≤n∨(k=n+m∧ys=xs++news)):VS N e k ys v w':=by
 refine⟨⟨h.1.1,?_⟩,h.2⟩;have hyl:=h.1.1
 rcases h.1.2 with hn | ⟨g',cap',cur0,hv,hb,hh,a1,a2,a3,a4⟩
 ·exact .inl hn
 ·by_cases hg:g'=g
  ·subst hg;obtain⟨cur,cur',h1,h2,h3,h4,h5,h6⟩:=hr.cells;rw[hh] at h1;injection h1 with h1;injection h1 with h1;subst h1;refine .inr ⟨g',cap',cur',hv,hb,h2,a1,a2,by omega,?_⟩
   rcases hs with hs | ⟨rfl,rfl⟩
   ·have hle:k*1≤n*1:=Nat.mul_le_mul_right _ hs
    have hle2:k*1≤(n+m)*1:=by omega
    have e1:(cur'.toList.take ((n+m)*1)).take (k*1)=cur'.toList.take (k*1):=by rw[List.take_take,Nat.min_eq_left hle2]
    have e2:(cur0.toList.take (n*1)).take (k*1)=cur0.toList.take (k*1):=by rw[List.take_take,Nat.min_eq_left hle]
    rw[←e1,h6,List.take_append_of_le_length (by rw[hr.xl]; exact hle),←h5,e2,a4]
   ·exact h6
  ·exact .inr ⟨g',cap',cur0,hv,hb,(hr.other g' hg).trans hh,a1,a2,a3,a4⟩
theorem zK7 {P:Program}(w:World)(N:Nat)(t ty e:TypeId)(i:TypeInfo)(z:Value)(bytes:Nat)(ht:P.underlying t=some (.slice e))(hi:P.info? e=some i)(hz:i.zero=some z)
  (hsize:i.size=1) (hby:i.bytes=bytes) (hzs:z.cells.size=1) (v:Value) (n:Nat) (xs:List Value) (hrow:VS N e n xs v w)
  (A:Option Addr) (m c:Nat) (news:List Value) (hc0:A=none→c=0) (hl:news.length=m*1) (hr:Cells w A news) (h1:∀u ∈ news,u.oneCell'=true)
  (h63:n+m≤maxLen) (hbytes:(n+m)*bytes≤140737488355328) (hN:N≤w.heap.size) :
  ∃v' w',(Builtin.append_ #[t,t] ty #[v,.slice A m c]).run P w=.ok v' w'∧VS N e (n+m) (xs++news) v' w'∧(Ext w w'∨(0<n∧0<m∧Below N w w'∧∃g cap,v.ownBlock=some g∧zLM N g n m cap e xs news w w'))∧(m=0∨v'.ownBlock=v.ownBlock∨v'.ownBlock=some w.heap.size):=by
 have hsmall:n+m≤9223372036854775807:=by simp only[maxLen] at h63; omega
 have hlen:(xs++news).length=(n+m)*1:=by rw[yP,hrow.1.1,hl,Nat.add_mul]
 by_cases hm:m=0
 ·subst hm;have hn:news=[]:=List.eq_nil_of_length_eq_zero (by simpa using hl);subst hn;refine⟨v,w,?_,by simpa using hrow,.inl (Ext.refl w),.inl rfl⟩
  cases A with
  | none=>
   have:=hc0 rfl
   subst this;exact run_append_owned_none (P:=P) w N t ty e i 1 ht hi v n xs hrow.1
  | some ad=>
   rcases hrow.1.2 with ⟨rfl,rfl⟩ | ⟨g,cap,cur,rfl,_,hg,hnc,_,hcs,_⟩
   ·simp[Builtin.append_,run_underlying ht,sizeOf,typeInfo,hi,Builtin.lenOf,Builtin.firstCells,loadCells,loadCellsFrom]
   ·have hfit:n*i.size+([]:List Value).length≤cur.size:=by rw[hsize,hcs]; simp only[zL,Nat.add_zero]; exact Nat.mul_le_mul_right _ hnc
    have:=run_append_room (P:=P) w t ty e i ht hi g n cap cur hg ad 0 c [] (by simp) (fun j u hu=>by simp at hu) (fun u hu=>by simp at hu) (by omega) hfit
    rw[this];simp only[Nat.add_zero,List.append_nil,zL,List.take_append_drop,Array.toArray_toList];rw[setRow_self w g cur e (0,0) hg]
 ·obtain⟨ad,rfl⟩:∃ad,A=some ad:=by
   rcases hr with hr | ⟨b,off,hA,_⟩
   ·subst hr; simp at hl; omega
   ·exact⟨_,hA⟩
  have hnews:∀j u,news[j]?=some u→w.cell? (ad.add j)=some u:=by
   intro j u hu
   rcases hr with hr | ⟨b,off,hA,_,hk⟩
   ·subst hr; simp at hu
   ·injection hA with hA;subst hA;have hj:j<news.length:=(List.getElem?_eq_some_iff.1 hu).1
    have:=(hk j hj).trans hu
    unfold Addr.add
    by_cases h0:j=0
    ·subst h0; simpa using this
    ·simp only[h0,if_false]; exact this
  subst hby
  have grown:∀(old:Nat),old<n+m →
    VS N e (n+m) (xs++news) (.slice (some ⟨w.heap.size,0,none⟩) (n+m) (grownCap w (n+m) old e)) (w.drew.alloc (.cells (xs.toArray++news.toArray++Builtin.zeroCells z.cells (grownCap w (n+m) old e-(n+m))) e)) ∧
    Ext w (w.drew.alloc (.cells (xs.toArray++news.toArray++Builtin.zeroCells z.cells (grownCap w (n+m) old e-(n+m))) e)):=by
   intro old ho;have hge:=grownCap_ge w (n+m) old e;have hcm:grownCap w (n+m) old e≤maxLen:=grownCap_le_maxLen w (n+m) old e h63;refine⟨⟨⟨hlen,.inr ⟨w.heap.size,_,_,rfl,hN,zQ w.drew _,hge,hcm,?_,?_⟩⟩,_,_,rfl,(fun h=>by cases h),(fun h=>by omega)⟩,Ext.trans (Below.drew (Below.refl _ _)) (Ext.alloc _ _)⟩
   ·simp only[Array.size_append,List.size_toArray,size_zeroCells,hzs,hrow.1.1,hl,←Nat.add_mul]
    congr 1
    omega
   ·simp only[Array.toList_append,List.append_assoc];rw[←List.append_assoc,←hlen];exact List.take_left
  rcases hrow.1.2 with ⟨rfl,rfl⟩ | ⟨g,cap,cur,rfl,hbg,hg,hnc,hcm,hcs,htake⟩
  ·have hx:xs=[]:=List.eq_nil_of_length_eq_zero (by simpa using hrow.1.1);subst hx;have hr:=run_append_nil (P:=P) w t ty e i z ht hi hz ad m c news (by rw[hsize]; exact hl) hnews (by omega) (by omega) (by have hb:=hbytes; simp only[Nat.zero_add] at hb; omega);have hgr:=grown 0 (by omega);simp only[Nat.zero_add,List.nil_append,Array.empty_append] at hgr ⊢;exact⟨_,_,hr,hgr.1,.inl hgr.2,.inr (.inr rfl)⟩
  ·by_cases hroom:n+m≤cap
   ·have hn0:0<n:=by
     rcases Nat.eq_zero_or_pos n with h0 | h0
     ·obtain⟨A',c',hA',_,hc'⟩:=hrow.2;injection hA' with _ _ hcc
      have:=hc' h0
      omega
     ·exact h0
    have hfit:n*i.size+news.length≤cur.size:=by rw[hl,hcs,hsize,←Nat.add_mul]; exact Nat.mul_le_mul_right _ hroom
    have hr:=run_append_room (P:=P) w t ty e i ht hi g n cap cur hg ad m c news (by rw[hsize]; exact hl) hnews h1 hroom hfit
    have hsz':(cur.toList.take (n*i.size)++news++cur.toList.drop (n*i.size+news.length)).toArray.size=cap*1:=by
     simp only[List.size_toArray,yP,List.length_take,List.length_drop,Array.length_toList];omega
    have htk:(cur.toList.take (n*i.size)++news++cur.toList.drop (n*i.size+news.length)).toArray.toList.take ((n+m)*1)=xs++news:=by
     rw[hsize,htake,←hlen];exact List.take_left
    refine⟨_,_,hr,⟨⟨hlen,.inr ⟨g,cap,_,rfl,hbg,setRow_heap w g cur _ e _ hg,hroom,hcm,hsz',htk⟩⟩,_,_,rfl,(fun h=>by cases h),(fun h=>by omega)⟩,.inr ⟨hn0,by omega,⟨rfl,rfl,rfl,by simp,fun k hk=>setRow_other w g k _ (by omega)⟩,g,cap,rfl,?_⟩,.inr (.inl rfl)⟩;exact⟨fun k hk=>setRow_other w g k _ hk,hroom,hrow.1.1,hl,cur,_,hg,setRow_heap w g cur _ e _ hg,hcs,hsz',htake,htk⟩
   ·have holds:∀j u,xs[j]?=some u→w.cell? ((⟨g,0,none⟩:Addr).add j)=some u:=hrow.1.cells (g:=g) rfl;have hr:=run_append_grow (P:=P) w t ty e i z ht hi hz ⟨g,0,none⟩ n cap xs (by rw[hsize]; exact hrow.1.1) holds ad m c news (by rw[hsize]; exact hl) hnews (by omega) (by omega) (growslice_fits (by omega) hbytes);have hgr:=grown cap (by omega);exact⟨_,_,hr,hgr.1,.inl hgr.2,.inr (.inr rfl)⟩
def vG (o:Option Nat)(Fs:List (Value→World→Prop))(w w':World):Prop:=w.grownBy w' o∧∀F ∈ Fs,∀v,F v w→F v w'
theorem zE4 {o:Option Nat}{a b c:World}(h:a.grownBy b o)(k:b.grownBy c o):a.grownBy c o:=
 ⟨k.os.trans h.os,k.tape.trans h.tape,k.output.trans h.output,Nat.le_trans h.size k.size,fun n hn ho=>(k.block n (yU hn h.size) ho).trans (h.block n hn ho)⟩
theorem zAM {o:Option Nat}{a b:World}(h:Ext a b):a.grownBy b o:=⟨h.os,h.tape,h.output,h.size,fun n hn _=>h.block n hn⟩
theorem vG.trans {o:Option Nat}{Fs:List (Value→World→Prop)}(a b c:World)(h:vG o Fs a b)(k:vG o Fs b c):vG o Fs a c:=⟨zE4 h.1 k.1,fun F hF v hv=>k.2 F hF v (h.2 F hF v hv)⟩
theorem vG.ext {o:Option Nat}{Fs:List (Value→World→Prop)}{w w':World}(hE:∀F ∈ Fs,∀v w w',F v w→Ext w w'→F v w')(h:Ext w w'):vG o Fs w w':=⟨zAM h,fun F hF v hv=>hE F hF v _ _ hv h⟩
theorem vG.refl {o:Option Nat}{Fs:List (Value→World→Prop)}(w:World):vG o Fs w w:=⟨zAM (Ext.refl w),fun _ _ _ h=>h⟩
theorem zBd {P:Program}{id:Nat}{Q':Exit→Act→World→Prop}{a:Act}{w:World}{l:List Oper}{ks:List Take}(o:Option Nat)(Fs:List (Value→World→Prop))(m:Nat)(hm:P.follows .mixedOrders=true)(hB:YF l.toArray m=true)(hT:zCh l.toArray m=true)
  (hE:∀F ∈ Fs,∀v w w',F v w→Ext w w'→F v w')
  (h:XL P l.toArray (vG o Fs) w (fun a' w'=>wpList P l.toArray Q' (l.drop m) a' w') (l.take m) ks a []):(Code.region id l.toArray true).wp P Q' a w:=
 XJ (R:=vG o Fs) m ks hm hB hT vG.trans (vG.ext hE (Below.drew (Below.refl _ _))) h
def zBj (e:TypeId)(H:Nat)(cs:Array Value)(v:Value)(w:World):Prop:=∃g,v=.slice (some ⟨g,0,none⟩) 1 1∧Blk w g e cs∧H≤g
theorem zBj.ext {e:TypeId}{H:Nat}{cs:Array Value}{v:Value}{w w':World}(h:zBj e H cs v w)(hx:Ext w w'):zBj e H cs v w':=let ⟨g,a,b,c⟩:=h; ⟨g,a,b.ext hx,c⟩
def zMv (N:Nat)(e:TypeId)(o:Option Nat)(H n:Nat)(ys:List Value)(v:Value)(w:World):Prop:=zAj N e n ys v w∧(v.ownBlock=o∨∃g,v.ownBlock=some g∧H≤g)
def FsK (N:Nat)(e:TypeId)(v0:Value)(H n:Nat)(xs news:List Value):List (Value→World→Prop):=[fun _ w=>zAj N e n xs v0 w,zBj e H news.toArray,zMv N e v0.ownBlock H (n+1) (xs++news)]
theorem zIr (N:Nat)(e:TypeId)(v0:Value)(H n:Nat)(xs news:List Value):∀F ∈ FsK N e v0 H n xs news,∀v w w',F v w→Ext w w'→F v w':=by
 intro F hF v w w' h hx;simp only[FsK,zU,List.not_mem_nil,or_false] at hF
 rcases hF with rfl | rfl | rfl
 ·exact zAj.ext h hx
 ·exact h.ext hx
 ·exact⟨h.1.ext hx,h.2⟩
theorem zEj {P:Program}{w:World}{ρ:Operand→Value}{o:Oper}(N H:Nat)(s x:Operand)(t:TypeId)(ho:o.op=.call { callee:=.builtin .append,args:=#[s,x],argTypes:=#[t,t] })
  (e:TypeId) (i:TypeInfo) (z:Value) (bytes:Nat) (ht:P.underlying t=some (.slice e)) (hi:P.info? e=some i) (hz:i.zero=some z)
  (hsize:i.size=5) (hby:i.bytes=bytes) (hzs:z.cells.size=5) (v0:Value) (n:Nat) (xs news:List Value) (hs:ρ s=v0) (hrow:zAj N e n xs v0 w)
  (u:Value) (hu:ρ x=u) (hx:zBj e H news.toArray u w) (hl:news.length=5) (h1:∀u ∈ news,u.oneCell'=true) (h63:n+1≤maxLen) (hbytes:(n+1)*bytes≤140737488355328) (hN:N≤w.heap.size) (hH:H≤w.heap.size) (hog:∀g,v0.ownBlock=some g→g<H) :
  xB P ρ o w fun v' w'=>zMv N e v0.ownBlock H (n+1) (xs++news) v' w'∧vG v0.ownBlock (FsK N e v0 H n xs news) w w':=by
 obtain⟨g,hxv,hb,hg⟩:=hx;rw[hxv] at hu;have hc:Cells w (some ⟨g,0,none⟩) news:=.inr ⟨g,0,rfl,hb.lt,fun k hk=>by rw[Nat.zero_add,hb.cell k]; simp⟩;obtain⟨v',w',hrun,h2,h3,h4⟩:=zK3 (P:=P) w N t o.type e i z bytes ht hi hz hsize hby hzs v0 n xs hrow (some ⟨g,0,none⟩) 1 1 news (fun h=>by cases h) (by rw[hl]) hc h1 h63 hbytes hN;unfold xB execOp;simp only[ho,resolve,invoke,builtin,Sem.run_bind,Sem.run_pure,Result.andThen_ok,List.map_toArray,List.map_cons,List.map_nil,hs,hu,hrun];refine⟨⟨h2,?_⟩,?_⟩
 ·rcases h4 with h4 | h4 | h4
  ·omega
  ·exact .inl h4
  ·exact .inr ⟨_,h4,hH⟩
 ·rcases h3 with h3 | ⟨hn,hm,hbl,g0,cap,hgo,hroom⟩
  ·exact vG.ext (zIr _ _ _ _ _ _ _) h3
  ·refine⟨⟨hbl.os,hbl.tape,hbl.output,hbl.size,fun k hk ho=>hroom.other k fun e=>ho (by rw[e,hgo])⟩,fun F hF v h=>?_⟩;have hlt:=hog g0 hgo;simp only[FsK,zU,List.not_mem_nil,or_false] at hF
   rcases hF with rfl | rfl | rfl
   ·exact zAj.roomy hroom h (.inl (zX _))
   ·obtain⟨g',a,b,c⟩:=h;exact⟨g',a,(hroom.other g' (by omega)).trans b,c⟩
   ·exact⟨zAj.roomy hroom h.1 (.inr ⟨rfl,rfl⟩),h.2⟩
def zJN (N:Nat)(e:TypeId)(o:Option Nat)(H n:Nat)(ys:List Value)(v:Value)(w:World):Prop:=VS N e n ys v w∧(v.ownBlock=o∨∃g,v.ownBlock=some g∧H≤g)
def FsH (N:Nat)(e:TypeId)(v0:Value)(H n:Nat)(xs news:List Value):List (Value→World→Prop):=[fun _ w=>VS N e n xs v0 w,zBj e H news.toArray,zJN N e v0.ownBlock H (n+1) (xs++news)]
theorem zFW (N:Nat)(e:TypeId)(v0:Value)(H n:Nat)(xs news:List Value):∀F ∈ FsH N e v0 H n xs news,∀v w w',F v w→Ext w w'→F v w':=by
 intro F hF v w w' h hx;simp only[FsH,zU,List.not_mem_nil,or_false] at hF
 rcases hF with rfl | rfl | rfl
 ·exact VS.ext h hx
 ·exact h.ext hx
 ·exact⟨h.1.ext hx,h.2⟩
theorem zCK {P:Program}{w:World}{ρ:Operand→Value}{o:Oper}(N H:Nat)(s x:Operand)(t:TypeId)(ho:o.op=.call { callee:=.builtin .append,args:=#[s,x],argTypes:=#[t,t] })
  (e:TypeId) (i:TypeInfo) (z:Value) (bytes:Nat) (ht:P.underlying t=some (.slice e)) (hi:P.info? e=some i) (hz:i.zero=some z)
  (hsize:i.size=1) (hby:i.bytes=bytes) (hzs:z.cells.size=1) (v0:Value) (n:Nat) (xs news:List Value) (hs:ρ s=v0) (hrow:VS N e n xs v0 w)
  (u:Value) (hu:ρ x=u) (hx:zBj e H news.toArray u w) (hl:news.length=1) (h1:∀u ∈ news,u.oneCell'=true) (h63:n+1≤maxLen) (hbytes:(n+1)*bytes≤140737488355328) (hN:N≤w.heap.size) (hH:H≤w.heap.size) (hog:∀g,v0.ownBlock=some g→g<H) :
  xB P ρ o w fun v' w'=>zJN N e v0.ownBlock H (n+1) (xs++news) v' w'∧vG v0.ownBlock (FsH N e v0 H n xs news) w w':=by
 obtain⟨g,hxv,hb,hg⟩:=hx;rw[hxv] at hu;have hc:Cells w (some ⟨g,0,none⟩) news:=.inr ⟨g,0,rfl,hb.lt,fun k hk=>by rw[Nat.zero_add,hb.cell k]; simp⟩;obtain⟨v',w',hrun,h2,h3,h4⟩:=zK7 (P:=P) w N t o.type e i z bytes ht hi hz hsize hby hzs v0 n xs hrow (some ⟨g,0,none⟩) 1 1 news (fun h=>by cases h) (by rw[hl]) hc h1 h63 hbytes hN;unfold xB execOp;simp only[ho,resolve,invoke,builtin,Sem.run_bind,Sem.run_pure,Result.andThen_ok,List.map_toArray,List.map_cons,List.map_nil,hs,hu,hrun];refine⟨⟨h2,?_⟩,?_⟩
 ·rcases h4 with h4 | h4 | h4
  ·omega
  ·exact .inl h4
  ·exact .inr ⟨_,h4,hH⟩
 ·rcases h3 with h3 | ⟨hn,hm,hbl,g0,cap,hgo,hroom⟩
  ·exact vG.ext (zFW _ _ _ _ _ _ _) h3
  ·refine⟨⟨hbl.os,hbl.tape,hbl.output,hbl.size,fun k hk ho=>hroom.other k fun e=>ho (by rw[e,hgo])⟩,fun F hF v h=>?_⟩;have hlt:=hog g0 hgo;simp only[FsH,zU,List.not_mem_nil,or_false] at hF
   rcases hF with rfl | rfl | rfl
   ·exact VS.roomy hroom h (.inl (zX _))
   ·obtain⟨g',a,b,c⟩:=h;exact⟨g',a,(hroom.other g' (by omega)).trans b,c⟩
   ·exact⟨VS.roomy hroom h.1 (.inr ⟨rfl,rfl⟩),h.2⟩
theorem zMJ:(Tryz.prog.info? 39).map (fun i=>(i.zero,i.size,i.bytes))=some (some (.agg #[.int .u8 0,.int .i64 0,.string ⟨#[]⟩,.int .i64 0,.slice none 0 0]),5,64):=by kernel_rfl
theorem zIq:(Tryz.prog.info? 3).map (fun i=>(i.zero,i.size,i.bytes))=some (some (.int .i64 0),1,8):=by kernel_rfl
theorem PS.snoc {w W w1:World}{p B:Nat}{s:Ps}{R:xV}(h:PS W p B s R)(hw:Ext w W)(x:Nd)(hx:x.kids=[]){g cap:Nat}
  (ho:w1.ownsRow B 39 5 (.slice (some ⟨g,0,none⟩) (R.nh.length+1) cap) (R.nh.length+1) (ncs R.nh++YH (x,(none,0)))) (hg:W.grownBy w1 (Value.slice R.A R.nh.length R.c).ownBlock)
  (hf:(Value.slice R.A R.nh.length R.c).ownBlock=some g∨w.heap.size≤g) :
  PS (w1.setCell ⟨p,1,none⟩ (.slice (some ⟨g,0,none⟩) (R.nh.length+1) cap)) p B (s.add x) { R with A:=some ⟨g,0,none⟩,c:=cap,nh:=R.nh++[(x,(none,0))] } ∧
   xD w (xL p R) (w1.setCell ⟨p,1,none⟩ (.slice (some ⟨g,0,none⟩) (R.nh.length+1) cap)) (xL p { R with A:=some ⟨g,0,none⟩,c:=cap,nh:=R.nh++[(x,(none,0))] }):=by
 have hpne:(Value.slice R.A R.nh.length R.c).ownBlock≠some p:=fun e=>by
  obtain⟨cur,hc⟩:=xY h.ns.row (xP h.ns.row e);exact Blk.differ h.blk hc (by decide) rfl
 have hb1:Blk w1 p 72 _:=(hg.block p h.blk.lt (fun e=>hpne e.symm)).trans h.blk;have hpB:=h.pB;have hpl:=h.blk.lt;have hns:=(h.ns.snoc (by decide) x hx ho hg);refine⟨⟨?_,fun k hk=>?_,h.zJo,h.zEY,?_,?_,h.pB,⟨h.xS.last,h.xS.deep⟩⟩,?_⟩
 ·have:=hb1.put 1 (.slice (some ⟨g,0,none⟩) (R.nh.length+1) cap)
  show Blk _ p 72 #[.slice _ s.ts.length _,.slice _ (R.nh++[(x,(none,0))]).length _,.int .i64 (s.deep:Int)]
  rw[yP]
  simpa using this
 ·have hlt:=h.zEY
  have hne:R.bt≠p:=by omega
  show(w1.setCell _ _).cell? ⟨R.bt,R.ot+k,none⟩=_
  have e1:w1.heap[R.bt]?=W.heap[R.bt]?:=hg.block R.bt h.btl fun e=>by
   have:=(jE h.ns.row (xP h.ns.row e.symm)).1
   omega
  have e2:=World.cell?_of_block (w:=W) (w':=w1.setCell ⟨p,1,none⟩ (.slice (some ⟨g,0,none⟩) (R.nh.length+1) cap)) (a:=⟨R.bt,R.ot+k,none⟩) ((zS w1 ⟨p,1,none⟩ _ R.bt hne).trans e1);exact e2.trans (h.zMQ k hk)
 ·show s.nd++[x]=_
  rw[h.nodes,List.map_append]
  rfl
 ·refine hns.jL fun b hb=>zS w1 ⟨p,1,none⟩ _ b fun e=>?_;rw[e] at hb;exact hns.zDg hb1 (by decide) (by decide) hb
 ·refine⟨hg.os.trans hw.os,hg.tape.trans hw.tape,hg.output.trans hw.output,?_,fun b hb hM=>?_,fun b hb=>?_⟩
  ·have h1:=hw.size;have h2:=hg.size;simp[World.setCell];omega
  ·have h1:=hw.size;have hnp:b≠p:=fun e=>hM (.inl e);rw[zS w1 ⟨p,1,none⟩ _ b hnp,hg.block b (by omega) (fun e=>hM (.inr (.inl (xP h.ns.row e.symm))))];exact hw.block b hb
  ·have h1:=hw.size
   rcases hb with rfl | hb | hb
   ·exact .inl (.inl rfl)
   ·injection hb with hb;injection hb with hb;subst hb
    rcases hf with hf | hf
    ·exact .inl (.inr (.inl (xP h.ns.row hf)))
    ·exact .inr hf
   ·simp only[List.map_append] at hb
    rcases List.mem_append.1 hb with hb | hb
    ·exact .inl (.inr (.inr hb))
    ·simp at hb
theorem zC7 (a at_ en n:Int)(x:ByteArray)(w:World):(Instr.field 75 (.agg #[.int .u8 a,.int .i64 at_,.int .i64 en,.string x,.int .i64 n]) 0).run Tryz.prog w=.ok (.int .u8 a) w:=by kernel_rfl
theorem zKR (a at_ en n:Int)(x:ByteArray)(w:World):(Instr.field 75 (.agg #[.int .u8 a,.int .i64 at_,.int .i64 en,.string x,.int .i64 n]) 1).run Tryz.prog w=.ok (.int .i64 at_) w:=by kernel_rfl
theorem zAf (a at_ en n:Int)(x:ByteArray)(w:World):(Instr.field 75 (.agg #[.int .u8 a,.int .i64 at_,.int .i64 en,.string x,.int .i64 n]) 3).run Tryz.prog w=.ok (.string x) w:=by kernel_rfl
theorem zDe (a at_ en n:Int)(x:ByteArray)(w:World):(Instr.field 75 (.agg #[.int .u8 a,.int .i64 at_,.int .i64 en,.string x,.int .i64 n]) 4).run Tryz.prog w=.ok (.int .i64 n) w:=by kernel_rfl
structure KF where
 K:Nat
 first:Array Value
 cap:Array Value
 m:Pm Unit
def KF.val (f:KF):Value:=.func (.func f.K) f.first f.cap
def zC2:List KF→Pm Unit
 | [],s=>.ok () s
 | f::l,s=>(f.m s).bind fun _ s=>zC2 l s
theorem zKF (x:Nd × Hd2):∀u ∈ YH x,u.oneCell'=true:=by
 intro u hu;simp only[YH,zU,List.not_mem_nil,or_false] at hu
 rcases hu with rfl | rfl | rfl | rfl | rfl <;> rfl
theorem NS.zU8 {w:World}{B:Nat}{tn ti:TypeId}{A:Option Addr}{c:Nat}{nh:List (Nd × Hd2)}(h:NS w B tn ti A c nh):zAj B tn nh.length (ncs nh) (.slice A nh.length c) w:=by
 refine⟨h.row,A,c,rfl,fun e=>?_,h.rz⟩;subst e
 rcases h.row.2 with ⟨hv,_⟩ | ⟨g,cap,cur,hv,_⟩
 ·injection hv
 ·cases hv
theorem NS.zU0 {w:World}{B:Nat}{tn ti:TypeId}{A:Option Addr}{c:Nat}{nh:List (Nd × Hd2)}(h:NS w B tn ti A c nh)(x:Nd × Hd2)(hx:x ∈ nh):VS B ti x.1.kids.length (ints x.1.kids) (.slice x.2.1 x.1.kids.length x.2.2) w:=by
 refine⟨h.kids x hx,_,_,rfl,fun e=>?_,h.kz x hx⟩;have hk:=(h.kids x hx).2;rw[e] at hk
 rcases hk with ⟨hv,_⟩ | ⟨g,cap,cur,hv,_⟩
 ·injection hv
 ·cases hv
theorem zAj.at {N:Nat}{e:TypeId}{n:Nat}{xs:List Value}{v:Value}{w:World}(h:zAj N e (n+1) xs v w):∃g cap,v=.slice (some ⟨g,0,none⟩) (n+1) cap:=by
 rcases h.1.2 with ⟨_,h0⟩ | ⟨g,cap,cur,hv,_⟩
 ·omega
 ·exact⟨g,cap,hv⟩
theorem VS.at {N:Nat}{e:TypeId}{n:Nat}{xs:List Value}{v:Value}{w:World}(h:VS N e (n+1) xs v w):∃g cap,v=.slice (some ⟨g,0,none⟩) (n+1) cap:=by
 rcases h.1.2 with ⟨_,h0⟩ | ⟨g,cap,cur,hv,_⟩
 ·omega
 ·exact⟨g,cap,hv⟩
theorem zKN:∀(l:List KF) (k:Nat) (hk:k<l.length) (s s':Ps),zC2 (l.take k) s=.ok () s'→zC2 (l.take (k+1)) s=(l[k].m s').bind fun _ s=>.ok () s
 | f::l,0,_,s,s',h=>by
  injection h with _ h;subst h
  rfl
 | f::l,k+1,hk,s,s',h=>by
  show(f.m s).bind (fun _ s=>zC2 (l.take (k+1)) s)=_
  have h':(f.m s).bind (fun _ s=>zC2 (l.take k) s)=.ok () s':=h
  cases hm:f.m s with
  | err e p=>rw[hm] at h'; cases h'
  | ok a t=>
   rw[hm] at h';exact zKN l k (by simpa using hk) t s' h'
theorem zNj:∀(l:List KF) (k:Nat) (hk:k<l.length) (s s':Ps),zC2 (l.take k) s=.ok () s'→∀er a,l[k].m s'=.err er a→zC2 l s=.err er a
 | f::l,0,_,s,s',h,er,a,he=>by
  injection h with _ h;subst h
  show(f.m s).bind _=_
  rw[show f.m s=.err er a from he]
  rfl
 | f::l,k+1,hk,s,s',h,er,a,he=>by
  show(f.m s).bind (fun _ s=>zC2 l s)=_
  have h':(f.m s).bind (fun _ s=>zC2 (l.take k) s)=.ok () s':=h
  cases hm:f.m s with
  | err e p=>rw[hm] at h'; cases h'
  | ok b t=>
   rw[hm] at h';exact zNj l k (by simpa using hk) t s' h' er a he
theorem zKO (w:World)(p B:Nat)(s:Ps)(R:xV)(kind:Nat)(F:Option Addr)(l:List KF)(fc:Nat)(h:PS w p B s R)(hbig:s.nd.length≤1000000)(hl:l.length≤10)
  (hF:XE w (xL p R) F (l.map KF.val)) (he:∀f ∈ l,∀args w,(callFunc f.K args).run Tryz.prog w=.ok (.enter f.K args) w)
  (hd:∀(k:Nat) (hk:k<l.length) (s':Ps) (wr:World) (R':xV),zC2 (l.take k) (s.node kind)=.ok () s'→xD w (xL p R) wr (xL p R')→PS wr p B s' R'→Calls Tryz.prog l[k].K (l[k].first++#[.int .i64 (s.nd.length:Int)]++l[k].cap) wr (xN wr p B R' (l[k].m s'))) :
  Calls Tryz.prog 46 #[.pointer (some ⟨p,0,none⟩),.int .u8 (kind:Int),.slice F l.length fc] w (zDS w p B R (.int .i64 (s.nd.length:Int)) (zC2 l (s.node kind))):=by
 obtain⟨i0,hi,hz0,hz1,hz2⟩:=info_parts zMJ;have HP:=yG h;have HFC:=yG hF;have HE:=yG he;have HD:=yG hd;have x1:=h.x1;have hlen:=h.len;have hpl:=h.blk.lt;have HLN:=yG hlen;rw[hlen] at hbig;have hf1:=zKR;obtain⟨o,HO⟩:∃o,Hid ((Value.slice R.A R.nh.length R.c).ownBlock=o):=⟨_,yG rfl⟩
 have HPN:Hid (some p≠o):=yG fun e=>by
  rw[←HO.out] at e;obtain⟨cur,hc⟩:=xY h.ns.row (xP h.ns.row e.symm);exact Blk.differ h.blk hc (by decide) rfl
 have HBN:Hid (some R.bt≠o):=yG fun e=>by
  rw[←HO.out] at e;have h1:=(jE h.ns.row (xP h.ns.row e.symm)).1;have h2:=h.zEY;omega
 have HOG:Hid (∀g,o=some g→g<w.heap.size):=yG fun g e=>by
  rw[←HO.out] at e;exact(jE h.ns.row (xP h.ns.row e)).2
 have HBW:Hid (B≤w.heap.size):=yG (Nat.le_trans h.pB (zV hpl));obtain⟨Fs,HFS⟩:∃Fs,Hid (FsK B 39 (.slice R.A R.nh.length R.c) w.heap.size R.nh.length (ncs R.nh) (YH (⟨kind,s.hd.at_,[],0,[]⟩,(none,0)))=Fs):=⟨_,yG rfl⟩
 have hE:∀F ∈ Fs,∀v w w',F v w→Ext w w'→F v w':=by rw[←HFS.out]; exact zIr _ _ _ _ _ _ _
 have m0:(fun (_:Value) w=>zAj B 39 R.nh.length (ncs R.nh) (.slice R.A R.nh.length R.c) w) ∈ Fs:=by rw[←HFS.out]; simp only[FsK,zU,true_or]
 have m1:zBj 39 w.heap.size (YH (⟨kind,s.hd.at_,[],0,[]⟩,(none,0))).toArray ∈ Fs:=by rw[←HFS.out]; simp only[FsK,zU,true_or,or_true]
 have m2:zMv B 39 o w.heap.size (R.nh.length+1) (ncs R.nh++YH (⟨kind,s.hd.at_,[],0,[]⟩,(none,0))) ∈ Fs:=by rw[←HFS.out,←HO.out]; simp only[FsK,zU,true_or,or_true]
 have HE2:=yG hE;have M0:=yG m0;have M1:=yG m1;have M2:=yG m2;clear h hF he hd hlen hE m0 m1 m2
 go_enter Tryz.func46,Tryz.ntmps46
 go_upto_region 2 with fail
 apply zBd o Fs 14 (by kernel_rfl) (by kernel_rfl) (by kernel_rfl) HE2.out;dsimp only[List.take_succ_cons,List.take_zero,List.drop_succ_cons,List.drop_zero];apply yZ (.pointer (some ⟨p,0,none⟩)) rfl rfl rfl
 ·intro w' hw' hH;clear hH hw';simp[xB,go_sem];exact vG.refl _
 apply yZ (.pointer (some ⟨p,0,none⟩)) rfl rfl rfl
 ·intro w' hw' hH;clear hH hw';simp[xB,go_sem];exact vG.refl _
 apply yZ (.pointer (some ⟨p,0,none⟩)) rfl rfl rfl
 ·intro w' hw' hH;clear hH hw';simp[xB,go_sem];exact vG.refl _
 apply yZ (.pointer (some ⟨p,1,none⟩)) rfl rfl rfl
 ·intro w' hw' hH;clear hH hw';simp[xB,go_sem];exact vG.refl _
 simp only[Act.put,yD,yE,yF];apply yZ (.slice R.A R.nh.length R.c) rfl rfl rfl
 ·intro w' hw' hH;have hR:=vG.refl (o:=o) (Fs:=Fs) w';have cc:=Blk.cell ((hw'.1.block p hpl HPN.out).trans HP.out.blk) 1;clear hH hw';simp[xB,go_sem,cc];exact hR
 apply yZ (.int .u8 (kind:Int)) rfl rfl rfl
 ·intro w' hw' hH;clear hH hw';simp[xB,go_sem];exact vG.refl _
 apply yZ (.pointer (some ⟨p,0,none⟩)) rfl rfl rfl
 ·intro w' hw' hH;clear hH hw';simp[xB,go_sem];exact vG.refl _
 simp only[Act.put,yD,yE,yF];apply yZ (.agg (ZW s.hd).toArray) rfl rfl rfl
 ·intro w' hw' hH;have ht:=HP.out.ts.grown hw'.1 HPN.out HBN.out;clear hH hw';simp[xB,go_sem];refine(ZE w' p s R ht).mono ?_;rintro e w2 ⟨rfl,hx⟩;exact⟨_,rfl,rfl,vG.ext HE2.out hx⟩
 apply yZ (.int .i64 (s.hd.at_:Int)) rfl rfl rfl
 ·intro w' hw' hH;clear hH hw';unfold ZW;simp[xB,go_sem,hf1];exact vG.refl _
 apply yZ (.agg #[.int .u8 (kind:Int),.int .i64 (s.hd.at_:Int),.string ⟨#[]⟩,.int .i64 0,.slice none 0 0]) rfl rfl rfl
 ·intro w' hw' hH;clear hH hw';simp[xB,go_sem];exact vG.refl _
 apply vE (zBj 39 w.heap.size (YH (⟨kind,s.hd.at_,[],0,[]⟩,(none,0))).toArray) (fun v w w' h hx=>hx.2 _ M1.out v h) rfl rfl rfl
 ·intro w' hw' hH;have hz:=hw'.1.size;clear hH hw';simp[xB,go_sem];exact⟨⟨_,rfl,Blk.new _ _ _,hz⟩,vG.ext HE2.out (Ext.alloc _ _)⟩
 intro v25;simp only[Act.put,yD,yE,yF];apply vE (zMv B 39 o w.heap.size (R.nh.length+1) (ncs R.nh++YH (⟨kind,s.hd.at_,[],0,[]⟩,(none,0)))) (fun v w w' h hx=>hx.2 _ M2.out v h) rfl rfl rfl
 ·intro w' hw' hH;have hlit:=hH _ (List.mem_cons_self ..) ⟨_,rfl,by decide⟩;have hrow:=hw'.2 _ M0.out undef HP.out.ns.zU8;have hz:=hw'.1.size;clear hH hw';rw[←HFS.out,←HO.out];exact zEj B w.heap.size (.tmp 19) (.tmp 25) 24 rfl 39 i0 _ 64 Tryz.underlying24 hi hz0 hz1 hz2 rfl (.slice R.A R.nh.length R.c) R.nh.length (ncs R.nh) (YH (⟨kind,s.hd.at_,[],0,[]⟩,(none,0))) (by kernel_rfl) hrow v25 (by kernel_rfl) hlit rfl (zKF _) (by unfold maxLen; omega) (by omega) (Nat.le_trans HBW.out hz) hz (fun g e=>HOG.out g (by rw[←HO.out]; exact e))
 intro v26;apply yZ (.pointer (some ⟨p,0,none⟩)) rfl rfl rfl
 ·intro w' hw' hH;clear hH hw';simp[xB,go_sem];exact vG.refl _
 apply yZ (.pointer (some ⟨p,1,none⟩)) rfl rfl rfl
 ·intro w' hw' hH;clear hH hw';simp[xB,go_sem];exact vG.refl _
 apply vC;intro w2 hw2 hH;have h26:=hH _ (List.mem_cons_self ..);clear hH;obtain⟨g,cap,rfl⟩:=h26.1.at;have hgr:=hw2.1;rw[←HO.out] at hgr;have hb3:Blk w2 p 72 _:=(hw2.1.block p hpl HPN.out).trans HP.out.blk
 obtain⟨hs1,hs2⟩:=PS.snoc (w:=w) HP.out (Ext.refl w) ⟨kind,s.hd.at_,[],0,[]⟩ rfl h26.1.1 hgr (by
  rcases h26.2 with e | ⟨g',e,hg'⟩
  ·left; rw[HO.out,←e]; rfl
  ·right; have:g=g':=by simpa [Value.ownBlock] using e
   omega)
 have y1:w2.cell? ⟨p,1,none⟩=some (.slice R.A R.nh.length R.c):=hb3.cell 1;have z1:=hb3.frozen 1;have HS:Hid (OkP w p B R (s.node kind) (w2.setCell ⟨p,1,none⟩ (.slice (some ⟨g,0,none⟩) (R.nh.length+1) cap))):=yG ⟨_,hs1,hs2⟩;clear h26 hgr hb3 hs1 hs2 hw2 x1;simp only[Act.put,yD,yF,yE]
 go_wp2_with fail
 clear y1 z1;generalize w2.setCell ⟨p,1,none⟩ (.slice (some ⟨g,0,none⟩) (R.nh.length+1) cap)=w3 at *
 go_loopw [31] (fun i wr=>∃(k:Nat) (s':Ps),k≤l.length∧i=.int .i64 k∧Hid (zC2 (l.take k) (s.node kind)=.ok () s')∧Hid (OkP w p B R s' wr)) (fun i _=>l.length-(intOf i).toNat)
 case atStart=>exact⟨0,s.node kind,zW _,rfl,yG rfl,HS⟩
 case round=>
  obtain⟨k,s',hk,rfl,HQ,HOK⟩:=hrel;obtain⟨wa,rfl⟩:∃wa:World,wa=wr:=⟨_,rfl⟩
  by_cases hlt:k<l.length
  ·have d0:decide ((k:Int)<(l.length:Int))=true:=yS (by omega)
   have q0:(k:Int)<(l.length:Int):=by omega
   obtain⟨R',hps,hmv⟩:=HOK.out;have HPS:=yG hps;have HMV:=yG hmv;obtain⟨b,off,rfl,hb,hcc⟩:=(HFC.out.xG hmv).cells.at_ (by simp; omega)
   have x0:wa.cell? ⟨b,off+k,none⟩=some (l[k].val):=by rw[hcc k (by simpa using hlt)]; simp[hlt]
   have hsn:=zKN l k hlt (s.node kind) s' HQ.out;have herr:=zNj l k hlt (s.node kind) s' HQ.out;have hcl:=HD.out k hlt s' wa R' HQ.out hmv hps;have hee:=HE.out _ (yO hlt);clear hcc hps hmv;generalize l[k]=f at *;obtain⟨K,first,capt,m⟩:=f;unfold KF.val at x0
   simp only at x0 hsn hcl hee herr
   have hcl2:Calls Tryz.prog K (first.push (.int .i64 (R.nh.length:Int))++capt) wa (xN wa p B R' (m s')):=by
    have:=hcl
    rw[HLN.out,Array.append_singleton] at this;exact this
   have HER:=yG herr;have HSN:=yG hsn;have HCL:=yG hcl2;clear hsn hcl hcl2 herr
   cases hm:m s' with
   | ok a s2=>
    have HCM:Hid (xN wa p B R' (m s')=xN wa p B R' (.ok a s2)):=yG (by rw[hm]);have HS2:Hid (zC2 (l.take (k+1)) (s.node kind)=.ok () s2):=yG (by rw[HSN.out,hm]; rfl);clear hm
    go_wp2_with fail
    refine HCL.out.mono ?_;rw[HCM.out];rintro e w4 ⟨rfl,ho⟩;have HO4:=yG (OkP.trans HMV.out ho);clear ho
    go_wp2_with fail
    go_roundw
    case rel=>exact⟨k+1,s2,by omega,by go_num,HS2,HO4⟩
    case measure=>simp[intOf]; omega
   | err er a=>
    have HCM:Hid (xN wa p B R' (m s')=xN wa p B R' (.err er a)):=yG (by rw[hm]);have HSE:=yG (HER.out er a hm);clear hm
    go_wp2_with fail
    refine HCL.out.mono ?_;rw[HCM.out];rintro e w4 ⟨rfl,ho⟩;refine xE (P:=Tryz.prog) (fn:=Tryz.f46) rfl ?_;rw[HSE.out];exact VH.trans HMV.out ⟨rfl,ho⟩
  ·obtain rfl:k=l.length:=by omega
   have d0:decide ((l.length:Int)<(l.length:Int))=false:=by simp
   have d1:decide (l.length<l.length)=false:=by simp
   have HQ2:Hid (zC2 l (s.node kind)=.ok () s'):=yG (by have:=HQ.out; rw[List.take_length] at this; exact this)
   go_wp2_with fail
   go_ret;rw[HQ2.out];exact⟨zFN (by rw[HLN.out]),HOK.out⟩
end Go.Proofs.YtbadjmmjbpeocaaGreatDoor
