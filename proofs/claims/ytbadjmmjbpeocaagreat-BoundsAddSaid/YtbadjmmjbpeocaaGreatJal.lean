/- Appends of elements of two cells in a drawn region; of two rows in one drawn region. (and what follows of it). The conditions stand at each lemma. -/
import Derived.Test.YtbadjmmjbpeocaaGreatJaa
import Derived.Test.YtbadjmmjbpeocaaGreatJak
import Derived.Test.YtbadjmmjbpeocaaGreatJai
set_option linter.unusedVariables false
set_option linter.unusedSimpArgs false
set_option maxRecDepth 100000
set_option maxHeartbeats 16000000
namespace Go.Proofs.YtbadjmmjbpeocaaGreat
open Go Go.RowKit
def zAX (N:Nat)(e:TypeId)(n:Nat)(xs:List Value)(v:Value)(w:World):Prop:=
 w.ownsRow N e 2 v n xs∧∃A c,v=.slice A n c∧(A=none→c=0)∧(n=0→c=0)
def zKl (e:TypeId)(k:Nat)(cs:Array Value)(v:Value)(w:World):Prop:=∃g,v=.slice (some ⟨g,0,none⟩) k k∧Blk w g e cs
def zKo (e:TypeId)(cs:Array Value)(N:Nat)(v:Value)(w:World):Prop:=∃g,v=.pointer (some ⟨g,0,none⟩)∧Blk w g e cs∧N≤g
structure zLz (N g n m cap:Nat)(e:TypeId)(xs news:List Value)(w w':World):Prop where
 other:∀k,k≠g→w'.heap[k]?=w.heap[k]?
 room:n+m≤cap
 xl:xs.length=n*2
 ml:news.length=m*2
 cells:∃cur cur':Array Value,w.heap[g]?=some (.cells cur e (0,0))∧w'.heap[g]?=some (.cells cur' e (0,0))∧cur.size=cap*2∧cur'.size=cap*2∧cur.toList.take (n*2)=xs∧cur'.toList.take ((n+m)*2)=xs++news
theorem zAX.ext {N:Nat}{e:TypeId}{n:Nat}{xs:List Value}{v:Value}{w w':World}(h:zAX N e n xs v w)(hx:Ext w w'):zAX N e n xs v w':=⟨zB1 h.1 hx,h.2⟩
theorem zKl.ext {e:TypeId}{k:Nat}{cs:Array Value}{v:Value}{w w':World}(h:zKl e k cs v w)(hx:Ext w w'):zKl e k cs v w':=let ⟨g,a,b⟩:=h; ⟨g,a,b.ext hx⟩
theorem zKo.ext {e:TypeId}{cs:Array Value}{N:Nat}{v:Value}{w w':World}(h:zKo e cs N v w)(hx:Ext w w'):zKo e cs N v w':=let ⟨g,a,b,c⟩:=h; ⟨g,a,b.ext hx,c⟩
theorem zKl.roomy {N g n m cap:Nat}{e e':TypeId}{xs news:List Value}{w w':World}{k:Nat}{cs:Array Value}{v:Value}(hr:zLz N g n m cap e xs news w w')(h:zKl e' k cs v w)(hs:cs.size<(n+m)*2):zKl e' k cs v w':=by
 obtain⟨g',rfl,hb⟩:=h;refine⟨g',rfl,?_⟩
 by_cases hg:g'=g
 ·subst hg;obtain⟨AB,AA,h1,h2,h3,_⟩:=hr.cells;unfold Blk at hb;rw[hb] at h1;injection h1 with h1;injection h1 with h1;subst h1
  have:=hr.room
  have:(n+m)*2≤cap*2:=Nat.mul_le_mul_right _ this
  omega
 ·exact(hr.other g' hg).trans hb
theorem zKo.roomy {N g n m cap:Nat}{e e':TypeId}{xs news:List Value}{w w':World}{cs:Array Value}{M:Nat}{v:Value}(hr:zLz N g n m cap e xs news w w')(h:zKo e' cs M v w)(hs:e'≠e):zKo e' cs M v w':=by
 obtain⟨g',rfl,hb,hM⟩:=h;refine⟨g',rfl,?_,hM⟩
 by_cases hg:g'=g
 ·subst hg;obtain⟨AB,AA,h1,h2,h3,_⟩:=hr.cells;unfold Blk at hb;rw[hb] at h1;injection h1 with h1;injection h1 with h1 h4;exact absurd h4 hs
 ·exact(hr.other g' hg).trans hb
theorem zAX.roomy {N g n m cap:Nat}{e:TypeId}{xs news:List Value}{w w':World}{k:Nat}{ys:List Value}{v:Value}(hr:zLz N g n m cap e xs news w w')(h:zAX N e k ys v w)(hs:k≤n∨(k=n+m∧ys=xs++news)):zAX N e k ys v w':=by
 refine⟨⟨h.1.1,?_⟩,h.2⟩;have AG:=h.1.1
 rcases h.1.2 with hn | ⟨g',AC,AA,hv,hb,hh,a1,a2,a3,a4⟩
 ·exact .inl hn
 ·by_cases hg:g'=g
  ·subst hg;obtain⟨AF,AB,h1,h2,h3,h4,h5,h6⟩:=hr.cells;rw[hh] at h1;injection h1 with h1;injection h1 with h1;subst h1;refine .inr ⟨g',AC,AB,hv,hb,h2,a1,a2,by omega,?_⟩
   rcases hs with hs | ⟨rfl,rfl⟩
   ·have AE:k*2≤n*2:=Nat.mul_le_mul_right _ hs
    have AD:k*2≤(n+m)*2:=by omega
    have e1:(AB.toList.take ((n+m)*2)).take (k*2)=AB.toList.take (k*2):=by rw[List.take_take,Nat.min_eq_left AD]
    have e2:(AA.toList.take (n*2)).take (k*2)=AA.toList.take (k*2):=by rw[List.take_take,Nat.min_eq_left AE]
    rw[←e1,h6,List.take_append_of_le_length (by rw[hr.xl]; exact AE),←h5,e2,a4]
   ·exact h6
  ·exact .inr ⟨g',AC,AA,hv,hb,(hr.other g' hg).trans hh,a1,a2,a3,a4⟩
theorem zLS {P:Program}(w:World)(N:Nat)(t ty e:TypeId)(i:TypeInfo)(z:Value)(bytes:Nat)(ht:P.underlying t=some (.slice e))(hi:P.info? e=some i)(hz:i.zero=some z)
  (hsize:i.size=2) (hby:i.bytes=bytes) (hzs:z.cells.size=2) (v:Value) (n:Nat) (xs:List Value) (hrow:zAX N e n xs v w)
  (A:Option Addr) (m c:Nat) (news:List Value) (hc0:A=none→c=0) (hl:news.length=m*2) (hr:Cells w A news) (h1:∀u ∈ news,u.oneCell'=true)
  (h63:n+m≤maxLen) (hbytes:(n+m)*bytes≤140737488355328) (hN:N≤w.heap.size) :
  ∃v' w',(Builtin.append_ #[t,t] ty #[v,.slice A m c]).run P w=.ok v' w'∧zAX N e (n+m) (xs++news) v' w'∧(Ext w w'∨(0<n∧0<m∧Below N w w'∧∃g cap,v.ownBlock=some g∧zLz N g n m cap e xs news w w'))∧(m=0∨v'.ownBlock=v.ownBlock∨v'.ownBlock=some w.heap.size):=by
 have AK:n+m≤9223372036854775807:=by simp only[maxLen] at h63; omega
 have AD:(xs++news).length=(n+m)*2:=by rw[yP,hrow.1.1,hl,Nat.add_mul]
 by_cases hm:m=0
 ·subst hm;have hn:news=[]:=List.eq_nil_of_length_eq_zero (by simpa using hl);subst hn;refine⟨v,w,?_,by simpa using hrow,.inl (Ext.refl w),.inl rfl⟩
  cases A with
  | none=>
   have:=hc0 rfl
   subst this;exact run_append_owned_none (P:=P) w N t ty e i 2 ht hi v n xs hrow.1
  | some ad=>
   rcases hrow.1.2 with ⟨rfl,rfl⟩ | ⟨g,cap,AB,rfl,_,hg,AN,_,AJ,_⟩
   ·simp[Builtin.append_,run_underlying ht,sizeOf,typeInfo,hi,Builtin.lenOf,Builtin.firstCells,loadCells,loadCellsFrom]
   ·have AG:n*i.size+([]:List Value).length≤AB.size:=by rw[hsize,AJ]; simp only[zL,Nat.add_zero]; exact Nat.mul_le_mul_right _ AN
    have:=run_append_room (P:=P) w t ty e i ht hi g n cap AB hg ad 0 c [] (by simp) (fun j u hu=>by simp at hu) (fun u hu=>by simp at hu) (by omega) AG
    rw[this];simp only[Nat.add_zero,List.append_nil,zL,List.take_append_drop,Array.toArray_toList];rw[setRow_self w g AB e (0,0) hg]
 ·obtain⟨ad,rfl⟩:∃ad,A=some ad:=by
   rcases hr with hr | ⟨b,AS,hA,_⟩
   ·subst hr; simp at hl; omega
   ·exact⟨_,hA⟩
  have AC:∀j u,news[j]?=some u→w.cell? (ad.add j)=some u:=by
   intro j u hu
   rcases hr with hr | ⟨b,AS,hA,_,hk⟩
   ·subst hr; simp at hu
   ·injection hA with hA;subst hA;have hj:j<news.length:=(List.getElem?_eq_some_iff.1 hu).1
    have:=(hk j hj).trans hu
    unfold Addr.add
    by_cases h0:j=0
    ·subst h0; simpa using this
    ·simp only[h0,if_false]; exact this
  subst hby
  have grown:∀(AF:Nat),AF<n+m →
    zAX N e (n+m) (xs++news) (.slice (some ⟨w.heap.size,0,none⟩) (n+m) (grownCap w (n+m) AF e)) (w.drew.alloc (.cells (xs.toArray++news.toArray++Builtin.zeroCells z.cells (grownCap w (n+m) AF e-(n+m))) e)) ∧
    Ext w (w.drew.alloc (.cells (xs.toArray++news.toArray++Builtin.zeroCells z.cells (grownCap w (n+m) AF e-(n+m))) e)):=by
   intro AF ho;have AR:=grownCap_ge w (n+m) AF e;have AL:grownCap w (n+m) AF e≤maxLen:=grownCap_le_maxLen w (n+m) AF e h63;refine⟨⟨⟨AD,.inr ⟨w.heap.size,_,_,rfl,hN,zQ w.drew _,AR,AL,?_,?_⟩⟩,_,_,rfl,(fun h=>by cases h),(fun h=>by omega)⟩,Ext.trans (Below.drew (Below.refl _ _)) (Ext.alloc _ _)⟩
   ·simp only[Array.size_append,List.size_toArray,size_zeroCells,hzs,hrow.1.1,hl,←Nat.add_mul]
    congr 1
    omega
   ·simp only[Array.toList_append,List.append_assoc];rw[←List.append_assoc,←AD];exact List.take_left
  rcases hrow.1.2 with ⟨rfl,rfl⟩ | ⟨g,cap,AB,rfl,AT,hg,AN,AL,AJ,AE⟩
  ·have hx:xs=[]:=List.eq_nil_of_length_eq_zero (by simpa using hrow.1.1);subst hx;have hr:=run_append_nil (P:=P) w t ty e i z ht hi hz ad m c news (by rw[hsize]; exact hl) AC (by omega) (by omega) (by have hb:=hbytes; simp only[Nat.zero_add] at hb; omega);have AH:=grown 0 (by omega);simp only[Nat.zero_add,List.nil_append,Array.empty_append] at AH ⊢;exact⟨_,_,hr,AH.1,.inl AH.2,.inr (.inr rfl)⟩
  ·by_cases AA:n+m≤cap
   ·have AO:0<n:=by
     rcases Nat.eq_zero_or_pos n with h0 | h0
     ·obtain⟨A',c',AQ,_,AP⟩:=hrow.2;injection AQ with _ _ hcc
      have:=AP h0
      omega
     ·exact h0
    have AG:n*i.size+news.length≤AB.size:=by rw[hl,AJ,hsize,←Nat.add_mul]; exact Nat.mul_le_mul_right _ AA
    have hr:=run_append_room (P:=P) w t ty e i ht hi g n cap AB hg ad m c news (by rw[hsize]; exact hl) AC h1 AA AG
    have AI:(AB.toList.take (n*i.size)++news++AB.toList.drop (n*i.size+news.length)).toArray.size=cap*2:=by
     simp only[List.size_toArray,yP,List.length_take,List.length_drop,Array.length_toList];omega
    have AM:(AB.toList.take (n*i.size)++news++AB.toList.drop (n*i.size+news.length)).toArray.toList.take ((n+m)*2)=xs++news:=by
     rw[hsize,AE,←AD];exact List.take_left
    refine⟨_,_,hr,⟨⟨AD,.inr ⟨g,cap,_,rfl,AT,setRow_heap w g AB _ e _ hg,AA,AL,AI,AM⟩⟩,_,_,rfl,(fun h=>by cases h),(fun h=>by omega)⟩,.inr ⟨AO,by omega,⟨rfl,rfl,rfl,by simp,fun k hk=>setRow_other w g k _ (by omega)⟩,g,cap,rfl,?_⟩,.inr (.inl rfl)⟩;exact⟨fun k hk=>setRow_other w g k _ hk,AA,hrow.1.1,hl,AB,_,hg,setRow_heap w g AB _ e _ hg,AJ,AI,AE,AM⟩
   ·have holds:∀j u,xs[j]?=some u→w.cell? ((⟨g,0,none⟩:Addr).add j)=some u:=hrow.1.cells (g:=g) rfl;have hr:=run_append_grow (P:=P) w t ty e i z ht hi hz ⟨g,0,none⟩ n cap xs (by rw[hsize]; exact hrow.1.1) holds ad m c news (by rw[hsize]; exact hl) AC (by omega) (by omega) (growslice_fits (by omega) hbytes);have AH:=grown cap (by omega);exact⟨_,_,hr,AH.1,.inl AH.2,.inr (.inr rfl)⟩
def zTt (N:Nat)(e:TypeId)(o:Option Nat)(H n:Nat)(ys:List Value)(v:Value)(w:World):Prop:=zAX N e n ys v w∧(v.ownBlock=o∨∃g,v.ownBlock=some g∧H≤g)
def Fs2 (N:Nat)(e:TypeId)(v0:Value)(H n:Nat)(xs news:List Value):List (Value→World→Prop):=[fun _ w=>zAX N e n xs v0 w,zBf e H news.toArray,zTt N e v0.ownBlock H (n+1) (xs++news)]
theorem zO5 (N:Nat)(e:TypeId)(v0:Value)(H n:Nat)(xs news:List Value):∀F ∈ Fs2 N e v0 H n xs news,∀v w w',F v w→Ext w w'→F v w':=by
 intro F hF v w w' h hx;simp only[Fs2,zU,List.not_mem_nil,or_false] at hF
 rcases hF with rfl | rfl | rfl
 ·exact zAX.ext h hx
 ·exact h.ext hx
 ·exact⟨h.1.ext hx,h.2⟩
theorem zNG {P:Program}{w:World}{ρ:Operand→Value}{o:Oper}(N H:Nat)(s x:Operand)(t:TypeId)(ho:o.op=.call { callee:=.builtin .append,args:=#[s,x],argTypes:=#[t,t] })
  (e:TypeId) (i:TypeInfo) (z:Value) (bytes:Nat) (ht:P.underlying t=some (.slice e)) (hi:P.info? e=some i) (hz:i.zero=some z)
  (hsize:i.size=2) (hby:i.bytes=bytes) (hzs:z.cells.size=2) (v0:Value) (n:Nat) (xs news:List Value) (hs:ρ s=v0) (hrow:zAX N e n xs v0 w)
  (u:Value) (hu:ρ x=u) (hx:zBf e H news.toArray u w) (hl:news.length=2) (h1:∀u ∈ news,u.oneCell'=true) (h63:n+1≤maxLen) (hbytes:(n+1)*bytes≤140737488355328) (hN:N≤w.heap.size) (hH:H≤w.heap.size) (hog:∀g,v0.ownBlock=some g→g<H) :
  xA P ρ o w fun v' w'=>zTt N e v0.ownBlock H (n+1) (xs++news) v' w'∧vF v0.ownBlock (Fs2 N e v0 H n xs news) w w':=by
 obtain⟨g,AE,hb,hg⟩:=hx;rw[AE] at hu;have hc:Cells w (some ⟨g,0,none⟩) news:=.inr ⟨g,0,rfl,hb.lt,fun k hk=>by rw[Nat.zero_add,hb.cell k]; simp⟩;obtain⟨v',w',AC,h2,h3,h4⟩:=zLS (P:=P) w N t o.type e i z bytes ht hi hz hsize hby hzs v0 n xs hrow (some ⟨g,0,none⟩) 1 1 news (fun h=>by cases h) (by rw[hl]) hc h1 h63 hbytes hN;unfold xA execOp;simp only[ho,resolve,invoke,builtin,Sem.run_bind,Sem.run_pure,Result.andThen_ok,List.map_toArray,List.map_cons,List.map_nil,hs,hu,AC];refine⟨⟨h2,?_⟩,?_⟩
 ·rcases h4 with h4 | h4 | h4
  ·omega
  ·exact .inl h4
  ·exact .inr ⟨_,h4,hH⟩
 ·rcases h3 with h3 | ⟨hn,hm,AB,g0,cap,AD,AA⟩
  ·exact vF.ext (zO5 _ _ _ _ _ _ _) h3
  ·refine⟨⟨AB.os,AB.tape,AB.output,AB.size,fun k hk ho=>AA.other k fun e=>ho (by rw[e,AD])⟩,fun F hF v h=>?_⟩;have AF:=hog g0 AD;simp only[Fs2,zU,List.not_mem_nil,or_false] at hF
   rcases hF with rfl | rfl | rfl
   ·exact zAX.roomy AA h (.inl (zX _))
   ·obtain⟨g',a,b,c⟩:=h;exact⟨g',a,(AA.other g' (by omega)).trans b,c⟩
   ·exact⟨zAX.roomy AA h.1 (.inr ⟨rfl,rfl⟩),h.2⟩
def jH (o1 o2:Option Nat)(Fs:List (Value→World→Prop))(w w':World):Prop:=
 (w'.os=w.os∧w'.tape=w.tape∧w'.output=w.output∧w.heap.size≤w'.heap.size∧∀b,b<w.heap.size→some b≠o1→some b≠o2→w'.heap[b]?=w.heap[b]?)∧∀F ∈ Fs,∀v,F v w→F v w'
theorem jH.trans {o1 o2:Option Nat}{Fs:List (Value→World→Prop)}(a b c:World)(h:jH o1 o2 Fs a b)(k:jH o1 o2 Fs b c):jH o1 o2 Fs a c:=by
 obtain⟨⟨h1,h2,h3,h4,h5⟩,h6⟩:=h;obtain⟨⟨k1,k2,k3,k4,k5⟩,k6⟩:=k;exact⟨⟨k1.trans h1,k2.trans h2,k3.trans h3,Nat.le_trans h4 k4,fun x hx a b=>(k5 x (yU hx h4) a b).trans (h5 x hx a b)⟩,fun F hF v hv=>k6 F hF v (h6 F hF v hv)⟩
theorem jH.ext {o1 o2:Option Nat}{Fs:List (Value→World→Prop)}{w w':World}(hE:∀F ∈ Fs,∀v w w',F v w→Ext w w'→F v w')(h:Ext w w'):jH o1 o2 Fs w w':=⟨⟨h.os,h.tape,h.output,h.size,fun b hb _ _=>h.block b hb⟩,fun F hF v hv=>hE F hF v _ _ hv h⟩
theorem jH.refl {o1 o2:Option Nat}{Fs:List (Value→World→Prop)}(w:World):jH o1 o2 Fs w w:=⟨⟨rfl,rfl,rfl,zX _,fun _ _ _ _=>rfl⟩,fun _ _ _ h=>h⟩
theorem zMQ {P:Program}{id:Nat}{Q':Exit→Act→World→Prop}{a:Act}{w:World}{l:List Oper}{ks:List Take}(o1 o2:Option Nat)(Fs:List (Value→World→Prop))(m:Nat)(hm:P.follows .mixedOrders=true)(hB:YG l.toArray m=true)(hT:zBY l.toArray m=true)
  (hE:∀F ∈ Fs,∀v w w',F v w→Ext w w'→F v w')
  (h:ZF P l.toArray (jH o1 o2 Fs) w (fun a' w'=>wpList P l.toArray Q' (l.drop m) a' w') (l.take m) ks a []):(Code.region id l.toArray true).wp P Q' a w:=
 ZZ (R:=jH o1 o2 Fs) m ks hm hB hT jH.trans (jH.ext hE (Below.drew (Below.refl _ _))) h
theorem zEW {w w':World}{N:Nat}{e t1:TypeId}{sz n:Nat}{v:Value}{xs:List Value}{o:Option Nat}(hg:w.grownBy w' o)(ho:∀b,o=some b→∃AA,Blk w b t1 AA)(hne:e≠t1)(h:w.ownsRow N e sz v n xs):w'.ownsRow N e sz v n xs:=by
 refine⟨h.1,?_⟩
 rcases h.2 with hn | ⟨g,cap,AA,hv,hb,hh,r⟩
 ·exact .inl hn
 ·refine .inr ⟨g,cap,AA,hv,hb,(hg.block g (Array.getElem?_eq_some_iff.1 hh).1 fun e2=>?_).trans hh,r⟩;obtain⟨AB,hc⟩:=ho g e2.symm;exact Blk.differ hh hc hne rfl
theorem zKp {w w':World}{e t1:TypeId}{H:Nat}{cs:Array Value}{v:Value}{o:Option Nat}(hg:w.grownBy w' o)(ho:∀b,o=some b→∃cur,Blk w b t1 cur)(hne:e≠t1)(h:zBf e H cs v w):zBf e H cs v w':=by
 obtain⟨g,a,b,c⟩:=h;refine⟨g,a,(hg.block g b.lt fun e2=>?_).trans b,c⟩;obtain⟨AA,hc⟩:=ho g e2.symm;exact Blk.differ b hc hne rfl
theorem zPA {w w':World}{N:Nat}{e t1:TypeId}{H n:Nat}{v0:Value}{xs news:List Value}{o:Option Nat}(hg:w.grownBy w' o)(ho:∀b,o=some b→∃cur,Blk w b t1 cur)(hne:e≠t1):∀F ∈ FsH N e v0 H n xs news,∀v,F v w→F v w':=by
 intro F hF v h;simp only[FsH,zU,List.not_mem_nil,or_false] at hF
 rcases hF with rfl | rfl | rfl
 ·exact⟨zEW hg ho hne h.1,h.2⟩
 ·exact zKp hg ho hne h
 ·exact⟨⟨zEW hg ho hne h.1.1,h.1.2⟩,h.2⟩
theorem zQX {w w':World}{N:Nat}{e t1:TypeId}{H n:Nat}{v0:Value}{xs news:List Value}{o:Option Nat}(hg:w.grownBy w' o)(ho:∀b,o=some b→∃cur,Blk w b t1 cur)(hne:e≠t1):∀F ∈ Fs2 N e v0 H n xs news,∀v,F v w→F v w':=by
 intro F hF v h;simp only[Fs2,zU,List.not_mem_nil,or_false] at hF
 rcases hF with rfl | rfl | rfl
 ·exact⟨zEW hg ho hne h.1,h.2⟩
 ·exact zKp hg ho hne h
 ·exact⟨⟨zEW hg ho hne h.1.1,h.1.2⟩,h.2⟩
theorem zNw {w:World}{N:Nat}{e:TypeId}{sz n:Nat}{v:Value}{xs:List Value}(h:w.ownsRow N e sz v n xs):∀b,v.ownBlock=some b→∃cur,Blk w b e cur:=fun b e2=>by
 rcases h.2 with ⟨rfl,_⟩ | ⟨g,cap,cur,rfl,_,hh,_⟩
 ·cases e2
 ·injection e2 with e2;subst e2;exact⟨cur,hh⟩
theorem zAX.at {N:Nat}{e:TypeId}{n:Nat}{xs:List Value}{v:Value}{w:World}(h:zAX N e (n+1) xs v w):∃g cap,v=.slice (some ⟨g,0,none⟩) (n+1) cap:=by
 rcases h.1.2 with ⟨_,h0⟩ | ⟨g,cap,AA,hv,_⟩
 ·omega
 ·exact⟨g,cap,hv⟩
theorem zMu {α:Type}(l:List α)(x:α)(g:α→Bs)(hn:l.findIdx? (fun a=>g a==g x)=none):(fun y=>if y=g x then some (Value.int .i64 (l.length:Int)) else zBn (l.findIdx? fun a=>g a==y))=fun y=>zBn ((l++[x]).findIdx? fun a=>g a==y):=by
 funext y
 rw[List.findIdx?_append]
 by_cases e:y=g x
 ·subst e;rw[if_pos rfl,hn];simp[zBn]
 ·rw[if_neg e]
  have e2:(g x==y)=false:=by rw[yI]; exact fun h=>e h.symm
  cases h:l.findIdx? (fun a=>g a==y) with
  | none=>simp[h,e2,zBn]
  | some k=>simp[h,zBn]
theorem zOQ (l:List Nt)(x:Nt)(th:List Hd2)(h:Hd2)(hl:th.length=l.length):VD (l++[x]) (th++[h])=VD l th++zM8 (x,h):=by
 unfold VD;rw[List.zip_append hl.symm,List.flatMap_append]
 simp
theorem zOm (l:List Nat)(b:Nat):YL (l++[b])=YL l++[.map (some b)]:=by simp[YL]
theorem NH.zUC {w w3 w9:World}{S:StH}{s:Nr}{R:DyH}(h:NH w S s R)(hl:s.xH.length<64)(i:Nat)(x:Nt)(hd:Hd2)(mb:Nat)(hnew:s.xH.findIdx? (fun y=>y.name==x.name)=none)
  (h3:xC w (fun b=>b=S.bo∨b=S.mt) w3 fun b=>b=S.bo∨b=S.mt) (hof:Blk w3 S.bo 3 (ofc (s.of.set i (s.xH.length:Int))).toArray) (hmt:MF Tryz.prog 9 w3 S.mt (s.xH.length+1) fun y=>if y=x.name then some (.int .i64 (s.xH.length:Int)) else zBn (s.xH.findIdx? fun t=>t.name==y))
  (h9:xC w3 (fun b=>R.At=some ⟨b,0,none⟩∨R.Ac=some ⟨b,0,none⟩) w9 fun b=>R.At=some ⟨b,0,none⟩∨R.Ac=some ⟨b,0,none⟩)
  (A1 A2:Option Addr) (c1 c2:Nat) (ho1:w9.ownsRow S.B 165 2 (.slice A1 (s.xH.length+1) c1) (s.xH.length+1) (VD s.xH R.th++zM8 (x,hd))) (ho2:w9.ownsRow S.B 110 1 (.slice A2 (s.xH.length+1) c2) (s.xH.length+1) (YL R.cm++[.map (some mb)]))
  (hn1:∀b,A1=some ⟨b,0,none⟩→R.At=some ⟨b,0,none⟩∨w.heap.size≤b) (hn2:∀b,A2=some ⟨b,0,none⟩→R.Ac=some ⟨b,0,none⟩∨w.heap.size≤b)
  (hrow:XF w (jB S R) hd.1 (strs x.zBW)) (hmap:zGQ w (jB S R) mb 64 fun n=>zBn (x.zBW.findIdx? fun c=>c==n)) :
  NH ((w9.setCell ⟨S.p,1,none⟩ (.slice A1 (s.xH.length+1) c1)).setCell ⟨S.a,2,none⟩ (.slice A2 (s.xH.length+1) c2)) S { s.set i (s.xH.length:Int) with xH:=s.xH++[x] } { R with At:=A1,cT:=c1,th:=R.th++[hd],Ac:=A2,cc:=c2,cm:=R.cm++[mb] } ∧
  xC w (jB S R) ((w9.setCell ⟨S.p,1,none⟩ (.slice A1 (s.xH.length+1) c1)).setCell ⟨S.a,2,none⟩ (.slice A2 (s.xH.length+1) c2)) (jB S { R with At:=A1,cT:=c1,th:=R.th++[hd],Ac:=A2,cc:=c2,cm:=R.cm++[mb] }):=by
 obtain⟨G,hG⟩:∃G:Nat→Prop,G=fun b=>b=S.bo∨b=S.mt∨R.At=some ⟨b,0,none⟩∨R.Ac=some ⟨b,0,none⟩∨b=S.p∨b=S.a:=⟨_,rfl⟩
 have m1:=h3.zFJ (G':=G) fun b e=>by rw[hG]; rcases e with e | e; exact .inl e; exact .inr (.inl e)
 have m2:=h9.zFJ (G':=G) fun b e=>by rw[hG]; rcases e with e | e; exact .inr (.inr (.inl e)); exact .inr (.inr (.inr (.inl e)))
 have m3:=(JL w9 S.p 1 (.slice A1 (s.xH.length+1) c1)).zFJ (G':=G) fun b e=>by rw[hG]; exact .inr (.inr (.inr (.inr (.inl e))))
 have m4:=(JL (w9.setCell ⟨S.p,1,none⟩ (.slice A1 (s.xH.length+1) c1)) S.a 2 (.slice A2 (s.xH.length+1) c2)).zFJ (G':=G) fun b e=>by rw[hG]; exact .inr (.inr (.inr (.inr (.inr e))))
 have AN:∀g,G g→g<w.heap.size→jB S R g:=fun g hg _=>by
  rw[hG] at hg
  rcases hg with e | e | e | e | e | e
  ·exact .inr (.inr (.inl e))
  ·exact .inr (.inr (.inr (.inl e)))
  ·exact .inr (.inr (.inr (.inr (.inl e))))
  ·exact .inr (.inr (.inr (.inr (.inr (.inl e)))))
  ·exact .inr (.inl e)
  ·exact .inl e
 obtain⟨k,hm⟩:=h.kept AN (((m1.trans m2).trans m3).trans m4);obtain⟨n1,n2,n3,n4,n5,n6⟩:=h.apart
 have AE:xC w (jB S R) ((w9.setCell ⟨S.p,1,none⟩ (.slice A1 (s.xH.length+1) c1)).setCell ⟨S.a,2,none⟩ (.slice A2 (s.xH.length+1) c2)) (jB S { R with At:=A1,cT:=c1,th:=R.th++[hd],Ac:=A2,cc:=c2,cm:=R.cm++[mb] }):=hm.less fun b hb=>by
  rcases hb with e | e | e | e | e | e | e
  ·exact .inl (.inl e)
  ·exact .inl (.inr (.inl e))
  ·exact .inl (.inr (.inr (.inl e)))
  ·exact .inl (.inr (.inr (.inr (.inl e))))
  ·rcases hn1 b e with e | e
   ·exact .inl (.inr (.inr (.inr (.inr (.inl e)))))
   ·exact .inr e
  ·rcases hn2 b e with e | e
   ·exact .inl (.inr (.inr (.inr (.inr (.inr (.inl e))))))
   ·exact .inr e
  ·exact .inl (.inr (.inr (.inr (.inr (.inr (.inr e))))))
 have AC:Blk w9 S.a 115 #[.pointer (some ⟨S.p,0,none⟩),.map (some S.mt),.slice R.Ac s.xH.length R.cc,.pointer none,.slice none 0 0]:=by
  refine(h9.jL S.a (yU h.rd.lt h3.size) ?_).trans ((h3.jL S.a h.rd.lt ?_).trans h.rd)
  ·rintro (e | e)
   ·exact(h.zEd _ e).1 rfl
   ·exact(h.zEi _ e).1 rfl
  ·rintro (e | e)
   ·exact n2 e
   ·exact n4 e.symm
 have AD:Blk w9 S.p 32 #[.slice S.A S.l.length S.ct,.slice R.At s.xH.length R.cT,.slice R.Ap s.procs.length R.cP,.slice (some ⟨S.bo,0,none⟩) S.l.length S.co]:=by
  refine(h9.jL S.p (yU h.pg.lt h3.size) ?_).trans ((h3.jL S.p h.pg.lt ?_).trans h.pg)
  ·rintro (e | e)
   ·exact(h.zEd _ e).2.1 rfl
   ·exact(h.zEi _ e).2.1 rfl
  ·rintro (e | e)
   ·exact n3 e
   ·exact n5 e.symm
 have AI:w9.heap[S.bo]?=w3.heap[S.bo]?:=h9.jL S.bo hof.lt (by
  rintro (e | e)
  ·exact(h.zEd _ e).2.2.1 rfl
  ·exact(h.zEi _ e).2.2.1 rfl)
 have AH:w9.heap[S.mt]?=w3.heap[S.mt]?:=h9.jL S.mt hmt.lt (by
  rintro (e | e)
  ·exact(h.zEd _ e).2.2.2.1 rfl
  ·exact(h.zEi _ e).2.2.2.1 rfl)
 have AB:∀b,b≠S.p→b≠S.a→((w9.setCell ⟨S.p,1,none⟩ (.slice A1 (s.xH.length+1) c1)).setCell ⟨S.a,2,none⟩ (.slice A2 (s.xH.length+1) c2)).heap[b]?=w9.heap[b]?:=fun b h1 h2=>by
  rw[zS _ ⟨S.a,2,none⟩ _ b h2,zS _ ⟨S.p,1,none⟩ _ b h1]
 have AL:∀b,A1=some ⟨b,0,none⟩→b≠S.p∧b≠S.a:=fun b e=>by
  obtain⟨AM,hc⟩:=vA ho1 e;exact⟨Blk.differ hc AD (by decide),Blk.differ hc AC (by decide)⟩
 have AK:∀b,A2=some ⟨b,0,none⟩→b≠S.p∧b≠S.a:=fun b e=>by
  obtain⟨AM,hc⟩:=vA ho2 e;exact⟨Blk.differ hc AD (by decide),Blk.differ hc AC (by decide)⟩
 have AA:(s.xH++[x]).length=s.xH.length+1:=by simp
 refine⟨⟨?_,?_,?_,?_,h.tree.xE AE,?_,by simp[h.thl],fun kk y h0 e1 e2=>?_,?_,by simp[h.cml],fun kk b y e1 e2=>?_,?_,k.procs fun b e=>?_,by show(s.xH++[x]).length≤64; rw[AA]; omega,h.zP7,fun h=>by simp at h,fun h=>by simp at h,h.zP,k.low⟩,AE⟩
 ·have:=(AC.far (p:=⟨S.p,1,none⟩) n1 (.slice A1 (s.xH.length+1) c1)).put 2 (.slice A2 (s.xH.length+1) c2)
  simpa using this
 ·have:=(AD.put 1 (.slice A1 (s.xH.length+1) c1)).far (p:=⟨S.a,2,none⟩) (Ne.symm n1) (.slice A2 (s.xH.length+1) c2)
  simpa [Nr.set] using this
 ·exact((AB S.bo (Ne.symm n3) (Ne.symm n2)).trans AI).trans hof
 ·show(s.of.set i _).length=_
  rw[zB];exact h.len
 ·show World.ownsRow _ _ _ _ (.slice A1 (s.xH++[x]).length c1) (s.xH++[x]).length (VD (s.xH++[x]) (R.th++[hd]))
  rw[AA,zOQ _ _ _ _ h.thl];exact ZK ho1 fun b e=>AB b (AL b e).1 (AL b e).2
 ·have e1:(s.xH++[x])[kk]?=some y:=e1;have e2:(R.th++[hd])[kk]?=some h0:=e2
  by_cases hk:kk<s.xH.length
  ·rw[List.getElem?_append_left hk] at e1;rw[List.getElem?_append_left (by rw[h.thl]; exact hk)] at e2;exact(h.zHg kk y h0 e1 e2).xE AE
  ·have AG:kk=s.xH.length:=by
    have:=(List.getElem?_eq_some_iff.1 e1).1
    rw[AA] at this;omega
   subst AG
   have AJ:y=x:=by simpa using e1.symm
   have AF:h0=hd:=by rw[←h.thl] at e2; simpa using e2.symm
   rw[AJ,AF];exact hrow.xE AE
 ·show World.ownsRow _ _ _ _ (.slice A2 (s.xH++[x]).length c2) (s.xH++[x]).length (YL (R.cm++[mb]))
  rw[AA,zOm];exact ZK ho2 fun b e=>AB b (AK b e).1 (AK b e).2
 ·have e1:(s.xH++[x])[kk]?=some y:=e1;have e2:(R.cm++[mb])[kk]?=some b:=e2
  by_cases hk:kk<s.xH.length
  ·rw[List.getElem?_append_left hk] at e1;rw[List.getElem?_append_left (by rw[h.cml]; exact hk)] at e2;exact(h.zEl kk b y e1 e2).xE AE
  ·have AG:kk=s.xH.length:=by
    have:=(List.getElem?_eq_some_iff.1 e1).1
    rw[AA] at this;omega
   subst AG
   have AJ:y=x:=by simpa using e1.symm
   have AF:b=mb:=by rw[←h.cml] at e2; simpa using e2.symm
   rw[AJ,AF];exact hmap.xE AE
 ·show MF _ _ _ _ (s.xH++[x]).length fun n=>zBn ((s.xH++[x]).findIdx? fun t=>t.name==n)
  rw[AA,←zMu s.xH x (fun t=>t.name) hnew];exact hmt.jL ((AB S.mt n5 n4).trans AH)
 ·rw[hG];rintro (e2 | e2 | e2 | e2 | e2 | e2)
  ·exact(h.zD9 b e).2.2.1 e2
  ·exact(h.zD9 b e).2.2.2 e2
  ·exact(h.zEd b e2).2.2.2.2.2 e
  ·exact(h.zEi b e2).2.2.2.2 e
  ·exact(h.zD9 b e).2.1 e2
  ·exact(h.zD9 b e).1 e2
theorem jH.blk {o1 o2:Option Nat}{Fs:List (Value→World→Prop)}{w w':World}(h:jH o1 o2 Fs w w'){b:Nat}(hb:b<w.heap.size)(n1:some b≠o1)(n2:some b≠o2):w'.heap[b]?=w.heap[b]?:=h.1.2.2.2.2 b hb n1 n2
theorem jH.sz {o1 o2:Option Nat}{Fs:List (Value→World→Prop)}{w w':World}(h:jH o1 o2 Fs w w'):w.heap.size≤w'.heap.size:=h.1.2.2.2.1
def zFM (w:World)(b:Nat)(es:Array MapEntry)(c:Nat):Prop:=w.heap[b]?=some (.map es c)
def zBm (w:World)(b:Nat)(es:Array MapEntry)(c:Nat)(k:Bs)(u:Value):Prop:=w.heap[b]?=some (.map (es.push { key:=.string (xG k),val:=u,born:=c }) (c+1))
section
variable {P:Program} {kt:TypeId} {w0 w:World} {b n c:Nat} {es:Array MapEntry} {f:Bs→Option Value}
theorem MF.first {t e:TypeId}(h:MF P kt w0 b n f)(hb:zFM w0 b es c)(hk:P.underlying kt=some .string)(ht:P.underlying t=some (.map kt e))(hn:n<maxLen){z:Value}(hz:∀w,(zeroValue e).run P w=.ok z w)(k:Bs)(hl:k.length≤maxLen)(hf:f k=none)(ho:zFM w b es c) :
  ∃w',(Instr.mapEntry t (.map (some b)) (.string (xG k))).run P w=.ok (.tuple #[z,.int .i64 (c:Int)]) w'∧w.grownBy w' (some b)∧zBm w' b es c k z:=by
 have h1:MF P kt w b n f:=h.jL (ho.trans hb.symm);obtain⟨AD,c',AA,AB,_⟩:=h1.entry hk ht hn hz k hl hf;rw[ho] at AA;injection AA with AA;injection AA with e1 e2;subst e1;subst e2;exact⟨_,AB,⟨rfl,rfl,rfl,by simp,fun k' _ AC=>(MapKept.heap_set ho).2 k' fun e=>AC (by rw[e])⟩,(MapKept.heap_set ho).1⟩
theorem MF.again {t e:TypeId}(h:MF P kt w0 b n f)(hb:zFM w0 b es c)(hk:P.underlying kt=some .string)(ht:P.underlying t=some (.map kt e)){z:Value}(hz:∀w,(zeroValue e).run P w=.ok z w)(k:Bs)(hl:k.length≤maxLen)(hf:f k=none)(u:Value)(ho:zBm w b es c k u) :
  ∃w',(Instr.mapEntry t (.map (some b)) (.string (xG k))).run P w=.ok (.tuple #[u,.int .i64 (c:Int)]) w'∧w.grownBy w' (some b)∧zBm w' b es c k u:=by
 have AB:keyOf P kt (.string (xG k))=some (.string k):=WideMaps.keyOf_string_mk hk (s:=xG k) hl;have K:=Maps.string_keyed hk;have h0:=h;obtain⟨D,⟨AK,AG,AE,F,hs,rfl⟩,h2,h3⟩:=h;rw[hb] at AE;injection AE with AE;injection AE with e1 e2;subst e1;subst e2
 have AC:∀x ∈ es.toList,x.key≠.string (xG k):=by
  have AA:=h0.get hk ht (hz w0) k hl;rw[hf] at AA;simp only[Option.getD_none,Option.isSome_none] at AA
  rcases K.find w0 AB es.toList F.keys with ⟨g1,g2⟩ | ⟨j,e0,g1,g2,g3⟩
  ·exact g2
  ·exfalso
   have:(Instr.lookup t (.map (some b)) (.string (xG k)) true).run P w0=.ok (.tuple #[e0.val,.bool true]) w0:=by
    simp[Instr.lookup,run_underlying ht,MapKept.run_getObj_map hb,K.check w0 _ AB,g1,Result.andThen]
   rw[this] at AA
   simp at AA
 have AD:∀x ∈ (es.push { key:=.string (xG k),val:=u,born:=c }).toList,∃l,keyOf P kt x.key=some l:=by
  intro x hx;rw[Array.toList_push,yW,yN] at hx
  rcases hx with hx | rfl
  ·exact F.keys x hx
  ·exact⟨_,AB⟩
 rcases K.find w AB _ AD with ⟨g1,g2⟩ | ⟨j,e0,g1,g2,g3⟩
 ·exact absurd rfl (g2 { key:=.string (xG k),val:=u,born:=c } (by simp))
 ·have hj:j=es.size:=by
   rw[Array.toList_push] at g2
   rcases Nat.lt_trichotomy j es.size with AH | he | AJ
   ·rw[List.getElem?_append_left (by simpa using AH)] at g2;exact absurd g3 (AC e0 (yB g2))
   ·exact he
   ·rw[zM (by simp; omega)] at g2
    cases g2
  subst hj
  have he:e0 = { key:=.string (xG k),val:=u,born:=c }:=by simpa using g2.symm
  subst he
  have AF:(es.push { key:=.string (xG k),val:=u,born:=c }).modify es.size (fun e=>{ e with key:=.string (xG k) })=es.push { key:=.string (xG k),val:=u,born:=c }:=by
   apply Array.ext
   ·simp
   ·intro i h1 h2;simp only[Array.size_modify,Array.size_push] at h1;rw[Array.getElem_modify]
    split
    ·rename_i e;subst e
     simp
    ·rfl
  refine⟨{ w with heap:=w.heap.setIfInBounds b (.map (es.push { key:=.string (xG k),val:=u,born:=c }) (c+1)) },?_,⟨rfl,rfl,rfl,by simp,fun k' _ AI=>(MapKept.heap_set ho).2 k' fun e=>AI (by rw[e])⟩,(MapKept.heap_set ho).1⟩;rw[Array.toList_push] at g1;simp[Instr.mapEntry,run_underlying ht,MapKept.run_getObj_map ho,K.check w _ AB,g1,K.stays w AB,AF,MapKept.run_setObj_map _ ho,Result.andThen,goInt]
theorem MF.stored (h:MF P kt w0 b n f)(hb:zFM w0 b es c)(t:TypeId)(k:Bs)(u v:Value)(ho:zBm w b es c k u) :
  ∃w',(Instr.entryStore t (.map (some b)) (.int .i64 (c:Int)) v).run P w=.ok () w'∧w.grownBy w' (some b)∧zBm w' b es c k v:=by
 obtain⟨D,⟨AF,AC,AA,F,hs,rfl⟩,h2,h3⟩:=h;rw[hb] at AA;injection AA with AA;injection AA with e1 e2;subst e1;subst e2;refine⟨{ w with heap:=w.heap.setIfInBounds b (.map (es.push { key:=.string (xG k),val:=v,born:=c }) (c+1)) },?_,⟨rfl,rfl,rfl,by simp,fun k' _ AE=>(MapKept.heap_set ho).2 k' fun e=>AE (by rw[e])⟩,(MapKept.heap_set ho).1⟩;have AD:=zFI es c F.stamped.1 { key:=.string (xG k),val:=u,born:=c } rfl
 have AB:(es.push { key:=.string (xG k),val:=u,born:=c }).modify es.size (fun e=>{ e with val:=v })=es.push { key:=.string (xG k),val:=v,born:=c }:=by
  apply Array.ext
  ·simp
  ·intro i h1 h2;simp only[Array.size_modify,Array.size_push] at h1;rw[Array.getElem_modify]
   split
   ·rename_i e;subst e
    simp
   ·rename_i e
    have:i<es.size:=by omega
    simp[Array.getElem_push,this]
 simp[Instr.entryStore,MapKept.run_getObj_map ho,asInt,asIntOf,AD,AB,MapKept.run_setObj_map _ ho,Result.andThen]
theorem MF.closed {t e:TypeId}(h:MF P kt w0 b n f)(hb:zFM w0 b es c)(hk:P.underlying kt=some .string)(ht:P.underlying t=some (.map kt e))(hn:n<maxLen){z:Value}(hz:∀w,(zeroValue e).run P w=.ok z w)(k:Bs)(hl:k.length≤maxLen)(hf:f k=none)(v:Value)(ho:zBm w b es c k v) :
  MF P kt w b (n+1) (fun y=>if y=k then some v else f y):=by
 obtain⟨AD,c',AA,AC,AB⟩:=h.entry hk ht hn hz k hl hf;rw[hb] at AA;injection AA with AA;injection AA with e1 e2;subst e1;subst e2;obtain⟨w3,r1,r2,r3,r4⟩:=AB v { w0 with heap:=w0.heap.setIfInBounds b (.map (es.push { key:=.string (xG k),val:=z,born:=c }) (c+1)) } (MapKept.heap_set hb).1;obtain⟨w4,q1,q2,q3⟩:=h.stored hb t k z v (show zBm { w0 with heap:=w0.heap.setIfInBounds b (.map (es.push { key:=.string (xG k),val:=z,born:=c }) (c+1)) } b es c k z from(MapKept.heap_set hb).1);rw[r1] at q1;injection q1 with _ q1;subst q1;exact r4.jL (ho.trans q3.symm)
end
def OM (bo:Nat)(l:List Int)(i:Nat)(x:Int)(b:Nat)(es:Array MapEntry)(c:Nat)(k:Bs)(u:Value):List (Value→World→Prop):=
 [fun _ w=>Blk w bo 3 (ofc l).toArray∨Blk w bo 3 (ofc (l.set i x)).toArray,fun _ w=>Blk w bo 3 (ofc (l.set i x)).toArray,fun _ w=>zFM w b es c∨∃u,zBm w b es c k u,fun v w=>(∃z,v=.tuple #[z,.int .i64 (c:Int)])∧∃u,zBm w b es c k u,fun _ w=>zBm w b es c k u]
theorem zU5 {bo:Nat}{l:List Int}{i:Nat}{x:Int}{b:Nat}{es:Array MapEntry}{c:Nat}{k:Bs}{u:Value}{w w':World}(h1:w'.heap[bo]?=w.heap[bo]?)(h2:w'.heap[b]?=w.heap[b]?):∀F ∈ OM bo l i x b es c k u,∀v,F v w→F v w':=by
 intro F hF v h;simp only[OM,zU,List.not_mem_nil,or_false] at hF
 rcases hF with rfl | rfl | rfl | rfl | rfl
 ·rcases h with h | h
  ·exact .inl (h1.trans h)
  ·exact .inr (h1.trans h)
 ·exact h1.trans h
 ·rcases h with h | ⟨u,h⟩
  ·exact .inl (h2.trans h)
  ·exact .inr ⟨u,h2.trans h⟩
 ·obtain⟨a,u,h⟩:=h;exact⟨a,u,h2.trans h⟩
 ·exact h2.trans h
theorem zUD (bo:Nat)(l:List Int)(i:Nat)(x:Int)(b:Nat)(es:Array MapEntry)(c:Nat)(k:Bs)(u:Value):∀F ∈ OM bo l i x b es c k u,∀v w w',F v w→Ext w w'→F v w':=by
 intro F hF v w w' h hx;simp only[OM,zU,List.not_mem_nil,or_false] at hF
 rcases hF with rfl | rfl | rfl | rfl | rfl
 ·rcases h with h | h
  ·exact .inl (h.ext hx)
  ·exact .inr (h.ext hx)
 ·exact h.ext hx
 ·rcases h with h | ⟨u,h⟩
  ·exact .inl ((hx.block b (Array.getElem?_eq_some_iff.1 h).1).trans h)
  ·exact .inr ⟨u,(hx.block b (Array.getElem?_eq_some_iff.1 h).1).trans h⟩
 ·obtain⟨a,u,h⟩:=h;exact⟨a,u,(hx.block b (Array.getElem?_eq_some_iff.1 h).1).trans h⟩
 ·exact(hx.block b (Array.getElem?_eq_some_iff.1 h).1).trans h
section
variable {w:World} {ρ:Operand→Value} {o:Oper} {bo:Nat} {l:List Int} {i:Nat} {x:Int} {b:Nat} {es:Array MapEntry} {c:Nat} {k:Bs} {u:Value}
theorem zPM (p v:Operand)(ho:o.op=.store 3 p v)(AA:b≠bo)(hi:i<l.length)(hp:ρ p=.pointer (some ⟨bo,i,none⟩))(hv:ρ v=.int .i64 x)
  (h:Blk w bo 3 (ofc l).toArray∨Blk w bo 3 (ofc (l.set i x)).toArray) :
  xA Tryz.prog ρ o w fun v' w'=>Blk w' bo 3 (ofc (l.set i x)).toArray∧jH (some bo) (some b) (OM bo l i x b es c k u) w w':=by
 obtain⟨cs,hb,hl,he⟩:∃cs:List Int,Blk w bo 3 (ofc cs).toArray∧i<cs.length∧cs.set i x=l.set i x:=by
  rcases h with h | h
  ·exact⟨l,h,hi,rfl⟩
  ·exact⟨l.set i x,h,by rw[zB]; exact hi,by rw[List.set_set]⟩
 have hc:w.cell? ⟨bo,i,none⟩=some (.int .i64 (cs.getD i (-1))):=by
  have:=hb.cell i
  rw[this];simp only[yL];exact zOr cs i hl
 have hz:=hb.frozen i;have hn:=hb.put i (.int .i64 x);rw[yD,zFZ,he] at hn;unfold xA;simp[execOp,ho,hp,hv,go_sem,hc,hz];have hh:(w.setCell ⟨bo,i,none⟩ (.int .i64 x)).heap[b]?=w.heap[b]?:=zS w ⟨bo,i,none⟩ _ b AA;refine⟨hn,⟨rfl,rfl,rfl,by simp[World.setCell],fun b _ AA _=>zS w ⟨bo,i,none⟩ _ b fun e=>AA (by rw[e])⟩,fun F hF v h=>?_⟩;simp only[OM,zU,List.not_mem_nil,or_false] at hF
 rcases hF with rfl | rfl | rfl | rfl | rfl
 ·exact .inr hn
 ·exact hn
 ·rcases h with h | ⟨u,h⟩
  ·exact .inl (hh.trans h)
  ·exact .inr ⟨u,hh.trans h⟩
 ·obtain⟨a,u,h⟩:=h;exact⟨a,u,hh.trans h⟩
 ·exact hh.trans h
theorem zLC {P:Program}{kt:TypeId}{w0:World}{n:Nat}{f:Bs→Option Value}(m y:Operand)(t:TypeId)(ho:o.op=.mapEntry t m y){e:TypeId}(hm:MF P kt w0 b n f)(hb:zFM w0 b es c)(hk:P.underlying kt=some .string)(ht:P.underlying t=some (.map kt e))(hn:n<maxLen){z:Value}(hz:∀w,(zeroValue e).run P w=.ok z w)(hl:k.length≤maxLen)(hf:f k=none)
  (h1:ρ m=.map (some b)) (h2:ρ y=.string (xG k)) (hne:b≠bo) (h:zFM w b es c∨∃u,zBm w b es c k u) :
  xA P ρ o w fun v' w'=>((∃z,v'=.tuple #[z,.int .i64 (c:Int)])∧∃u,zBm w' b es c k u)∧jH (some bo) (some b) (OM bo l i x b es c k u) w w':=by
 obtain⟨u',w',AC,hg,AA,AG⟩:∃u' w',(Instr.mapEntry t (.map (some b)) (.string (xG k))).run P w=.ok (.tuple #[u',.int .i64 (c:Int)]) w'∧w.grownBy w' (some b)∧zBm w' b es c k u'∧(zFM w b es c∨zBm w b es c k u'):=by
  rcases h with h | ⟨u',h⟩
  ·obtain⟨w',a,b,c⟩:=hm.first hb hk ht hn hz k hl hf h;exact⟨z,w',a,b,c,.inl h⟩
  ·obtain⟨w',a,b,c⟩:=hm.again hb hk ht hz k hl hf u' h;exact⟨u',w',a,b,c,.inr h⟩
 unfold xA;simp[execOp,ho,h1,h2,AC,Result.andThen];refine⟨⟨u',AA⟩,⟨hg.os,hg.tape,hg.output,hg.size,fun k' AH _ AD=>hg.block k' AH AD⟩,fun F hF v h=>?_⟩
 have AF:∀u2,zFM w b es c→zBm w b es c k u2→False:=fun u2 ha hb=>by
  unfold zFM at ha;unfold zBm at hb;rw[ha] at hb;injection hb with hb;injection hb with _ hb;omega
 have AB:∀u2,zBm w b es c k u2→zBm w' b es c k u2:=fun u2 h2=>by
  rcases AG with h0 | h0
  ·exact(AF u2 h0 h2).elim
  ·unfold zBm at *;rw[h0] at h2;rw[AA];exact h2
 simp only[OM,zU,List.not_mem_nil,or_false] at hF;have AE:∀cs:Array Value,Blk w bo 3 cs→Blk w' bo 3 cs:=fun cs hc=>(hg.block bo hc.lt fun e=>hne (by injection e with e; exact e.symm)).trans hc
 rcases hF with rfl | rfl | rfl | rfl | rfl
 ·rcases h with h | h
  ·exact .inl (AE _ h)
  ·exact .inr (AE _ h)
 ·exact AE _ h
 ·exact .inr ⟨u',AA⟩
 ·exact⟨h.1,u',AA⟩
 ·exact AB _ h
theorem zI8 {P:Program}{kt:TypeId}{w0:World}{n:Nat}{f:Bs→Option Value}(m y q:Operand)(t:TypeId)(ho:o.op=.entryStore t m y q)(hm:MF P kt w0 b n f)(hb:zFM w0 b es c)
  (h1:ρ m=.map (some b)) (h2:ρ y=.int .i64 (c:Int)) (h3:ρ q=u) (hne:b≠bo) (h:∃u,zBm w b es c k u) :
  xA P ρ o w fun v' w'=>zBm w' b es c k u∧jH (some bo) (some b) (OM bo l i x b es c k u) w w':=by
 obtain⟨u',h⟩:=h;obtain⟨w',AB,hg,AA⟩:=hm.stored hb t k u' u h;unfold xA;simp[execOp,ho,h1,h2,h3,AB,Result.andThen];refine⟨AA,⟨hg.os,hg.tape,hg.output,hg.size,fun k' AE _ AC=>hg.block k' AE AC⟩,fun F hF v h=>?_⟩;simp only[OM,zU,List.not_mem_nil,or_false] at hF;have AD:∀cs:Array Value,Blk w bo 3 cs→Blk w' bo 3 cs:=fun cs hc=>(hg.block bo hc.lt fun e=>hne (by injection e with e; exact e.symm)).trans hc
 rcases hF with rfl | rfl | rfl | rfl | rfl
 ·rcases h with h | h
  ·exact .inl (AD _ h)
  ·exact .inr (AD _ h)
 ·exact AD _ h
 ·exact .inr ⟨_,AA⟩
 ·exact⟨h.1,_,AA⟩
 ·exact AA
end
end Go.Proofs.YtbadjmmjbpeocaaGreat
