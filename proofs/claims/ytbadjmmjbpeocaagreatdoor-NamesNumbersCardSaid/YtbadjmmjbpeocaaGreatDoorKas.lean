/- The reader of names: find, a variable that is there: a range over the blocks' maps, from the last one on. (and what follows of it). The conditions stand at each lemma. -/
import Derived.Test.YtbadjmmjbpeocaaGreatDoorKaa
import Derived.Test.YtbadjmmjbpeocaaGreatDoorKar
import Derived.RangeFuncBox
import Derived.RangeFuncNested
import Derived.RangeFuncBound
import Derived.RangeFuncCalls
import Derived.RangeFuncLeaves
import Derived.Shelf.Abstract
import Derived.OwnWalkIn
import Derived.TacticsInMore
import Derived.LoopNIn
import Derived.LoopIn
import Derived.Test.YtbadjmmjbpeocaaGreatDoorKai
import Derived.Deep.Cut
set_option linter.unusedVariables false
set_option linter.unusedSimpArgs false
set_option maxRecDepth 100000
set_option maxHeartbeats 16000000
namespace Go.Proofs.YtbadjmmjbpeocaaGreatDoor
open Go Go.RowKit Go.Shelf
attribute [local go_sem] Oper.semAt_some
def idxs (n:Nat):Nat→List Nat
 | 0=>[]
 | k+1=>idxs n k++[n-1-k]
theorem zSu (n k:Nat):(idxs n k).length=k:=by
 induction k with
 | zero=>rfl
 | succ k ih=>unfold idxs; simp[ih]
theorem zKa (n k:Nat):idxs n (k+1)=idxs n k++[n-1-k]:=rfl
def atM (ms:List Nat)(i:Nat):Nat:=ms.getD i (ms.headD 0)
def zS2 (ms:List Nat)(i:Nat):Array Value:=#[.int .i64 (i:Int),.map (some (atM ms i))]
theorem zT5 (F:Fence)(n:Nat)(h5:F.fn 103)(hro:F.round=none)(A:Option Addr)(len cap:Nat)(w:World) :
  CallsIn F n Tryz.prog 103 #[.slice A len cap] w fun e w'=>e=.returned (.func (.func 130) #[] #[.pointer (some ⟨w.heap.size,0,none⟩)])∧w'=w.alloc (.cells #[.slice A len cap] 84):=by
 refine callsIn_of_wp Tryz.func103 rfl h5 ?_ hro;simp only[Tryz.ntmps103,List.size_toArray,zK,zL,Nat.reduceAdd,Nat.reduceSub,Array.replicate_succ,Array.replicate_zero,List.push_toArray,List.append_toArray,List.nil_append,yC]
 gi_wp2
 go_ret;exact⟨rfl,rfl⟩
theorem zL3 (ms:List Nat)(k:Nat)(h:k<ms.length):(YK ms)[k]?=some (.map (some ms[k])):=by simp[YK,h]
theorem zSh (F:Fence)(n:Nat)(hf:F.fn 130)(hro:F.round=none)(hn:1≤n)(l Bs n₀:Nat)(A:Option Addr)(ns:List Nat)(cap:Nat)(hlen:ns.length≤100000)(hA:∀b off,A=some ⟨b,off,none⟩→0<ns.length→b<n₀)(J Jx:List Nat→World→Prop)
  (W:World) (hJa:AbidesFrom W.heap.size J) (hY:∀pre x W1,J pre W1→pre.length<ns.length→YieldAt F (n-1) Tryz.prog l (zS2 ns x) W1 fun e W'=>
   (e=.returned (.bool true)∧J (pre++[x]) W'∧Below n₀ W1 W')∨(e=.returned (.bool false)∧Jx (pre++[x]) W'))
  (hBs:W.cell? ⟨Bs,0,none⟩=some (.slice A ns.length cap)) (hBsl:Bs<n₀) (hc:Cells W A (YK ns)) (hn₀:n₀≤W.heap.size) (h0:J [] W) :
  CallsIn F n Tryz.prog 130 #[.func (.yield l) #[] #[],.pointer (some ⟨Bs,0,none⟩)] W fun e W'=>(∃v,e=.returned v) ∧
   ((∃ys,ys=idxs ns.length ns.length∧J ys W')∨(∃pre,(∃k,k<ns.length∧pre=idxs ns.length (k+1))∧Jx pre W')):=by
 refine callsIn_of_wp Tryz.func130 rfl hf ?_ hro;simp only[Tryz.ntmps130,List.size_toArray,zK,zL,Nat.reduceAdd,Nat.reduceSub,Array.replicate_succ,Array.replicate_zero,List.push_toArray,List.append_toArray,List.nil_append,yC]
 gi_wp2
 gi_loopw [3] (fun i wr=>∃m:Nat,m≤ns.length∧i=.int .i64 ((m:Int)-1)∧J (idxs ns.length (ns.length-m)) wr∧Below n₀ W wr)
  (fun i _=>(intOf i+1).toNat)
 case atStart=>exact⟨ns.length,zX _,rfl,by rw[Nat.sub_self]; exact h0,Below.refl _ _⟩
 case round=>
  obtain⟨m,hm,rfl,hJs,hnx⟩:=hrel;have hbox:wr.cell? ⟨Bs,0,none⟩=some (.slice A ns.length cap):=(hnx.cell (p:=⟨Bs,0,none⟩) hBsl).trans hBs
  cases m with
  | zero=>
   gi_wp2
   go_end0;exact⟨⟨_,rfl⟩,.inl ⟨_,rfl,hJs⟩⟩
  | succ m=>
   have em:(((m+1:Nat):Int)-1)=(m:Int):=by omega
   rw[em]
   have hml:m<ns.length:=by omega
   obtain⟨b,off,rfl,hb,hcc⟩:=hc.at_ (by rw[zCp]; omega);have hbn:=hA b off rfl (by omega)
   have x0:wr.cell? ⟨b,off+m,none⟩=some (.map (some ns[m])):=by
    rw[hnx.cell (p:=⟨b,off+m,none⟩) hbn,hcc _ (by rw[zCp]; omega)];exact zL3 ns m hml
   obtain⟨fn,tmps,assign,body,hy,hR⟩:=hY (idxs ns.length (ns.length-(m+1))) m _ hJs (by rw[zSu]; omega)
   have hI:idxs ns.length (ns.length-(m+1))++[m]=idxs ns.length (ns.length-m):=by
    rw[show ns.length-m=(ns.length-(m+1))+1 from by omega]
    show _=idxs ns.length (ns.length-(m+1))++[ns.length-1-(ns.length-(m+1))]
    rw[show ns.length-1-(ns.length-(m+1))=m from by omega]
   rw[hI] at hR;unfold zS2 at hy;rw[show atM ns m=ns[m] from by unfold atM; simp[yH,hml]] at hy;generalize ns[m]=x at *;clear hcc em
   have hd0:decide ((m:Int) ≥ 0)=true:=by simp
   have hd1:decide (0≤(m:Int))=true:=by simp
   have q1:(m:Int)<(ns.length:Int):=by omega
   gi_wp2
   refine hR.mono ?_;rintro e W3 (⟨rfl,hJ3,hk3⟩ | ⟨rfl,hJx3⟩)
   ·gi_wp2
    go_roundw
    case rel=>exact⟨m,by omega,rfl,hJ3,hnx.trans hk3⟩
    case measure=>simp[intOf]
   ·gi_wp2
    refine bodyPost_ret (results_none rfl _ _ _) rfl ?_;exact⟨⟨_,rfl⟩,.inr ⟨_,⟨ns.length-(m+1),by omega,by rw[show ns.length-(m+1)+1=ns.length-m from by omega]⟩,hJx3⟩⟩
theorem zOW (F:Fence)(n:Nat)(hf:F.fn 130)(hro:F.round=none)(hn:1≤n)(Bs:Nat)(A:Option Addr)(ns:List Nat)(cap:Nat)(hlen:ns.length≤100000)(w:World)
  (hA:∀b off,A=some ⟨b,off,none⟩→0<ns.length→b<w.heap.size) (hBl:Bs<w.heap.size) (hBs:w.cell? ⟨Bs,0,none⟩=some (.slice A ns.length cap)) (hc:Cells w A (YK ns)) :
  SeqStopsK F n Tryz.prog 130 #[.pointer (some ⟨Bs,0,none⟩)] (zS2 ns) (Below w.heap.size) (fun ys=>ys=idxs ns.length ns.length) (fun pre=>∃k,k<ns.length∧pre=idxs ns.length (k+1)) ns.length w:=fun l J Jx W hW hJ _ hY h0=>
 zSh F n hf hro hn l Bs w.heap.size A ns cap hlen hA J Jx W hJ hY ((hW.cell (p:=⟨Bs,0,none⟩) hBl).trans hBs) hBl (hc.ext hW) hW.size h0
theorem zLm {w:World}{A:Option Addr}{cs:List Value}(h:Cells w A cs)(hn:0<cs.length):∀b off,A=some ⟨b,off,none⟩→b<w.heap.size:=by
 intro b off e;obtain⟨b',off',h1,h2,_⟩:=h.at_ hn;rw[h1] at e;injection e with e;injection e with e;subst e;exact h2
attribute [local go_sem] Oper.semAt_some
theorem zS9 {β:Type}(g:Nat)(t:TypeId)(cs:β→Array Value):Own (fun (s:β) W=>Blk W g t (cs s)):=fun s X Y row hs hg hrow=>
 (hg.block g hs.lt fun e'=>by
  obtain⟨o,ho,hc⟩:=hrow g e'.symm;rw[show X.heap[g]?=_ from hs] at ho
  cases ho
  cases hc).trans hs
def zE9 (bl:List (List Vr))(name:Bs)(i:Nat):Option Vr:=(bl.getD i (bl.headD [])).find? fun v=>v.name==name
def zHf (bl:List (List Vr))(name:Bs):Option Vr:=bl.reverse.findSome? fun b=>b.find? fun v=>v.name==name
def zFR (o:Option Vr):Array Value:=match o with
 | none=>#[.int .i64 0,.bool false]
 | some v=>#[.int .i64 (v.n:Int),.bool v.loop]
theorem zSs (b:List Vr)(name:Bs):(vfV b name).getD (.agg #[.int .i64 0,.bool false])=.agg (zFR (b.find? fun v=>v.name==name)):=by
 unfold vfV
 cases b.find? (fun v=>v.name==name) <;> rfl
theorem zSw (b:List Vr)(name:Bs):(vfV b name).isSome=(b.find? fun v=>v.name==name).isSome:=by
 unfold vfV
 cases b.find? (fun v=>v.name==name) <;> rfl
theorem zDy {α:Type}(l:List α)(d:α)(i:Nat)(h:i<l.length):l.reverse.getD i d=l.getD (l.length-1-i) d:=by
 rw[yH,yH,List.getElem?_reverse h]
theorem zJK {α β:Type}{f:α→Option β}{l:List α}(d:α)(h:∀i,i<l.length→f (l.getD i d)=none):l.findSome? f=none:=by
 rw[List.findSome?_eq_none_iff];intro x hx;obtain⟨i,hi,rfl⟩:=List.getElem_of_mem hx
 have:=h i hi
 rwa [yH,yJ hi] at this
theorem zGV {α β:Type}{f:α→Option β}(d:α):∀ {l:List α} (k:Nat) {b:β},k<l.length→(∀i,i<k→f (l.getD i d)=none)→f (l.getD k d)=some b→l.findSome? f=some b
 | [],k,b,hk,_,_=>by simp at hk
 | x::l,0,b,hk,h,hb=>by
  rw[List.findSome?_cons,show f x=some b from hb]
 | x::l,k+1,b,hk,h,hb=>by
  rw[List.findSome?_cons,show f x=none from h 0 (by omega)];exact zGV d k (by simpa using hk) (fun i hi=>h (i+1) (by omega)) hb
theorem zJk (n:Nat):∀(k i:Nat),k≤n→i<k→n-1-i ∈ idxs n k
 | 0,i,h1,h2=>by omega
 | k+1,i,h1,h2=>by
  rw[zKa]
  by_cases h:i=k
  ·rw[h]; simp
  ·exact List.mem_append_left _ (zJk n k i (by omega) (by omega))
theorem zOS {bl:List (List Vr)}{name:Bs}{n:Nat}(hn:bl.length=n)(h:∀i ∈ idxs n n,zE9 bl name i=none):zHf bl name=none:=by
 subst hn;refine zJK (bl.headD []) fun i hi=>?_;rw[List.length_reverse] at hi;rw[zDy _ _ _ hi];exact h _ (zJk _ _ _ (zX _) hi)
theorem zOu {bl:List (List Vr)}{name:Bs}{n:Nat}(hn:bl.length=n)(k:Nat)(hk:k<n)(h:∀i ∈ idxs n k,zE9 bl name i=none){v:Vr}(hv:zE9 bl name (n-1-k)=some v):zHf bl name=some v:=by
 subst hn;refine zGV (bl.headD []) k (by rw[List.length_reverse]; exact hk) (fun i hi=>?_) ?_
 ·rw[zDy _ _ _ (by omega)];exact h _ (zJk _ _ _ (by omega) hi)
 ·rw[zDy _ _ _ hk];exact hv
theorem zDE {w w':World}{N M:Nat}(h:Below N w w')(hM:M≤N):Below M w w':=⟨h.os,h.tape,h.output,h.size,fun b hb=>h.block b (yU hb hM)⟩
theorem zSr (F:Fence)(n:Nat)(hf:F.fn 61)(hf1:F.fn 103)(hf2:F.fn 130)(hro:F.round=none)(hn:3≤n)(a:Nat)(ms:List Nat)(A:Option Addr)(cap:Nat)(bl:List (List Vr))(m:Nat)(name:Bs)(w:World)
  (h4:w.cell? ⟨a,4,none⟩=some (.slice A ms.length cap)) (ha:a<w.heap.size) (hc:Cells w A (YK ms)) (hlen:ms.length≤100000) (hbl:bl.length=ms.length)
  (hm:∀(k b:Nat) (x:List Vr),bl[k]?=some x→ms[k]?=some b→MF Tryz.prog 9 w b m (vfV x)) (hnm:name.length≤maxLen) :
  CallsIn F n Tryz.prog 61 #[.pointer (some ⟨a,0,none⟩),.string (xI name)] w fun e w'=>e=.returned (.tuple #[.agg (zFR (zHf bl name)),.bool (zHf bl name).isSome])∧Below w.heap.size w w':=by
 have h1:1≤n:=by omega
 refine callsIn_of_wp_marks Tryz.func61 rfl hf ?_ hro;simp only[Tryz.ntmps61,List.size_toArray,zK,zL,Nat.reduceAdd,Nat.reduceSub,Array.replicate_succ,Array.replicate_zero,List.push_toArray,List.append_toArray,List.nil_append,yC];have c4:(((w.alloc (.cells #[.string (xI name)] 9)).alloc (.cells #[.int .i64 0,.bool false] 130)).alloc (.cells #[.bool false] 4)).cell? ⟨a,4,none⟩=some (.slice A ms.length cap):=((((Ext.alloc _ _).trans (Ext.alloc _ _)).trans (Ext.alloc _ _)).cell (p:=⟨a,4,none⟩) ha).trans h4
 gi_wp2_with (gi_at_call 103; refine(zT5 F (n-1) hf1 hro _ _ _ _).mono ?_; rintro e w' ⟨rfl,rfl⟩)
 obtain⟨W0,hW0⟩:∃W0,(((w.alloc (.cells #[.string (xI name)] 9)).alloc (.cells #[.int .i64 0,.bool false] 130)).alloc (.cells #[.bool false] 4)).alloc (.cells #[.slice A ms.length cap] 84)=W0:=⟨_,rfl⟩
 have hs0:W0.heap.size=w.heap.size+4:=by rw[←hW0]; simp
 have bP:Boxed W0 w.heap.size 9 (.string (xI name)):=by
  rw[←hW0];exact((Boxed.new w 9 (.string (xI name))).alloc (.cells #[.int .i64 0,.bool false] 130)).alloc (.cells #[.bool false] 4) |>.alloc (.cells #[.slice A ms.length cap] 84)
 have bV:Blk W0 (w.heap.size+1) 130 #[.int .i64 0,.bool false]:=by
  rw[←hW0]
  have:=((Blk.new (w.alloc (.cells #[.string (xI name)] 9)) 130 #[.int .i64 0,.bool false]).alloc (.cells #[.bool false] 4)).alloc (.cells #[.slice A ms.length cap] 84)
  rwa [yT] at this
 have bR:Boxed W0 (w.heap.size+1+1) 4 (.bool false):=by
  rw[←hW0]
  have:=(Boxed.new ((w.alloc (.cells #[.string (xI name)] 9)).alloc (.cells #[.int .i64 0,.bool false] 130)) 4 (.bool false)).alloc (.cells #[.slice A ms.length cap] 84)
  rwa [yT,yT] at this
 have bN:Boxed W0 (w.heap.size+1+1+1) 84 (.slice A ms.length cap):=by
  rw[←hW0]
  have:=Boxed.new (((w.alloc (.cells #[.string (xI name)] 9)).alloc (.cells #[.int .i64 0,.bool false] 130)).alloc (.cells #[.bool false] 4)) 84 (.slice A ms.length cap)
  rwa [yT,yT,yT] at this
 have hBW:Below w.heap.size w W0:=by rw[←hW0]; exact((((Below.refl _ w).alloc (zX _) _).alloc (by simp) _).alloc (by simp; omega) _).alloc (by simp; omega) _
 clear c4;rw[hW0];have hc0:Cells W0 A (YK ms):=hc.ext hBW;have hA:∀b off,A=some ⟨b,off,none⟩→0<ms.length→b<W0.heap.size:=fun b off e h0=>zLm hc0 (by rw[zCp]; omega) b off e
 have hmW:∀(x:Nat) (W:World),0<ms.length→Below W0.heap.size W0 W→MF Tryz.prog 9 W (atM ms x) m (vfV (bl.getD x (bl.headD []))):=fun x W h0 hB=>by
  have hx:∃y,y<ms.length∧ms.getD x (ms.headD 0)=ms.getD y 0∧bl.getD x (bl.headD [])=bl.getD y []:=by
   by_cases hx:x<ms.length
   ·refine⟨x,hx,?_,?_⟩
    ·rw[yH,yH,yJ hx]; rfl
    ·rw[yH,yH,yJ (by omega)]; rfl
   ·refine⟨0,h0,?_,?_⟩
    ·rw[yH,zM (by omega)]
     cases ms with
     | nil=>simp at h0
     | cons y ys=>rfl
    ·rw[yH,zM (by omega)]
     cases bl with
     | nil=>simp at hbl; omega
     | cons y ys=>rfl
  obtain⟨y,hy,e1,e2⟩:=hx;unfold atM;rw[e1,e2]
  have hy2:y<bl.length:=by omega
  have e3:ms.getD y 0=ms[y]:=by rw[yH,yJ hy]; rfl
  have e4:bl.getD y []=bl[y]:=by rw[yH,yJ hy2]; rfl
  rw[e3,e4]
  have:=hm y ms[y] bl[y] (yJ hy2) (yJ hy)
  exact this.ext (hBW.trans (Below.mono hB (by omega)))
 refine wpIn_rangeFunc_ownH hro h1 (gf:=130) (lb:=#[.pointer (some ⟨w.heap.size+1+1+1,0,none⟩)]) rfl hf2 (enters_of Tryz.func130 (by kernel_rfl) rfl)
  (zOW F (n-1) hf2 hro (by omega) (w.heap.size+1+1+1) A ms cap hlen W0 hA (by omega) bN.cell hc0) belowK_t (belowK_b (zX _)) (Below.refl _ _) (fun _=>rfl)
  (fun pre W=>(∀y ∈ pre,zE9 bl name y=none)∧Below W0.heap.size W0 W)
  (fun c pre W=>((c=.ret∧∃pre' x v,pre=pre'++[x]∧(∀y ∈ pre',zE9 bl name y=none)∧zE9 bl name x=some v)∧Blk W (w.heap.size+1) 130 (zFR (zE9 bl name (pre.getLastD 0)))∧Boxed W (w.heap.size+1+1) 4 (.bool true))∧Below w.heap.size w W)
  (OwnFrom.and (ownFrom_pure _ _) (ownFrom_below (zX _) (zX _)))
  (fun c=>OwnFrom.and (OwnFrom.and (ownFrom_pure _ _) (OwnFrom.and (Own.from (zS9 (w.heap.size+1) 130 (fun pre:List Nat=>zFR (zE9 bl name (pre.getLastD 0)))) _) (Own.from (boxed_own (w.heap.size+1+1) 4 (fun _:List Nat=>.bool true)) _))) (ownFrom_below (zX _) (by omega)))
  ⟨by simp,Below.refl _ _⟩
  (fun x a' W=>a' = { tmps:=#[.pointer (some ⟨a,0,none⟩),.string (xI name),undef,.pointer (some ⟨w.heap.size,0,none⟩),.pointer (some ⟨w.heap.size+1,0,none⟩),.pointer (some ⟨w.heap.size+1+1,0,none⟩),undef,.map (some (atM ms x)),undef,undef,.pointer (some ⟨a,0,none⟩),.pointer (some ⟨a,0,none⟩),.pointer (some ⟨a,4,none⟩),.slice A ms.length cap,.func (.func 130) #[] #[.pointer (some ⟨w.heap.size+1+1+1,0,none⟩)],.int .i64 (x:Int),.map (some (atM ms x)),undef,undef,undef,undef,undef,undef,undef,undef,undef],defers:=[] })
  (fun x a'=>ownFrom_pure _ _) ?assign ?body ?done ?stop
 case assign=>
  rintro l pre x W K ⟨hp,hB⟩ hK;unfold zS2
  gi_wp2
  exact hK _ _ (KeepsFrom.refl _ _) (Below.refl _ _) ⟨hp,hB⟩ rfl
 case body=>
  rintro l pre x a' W hl hrec ⟨hp,hB⟩ rfl hlt;have hmx:=hmW x W (by omega) hB;have hlk:=hmx.get (t:=184) (e:=130) (z:=.agg #[.int .i64 0,.bool false]) Tryz.underlying9 Tryz.underlying184 (by rfl) name hnm;rw[zSs,zSw] at hlk;have hbp:Boxed W w.heap.size 9 (.string (xI name)):=(hB.block _ (by omega)).trans bP;have hbv:Blk W (w.heap.size+1) 130 #[.int .i64 0,.bool false]:=(hB.block _ (by omega)).trans bV;have hbr:Boxed W (w.heap.size+1+1) 4 (.bool false):=(hB.block _ (by omega)).trans bR;have hBw:Below w.heap.size w W:=Below.trans hBW (Below.mono hB hBW.size);have cp:=hbp.cell;have cr:=hbr.cell;have fr:=hbr.frozen;have cv0:=hbv.cell 0;have cv1:=hbv.cell 1;have fv0:=hbv.frozen 0;have fv1:=hbv.frozen 1
  have l0:w.heap.size<W.heap.size:=by have:=hB.size; omega
  have l1:w.heap.size+1<W.heap.size:=by have:=hB.size; omega
  have l2:w.heap.size+1+1<W.heap.size:=by have:=hB.size; omega
  have hws:w.heap.size+4≤W.heap.size:=by have:=hB.size; omega
  generalize hmb:atM ms x=mb at *
  cases hq:zE9 bl name x with
  | some v=>
   have e1:(bl.getD x (bl.headD [])).find? (fun v=>v.name==name)=some v:=hq;rw[e1] at hlk;unfold zFR at hlk;simp only[Option.isSome_some] at hlk
   gi_wp2
   have hlv:zE9 bl name ((pre++[x]).getLastD 0)=some v:=by rw[List.getLastD_concat]; exact hq
   have hbv3:=(((hbv.put 0 (.int .i64 (v.n:Int))).put 1 (.bool v.loop)).far (p:=⟨w.heap.size+1+1,0,none⟩) (by simp) (.bool true)).alloc (.cells #[.int .i64 (v.n:Int),.bool v.loop] 130)
   have hbr3:Boxed ((((W.setCell ⟨w.heap.size+1,0,none⟩ (.int .i64 (v.n:Int))).setCell ⟨w.heap.size+1,1,none⟩ (.bool v.loop)).setCell ⟨w.heap.size+1+1,0,none⟩ (.bool true)).alloc (.cells #[.int .i64 (v.n:Int),.bool v.loop] 130)) (w.heap.size+1+1) 4 (.bool true):=by
    have hb:Blk W (w.heap.size+1+1) 4 #[.bool false]:=hbr;exact(((hb.far (p:=⟨w.heap.size+1,0,none⟩) (by simp) (.int .i64 (v.n:Int))).far (p:=⟨w.heap.size+1,1,none⟩) (by simp) (.bool v.loop)).put 0 (.bool true)).alloc (.cells #[.int .i64 (v.n:Int),.bool v.loop] 130)
   have hX3:Below w.heap.size w (((W.setCell ⟨w.heap.size+1,0,none⟩ (.int .i64 (v.n:Int))).setCell ⟨w.heap.size+1,1,none⟩ (.bool v.loop)).setCell ⟨w.heap.size+1+1,0,none⟩ (.bool true)):=
    ((hBw.setCell (p:=⟨w.heap.size+1,0,none⟩) (by show w.heap.size≤w.heap.size+1; omega) _).setCell (p:=⟨w.heap.size+1,1,none⟩) (by show w.heap.size≤w.heap.size+1; omega) _).setCell (p:=⟨w.heap.size+1+1,0,none⟩) (by show w.heap.size≤w.heap.size+1+1; omega) _
   refine⟨((((KeepsOthers.setCell _ _ _).trans (KeepsOthers.setCell _ _ _)).trans (KeepsOthers.setCell _ _ _)).trans (KeepsOthers.alloc _ _)).from _,⟨⟨rfl,pre,x,v,rfl,hp,hq⟩,?_,hbr3⟩,hX3.trans (zDE (Ext.alloc _ _) hX3.size)⟩;rw[hlv];exact hbv3
  | none=>
   have e1:(bl.getD x (bl.headD [])).find? (fun v=>v.name==name)=none:=hq;rw[e1] at hlk;unfold zFR at hlk;simp only[Option.isSome_none] at hlk
   gi_wp2
   exact⟨(KeepsOthers.alloc _ _).from _,zDE (Ext.alloc _ _) hB.size,fun y hy=>(List.mem_append.1 hy).elim (hp y) (fun e=>by rw[List.mem_singleton.1 e]; exact hq),hB.trans (zDE (Ext.alloc _ _) hB.size)⟩
 case done=>
  rintro D ys W hD rfl ⟨hp,hB⟩ hK;have hbv:Blk W (w.heap.size+1) 130 #[.int .i64 0,.bool false]:=(hB.block _ (by omega)).trans bV;have hbr:Boxed W (w.heap.size+1+1) 4 (.bool false):=(hB.block _ (by omega)).trans bR;have hBw:Below w.heap.size w W:=Below.trans hBW (Below.mono hB hBW.size);have hlr:=zOS hbl hp;have cr:=hbr.cell;have fr:=hbr.frozen;have cv0:=hbv.cell 0;have cv1:=hbv.cell 1;have fv0:=hbv.frozen 0;have fv1:=hbv.frozen 1
  gi_wp2
  have hbv3:=((hbv.put 0 (.int .i64 0)).put 1 (.bool false)).far (p:=⟨w.heap.size+1+1,0,none⟩) (by simp) (.bool false)
  have hbr3:Boxed (((W.setCell ⟨w.heap.size+1,0,none⟩ (.int .i64 0)).setCell ⟨w.heap.size+1,1,none⟩ (.bool false)).setCell ⟨w.heap.size+1+1,0,none⟩ (.bool false)) (w.heap.size+1+1) 4 (.bool false):=by
   have hb:Blk W (w.heap.size+1+1) 4 #[.bool false]:=hbr;exact((hb.far (p:=⟨w.heap.size+1,0,none⟩) (by simp) (.int .i64 0)).far (p:=⟨w.heap.size+1,1,none⟩) (by simp) (.bool false)).put 0 (.bool false)
  have hB3:Below w.heap.size w (((W.setCell ⟨w.heap.size+1,0,none⟩ (.int .i64 0)).setCell ⟨w.heap.size+1,1,none⟩ (.bool false)).setCell ⟨w.heap.size+1+1,0,none⟩ (.bool false)):=
   ((hBw.setCell (p:=⟨w.heap.size+1,0,none⟩) (by show w.heap.size≤w.heap.size+1; omega) _).setCell (p:=⟨w.heap.size+1,1,none⟩) (by show w.heap.size≤w.heap.size+1; omega) _).setCell (p:=⟨w.heap.size+1+1,0,none⟩) (by show w.heap.size≤w.heap.size+1+1; omega) _
  have hK':=(((KeepsOthers.setCell W ⟨w.heap.size+1,0,none⟩ (.int .i64 0)).trans (KeepsOthers.setCell _ ⟨w.heap.size+1,1,none⟩ (.bool false))).trans (KeepsOthers.setCell _ ⟨w.heap.size+1+1,0,none⟩ (.bool false))).same D _ hK rfl;refine⟨by simp,.inl ⟨_,_,rfl,run_takeDeferred hK',?_⟩⟩;have k0:=cell_kept (hbv3.cell 0) (grownBy_putObj' _ D (.deferred none)) (fun r e=>by cases e; exact⟨_,hK',rfl⟩);have k1:=cell_kept (hbv3.cell 1) (grownBy_putObj' _ D (.deferred none)) (fun r e=>by cases e; exact⟨_,hK',rfl⟩);have k2:=cell_kept hbr3.cell (grownBy_putObj' _ D (.deferred none)) (fun r e=>by cases e; exact⟨_,hK',rfl⟩);refine⟨.tuple #[.agg #[.int .i64 0,.bool false],.bool false],?_,by rw[hlr]; rfl,hB3.trans (belowK_b (w:=w) (zX _) _ D _ _ (by omega) hK' rfl rfl)⟩
  have k0':(((((W.setCell ⟨w.heap.size+1,0,none⟩ (.int .i64 0)).setCell ⟨w.heap.size+1,1,none⟩ (.bool false)).setCell ⟨w.heap.size+1+1,0,none⟩ (.bool false))).putObj D (.deferred none)).cell? ⟨w.heap.size+1,0,none⟩=some (.int .i64 0):=by rw[k0]; simp
  have k1':(((((W.setCell ⟨w.heap.size+1,0,none⟩ (.int .i64 0)).setCell ⟨w.heap.size+1,1,none⟩ (.bool false)).setCell ⟨w.heap.size+1+1,0,none⟩ (.bool false))).putObj D (.deferred none)).cell? ⟨w.heap.size+1,1,none⟩=some (.bool false):=by rw[k1]; simp
  simp[results,Tryz.f61,go_sem,k0',k1',k2]
 case stop=>
  rintro D c pre W hD ⟨k,hk,hpre⟩ ⟨⟨⟨rfl,pre',x,v,hpx,hne,hxq⟩,hbv,hbr⟩,hB⟩ hK
  have hlast:pre'=idxs ms.length k∧x=ms.length-1-k:=by
   rw[hpx,zKa] at hpre
   have:=List.append_inj' hpre rfl
   exact⟨this.1,by simpa using this.2⟩
  obtain⟨rfl,rfl⟩:=hlast;have hlr:=zOu hbl k hk hne hxq;rw[hpx,List.getLastD_concat,hxq] at hbv
  gi_wp2
  refine⟨by simp,.inl ⟨_,_,rfl,run_takeDeferred hK,?_⟩⟩;have k0:(W.putObj D (.deferred none)).cell? ⟨w.heap.size+1,0,none⟩=some (.int .i64 (v.n:Int)):=cell_kept (hbv.cell 0) (grownBy_putObj' _ D (.deferred none)) (fun r e=>by cases e; exact⟨_,hK,rfl⟩);have k1:(W.putObj D (.deferred none)).cell? ⟨w.heap.size+1,1,none⟩=some (.bool v.loop):=cell_kept (hbv.cell 1) (grownBy_putObj' _ D (.deferred none)) (fun r e=>by cases e; exact⟨_,hK,rfl⟩);have k2:=cell_kept hbr.cell (grownBy_putObj' _ D (.deferred none)) (fun r e=>by cases e; exact⟨_,hK,rfl⟩);refine⟨.tuple #[.agg #[.int .i64 (v.n:Int),.bool v.loop],.bool true],?_,by rw[hlr]; rfl,hB.trans (belowK_b (w:=w) (zX _) W D _ _ (by omega) hK rfl rfl)⟩;simp[results,Tryz.f61,go_sem,k0,k1,k2]
theorem zQ5 (a:Nat)(ms:List Nat)(A:Option Addr)(cap:Nat)(bl:List (List Vr))(m:Nat)(name:Bs)(w:World)
  (h4:w.cell? ⟨a,4,none⟩=some (.slice A ms.length cap)) (ha:a<w.heap.size) (hc:Cells w A (YK ms)) (hlen:ms.length≤100000) (hbl:bl.length=ms.length)
  (hm:∀(k b:Nat) (x:List Vr),bl[k]?=some x→ms[k]?=some b→MF Tryz.prog 9 w b m (vfV x)) (hnm:name.length≤maxLen) :
  Calls Tryz.prog 61 #[.pointer (some ⟨a,0,none⟩),.string (xI name)] w fun e w'=>e=.returned (.tuple #[.agg (zFR (zHf bl name)),.bool (zHf bl name).isSome])∧Ext w w':=
 (callsIn_wide (n:=9)).1 (zSr Fence.wide 9 trivial trivial trivial rfl (by omega) a ms A cap bl m name w h4 ha hc hlen hbl hm hnm)
end Go.Proofs.YtbadjmmjbpeocaaGreatDoor
namespace Go.Proofs.YtbadjmmjbpeocaaGreatDoor
open Go Go.RowKit
def XG (p:Int)(er:Int):Ending:=.panicked [{ v:=.iface 88 (.agg #[.int .i64 p,.int .i64 er]),recovered:=false }]
theorem xK {P:Program}{fn:Func}{R:Ending→World→Prop}{a:Act}{w:World}{p er:Int}(hd:a.defers=[])(h:R (XG p er) w):bodyPost P fn R (Exit.panic [{ v:=.iface 88 (.agg #[.int .i64 p,.int .i64 er]),recovered:=false }]) a w:=⟨hd,h⟩
structure RdS (w:World)(a p:Nat)(A:Option Addr)(ct:Nat)(l:List Tx):Prop where
 r0:w.cell? ⟨a,0,none⟩=some (.pointer (some ⟨p,0,none⟩))
 p0:w.cell? ⟨p,0,none⟩=some (.slice A l.length ct)
 row:Cells w A (tcs l)
 al:a<w.heap.size
 pl:p<w.heap.size
theorem RdS.ext {w w':World}{a p:Nat}{A:Option Addr}{ct:Nat}{l:List Tx}(h:RdS w a p A ct l)(hx:Ext w w'):RdS w' a p A ct l:=
 ⟨(hx.cell (p:=⟨a,0,none⟩) h.al).trans h.r0,(hx.cell (p:=⟨p,0,none⟩) h.pl).trans h.p0,h.row.ext hx,yU h.al hx.size,yU h.pl hx.size⟩
theorem RdS.at_ {w:World}{a p:Nat}{A:Option Addr}{ct:Nat}{l:List Tx}(h:RdS w a p A ct l)(k:Nat)(hk:k<l.length) :
  ∃b off,A=some ⟨b,off,none⟩∧b<w.heap.size∧∀j,j<5→w.cell? ⟨b,off+k*5+j,none⟩=(vX l k).toList[j]?:=by
 obtain⟨b,off,hA,hb,hcc⟩:=h.row.at_ (by rw[zIB]; omega);refine⟨b,off,hA,hb,fun j hj=>?_⟩;rw[Nat.add_assoc,hcc _ (by rw[zIB]; omega),zRG l k hk j hj,zNq hk]
theorem XC (w:World)(a:Value)(i er:Int):Calls Tryz.prog 58 #[a,.bool true,.int .i64 i,.int .i64 er] w fun e w'=>e=.returned (.tuple #[])∧w=w':=by
 go_enter Tryz.func58,Tryz.ntmps58
 go_wp2
 go_end0;exact⟨rfl,rfl⟩
theorem JP (w:World)(a p:Nat)(A:Option Addr)(ct:Nat)(l:List Tx)(i:Nat)(er:Int)(h:RdS w a p A ct l)(hi:i<l.length) :
  Calls Tryz.prog 58 #[.pointer (some ⟨a,0,none⟩),.bool false,.int .i64 (i:Int),.int .i64 er] w fun e w'=>e=XG (YY l i) er∧w=w':=by
 obtain⟨b,off,rfl,hb,hc⟩:=h.at_ i hi;have r0:=h.r0;have p0:=h.p0;have c1:w.cell? ⟨b,off+i*5+1,none⟩=some (.int .i64 (YY l i)):=hc 1 (by decide)
 have q0:(i:Int)<(l.length:Int):=by omega
 clear h hc
 go_enter Tryz.func58,Tryz.ntmps58
 go_wp2
 exact⟨rfl,rfl,rfl⟩
theorem vV (w:World)(a p:Nat)(A:Option Addr)(ct:Nat)(l:List Tx)(i:Nat)(h:RdS w a p A ct l)(hi:i<l.length) :
  Calls Tryz.prog 28 #[.pointer (some ⟨a,0,none⟩),.int .i64 (i:Int)] w fun e w'=>e=.returned (.agg (vX l i))∧Ext w w':=by
 obtain⟨b,off,rfl,hb,hc⟩:=h.at_ i hi;have r0:=h.r0;have p0:=h.p0;have al:=h.al;have pl:=h.pl;unfold vX at *;generalize (xC (tN l) i).kind=nk at *;generalize YY l i=np at *;generalize (xC (tN l) i).text=nt at *;generalize (xC (tN l) i).num=nn at *;generalize (xC (tN l) i).kids.length=kn at *;generalize (hdN l i).1=kA at *;generalize (hdN l i).2=kc at *;have c0:w.cell? ⟨b,off+i*5,none⟩=some (.int .u8 (nk:Int)):=hc 0 (by decide);have c1:w.cell? ⟨b,off+i*5+1,none⟩=some (.int .i64 np):=hc 1 (by decide);have c2:w.cell? ⟨b,off+i*5+2,none⟩=some (.string (xI nt)):=hc 2 (by decide);have c3:w.cell? ⟨b,off+i*5+3,none⟩=some (.int .i64 nn):=hc 3 (by decide);have c4:w.cell? ⟨b,off+i*5+4,none⟩=some (.slice kA kn kc):=hc 4 (by decide)
 have q0:(i:Int)<(l.length:Int):=by omega
 clear h hc
 go_enter Tryz.func28,Tryz.ntmps28
 go_wp2
 refine bodyPost_ret (v:=.agg #[.int .u8 (nk:Int),.int .i64 np,.string (xI nt),.int .i64 nn,.slice kA kn kc]) (by simp[results,Tryz.results28,go_sem]) rfl ⟨rfl,?_⟩;exact Ext.alloc _ _
structure ZO (R R':DyN):Prop where
 j:R'.j=R.j
 sz:R'.pc.size=R.pc.size
 pc:∀i,i≠R.j*5+2→R'.pc[i]?=R.pc[i]?
theorem ZO.refl (R:DyN):ZO R R:=⟨rfl,rfl,fun _ _=>rfl⟩
theorem ZO.trans {R R1 R2:DyN}(h:ZO R R1)(k:ZO R1 R2):ZO R R2:=⟨k.j.trans h.j,k.sz.trans h.sz,fun i hi=>(k.pc i (by rw[h.j]; exact hi)).trans (h.pc i hi)⟩
def OkN (w:World)(S:StN)(R:DyN)(s':Nr)(w':World):Prop:=∃R',ZO R R'∧NB w' S s' R'∧xD w (xM S R) w' (xM S R')
def jR (w:World)(S:StN)(R:DyN)(r:YQ Nr)(v:Nr→Value)(e:Ending)(w':World):Prop:=
 match r with
 | .ok s'=>e=.returned (v s')∧OkN w S R s' w'
 | .err i er=>e=XG (YY S.l i) er∧i<S.l.length∧∃M',xD w (xM S R) w' M'
def vU:Nr→Value:=fun _=>.tuple #[]
theorem OkN.trans {w w1 w2:World}{S:StN}{R R1:DyN}{s:Nr}(hs:ZO R R1)(h:xD w (xM S R) w1 (xM S R1))(k:OkN w1 S R1 s w2):OkN w S R s w2:=let ⟨R2,a,b,c⟩:=k; ⟨R2,hs.trans a,b,h.trans c⟩
theorem jR.trans {w w1 w2:World}{S:StN}{R R1:DyN}{r:YQ Nr}{v:Nr→Value}{e:Ending}(hs:ZO R R1)(h:xD w (xM S R) w1 (xM S R1))(k:jR w1 S R1 r v e w2):jR w S R r v e w2:=by
 cases r with
 | ok s=>exact⟨k.1,OkN.trans hs h k.2⟩
 | err i er=>obtain⟨a,b,M,c⟩:=k; exact⟨a,b,M,h.trans c⟩
theorem jR.err {w w':World}{S:StN}{R:DyN}{r:YQ Nr}{v:Nr→Value}{i:Nat}{er:Int}(hr:r=.err i er)(hi:i<S.l.length)(hx:Ext w w'):jR w S R r v (XG (YY S.l i) er) w':=by
 rw[hr];exact⟨rfl,hi,_,xD.ext (M:=xM S R) hx⟩
theorem NB.zRC {w w1:World}{S:StN}{s:Nr}{R:DyN}(h:NB w1 S s R)(hx:Ext w w1)(i:Nat)(x:Int):OkN w S R (s.set i x) (w1.setCell ⟨S.bo,i,none⟩ (.int .i64 x)):=
 let k:=h.setOf i x
 ⟨R,ZO.refl R,k.1,(xD.ext hx).trans k.2⟩
theorem NB.rds {w:World}{S:StN}{s:Nr}{R:DyN}(h:NB w S s R):RdS w S.a S.p S.A S.ct S.l:=⟨h.rd.cell 0,h.st.prog.1.cell 0,h.st.tree.row.cells,h.rd.lt,h.st.prog.1.lt⟩
theorem NB.x1 {w:World}{S:StN}{s:Nr}{R:DyN}(h:NB w S s R):w.cell? ⟨S.a,1,none⟩=some (.map (some S.mt)):=h.rd.cell 1
theorem NB.x2 {w:World}{S:StN}{s:Nr}{R:DyN}(h:NB w S s R):w.cell? ⟨S.a,2,none⟩=some (.slice S.Ac s.xH.length S.cc):=h.rd.cell 2
theorem NB.x3 {w:World}{S:StN}{s:Nr}{R:DyN}(h:NB w S s R):w.cell? ⟨S.a,3,none⟩=some (.pointer (some ⟨S.bp,R.j*5,none⟩)):=h.rd.cell 3
theorem NB.x4 {w:World}{S:StN}{s:Nr}{R:DyN}(h:NB w S s R):w.cell? ⟨S.a,4,none⟩=some (.slice R.Ab s.blocks.length R.cb):=h.rd.cell 4
theorem NB.p1 {w:World}{S:StN}{s:Nr}{R:DyN}(h:NB w S s R):w.cell? ⟨S.p,1,none⟩=some (.slice S.At s.xH.length S.cT):=h.st.prog.1.cell 1
theorem NB.p3 {w:World}{S:StN}{s:Nr}{R:DyN}(h:NB w S s R):w.cell? ⟨S.p,3,none⟩=some (.slice (some ⟨S.bo,0,none⟩) S.l.length S.co):=h.st.prog.1.cell 3
theorem NB.zBZ {w:World}{S:StN}{s:Nr}{R:DyN}(h:NB w S s R)(i:Nat)(hi:i<S.l.length):w.cell? ⟨S.bo,i,none⟩=some (.int .i64 (zAO s i)):=by
 rw[h.of.cell i]
 show(ofc s.of).toArray[i]?=_
 rw[yL,zOl _ _ (by rw[h.len]; exact hi)]
 rfl
theorem NB.ofz {w:World}{S:StN}{s:Nr}{R:DyN}(h:NB w S s R)(i:Nat):w.frozen? ⟨S.bo,i,none⟩=false:=h.of.frozen i
theorem zDJ (l:List Tx)(i:Nat)(w:World):(Instr.field 39 (.agg (vX l i)) 0).run Tryz.prog w=.ok (.int .u8 ((xC (tN l) i).kind:Int)) w:=by kernel_rfl
theorem XX (l:List Tx)(i:Nat)(w:World):(Instr.field 39 (.agg (vX l i)) 2).run Tryz.prog w=.ok (.string (xI (xC (tN l) i).text)) w:=by kernel_rfl
theorem zFj (l:List Tx)(i:Nat)(w:World):(Instr.field 39 (.agg (vX l i)) 4).run Tryz.prog w=.ok (.slice (hdN l i).1 (xC (tN l) i).kids.length (hdN l i).2) w:=by kernel_rfl
theorem zFI (w:World)(S:StN)(s:Nr)(R:DyN)(i:Nat)(h:NB w S s R)(hi:i<S.l.length) :
  Calls Tryz.prog 133 #[.pointer (some ⟨S.a,0,none⟩),.int .i64 (i:Int)] w (jR w S R (ofN (tN S.l) i s) (fun s'=>.int .i64 (zAO s' i))):=by
 have HNB:=yG h;have HRD:=yG h.rds;have HIL:=yG hi;have HTX:Hid ((xC (tN S.l) i).text.length≤maxLen):=yG (h.st.tree.txt i);have HMT:Hid (MF Tryz.prog 9 w S.mt 64 fun n=>zBs (zCg s n)):=yG h.st.mt.1;have x1:=h.x1;have al:=h.rd.lt;clear h hi
 cases hk:zCg s (xC (tN S.l) i).text with
 | none=>
  have HK:=yG hk;have HR:Hid (ofN (tN S.l) i s=.err i 70):=yG (by unfold ofN; rw[hk]);clear hk
  go_enter Tryz.func133,Tryz.ntmps133
  go_wp2_with fail
  apply YX (by kernel_rfl) (by kernel_rfl) (by kernel_rfl);apply yZ (.pointer (some ⟨S.a,0,none⟩)) rfl rfl rfl
  ·intro w' hw' hH;clear hH;simp[xB,go_sem];exact Ext.refl _
  apply yZ (.pointer (some ⟨S.a,0,none⟩)) rfl rfl rfl
  ·intro w' hw' hH;clear hH;simp[xB,go_sem];exact Ext.refl _
  apply yZ (.pointer (some ⟨S.a,1,none⟩)) rfl rfl rfl
  ·intro w' hw' hH;clear hH;simp[xB,go_sem];exact Ext.refl _
  apply yZ (.map (some S.mt)) rfl rfl rfl
  ·intro w' hw' hH;clear hH;have z0:=(hw'.cell (p:=⟨S.a,1,none⟩) al).trans x1;simp[xB,go_sem,z0];exact Ext.refl _
  apply yZ (.pointer (some ⟨S.a,0,none⟩)) rfl rfl rfl
  ·intro w' hw' hH;clear hH;simp[xB,go_sem];exact Ext.refl _
  apply yZ (.int .i64 (i:Int)) rfl rfl rfl
  ·intro w' hw' hH;clear hH;simp[xB,go_sem];exact Ext.refl _
  apply yZ (.agg (vX S.l i)) rfl rfl rfl
  ·intro w' hw' hH;clear hH;simp[xB,go_sem];refine(vV w' S.a S.p S.A S.ct S.l i (HRD.out.ext hw') HIL.out).mono ?_;rintro e w2 ⟨rfl,hx⟩;exact⟨_,rfl,rfl,hx⟩
  apply yZ (.string (xI (xC (tN S.l) i).text)) rfl rfl rfl
  ·intro w' hw' hH;clear hH;simp[xB,go_sem,XX];exact Ext.refl _
  apply yZ (.tuple #[.int .i64 0,.bool false]) rfl rfl rfl
  ·intro w' hw' hH;clear hH;have hlk:=(HMT.out.ext hw').get (t:=81) (e:=3) (z:=.int .i64 0) Tryz.underlying9 Tryz.underlying81 (by rfl) (xC (tN S.l) i).text HTX.out;rw[HK.out] at hlk;simp only[zBs,Option.map_some,Option.map_none,Option.getD_some,Option.getD_none,Option.isSome_some,Option.isSome_none] at hlk;simp[xB,go_sem,hlk];exact Ext.refl _
  apply yZ (.tuple #[.int .i64 0,.bool false]) rfl rfl rfl
  ·intro w' hw' hH;clear hH;simp[xB,go_sem];exact Ext.refl _
  apply yZ (.int .i64 0) rfl rfl rfl
  ·intro w' hw' hH;clear hH;simp[xB,go_sem];exact Ext.refl _
  apply yZ (.bool false) rfl rfl rfl
  ·intro w' hw' hH;clear hH;simp[xB,go_sem];exact Ext.refl _
  apply yZ (.int .i64 0) rfl rfl rfl
  ·intro w' hw' hH;clear hH;simp[xB,go_sem];exact Ext.refl _
  apply yZ (.bool false) rfl rfl rfl
  ·intro w' hw' hH;clear hH;simp[xB,go_sem];exact Ext.refl _
  apply vC;intro w1 hx1 hH;simp only[Act.put,yD,yF,yE];have HX:=yG hx1;clear hx1 hH x1 al
  go_wp2_with fail
  refine(JP w1 S.a S.p S.A S.ct S.l i 70 (HRD.out.ext HX.out) HIL.out).mono ?_;rintro e w2 ⟨rfl,rfl⟩;exact xK (P:=Tryz.prog) (fn:=Tryz.f133) rfl (jR.err HR.out HIL.out HX.out)
 | some k=>
  have HK:=yG hk;have HR:Hid (ofN (tN S.l) i s=.ok (s.set i k)):=yG (by unfold ofN; rw[hk]);clear hk
  go_enter Tryz.func133,Tryz.ntmps133
  go_wp2_with fail
  apply YX (by kernel_rfl) (by kernel_rfl) (by kernel_rfl);apply yZ (.pointer (some ⟨S.a,0,none⟩)) rfl rfl rfl
  ·intro w' hw' hH;clear hH;simp[xB,go_sem];exact Ext.refl _
  apply yZ (.pointer (some ⟨S.a,0,none⟩)) rfl rfl rfl
  ·intro w' hw' hH;clear hH;simp[xB,go_sem];exact Ext.refl _
  apply yZ (.pointer (some ⟨S.a,1,none⟩)) rfl rfl rfl
  ·intro w' hw' hH;clear hH;simp[xB,go_sem];exact Ext.refl _
  apply yZ (.map (some S.mt)) rfl rfl rfl
  ·intro w' hw' hH;clear hH;have z0:=(hw'.cell (p:=⟨S.a,1,none⟩) al).trans x1;simp[xB,go_sem,z0];exact Ext.refl _
  apply yZ (.pointer (some ⟨S.a,0,none⟩)) rfl rfl rfl
  ·intro w' hw' hH;clear hH;simp[xB,go_sem];exact Ext.refl _
  apply yZ (.int .i64 (i:Int)) rfl rfl rfl
  ·intro w' hw' hH;clear hH;simp[xB,go_sem];exact Ext.refl _
  apply yZ (.agg (vX S.l i)) rfl rfl rfl
  ·intro w' hw' hH;clear hH;simp[xB,go_sem];refine(vV w' S.a S.p S.A S.ct S.l i (HRD.out.ext hw') HIL.out).mono ?_;rintro e w2 ⟨rfl,hx⟩;exact⟨_,rfl,rfl,hx⟩
  apply yZ (.string (xI (xC (tN S.l) i).text)) rfl rfl rfl
  ·intro w' hw' hH;clear hH;simp[xB,go_sem,XX];exact Ext.refl _
  apply yZ (.tuple #[.int .i64 (k:Int),.bool true]) rfl rfl rfl
  ·intro w' hw' hH;clear hH;have hlk:=(HMT.out.ext hw').get (t:=81) (e:=3) (z:=.int .i64 0) Tryz.underlying9 Tryz.underlying81 (by rfl) (xC (tN S.l) i).text HTX.out;rw[HK.out] at hlk;simp only[zBs,Option.map_some,Option.map_none,Option.getD_some,Option.getD_none,Option.isSome_some,Option.isSome_none] at hlk;simp[xB,go_sem,hlk];exact Ext.refl _
  apply yZ (.tuple #[.int .i64 (k:Int),.bool true]) rfl rfl rfl
  ·intro w' hw' hH;clear hH;simp[xB,go_sem];exact Ext.refl _
  apply yZ (.int .i64 (k:Int)) rfl rfl rfl
  ·intro w' hw' hH;clear hH;simp[xB,go_sem];exact Ext.refl _
  apply yZ (.bool true) rfl rfl rfl
  ·intro w' hw' hH;clear hH;simp[xB,go_sem];exact Ext.refl _
  apply yZ (.int .i64 (k:Int)) rfl rfl rfl
  ·intro w' hw' hH;clear hH;simp[xB,go_sem];exact Ext.refl _
  apply yZ (.bool true) rfl rfl rfl
  ·intro w' hw' hH;clear hH;simp[xB,go_sem];exact Ext.refl _
  apply vC;intro w1 hx1 hH;simp only[Act.put,yD,yF,yE];have HX:=yG hx1;clear hx1 hH x1 al
  go_wp2_with fail
  refine(XC w1 (.pointer (some ⟨S.a,0,none⟩)) (i:Int) 70).mono ?_;rintro e w2 ⟨rfl,rfl⟩;have HN1:=yG (HNB.out.ext HX.out);have r0:=HN1.out.rds.r0;have p3:=HN1.out.p3;have co:=HN1.out.zBZ i HIL.out;have cz:=HN1.out.ofz i
  have q0:(i:Int)<(S.l.length:Int):=by have:=HIL.out; omega
  have HOK:=yG (HN1.out.zRC HX.out i (k:Int))
  go_wp2_with fail
  go_ret;rw[HR.out];refine⟨?_,HOK.out⟩;have hg:zAO (s.set i (k:Int)) i=(k:Int):=zAo (by rw[HNB.out.len]; exact HIL.out)
  show Ending.returned (.int .i64 (k:Int))=Ending.returned (.int .i64 (zAO (s.set i (k:Int)) i))
  rw[hg]
theorem NB.zUF {w:World}{S:StN}{s:Nr}{R:DyN}(h:NB w S s R)(t:Nat)(x:Nt)(ht:s.xH[t]?=some x) :
  ∃cb co mb,S.Ac=some ⟨cb,co,none⟩∧cb<w.heap.size∧w.cell? ⟨cb,co+t,none⟩=some (.map (some mb))∧MF Tryz.prog 9 w mb 64 fun n=>zBs (x.zA0.findIdx? fun c=>c==n):=by
 obtain⟨hlt,_⟩:=List.getElem?_eq_some_iff.1 ht;have hcl:=h.st.cml;obtain⟨b,off,hA,hb,hcc⟩:=h.st.zA0.cells.at_ (by rw[zCp]; omega)
 have hk:t<S.cm.length:=by omega
 exact⟨b,off,S.cm[t],hA,hb,by rw[hcc t (by rw[zCp]; omega)]; exact zL3 _ _ hk,(h.st.zD8 t _ x ht (yJ hk)).1⟩
theorem zD4 (w:World)(S:StN)(s:Nr)(R:DyN)(i t:Nat)(x:Nt)(ht:s.xH[t]?=some x)(h:NB w S s R)(hi:i<S.l.length) :
  Calls Tryz.prog 132 #[.pointer (some ⟨S.a,0,none⟩),.int .i64 (i:Int),.int .i64 (t:Int)] w (jR w S R (ZH (tN S.l) i (t:Int) s) vU):=by
 have HNB:=yG h;have HRD:=yG h.rds;have HIL:=yG hi;have HTX:Hid ((xC (tN S.l) i).text.length≤maxLen):=yG (h.st.tree.txt i);obtain⟨cb,co,mb,hAc,hcb,hmc,hmf⟩:=h.zUF t x ht;have HMT:=yG hmf;have HCO:Hid (zSG s (t:Int).toNat (xC (tN S.l) i).text=x.zA0.findIdx? fun c=>c==(xC (tN S.l) i).text):=yG (by unfold zSG; rw[zI,ht]; rfl);have htl:=(List.getElem?_eq_some_iff.1 ht).1
 have q1:(t:Int)<(s.xH.length:Int):=by omega
 have x2:=h.x2;rw[hAc] at x2;have al:=h.rd.lt;have xm:=hmc;have cbl:=hcb;clear h hi ht hmf hmc hcb hAc htl
 cases hk:(x.zA0.findIdx? fun c=>c==(xC (tN S.l) i).text) with
 | none=>
  have HK:=yG hk;have HR:Hid (ZH (tN S.l) i (t:Int) s=.err i 70):=yG (by unfold ZH; rw[HCO.out,hk]);clear hk
  go_enter Tryz.func132,Tryz.ntmps132
  go_upto_region 0 with fail
  apply YX (by kernel_rfl) (by kernel_rfl) (by kernel_rfl);apply yZ (.pointer (some ⟨S.a,0,none⟩)) rfl rfl rfl
  ·intro w' hw' hH;clear hH;simp[xB,go_sem];exact Ext.refl _
  apply yZ (.pointer (some ⟨S.a,0,none⟩)) rfl rfl rfl
  ·intro w' hw' hH;clear hH;simp[xB,go_sem];exact Ext.refl _
  apply yZ (.pointer (some ⟨S.a,2,none⟩)) rfl rfl rfl
  ·intro w' hw' hH;clear hH;simp[xB,go_sem];exact Ext.refl _
  apply yZ (.slice (some ⟨cb,co,none⟩) s.xH.length S.cc) rfl rfl rfl
  ·intro w' hw' hH;clear hH;have z0:=(hw'.cell (p:=⟨S.a,2,none⟩) al).trans x2;simp[xB,go_sem,z0];exact Ext.refl _
  apply yZ (.int .i64 (t:Int)) rfl rfl rfl
  ·intro w' hw' hH;clear hH;simp[xB,go_sem];exact Ext.refl _
  apply yZ (.pointer (some ⟨cb,co+t,none⟩)) rfl rfl rfl
  ·intro w' hw' hH;clear hH;simp[xB,go_sem,q1];exact Ext.refl _
  apply yZ (.map (some mb)) rfl rfl rfl
  ·intro w' hw' hH;clear hH;have z0:=(hw'.cell (p:=⟨cb,co+t,none⟩) cbl).trans xm;simp[xB,go_sem,z0];exact Ext.refl _
  apply yZ (.pointer (some ⟨S.a,0,none⟩)) rfl rfl rfl
  ·intro w' hw' hH;clear hH;simp[xB,go_sem];exact Ext.refl _
  apply yZ (.int .i64 (i:Int)) rfl rfl rfl
  ·intro w' hw' hH;clear hH;simp[xB,go_sem];exact Ext.refl _
  apply yZ (.agg (vX S.l i)) rfl rfl rfl
  ·intro w' hw' hH;clear hH;simp[xB,go_sem];refine(vV w' S.a S.p S.A S.ct S.l i (HRD.out.ext hw') HIL.out).mono ?_;rintro e w2 ⟨rfl,hx⟩;exact⟨_,rfl,rfl,hx⟩
  apply yZ (.string (xI (xC (tN S.l) i).text)) rfl rfl rfl
  ·intro w' hw' hH;clear hH;simp[xB,go_sem,XX];exact Ext.refl _
  apply yZ (.tuple #[.int .i64 0,.bool false]) rfl rfl rfl
  ·intro w' hw' hH;clear hH;have hlk:=(HMT.out.ext hw').get (t:=81) (e:=3) (z:=.int .i64 0) Tryz.underlying9 Tryz.underlying81 (by rfl) (xC (tN S.l) i).text HTX.out;rw[HK.out] at hlk;simp only[zBs,Option.map_some,Option.map_none,Option.getD_some,Option.getD_none,Option.isSome_some,Option.isSome_none] at hlk;simp[xB,go_sem,hlk];exact Ext.refl _
  apply yZ (.tuple #[.int .i64 0,.bool false]) rfl rfl rfl
  ·intro w' hw' hH;clear hH;simp[xB,go_sem];exact Ext.refl _
  apply yZ (.int .i64 0) rfl rfl rfl
  ·intro w' hw' hH;clear hH;simp[xB,go_sem];exact Ext.refl _
  apply yZ (.bool false) rfl rfl rfl
  ·intro w' hw' hH;clear hH;simp[xB,go_sem];exact Ext.refl _
  apply yZ (.int .i64 0) rfl rfl rfl
  ·intro w' hw' hH;clear hH;simp[xB,go_sem];exact Ext.refl _
  apply yZ (.bool false) rfl rfl rfl
  ·intro w' hw' hH;clear hH;simp[xB,go_sem];exact Ext.refl _
  apply vC;intro w1 hx1 hH;simp only[Act.put,yD,yF,yE];have HX:=yG hx1;clear hx1 hH x2 xm al
  go_wp2_with fail
  refine(JP w1 S.a S.p S.A S.ct S.l i 70 (HRD.out.ext HX.out) HIL.out).mono ?_;rintro e w2 ⟨rfl,rfl⟩;exact xK (P:=Tryz.prog) (fn:=Tryz.f132) rfl (jR.err HR.out HIL.out HX.out)
 | some c=>
  have HK:=yG hk;have HR:Hid (ZH (tN S.l) i (t:Int) s=.ok (s.set i c)):=yG (by unfold ZH; rw[HCO.out,hk]);clear hk
  go_enter Tryz.func132,Tryz.ntmps132
  go_upto_region 0 with fail
  apply YX (by kernel_rfl) (by kernel_rfl) (by kernel_rfl);apply yZ (.pointer (some ⟨S.a,0,none⟩)) rfl rfl rfl
  ·intro w' hw' hH;clear hH;simp[xB,go_sem];exact Ext.refl _
  apply yZ (.pointer (some ⟨S.a,0,none⟩)) rfl rfl rfl
  ·intro w' hw' hH;clear hH;simp[xB,go_sem];exact Ext.refl _
  apply yZ (.pointer (some ⟨S.a,2,none⟩)) rfl rfl rfl
  ·intro w' hw' hH;clear hH;simp[xB,go_sem];exact Ext.refl _
  apply yZ (.slice (some ⟨cb,co,none⟩) s.xH.length S.cc) rfl rfl rfl
  ·intro w' hw' hH;clear hH;have z0:=(hw'.cell (p:=⟨S.a,2,none⟩) al).trans x2;simp[xB,go_sem,z0];exact Ext.refl _
  apply yZ (.int .i64 (t:Int)) rfl rfl rfl
  ·intro w' hw' hH;clear hH;simp[xB,go_sem];exact Ext.refl _
  apply yZ (.pointer (some ⟨cb,co+t,none⟩)) rfl rfl rfl
  ·intro w' hw' hH;clear hH;simp[xB,go_sem,q1];exact Ext.refl _
  apply yZ (.map (some mb)) rfl rfl rfl
  ·intro w' hw' hH;clear hH;have z0:=(hw'.cell (p:=⟨cb,co+t,none⟩) cbl).trans xm;simp[xB,go_sem,z0];exact Ext.refl _
  apply yZ (.pointer (some ⟨S.a,0,none⟩)) rfl rfl rfl
  ·intro w' hw' hH;clear hH;simp[xB,go_sem];exact Ext.refl _
  apply yZ (.int .i64 (i:Int)) rfl rfl rfl
  ·intro w' hw' hH;clear hH;simp[xB,go_sem];exact Ext.refl _
  apply yZ (.agg (vX S.l i)) rfl rfl rfl
  ·intro w' hw' hH;clear hH;simp[xB,go_sem];refine(vV w' S.a S.p S.A S.ct S.l i (HRD.out.ext hw') HIL.out).mono ?_;rintro e w2 ⟨rfl,hx⟩;exact⟨_,rfl,rfl,hx⟩
  apply yZ (.string (xI (xC (tN S.l) i).text)) rfl rfl rfl
  ·intro w' hw' hH;clear hH;simp[xB,go_sem,XX];exact Ext.refl _
  apply yZ (.tuple #[.int .i64 (c:Int),.bool true]) rfl rfl rfl
  ·intro w' hw' hH;clear hH;have hlk:=(HMT.out.ext hw').get (t:=81) (e:=3) (z:=.int .i64 0) Tryz.underlying9 Tryz.underlying81 (by rfl) (xC (tN S.l) i).text HTX.out;rw[HK.out] at hlk;simp only[zBs,Option.map_some,Option.map_none,Option.getD_some,Option.getD_none,Option.isSome_some,Option.isSome_none] at hlk;simp[xB,go_sem,hlk];exact Ext.refl _
  apply yZ (.tuple #[.int .i64 (c:Int),.bool true]) rfl rfl rfl
  ·intro w' hw' hH;clear hH;simp[xB,go_sem];exact Ext.refl _
  apply yZ (.int .i64 (c:Int)) rfl rfl rfl
  ·intro w' hw' hH;clear hH;simp[xB,go_sem];exact Ext.refl _
  apply yZ (.bool true) rfl rfl rfl
  ·intro w' hw' hH;clear hH;simp[xB,go_sem];exact Ext.refl _
  apply yZ (.int .i64 (c:Int)) rfl rfl rfl
  ·intro w' hw' hH;clear hH;simp[xB,go_sem];exact Ext.refl _
  apply yZ (.bool true) rfl rfl rfl
  ·intro w' hw' hH;clear hH;simp[xB,go_sem];exact Ext.refl _
  apply vC;intro w1 hx1 hH;simp only[Act.put,yD,yF,yE];have HX:=yG hx1;clear hx1 hH x2 xm al q1
  go_wp2_with fail
  refine(XC w1 (.pointer (some ⟨S.a,0,none⟩)) (i:Int) 70).mono ?_;rintro e w2 ⟨rfl,rfl⟩;have HN1:=yG (HNB.out.ext HX.out);have r0:=HN1.out.rds.r0;have p3:=HN1.out.p3;have co:=HN1.out.zBZ i HIL.out;have cz:=HN1.out.ofz i
  have q0:(i:Int)<(S.l.length:Int):=by have:=HIL.out; omega
  have HOK:=yG (HN1.out.zRC HX.out i (c:Int))
  go_wp2_with fail
  go_end0;rw[HR.out];exact⟨rfl,HOK.out⟩
end Go.Proofs.YtbadjmmjbpeocaaGreatDoor
