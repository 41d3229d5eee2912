/- The reader of names: find, whole. (and what follows of it). The conditions stand at each lemma. -/
import Derived.Test.YtbadjmmjbpeocaaGreatKaa
import Derived.Test.YtbadjmmjbpeocaaGreatKah
set_option linter.unusedVariables false
set_option linter.unusedSimpArgs false
set_option maxRecDepth 100000
set_option maxHeartbeats 16000000
namespace Go.Proofs.YtbadjmmjbpeocaaGreat
open Go Go.RowKit Go.Shelf
attribute [local go_sem] Oper.semAt_some
theorem zS2 {β:Type}(g:Nat)(t:TypeId)(cs:β→Array Value):Own (fun (s:β) W=>Blk W g t (cs s)):=fun s X Y row hs hg hrow=>
 (hg.block g hs.lt fun e'=>by
  obtain⟨o,ho,hc⟩:=hrow g e'.symm;rw[show X.heap[g]?=_ from hs] at ho
  cases ho
  cases hc).trans hs
def zFh (bl:List (List Vr))(name:Bs)(i:Nat):Option Vr:=(bl.getD i (bl.headD [])).find? fun v=>v.name==name
def zHl (bl:List (List Vr))(name:Bs):Option Vr:=bl.reverse.findSome? fun b=>b.find? fun v=>v.name==name
def zF4 (o:Option Vr):Array Value:=match o with
 | none=>#[.int .i64 0,.bool false]
 | some v=>#[.int .i64 (v.n:Int),.bool v.loop]
theorem zSq (b:List Vr)(name:Bs):(vfV b name).getD (.agg #[.int .i64 0,.bool false])=.agg (zF4 (b.find? fun v=>v.name==name)):=by
 unfold vfV
 cases b.find? (fun v=>v.name==name) <;> rfl
theorem zSu (b:List Vr)(name:Bs):(vfV b name).isSome=(b.find? fun v=>v.name==name).isSome:=by
 unfold vfV
 cases b.find? (fun v=>v.name==name) <;> rfl
theorem zDF {α:Type}(l:List α)(d:α)(i:Nat)(h:i<l.length):l.reverse.getD i d=l.getD (l.length-1-i) d:=by
 rw[yH,yH,List.getElem?_reverse h]
theorem zJG {α β:Type}{f:α→Option β}{l:List α}(d:α)(h:∀i,i<l.length→f (l.getD i d)=none):l.findSome? f=none:=by
 rw[List.findSome?_eq_none_iff];intro x hx;obtain⟨i,hi,rfl⟩:=List.getElem_of_mem hx
 have:=h i hi
 rwa [yH,yJ hi] at this
theorem zGZ {α β:Type}{f:α→Option β}(d:α):∀ {l:List α} (k:Nat) {b:β},k<l.length→(∀i,i<k→f (l.getD i d)=none)→f (l.getD k d)=some b→l.findSome? f=some b
 | [],k,b,hk,_,_=>by simp at hk
 | x::l,0,b,hk,h,hb=>by
  rw[List.findSome?_cons,show f x=some b from hb]
 | x::l,k+1,b,hk,h,hb=>by
  rw[List.findSome?_cons,show f x=none from h 0 (by omega)];exact zGZ d k (by simpa using hk) (fun i hi=>h (i+1) (by omega)) hb
theorem zIz (n:Nat):∀(k i:Nat),k≤n→i<k→n-1-i ∈ idxs n k
 | 0,i,h1,h2=>by omega
 | k+1,i,h1,h2=>by
  rw[zKv]
  by_cases h:i=k
  ·rw[h]; simp
  ·exact List.mem_append_left _ (zIz n k i (by omega) (by omega))
theorem zO4 {bl:List (List Vr)}{name:Bs}{n:Nat}(hn:bl.length=n)(h:∀i ∈ idxs n n,zFh bl name i=none):zHl bl name=none:=by
 subst hn;refine zJG (bl.headD []) fun i hi=>?_;rw[List.length_reverse] at hi;rw[zDF _ _ _ hi];exact h _ (zIz _ _ _ (zX _) hi)
theorem zOI {bl:List (List Vr)}{name:Bs}{n:Nat}(hn:bl.length=n)(k:Nat)(hk:k<n)(h:∀i ∈ idxs n k,zFh bl name i=none){v:Vr}(hv:zFh bl name (n-1-k)=some v):zHl bl name=some v:=by
 subst hn;refine zGZ (bl.headD []) k (by rw[List.length_reverse]; exact hk) (fun i hi=>?_) ?_
 ·rw[zDF _ _ _ (by omega)];exact h _ (zIz _ _ _ (by omega) hi)
 ·rw[zDF _ _ _ hk];exact hv
theorem zDK {w w':World}{N M:Nat}(h:Below N w w')(hM:M≤N):Below M w w':=⟨h.os,h.tape,h.output,h.size,fun b hb=>h.block b (yU hb hM)⟩
theorem zSp (F:Fence)(n:Nat)(hf:F.fn 87)(hf1:F.fn 121)(hf2:F.fn 149)(hro:F.round=none)(hn:3≤n)(a:Nat)(ms:List Nat)(A:Option Addr)(cap:Nat)(bl:List (List Vr))(m:Nat)(name:Bs)(w:World)
  (h4:w.cell? ⟨a,4,none⟩=some (.slice A ms.length cap)) (ha:a<w.heap.size) (hc:Cells w A (YM ms)) (hlen:ms.length≤100000) (hbl:bl.length=ms.length)
  (hm:∀(k b:Nat) (x:List Vr),bl[k]?=some x→ms[k]?=some b→MF Tryz.prog 9 w b m (vfV x)) (hnm:name.length≤maxLen) :
  CallsIn F n Tryz.prog 87 #[.pointer (some ⟨a,0,none⟩),.string (xH name)] w fun e w'=>e=.returned (.tuple #[.agg (zF4 (zHl bl name)),.bool (zHl bl name).isSome])∧Below w.heap.size w w':=by
 have h1:1≤n:=by omega
 refine callsIn_of_wp_marks Tryz.func87 rfl hf ?_ hro;simp only[Tryz.ntmps87,List.size_toArray,zK,zL,Nat.reduceAdd,Nat.reduceSub,Array.replicate_succ,Array.replicate_zero,List.push_toArray,List.append_toArray,List.nil_append,yC];have c4:(((w.alloc (.cells #[.string (xH name)] 9)).alloc (.cells #[.int .i64 0,.bool false] 169)).alloc (.cells #[.bool false] 4)).cell? ⟨a,4,none⟩=some (.slice A ms.length cap):=((((Ext.alloc _ _).trans (Ext.alloc _ _)).trans (Ext.alloc _ _)).cell (p:=⟨a,4,none⟩) ha).trans h4
 gi_wp2_with (gi_at_call 121; refine(zTM F (n-1) hf1 hro _ _ _ _).mono ?_; rintro e w' ⟨rfl,rfl⟩)
 obtain⟨W0,hW0⟩:∃W0,(((w.alloc (.cells #[.string (xH name)] 9)).alloc (.cells #[.int .i64 0,.bool false] 169)).alloc (.cells #[.bool false] 4)).alloc (.cells #[.slice A ms.length cap] 113)=W0:=⟨_,rfl⟩
 have hs0:W0.heap.size=w.heap.size+4:=by rw[←hW0]; simp
 have bP:Boxed W0 w.heap.size 9 (.string (xH name)):=by
  rw[←hW0];exact((Boxed.new w 9 (.string (xH name))).alloc (.cells #[.int .i64 0,.bool false] 169)).alloc (.cells #[.bool false] 4) |>.alloc (.cells #[.slice A ms.length cap] 113)
 have bV:Blk W0 (w.heap.size+1) 169 #[.int .i64 0,.bool false]:=by
  rw[←hW0]
  have:=((Blk.new (w.alloc (.cells #[.string (xH name)] 9)) 169 #[.int .i64 0,.bool false]).alloc (.cells #[.bool false] 4)).alloc (.cells #[.slice A ms.length cap] 113)
  rwa [yT] at this
 have bR:Boxed W0 (w.heap.size+1+1) 4 (.bool false):=by
  rw[←hW0]
  have:=(Boxed.new ((w.alloc (.cells #[.string (xH name)] 9)).alloc (.cells #[.int .i64 0,.bool false] 169)) 4 (.bool false)).alloc (.cells #[.slice A ms.length cap] 113)
  rwa [yT,yT] at this
 have bN:Boxed W0 (w.heap.size+1+1+1) 113 (.slice A ms.length cap):=by
  rw[←hW0]
  have:=Boxed.new (((w.alloc (.cells #[.string (xH name)] 9)).alloc (.cells #[.int .i64 0,.bool false] 169)).alloc (.cells #[.bool false] 4)) 113 (.slice A ms.length cap)
  rwa [yT,yT,yT] at this
 have hBW:Below w.heap.size w W0:=by rw[←hW0]; exact((((Below.refl _ w).alloc (zX _) _).alloc (by simp) _).alloc (by simp; omega) _).alloc (by simp; omega) _
 clear c4;rw[hW0];have hc0:Cells W0 A (YM ms):=hc.ext hBW;have hA:∀b off,A=some ⟨b,off,none⟩→0<ms.length→b<W0.heap.size:=fun b off e h0=>zLL hc0 (by rw[zCb]; omega) b off e
 have hmW:∀(x:Nat) (W:World),0<ms.length→Below W0.heap.size W0 W→MF Tryz.prog 9 W (atM ms x) m (vfV (bl.getD x (bl.headD []))):=fun x W h0 hB=>by
  have hx:∃y,y<ms.length∧ms.getD x (ms.headD 0)=ms.getD y 0∧bl.getD x (bl.headD [])=bl.getD y []:=by
   by_cases hx:x<ms.length
   ·refine⟨x,hx,?_,?_⟩
    ·rw[yH,yH,yJ hx]; rfl
    ·rw[yH,yH,yJ (by omega)]; rfl
   ·refine⟨0,h0,?_,?_⟩
    ·rw[yH,zM (by omega)]
     cases ms with
     | nil=>simp at h0
     | cons y ys=>rfl
    ·rw[yH,zM (by omega)]
     cases bl with
     | nil=>simp at hbl; omega
     | cons y ys=>rfl
  obtain⟨y,hy,e1,e2⟩:=hx;unfold atM;rw[e1,e2]
  have hy2:y<bl.length:=by omega
  have e3:ms.getD y 0=ms[y]:=by rw[yH,yJ hy]; rfl
  have e4:bl.getD y []=bl[y]:=by rw[yH,yJ hy2]; rfl
  rw[e3,e4]
  have:=hm y ms[y] bl[y] (yJ hy2) (yJ hy)
  exact this.ext (hBW.trans (Below.mono hB (by omega)))
 refine wpIn_rangeFunc_ownH hro h1 (gf:=149) (lb:=#[.pointer (some ⟨w.heap.size+1+1+1,0,none⟩)]) rfl hf2 (enters_of Tryz.func149 (by kernel_rfl) rfl)
  (zO8 F (n-1) hf2 hro (by omega) (w.heap.size+1+1+1) A ms cap hlen W0 hA (by omega) bN.cell hc0) belowK_t (belowK_b (zX _)) (Below.refl _ _) (fun _=>rfl)
  (fun pre W=>(∀y ∈ pre,zFh bl name y=none)∧Below W0.heap.size W0 W)
  (fun c pre W=>((c=.ret∧∃pre' x v,pre=pre'++[x]∧(∀y ∈ pre',zFh bl name y=none)∧zFh bl name x=some v)∧Blk W (w.heap.size+1) 169 (zF4 (zFh bl name (pre.getLastD 0)))∧Boxed W (w.heap.size+1+1) 4 (.bool true))∧Below w.heap.size w W)
  (OwnFrom.and (ownFrom_pure _ _) (ownFrom_below (zX _) (zX _)))
  (fun c=>OwnFrom.and (OwnFrom.and (ownFrom_pure _ _) (OwnFrom.and (Own.from (zS2 (w.heap.size+1) 169 (fun pre:List Nat=>zF4 (zFh bl name (pre.getLastD 0)))) _) (Own.from (boxed_own (w.heap.size+1+1) 4 (fun _:List Nat=>.bool true)) _))) (ownFrom_below (zX _) (by omega)))
  ⟨by simp,Below.refl _ _⟩
  (fun x a' W=>a' = { tmps:=#[.pointer (some ⟨a,0,none⟩),.string (xH name),undef,.pointer (some ⟨w.heap.size,0,none⟩),.pointer (some ⟨w.heap.size+1,0,none⟩),.pointer (some ⟨w.heap.size+1+1,0,none⟩),undef,.map (some (atM ms x)),undef,undef,.pointer (some ⟨a,0,none⟩),.pointer (some ⟨a,0,none⟩),.pointer (some ⟨a,4,none⟩),.slice A ms.length cap,.func (.func 149) #[] #[.pointer (some ⟨w.heap.size+1+1+1,0,none⟩)],.int .i64 (x:Int),.map (some (atM ms x)),undef,undef,undef,undef,undef,undef,undef,undef,undef],defers:=[] })
  (fun x a'=>ownFrom_pure _ _) ?assign ?body ?done ?stop
 case assign=>
  rintro l pre x W K ⟨hp,hB⟩ hK;unfold zSW
  gi_wp2
  exact hK _ _ (KeepsFrom.refl _ _) (Below.refl _ _) ⟨hp,hB⟩ rfl
 case body=>
  rintro l pre x a' W hl hrec ⟨hp,hB⟩ rfl hlt;have hmx:=hmW x W (by omega) hB;have hlk:=hmx.get (t:=201) (e:=169) (z:=.agg #[.int .i64 0,.bool false]) Tryz.underlying9 Tryz.underlying201 (by rfl) name hnm;rw[zSq,zSu] at hlk;have hbp:Boxed W w.heap.size 9 (.string (xH name)):=(hB.block _ (by omega)).trans bP;have hbv:Blk W (w.heap.size+1) 169 #[.int .i64 0,.bool false]:=(hB.block _ (by omega)).trans bV;have hbr:Boxed W (w.heap.size+1+1) 4 (.bool false):=(hB.block _ (by omega)).trans bR;have hBw:Below w.heap.size w W:=Below.trans hBW (Below.mono hB hBW.size);have cp:=hbp.cell;have cr:=hbr.cell;have fr:=hbr.frozen;have cv0:=hbv.cell 0;have cv1:=hbv.cell 1;have fv0:=hbv.frozen 0;have fv1:=hbv.frozen 1
  have l0:w.heap.size<W.heap.size:=by have:=hB.size; omega
  have l1:w.heap.size+1<W.heap.size:=by have:=hB.size; omega
  have l2:w.heap.size+1+1<W.heap.size:=by have:=hB.size; omega
  have hws:w.heap.size+4≤W.heap.size:=by have:=hB.size; omega
  generalize hmb:atM ms x=mb at *
  cases hq:zFh bl name x with
  | some v=>
   have e1:(bl.getD x (bl.headD [])).find? (fun v=>v.name==name)=some v:=hq;rw[e1] at hlk;unfold zF4 at hlk;simp only[Option.isSome_some] at hlk
   gi_wp2
   have hlv:zFh bl name ((pre++[x]).getLastD 0)=some v:=by rw[List.getLastD_concat]; exact hq
   have hbv3:=(((hbv.put 0 (.int .i64 (v.n:Int))).put 1 (.bool v.loop)).far (p:=⟨w.heap.size+1+1,0,none⟩) (by simp) (.bool true)).alloc (.cells #[.int .i64 (v.n:Int),.bool v.loop] 169)
   have hbr3:Boxed ((((W.setCell ⟨w.heap.size+1,0,none⟩ (.int .i64 (v.n:Int))).setCell ⟨w.heap.size+1,1,none⟩ (.bool v.loop)).setCell ⟨w.heap.size+1+1,0,none⟩ (.bool true)).alloc (.cells #[.int .i64 (v.n:Int),.bool v.loop] 169)) (w.heap.size+1+1) 4 (.bool true):=by
    have hb:Blk W (w.heap.size+1+1) 4 #[.bool false]:=hbr;exact(((hb.far (p:=⟨w.heap.size+1,0,none⟩) (by simp) (.int .i64 (v.n:Int))).far (p:=⟨w.heap.size+1,1,none⟩) (by simp) (.bool v.loop)).put 0 (.bool true)).alloc (.cells #[.int .i64 (v.n:Int),.bool v.loop] 169)
   have hX3:Below w.heap.size w (((W.setCell ⟨w.heap.size+1,0,none⟩ (.int .i64 (v.n:Int))).setCell ⟨w.heap.size+1,1,none⟩ (.bool v.loop)).setCell ⟨w.heap.size+1+1,0,none⟩ (.bool true)):=
    ((hBw.setCell (p:=⟨w.heap.size+1,0,none⟩) (by show w.heap.size≤w.heap.size+1; omega) _).setCell (p:=⟨w.heap.size+1,1,none⟩) (by show w.heap.size≤w.heap.size+1; omega) _).setCell (p:=⟨w.heap.size+1+1,0,none⟩) (by show w.heap.size≤w.heap.size+1+1; omega) _
   refine⟨((((KeepsOthers.setCell _ _ _).trans (KeepsOthers.setCell _ _ _)).trans (KeepsOthers.setCell _ _ _)).trans (KeepsOthers.alloc _ _)).from _,⟨⟨rfl,pre,x,v,rfl,hp,hq⟩,?_,hbr3⟩,hX3.trans (zDK (Ext.alloc _ _) hX3.size)⟩;rw[hlv];exact hbv3
  | none=>
   have e1:(bl.getD x (bl.headD [])).find? (fun v=>v.name==name)=none:=hq;rw[e1] at hlk;unfold zF4 at hlk;simp only[Option.isSome_none] at hlk
   gi_wp2
   exact⟨(KeepsOthers.alloc _ _).from _,zDK (Ext.alloc _ _) hB.size,fun y hy=>(List.mem_append.1 hy).elim (hp y) (fun e=>by rw[List.mem_singleton.1 e]; exact hq),hB.trans (zDK (Ext.alloc _ _) hB.size)⟩
 case done=>
  rintro D ys W hD rfl ⟨hp,hB⟩ hK;have hbv:Blk W (w.heap.size+1) 169 #[.int .i64 0,.bool false]:=(hB.block _ (by omega)).trans bV;have hbr:Boxed W (w.heap.size+1+1) 4 (.bool false):=(hB.block _ (by omega)).trans bR;have hBw:Below w.heap.size w W:=Below.trans hBW (Below.mono hB hBW.size);have hlr:=zO4 hbl hp;have cr:=hbr.cell;have fr:=hbr.frozen;have cv0:=hbv.cell 0;have cv1:=hbv.cell 1;have fv0:=hbv.frozen 0;have fv1:=hbv.frozen 1
  gi_wp2
  have hbv3:=((hbv.put 0 (.int .i64 0)).put 1 (.bool false)).far (p:=⟨w.heap.size+1+1,0,none⟩) (by simp) (.bool false)
  have hbr3:Boxed (((W.setCell ⟨w.heap.size+1,0,none⟩ (.int .i64 0)).setCell ⟨w.heap.size+1,1,none⟩ (.bool false)).setCell ⟨w.heap.size+1+1,0,none⟩ (.bool false)) (w.heap.size+1+1) 4 (.bool false):=by
   have hb:Blk W (w.heap.size+1+1) 4 #[.bool false]:=hbr;exact((hb.far (p:=⟨w.heap.size+1,0,none⟩) (by simp) (.int .i64 0)).far (p:=⟨w.heap.size+1,1,none⟩) (by simp) (.bool false)).put 0 (.bool false)
  have hB3:Below w.heap.size w (((W.setCell ⟨w.heap.size+1,0,none⟩ (.int .i64 0)).setCell ⟨w.heap.size+1,1,none⟩ (.bool false)).setCell ⟨w.heap.size+1+1,0,none⟩ (.bool false)):=
   ((hBw.setCell (p:=⟨w.heap.size+1,0,none⟩) (by show w.heap.size≤w.heap.size+1; omega) _).setCell (p:=⟨w.heap.size+1,1,none⟩) (by show w.heap.size≤w.heap.size+1; omega) _).setCell (p:=⟨w.heap.size+1+1,0,none⟩) (by show w.heap.size≤w.heap.size+1+1; omega) _
  have hK':=(((KeepsOthers.setCell W ⟨w.heap.size+1,0,none⟩ (.int .i64 0)).trans (KeepsOthers.setCell _ ⟨w.heap.size+1,1,none⟩ (.bool false))).trans (KeepsOthers.setCell _ ⟨w.heap.size+1+1,0,none⟩ (.bool false))).same D _ hK rfl;refine⟨by simp,.inl ⟨_,_,rfl,run_takeDeferred hK',?_⟩⟩;have k0:=cell_kept (hbv3.cell 0) (grownBy_putObj' _ D (.deferred none)) (fun r e=>by cases e; exact⟨_,hK',rfl⟩);have k1:=cell_kept (hbv3.cell 1) (grownBy_putObj' _ D (.deferred none)) (fun r e=>by cases e; exact⟨_,hK',rfl⟩);have k2:=cell_kept hbr3.cell (grownBy_putObj' _ D (.deferred none)) (fun r e=>by cases e; exact⟨_,hK',rfl⟩);refine⟨.tuple #[.agg #[.int .i64 0,.bool false],.bool false],?_,by rw[hlr]; rfl,hB3.trans (belowK_b (w:=w) (zX _) _ D _ _ (by omega) hK' rfl rfl)⟩
  have k0':(((((W.setCell ⟨w.heap.size+1,0,none⟩ (.int .i64 0)).setCell ⟨w.heap.size+1,1,none⟩ (.bool false)).setCell ⟨w.heap.size+1+1,0,none⟩ (.bool false))).putObj D (.deferred none)).cell? ⟨w.heap.size+1,0,none⟩=some (.int .i64 0):=by rw[k0]; simp
  have k1':(((((W.setCell ⟨w.heap.size+1,0,none⟩ (.int .i64 0)).setCell ⟨w.heap.size+1,1,none⟩ (.bool false)).setCell ⟨w.heap.size+1+1,0,none⟩ (.bool false))).putObj D (.deferred none)).cell? ⟨w.heap.size+1,1,none⟩=some (.bool false):=by rw[k1]; simp
  simp[results,Tryz.f87,go_sem,k0',k1',k2]
 case stop=>
  rintro D c pre W hD ⟨k,hk,hpre⟩ ⟨⟨⟨rfl,pre',x,v,hpx,hne,hxq⟩,hbv,hbr⟩,hB⟩ hK
  have hlast:pre'=idxs ms.length k∧x=ms.length-1-k:=by
   rw[hpx,zKv] at hpre
   have:=List.append_inj' hpre rfl
   exact⟨this.1,by simpa using this.2⟩
  obtain⟨rfl,rfl⟩:=hlast;have hlr:=zOI hbl k hk hne hxq;rw[hpx,List.getLastD_concat,hxq] at hbv
  gi_wp2
  refine⟨by simp,.inl ⟨_,_,rfl,run_takeDeferred hK,?_⟩⟩;have k0:(W.putObj D (.deferred none)).cell? ⟨w.heap.size+1,0,none⟩=some (.int .i64 (v.n:Int)):=cell_kept (hbv.cell 0) (grownBy_putObj' _ D (.deferred none)) (fun r e=>by cases e; exact⟨_,hK,rfl⟩);have k1:(W.putObj D (.deferred none)).cell? ⟨w.heap.size+1,1,none⟩=some (.bool v.loop):=cell_kept (hbv.cell 1) (grownBy_putObj' _ D (.deferred none)) (fun r e=>by cases e; exact⟨_,hK,rfl⟩);have k2:=cell_kept hbr.cell (grownBy_putObj' _ D (.deferred none)) (fun r e=>by cases e; exact⟨_,hK,rfl⟩);refine⟨.tuple #[.agg #[.int .i64 (v.n:Int),.bool v.loop],.bool true],?_,by rw[hlr]; rfl,hB.trans (belowK_b (w:=w) (zX _) W D _ _ (by omega) hK rfl rfl)⟩;simp[results,Tryz.f87,go_sem,k0,k1,k2]
theorem zQ6 (a:Nat)(ms:List Nat)(A:Option Addr)(cap:Nat)(bl:List (List Vr))(m:Nat)(name:Bs)(w:World)
  (h4:w.cell? ⟨a,4,none⟩=some (.slice A ms.length cap)) (ha:a<w.heap.size) (hc:Cells w A (YM ms)) (hlen:ms.length≤100000) (hbl:bl.length=ms.length)
  (hm:∀(k b:Nat) (x:List Vr),bl[k]?=some x→ms[k]?=some b→MF Tryz.prog 9 w b m (vfV x)) (hnm:name.length≤maxLen) :
  Calls Tryz.prog 87 #[.pointer (some ⟨a,0,none⟩),.string (xH name)] w fun e w'=>e=.returned (.tuple #[.agg (zF4 (zHl bl name)),.bool (zHl bl name).isSome])∧Ext w w':=
 (callsIn_wide (n:=9)).1 (zSp Fence.wide 9 trivial trivial trivial rfl (by omega) a ms A cap bl m name w h4 ha hc hlen hbl hm hnm)
end Go.Proofs.YtbadjmmjbpeocaaGreat
namespace Go.Proofs.YtbadjmmjbpeocaaGreat
open Go Go.RowKit
def vO (X:List PanicEntry→World→Prop)(P:Program)(ρ:Operand→Value)(o:Oper)(w:World)(F:Value→World→Prop):Prop:=
 match (execOp ρ o).run P w with
 | .ok (.value u) w'=>F u w'
 | .ok .skip w'=>F undef w'
 | .ok (.enter f args) w'=>Calls P f args w' fun e w''=>(∃u,e=.returned u∧F u w'')∨∃c,e=.panicked c∧X c w''
 | _=>False
theorem vO.mono {X:List PanicEntry→World→Prop}{P:Program}{ρ:Operand→Value}{o:Oper}{w:World}{F G:Value→World→Prop}(h:vO X P ρ o w F)(hFG:∀v w',F v w'→G v w'):vO X P ρ o w G:=by
 unfold vO at *;generalize (execOp ρ o).run P w=r at *
 cases r with
 | ok n w'=>
  cases n with
  | value u=>exact hFG _ _ h
  | skip=>exact hFG _ _ h
  | enter f args=>exact Calls.mono h fun e w'' hh=>hh.imp (fun ⟨u,he,hf⟩=>⟨u,he,hFG _ _ hf⟩) id
  | _=>exact h
 | halt x w'=>exact h
theorem zJN {X:List PanicEntry→World→Prop}{P:Program}{o:Oper}{a:Act}{w:World}{F:Value→World→Prop}{K:Act→World→Prop}{Q:Exit→Act→World→Prop}
  (h:vO X P a.eval o w F) (hk:∀v w',F v w'→K (a.put o.dst v) w') (hX:∀c w',X c w'→Q (.panic c) a w'):o.wp P a w K Q:=by
 unfold vO at h;unfold Oper.wp;generalize (execOp a.eval o).run P w=r at *
 cases r with
 | ok n w'=>
  cases n with
  | value u=>exact hk _ _ h
  | skip=>exact hk _ _ h
  | enter f args=>exact Calls.mono h fun e w'' hh=>by rcases hh with ⟨u,he,hf⟩ | ⟨c,he,hx⟩ <;> subst he <;> first | exact hk _ _ hf | exact hX _ _ hx
  | _=>exact h.elim
 | halt x w'=>exact h.elim
section
variable (X:List PanicEntry→World→Prop) (P:Program) (ops:Array Oper) (R:World→World→Prop) (w0:World) (Q:Act→World→Prop)
def zLk (o:Oper)(a:Act)(H:List (Option Tmp × (World→Prop)))(F:Value→World→Prop):Prop:=
 ∀w,R w0 w→(∀p ∈ H,(∃t,p.1=some t∧t ∈ o.looksAt ops)→p.2 w) →
  if Region.wanted o (yielded ops a.tmps)=true then vO X P a.eval o w (fun v w'=>F v w'∧R w w') else F undef w
def zA1:List Oper→List Take→Act→List (Option Tmp × (World→Prop))→Prop
 | [],_,a,H=>∀w,R w0 w→(∀p ∈ H,p.2 w)→Q a w
 | o::l,.det v0::ks,a,H=>zLk X P ops R w0 o a H (fun v _=>v=v0)∧zA1 l ks (a.put o.dst v0) H
 | o::l,.fact F::ks,a,H=>(∀v w w',F v w→R w w'→F v w')∧zLk X P ops R w0 o a H F∧∀v,zA1 l ks (a.put o.dst v) ((o.dst,F v)::H)
 | _::_,[],_,_=>False
end
section
variable {X:List PanicEntry→World→Prop} {P:Program} {ops:Array Oper} {R:World→World→Prop} {w0:World} {Q:Act→World→Prop}
theorem zGt {a:Act}{H:List (Option Tmp × (World→Prop))}(h:∀w,R w0 w→(∀p ∈ H,p.2 w)→Q a w):zA1 X P ops R w0 Q [] [] a H:=h
theorem zQI {o:Oper}{l:List Oper}{ks:List Take}{a:Act}{H:List (Option Tmp × (World→Prop))}(v0:Value)
  (h:zLk X P ops R w0 o a H (fun v _=>v=v0)) (hk:zA1 X P ops R w0 Q l ks (a.put o.dst v0) H):zA1 X P ops R w0 Q (o::l) (.det v0::ks) a H:=⟨h,hk⟩
theorem zOo {o:Oper}{l:List Oper}{ks:List Take}{a:Act}{H:List (Option Tmp × (World→Prop))}(F:Value→World→Prop)
  (hs:∀v w w',F v w→R w w'→F v w') (h:zLk X P ops R w0 o a H F) (hk:∀v,zA1 X P ops R w0 Q l ks (a.put o.dst v) ((o.dst,F v)::H)):zA1 X P ops R w0 Q (o::l) (.fact F::ks) a H:=⟨hs,h,hk⟩
theorem zFn {ks:List Take}{a0:Act}(vs:Nat→Value):∀(l:List Oper) (k:Nat),(∀j,j<l.length→l[j]?=ops[k+j]?)→zA1 X P ops R w0 Q l (ks.drop k) (YG ops ks vs a0 k) (VA ops ks vs k) →
  (∀i o,k≤i→i<k+l.length→ops[i]?=some o→(∀v w w',(ks.getD i (.det undef)).says v w→R w w'→(ks.getD i (.det undef)).says v w')∧zLk X P ops R w0 o (YG ops ks vs a0 i) (VA ops ks vs i) (ks.getD i (.det undef)).says) ∧
  ∀w,R w0 w→(∀p ∈ VA ops ks vs (k+l.length),p.2 w)→Q (YG ops ks vs a0 (k+l.length)) w
 | [],k,hl,h=>by
  refine⟨fun i o hi hlt ho=>?_,by simpa [zA1] using h⟩
  simp at hlt
  omega
 | o::l,k,hl,h=>by
  have h0:ops[k]?=some o:=by simpa using (hl 0 (by simp)).symm
  have hl':∀j,j<l.length→l[j]?=ops[k+1+j]?:=fun j hj=>by
   have:=hl (j+1) (by simpa using hj)
   simpa [Nat.add_assoc,Nat.add_comm 1 j] using this
  cases hd:ks.drop k with
  | nil=>rw[hd] at h; simp[zA1] at h
  | cons x ks'=>
   rw[hd] at h
   have hx:ks[k]?=some x:=by
    have:=congrArg (fun l=>l[0]?) hd
    simpa using this
   have hg:ks.getD k (.det undef)=x:=by simp[List.getD,hx]
   have hd':ks.drop (k+1)=ks':=by
    rw[←List.drop_drop,hd]; rfl
   have hlen:k+(o::l).length=k+1+l.length:=by simp; omega
   cases x with
   | det v0=>
    simp only[zA1] at h
    have hA:YG ops ks vs a0 (k+1)=(YG ops ks vs a0 k).put o.dst v0:=by
     show(YG ops ks vs a0 k).put ((ops[k]?).bind (·.dst)) ((ks.getD k (.det undef)).val (vs k))=_
     rw[hg,h0]; rfl
    have hH:VA ops ks vs (k+1)=VA ops ks vs k:=by
     show(match ks.getD k (.det undef) with | .det _=>_ | .fact F=>_)=_
     rw[hg]
    obtain⟨r1,r2⟩:=zFn vs l (k+1) hl' (by rw[hd',hA,hH]; exact h.2);rw[hlen];refine⟨fun i oi hi hlt ho=>?_,r2⟩
    by_cases hik:i=k
    ·subst hik;rw[h0] at ho;obtain rfl:=Option.some.inj ho;rw[hg];exact⟨fun v w w' e _=>e,h.1⟩
    ·exact r1 i oi (by omega) (by omega) ho
   | fact F=>
    simp only[zA1] at h
    have hA:YG ops ks vs a0 (k+1)=(YG ops ks vs a0 k).put o.dst (vs k):=by
     show(YG ops ks vs a0 k).put ((ops[k]?).bind (·.dst)) ((ks.getD k (.det undef)).val (vs k))=_
     rw[hg,h0]; rfl
    have hH:VA ops ks vs (k+1)=(o.dst,F (vs k))::VA ops ks vs k:=by
     show(match ks.getD k (.det undef) with | .det _=>_ | .fact F=>_)=_
     rw[hg,h0]; rfl
    obtain⟨r1,r2⟩:=zFn vs l (k+1) hl' (by rw[hd',hA,hH]; exact h.2.2 (vs k));rw[hlen];refine⟨fun i oi hi hlt ho=>?_,r2⟩
    by_cases hik:i=k
    ·subst hik;rw[h0] at ho;obtain rfl:=Option.some.inj ho;rw[hg];exact⟨h.1,h.2.1⟩
    ·exact r1 i oi (by omega) (by omega) ho
theorem zFb (o:Oper)(hs:∀cs b,o.op≠.select cs b)(a a':Act)(h:∀t ∈ o.looksAt ops,a.tmps[t]?=a'.tmps[t]?){w:World}{F:Value→World→Prop}:vO X P a.eval o w F=vO X P a'.eval o w F:=by
 unfold vO;rw[zGU o hs a a' h]
theorem zL7 {m:Nat}(hR:∀a b c,R a b→R b c→R a c)(hB:YJ ops m=true)(hT:zB1 ops m=true){ks:List Take}{a0:Act}{Q':Exit→Act→World→Prop}(hX:∀a,a.defers=a0.defers→∀c w,X c w→Q' (.panic c) a w)
  (hst:∀i o,i<m→ops[i]?=some o→∀v w w',(ks.getD i (.det undef)).says v w→R w w'→(ks.getD i (.det undef)).says v w')
  (how:∀vs i o,i<m→ops[i]?=some o→zLk X P ops R w0 o (YG ops ks vs a0 i) (VA ops ks vs i) (ks.getD i (.det undef)).says)
  (hQ:∀vs w,R w0 w→(∀p ∈ VA ops ks vs m,p.2 w)→wpList P ops Q' (ops.toList.drop m) (YG ops ks vs a0 m) w) :
  ∀(n:Nat) (listed:Array Bool) (U:List Nat) (a:Act) (w:World) (vs:Nat→Value),listed.size=ops.size→U.length=n→U.Nodup→(∀i,i ∈ U↔i<m∧listed.getD i true=false) →
   zDZ P ops m R w0 ks a0 listed a w vs→wpAny P .any ops Q' (n+(ops.size-m)) listed a w:=by
 have hms:=JI hB
 have conv:∀(listed:Array Bool) (j:Nat),listed.size=ops.size→j<ops.size→listed.getD j false=listed.getD j true:=fun listed j hls hj=>by
  have:j<listed.size:=by omega
  simp[this]
 intro n
 induction n with
 | zero=>
  intro listed U a w vs hls hlen hnd hU hway;obtain rfl:=List.length_eq_zero_iff.1 hlen
  have all:∀i,i<m→listed.getD i true=true:=fun i hi=>by
   cases hf:listed.getD i true with
   | true=>rfl
   | false=>have:=(hU i).2 ⟨hi,hf⟩; cases this
  have ea:a=YG ops ks vs a0 m:=by
   refine zGi (fun t=>?_) (by rw[hway.defers,zBA])
   by_cases hex:∃(i:Nat) (o:Oper),i<m∧ops[i]?=some o∧o.dst=some t
   ·obtain⟨i,o,him,hi,hd⟩:=hex;have hl:=all i him;rw[hway.done i o t him hi hd hl,VW hB (j:=i) (by rw[hi]; exact hd) him (zX _),Take.zD9 (hway.facts i him hl)]
   ·rw[hway.other t fun i o him hi hd=>absurd ⟨i,o,him,hi,hd⟩ hex,YR];intro j hj e;obtain⟨o,ho,hd⟩:=Option.bind_eq_some_iff.1 e;exact hex ⟨j,o,hj,ho,hd⟩
  rw[Nat.zero_add];refine zFp hT _ m listed a w (zX _) (by omega) hls (fun j hj=>?_) hway.closed ?_
  ·by_cases hjm:j<m
   ·rw[all j hjm]; simp[hjm]
   ·rw[hway.fresh j (by omega) hj]; simp[hjm]
  ·rw[ea];refine hQ vs w hway.world fun p hp=>?_;obtain⟨j,hj,_,hs⟩:=VT hp;exact hs w (hway.facts j hj (all j hj))
 | succ n ih=>
  intro listed U a w vs hls hlen hnd hU hway;rw[show n+1+(ops.size-m)=n+(ops.size-m)+1 from by omega]
  have some1:Region.ready .any ops listed≠[]:=fun hr=>by
   have all:∀n i,i<n→i<m→listed.getD i true=true:=by
    intro n
    induction n with
    | zero=>intro i hi; omega
    | succ n ih'=>
     intro i hi hlt
     cases hf:listed.getD i true with
     | true=>rfl
     | false=>
      exfalso
      have hoi:ops[i]?=some ops[i]:=Array.getElem?_eq_getElem (by omega)
      have hm:i ∈ Region.ready .any ops listed:=by
       rw[mem_ready];refine⟨hf,_,hoi,fun e he hb=>?_⟩;have hlt':=(XZ hB hlt hoi).2 e he hb;rw[conv listed e.on hls (by omega)];exact ih' e.on (by omega) (by omega)
      rw[hr] at hm
      cases hm
   cases U with
   | nil=>simp at hlen
   | cons x xs=>
    have:=(hU x).1 List.mem_cons_self
    rw[all (x+1) x (by omega) this.1] at this
    cases this.2
  refine⟨fun hr=>absurd hr some1,fun i hi=>?_⟩;obtain⟨h0,o,ho,hall⟩:=mem_ready.1 hi;have hlt:i<ops.size:=(Array.getElem?_eq_some_iff.1 ho).1
  have him:i<m:=by
   rcases Nat.lt_or_ge i m with h | h
   ·exact h
   ·exfalso
    cases U with
    | nil=>simp at hlen
    | cons x xs=>
     have hx:=(hU x).1 List.mem_cons_self
     have:=JN hway.closed 8 i x o ho hall ((zBd hT ho h).2 x (by omega))
     rw[conv listed x hls (by omega),hx.2] at this
     cases this
  have hil:i<listed.size:=by omega
  have hself:(listed.setIfInBounds i true).getD i true=true:=by simp[hil]
  have hoth:∀j,j≠i→(listed.setIfInBounds i true).getD j true=listed.getD j true:=fun j hj=>getD_set_ne true (Ne.symm hj)
  have look:∀t ∈ o.looksAt ops,a.tmps[t]?=(YG ops ks vs a0 i).tmps[t]?:=fun t ht=>by
   by_cases hex:∃(j:Nat) (p:Oper),j<m∧ops[j]?=some p∧p.dst=some t
   ·obtain⟨j,p,hjm,hj,hd⟩:=hex
    rcases(vH hB him hjm ho hj hd).2 ht with ⟨hji,e,he,heq,hb⟩ | ⟨hij,e,he,heq,hb⟩
    ·have hlj:listed.getD j true=true:=by
      have h1:=hall e he hb;rw[heq,conv listed j hls (by omega)] at h1;exact h1
     rw[hway.done j p t hjm hj hd hlj,VW hB (j:=j) (by rw[hj]; exact hd) hji (by omega),Take.zD9 (hway.facts j hjm hlj)]
    ·have hnl:listed.getD j true=false:=by
      cases hf:listed.getD j true with
      | false=>rfl
      | true=>
       have:=hway.closed j p hj (by rw[conv listed j hls (by omega)]; exact hf) e he hb
       rw[heq,conv listed i hls hlt,h0] at this
       cases this
     rw[hway.other t fun k ok hkm hk hdk=>by
       have:=(vH hB hkm hjm hk hj hd).1 hdk
       subst this
       exact hnl,YR]
     intro k hk e';obtain⟨ok,hok,hdk⟩:=Option.bind_eq_some_iff.1 e'
     have:=(vH hB (by omega) hjm hok hj hd).1 hdk
     omega
   ·rw[hway.other t fun i o him hi hd=>absurd ⟨i,o,him,hi,hd⟩ hex,YR];intro j hj e;obtain⟨o,ho,hd⟩:=Option.bind_eq_some_iff.1 e;exact hex ⟨j,o,by omega,ho,hd⟩
  have go:∀v w',(ks.getD i (.det undef)).says v w'→R w w'∨w'=w→wpAny P .any ops Q' (n+(ops.size-m)) (listed.setIfInBounds i true) (a.put o.dst v) w':=by
   intro v w' hv hww
   have hst':∀j oj,j<m→ops[j]?=some oj→∀v,(ks.getD j (.det undef)).says v w→(ks.getD j (.det undef)).says v w':=fun j oj hjm hj v hs=>by
    rcases hww with hww | rfl
    ·exact hst j oj hjm hj v w w' hs hww
    ·exact hs
   refine ih (listed.setIfInBounds i true) (U.erase i) _ w' (fun j=>if j=i then v else vs j) (by simpa using hls) ?_ (hnd.erase i) (fun j=>?_) ?_
   ·rw[List.length_erase_of_mem ((hU i).2 ⟨him,h0⟩),hlen]; rfl
   ·rw[hnd.mem_erase_iff,hU j]
    by_cases hji:j=i
    ·subst hji; simp[hil]
    ·rw[hoth j hji]; simp[hji]
   ·refine⟨?_,by rw[XS]; exact hway.defers,fun j hj hl=>?_,fun j p t hjm hj hd hl=>?_,fun t ht=>?_,fun j p hj hl e he hb=>?_,fun j hj hjs=>?_⟩
    ·rcases hww with hww | rfl
     ·exact hR _ _ _ hway.world hww
     ·exact hway.world
    ·by_cases hji:j=i
     ·subst hji; simpa using hv
     ·rw[hoth j hji] at hl;simp only[if_neg hji];exact hst' j _ hj (Array.getElem?_eq_getElem (by omega)) _ (hway.facts j hj hl)
    ·by_cases hji:j=i
     ·subst hji;rw[ho] at hj;obtain rfl:=Option.some.inj hj
      rw[hd,XN,hway.other t fun k ok hkm hk hdk=>by
       have:=(vH hB hkm him hk ho hd).1 hdk
       subst this
       exact h0]
      simp
     ·rw[hoth j hji] at hl;rw[jC _ _ _ (fun e=>hji ((vH hB him hjm ho hj hd).1 e).symm),hway.done j p t hjm hj hd hl];simp[hji]
    ·rw[jC _ _ _ (fun e=>by
      have:=ht i o him ho e
      rw[hself] at this
      cases this)]
     refine hway.other t fun k ok hkm hk hdk=>?_
     have:=ht k ok hkm hk hdk
     by_cases hki:k=i
     ·subst hki; exact h0
     ·rwa [hoth k hki] at this
    ·by_cases hji:j=i
     ·subst hji;rw[ho] at hj;obtain rfl:=Option.some.inj hj;exact getD_set_true (hall e he hb)
     ·rw[getD_set_ne false (Ne.symm hji)] at hl;exact getD_set_true (hway.closed j p hj hl e he hb)
    ·rw[hoth j (by omega)];exact hway.fresh j hj hjs
  have ow:=how vs i o him ho w hway.world (fun p hp ⟨t,hpt,ht⟩=>by
   obtain⟨j,hj,hpd,hs⟩:=VT hp;rw[hpt] at hpd;obtain⟨p',hp',hd'⟩:=Option.bind_eq_some_iff.1 hpd.symm
   rcases(vH hB him (by omega) ho hp' hd').2 ht with ⟨_,e,he,heq,hb⟩ | ⟨hij,_⟩
   ·have h1:=hall e he hb;rw[heq,conv listed j hls (by omega)] at h1;exact hs w (hway.facts j (by omega) h1)
   ·omega)
  unfold wpOp;simp only[ho];rw[←zAE o a _ look,←zFb o (XZ hB him ho).1 a _ look] at ow
  split
  ·rename_i hw;simp only[hw,if_true] at ow;exact .inl (zJN ow (fun v w' hv=>go v w' hv.1 (.inl hv.2)) (fun c w' hx=>hX a hway.defers c w' hx))
  ·rename_i hw;simp only[hw] at ow;exact go undef w ow (.inr rfl)
theorem zGQ {id:Nat}{Q':Exit→Act→World→Prop}{a:Act}{w:World}{l:List Oper}(m:Nat)(ks:List Take)(hm:P.follows .mixedOrders=true)(hB:YJ l.toArray m=true)(hT:zB1 l.toArray m=true)
  (hR:∀a b c,R a b→R b c→R a c) (h0:R w0 w.drew) (hX:∀a',a'.defers=a.defers→∀c w,X c w→Q' (.panic c) a' w)
  (h:zA1 X P l.toArray R w0 (fun a' w'=>wpList P l.toArray Q' (l.drop m) a' w') (l.take m) ks a []):(Code.region id l.toArray true).wp P Q' a w:=by
 have hms:=JI hB;simp only[List.size_toArray] at hms;refine wp_region_any hm ?_
 have sp:=fun vs=>zFn (X:=X) (P:=P) (ops:=l.toArray) (R:=R) (w0:=w0) (Q:=fun a' w'=>wpList P l.toArray Q' (l.drop m) a' w') (ks:=ks) (a0:=a) vs (l.take m) 0 (fun j hj=>by
  have hj':j<m:=by simp at hj; omega
  simp[List.getElem?_take,hj']) (by simpa [YG,VA] using h)
 have hlen:(l.take m).length=m:=by simp; omega
 rw[show l.toArray.size=m+(l.toArray.size-m) from by simp; omega];refine zL7 (X:=X) (P:=P) (ops:=l.toArray) (R:=R) (w0:=w0) (ks:=ks) (a0:=a) (m:=m) hR hB hT hX ?_ ?_ ?_ m _ (List.range m) a _ (fun _=>undef) (by simp; omega) (by simp) List.nodup_range ?_ ?_
 ·exact fun i o him hi=>((sp fun _=>undef).1 i o (zW _) (by omega) hi).1
 ·exact fun vs i o him hi=>((sp vs).1 i o (zW _) (by omega) hi).2
 ·intro vs w' hw' hp
  have:=(sp vs).2 w' hw' (by rw[hlen]; simpa using hp)
  rw[hlen] at this
  simpa using this
 ·intro i;simp only[List.mem_range]
  constructor
  ·intro h
   have:i<m+(l.length-m):=by omega
   exact⟨h,by simp[this]⟩
  ·exact fun h=>h.1
 ·refine⟨h0,rfl,fun i hi hl=>?_,fun i o t him hi hd hl=>?_,fun t _=>rfl,fun i o hi hl=>?_,fun i hi his=>?_⟩
  ·have:i<m+(l.length-m):=by omega
   simp[this] at hl
  ·have:i<m+(l.length-m):=by omega
   simp[this] at hl
  ·have hil:i<l.length:=by simpa using (Array.getElem?_eq_some_iff.1 hi).1
   have:i<m+(l.length-m):=by omega
   simp[this] at hl
  ·have hil:i<l.length:=by simpa using his
   have:i<m+(l.length-m):=by omega
   simp[this]
theorem vZ {o:Oper}{l:List Oper}{ks:List Take}{a:Act}{H:List (Option Tmp × (World→Prop))}{d:Option Tmp}{L:List Tmp}(v0:Value)(hd:o.dst=d)(hg:o.guard=none)(hL:zGc o=L)
  (h:∀w,R w0 w→(∀p ∈ H,(∃t,p.1=some t∧t ∈ L)→p.2 w)→vO X P a.eval o w (fun v w'=>v=v0∧R w w')) (hk:zA1 X P ops R w0 Q l ks (a.put d v0) H):zA1 X P ops R w0 Q (o::l) (.det v0::ks) a H:=by
 subst hd hL;refine zQI v0 (fun w hw hH=>?_) hk
 have:Region.wanted o (yielded ops a.tmps)=true:=by unfold Region.wanted; rw[hg]
 rw[if_pos this];exact h w hw fun p hp ⟨t,ht,hm⟩=>hH p hp ⟨t,ht,List.mem_append_left _ hm⟩
theorem VO {o:Oper}{l:List Oper}{ks:List Take}{a:Act}{H:List (Option Tmp × (World→Prop))}{d:Option Tmp}{L:List Tmp}(F:Value→World→Prop)(hs:∀v w w',F v w→R w w'→F v w')(hd:o.dst=d)(hg:o.guard=none)(hL:zGc o=L)
  (h:∀w,R w0 w→(∀p ∈ H,(∃t,p.1=some t∧t ∈ L)→p.2 w)→vO X P a.eval o w (fun v w'=>F v w'∧R w w')) (hk:∀v,zA1 X P ops R w0 Q l ks (a.put d v) ((d,F v)::H)):zA1 X P ops R w0 Q (o::l) (.fact F::ks) a H:=by
 subst hd hL;refine zOo F hs (fun w hw hH=>?_) hk
 have:Region.wanted o (yielded ops a.tmps)=true:=by unfold Region.wanted; rw[hg]
 rw[if_pos this];exact h w hw fun p hp ⟨t,ht,hm⟩=>hH p hp ⟨t,ht,List.mem_append_left _ hm⟩
end
end Go.Proofs.YtbadjmmjbpeocaaGreat
