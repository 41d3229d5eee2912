/- The document's sums and products of bounds, walked. (and what follows of it). The conditions stand at each lemma. -/
import Derived.Test.YtbadjmmjbpeocaaGreatJaa
import Derived.Deep.Cut
import Derived.WideMake
import Derived.MapKept
import Derived.Carry
import Init
set_option linter.unusedVariables false
set_option linter.unusedSimpArgs false
set_option maxRecDepth 100000
set_option maxHeartbeats 16000000
namespace Go.Proofs.YtbadjmmjbpeocaaGreat
open Go Go.RowKit
theorem zFO (a b:Int)(ha:w64 a)(hb:w64 b)(w:World):Calls Tryz.prog 18 #[.int .i64 a,.int .i64 b] w fun e w'=>e=.returned (.int .i64 (xW a b))∧w=w':=by
 have HA:=yG ha;have HB:=yG hb;clear ha hb;have a0:=YI a;have b0:=YI b;have a1:=zCu a;have b1:=zCu b;unfold vH at a1 b1;have HE:Hid (xW a b=min (YU a+YU b) 4611686018427387905):=yG rfl
 go_enter Tryz.func18,Tryz.ntmps18
 go_wp2_with fail
 refine(zFS a HA.out w).mono ?_;rintro e w' ⟨rfl,rfl⟩
 go_wp2_with fail
 refine(zFS b HB.out w).mono ?_;rintro e w' ⟨rfl,rfl⟩;generalize YU a=x at *;generalize YU b=y at *
 by_cases AA:4611686018427387905-y<x
 ·have g1:decide (4611686018427387905-y<x)=true:=yS AA
  go_wp2_with fail
  go_ret;exact⟨JG (by rw[HE.out]; omega),rfl⟩
 ·have g1:decide (4611686018427387905-y<x)=false:=yR AA
  go_wp2_with fail
  go_ret;exact⟨JG (by rw[HE.out]; omega),rfl⟩
theorem zRc {o x:Int}{j:Nat}(ho:0≤o)(hx:0≤x):min (min (o+x) vH+min (x+x) vH*(j:Int)) vH=min (o+x*((2*j+1:Nat):Int)) vH:=by
 have e:x*((2*j+1:Nat):Int)=2*(x*(j:Int))+x:=by
  rw[show((2*j+1:Nat):Int)=2*(j:Int)+1 by omega,Int.mul_add,Int.mul_one,Int.mul_left_comm]
 have hp:0≤x*(j:Int):=Int.mul_nonneg hx (by omega);rw[e]
 by_cases h:x+x≤vH
 ·rw[show min (x+x) vH=x+x by omega,Int.add_mul];generalize x*(j:Int)=p at *;unfold vH;omega
 ·rw[show min (x+x) vH=vH by omega]
  cases j with
  | zero=>
   simp only[Int.natCast_zero,Int.mul_zero];unfold vH;omega
  | succ j=>
   have h1:x≤x*((j+1:Nat):Int):=by
    have:=Int.mul_le_mul_of_nonneg_left (show(1:Int)≤((j+1:Nat):Int) by omega) hx
    omega
   have h2:vH≤vH*((j+1:Nat):Int):=by
    have:=Int.mul_le_mul_of_nonneg_left (show(1:Int)≤((j+1:Nat):Int) by omega) (show(0:Int)≤vH by decide)
    omega
   generalize x*((j+1:Nat):Int)=p at *;generalize vH*((j+1:Nat):Int)=q at *;unfold vH at *;omega
theorem zQm {o x:Int}{j:Nat}(ho:0≤o)(hx:0≤x):min (o+min (x+x) vH*(j:Int)) vH=min (o+x*((2*j:Nat):Int)) vH:=by
 have e:x*((2*j:Nat):Int)=2*(x*(j:Int)):=by
  rw[show((2*j:Nat):Int)=2*(j:Int) by omega,Int.mul_left_comm]
 have hp:0≤x*(j:Int):=Int.mul_nonneg hx (by omega);rw[e]
 by_cases h:x+x≤vH
 ·rw[show min (x+x) vH=x+x by omega,Int.add_mul];generalize x*(j:Int)=p at *;unfold vH;omega
 ·rw[show min (x+x) vH=vH by omega]
  cases j with
  | zero=>
   simp only[Int.natCast_zero,Int.mul_zero]
  | succ j=>
   have h1:x≤x*((j+1:Nat):Int):=by
    have:=Int.mul_le_mul_of_nonneg_left (show(1:Int)≤((j+1:Nat):Int) by omega) hx
    omega
   have h2:vH≤vH*((j+1:Nat):Int):=by
    have:=Int.mul_le_mul_of_nonneg_left (show(1:Int)≤((j+1:Nat):Int) by omega) (show(0:Int)≤vH by decide)
    omega
   generalize x*((j+1:Nat):Int)=p at *;generalize vH*((j+1:Nat):Int)=q at *;unfold vH at *;omega
theorem zPb {a b:Int}(ha:0≤a)(ha1:a≤vH)(hb:0≤b)(hb1:b≤vH):xW a b=min (a+b) vH:=by unfold xW; rw[zB3 ha ha1,zB3 hb hb1]
theorem zK9 {a:Int}(h0:0≤a)(h1:a≤vH):w64 a:=by unfold vH at h1; exact⟨by omega,by omega⟩
theorem zNS (a b:Int)(ha:w64 a)(hb:w64 b)(w:World):Calls Tryz.prog 20 #[.int .i64 a,.int .i64 b] w fun e w'=>e=.returned (.int .i64 (vC a b))∧w=w':=by
 have HA:=yG ha;have HB:=yG hb;clear ha hb;have a0:=YI a;have b0:=YI b;have a1:=zCu a;have b1:=zCu b;have HE:Hid (vC a b=min (0+YU a*YU b) vH):=yG (by rw[Int.zero_add]; rfl)
 go_enter Tryz.func20,Tryz.ntmps20
 go_wp2_with fail
 refine(zFS a HA.out w).mono ?_;rintro e w' ⟨rfl,rfl⟩
 go_wp2_with fail
 refine(zFS b HB.out w).mono ?_;rintro e w' ⟨rfl,rfl⟩;have AG:=yG (And.intro a0 a1);generalize YU a=x0 at *;generalize YU b=y0 at *;obtain⟨Y,rfl⟩:=Int.eq_ofNat_of_zero_le b0;unfold vH at b1;clear a0 a1
 go_wp2_with fail
 go_loopw [5,6,7] (fun x_ k_ o_ wr=>∃(x o:Int) (k:Nat),x_=.int .i64 x∧k_=.int .i64 (k:Int)∧o_=.int .i64 o∧(k:Int)≤4611686018427387905∧Hid ((0≤x∧x≤vH)∧0≤o∧o≤vH)∧Hid (vC a b=min (o+x*(k:Int)) vH)∧w=wr) (fun _ k_ _ _=>(intOf k_).toNat)
 case atStart=>exact⟨x0,0,Y,rfl,rfl,rfl,b1,yG ⟨AG.out,by decide,by decide⟩,HE,rfl⟩
 case round=>
  obtain⟨x,o,k,rfl,rfl,rfl,hk,AA,HT,rfl⟩:=hrel;have HX:=yG (zPb AA.out.1.1 AA.out.1.2 AA.out.1.1 AA.out.1.2);have HO:=yG (zPb AA.out.2.1 AA.out.2.2 AA.out.1.1 AA.out.1.2);have AB:=yG (zK9 AA.out.1.1 AA.out.1.2);have AC:=yG (zK9 AA.out.2.1 AA.out.2.2)
  by_cases h0:0<k
  ·have d0:decide ((0:Int)<(k:Int))=true:=yS (by omega);have AI:decide (0<k)=true:=yS h0;have hq:Int.tdiv (k:Int) 2=((k / 2:Nat):Int):=rfl;have hr:Int.tmod (k:Int) 2=((k % 2:Nat):Int):=rfl;have AE:Hid ((0≤xW x x∧xW x x≤vH)):=yG ⟨zE2 _ _,zE6 _ _⟩
   by_cases h1:k % 2=1
   ·have HN:Hid (vC a b=min (xW o x+xW x x*((k / 2:Nat):Int)) vH):=yG (by
     rw[HX.out,HO.out,zRc AA.out.2.1 AA.out.1.1,HT.out,show 2*(k / 2)+1=k by omega])
    have AF:Hid ((0≤xW o x∧xW o x≤vH)):=yG ⟨zE2 _ _,zE6 _ _⟩
    have e1:(Int.tmod (k:Int) 2==1)=true:=by rw[hr,h1]; rfl
    have AD:((k / 2:Nat):Int)≤4611686018427387905:=by omega
    have AH:k / 2<k:=by omega
    go_wp2_with fail
    refine(zFO o x AC.out AB.out w).mono ?_;rintro e w' ⟨rfl,rfl⟩
    go_wp2_with fail
    refine(zFO x x AB.out AB.out w).mono ?_;rintro e w' ⟨rfl,rfl⟩
    go_wp2_with fail
    exact⟨⟨xW x x,xW o x,k / 2,rfl,rfl,rfl,AD,yG ⟨AE.out,AF.out⟩,HN,trivial⟩,by simp only[intOf]; omega⟩
   ·have HN:Hid (vC a b=min (o+xW x x*((k / 2:Nat):Int)) vH):=yG (by
     rw[HX.out,zQm AA.out.2.1 AA.out.1.1,HT.out,show 2*(k / 2)=k by omega])
    have e1:(Int.tmod (k:Int) 2==1)=false:=by rw[hr]; exact beq_eq_false_iff_ne.2 (by omega)
    have AD:((k / 2:Nat):Int)≤4611686018427387905:=by omega
    have AH:k / 2<k:=by omega
    go_wp2_with fail
    refine(zFO x x AB.out AB.out w).mono ?_;rintro e w' ⟨rfl,rfl⟩
    go_wp2_with fail
    exact⟨⟨xW x x,o,k / 2,rfl,rfl,rfl,AD,yG ⟨AE.out,AA.out.2⟩,HN,trivial⟩,by simp only[intOf]; omega⟩
  ·obtain rfl:k=0:=by omega
   have HF:Hid (vC a b=o):=yG (by
    have h:=HT.out;have h2:=AA.out.2;rw[h,Int.natCast_zero,Int.mul_zero,Int.add_zero]
    omega)
   go_wp2_with fail
   go_ret;exact⟨JG HF.out.symm,rfl⟩
structure B3 where
 l:Int
 u:Int
 s:Int
 deriving DecidableEq
def B3.val (a:B3):Array Value:=#[.int .i64 a.l,.int .i64 a.u,.int .i64 a.s]
def B3.ok (a:B3):Prop:=w64 a.l∧w64 a.u∧w64 a.s
def JQ (G:Int→Int→Int)(a b:B3):B3:=⟨G a.l b.l,G a.u b.u,G a.s b.s⟩
def zKF (a b:B3):B3:=JQ max a b
def zTZ (K:Nat)(G:Int→Int→Int):Prop:=∀(x y:Int),w64 x→w64 y→∀w,Calls Tryz.prog K #[.int .i64 x,.int .i64 y] w fun e w'=>e=.returned (.int .i64 (G x y))∧w=w'
theorem zQ6:zTZ 65 max:=fun x y hx hy w=>by
 go_enter Tryz.func65,Tryz.ntmps65
 go_wp2
 all_goals
  go_ret;exact⟨JG (by omega),rfl⟩
theorem zCj (K:Nat)(G:Int→Int→Int)(he:∀args w,(callFunc K args).run Tryz.prog w=.ok (.enter K args) w)(hG:zTZ K G)(a b:B3)(ha:a.ok)(hb:b.ok)(w:World) :
  Calls Tryz.prog 31 #[.agg a.val,.agg b.val,.func (.func K) #[] #[]] w fun e w'=>e=.returned (.agg (JQ G a b).val)∧Ext w w':=by
 obtain⟨al,au,az⟩:=a;obtain⟨bl,bu,bs⟩:=b;have HG:=yG hG;have HA:=yG ha;have HB:=yG hb;clear hG ha hb;unfold B3.ok at HA HB;obtain⟨W,HW⟩:∃W,Hid (((w.alloc (.cells #[.int .i64 al,.int .i64 au,.int .i64 az] 48)).alloc (.cells #[.int .i64 bl,.int .i64 bu,.int .i64 bs] 48)).alloc (.cells #[.int .i64 0,.int .i64 0,.int .i64 0] 48)=W):=⟨_,yG rfl⟩;have HX:Hid (Ext w W):=yG (by rw[←HW.out]; exact((Ext.alloc _ _).trans (Ext.alloc _ _)).trans (Ext.alloc _ _))
 have hA:Blk W w.heap.size 48 #[.int .i64 al,.int .i64 au,.int .i64 az]:=by rw[←HW.out]; exact((Blk.new _ _ _).alloc _).alloc _
 have hB:Blk W (w.heap.size+1) 48 #[.int .i64 bl,.int .i64 bu,.int .i64 bs]:=by
  have h:=(Blk.new (w.alloc (.cells #[.int .i64 al,.int .i64 au,.int .i64 az] 48)) 48 #[.int .i64 bl,.int .i64 bu,.int .i64 bs]).alloc (.cells #[.int .i64 0,.int .i64 0,.int .i64 0] 48);rw[yT] at h;rw[←HW.out];exact h
 have hR:Blk W (w.heap.size+1+1) 48 #[.int .i64 0,.int .i64 0,.int .i64 0]:=by
  have h:=Blk.new ((w.alloc (.cells #[.int .i64 al,.int .i64 au,.int .i64 az] 48)).alloc (.cells #[.int .i64 bl,.int .i64 bu,.int .i64 bs] 48)) 48 #[.int .i64 0,.int .i64 0,.int .i64 0];rw[yT,yT] at h;rw[←HW.out];exact h
 have AD:=yG hR
 go_enter Tryz.func31,Tryz.ntmps31
 unfold B3.val
 go_upto_region 1 with fail
 rw[HW.out];obtain⟨ga,AE⟩:∃g,Hid (w.heap.size=g):=⟨_,yG rfl⟩;obtain⟨gb,AF⟩:∃g,Hid (w.heap.size+1=g):=⟨_,yG rfl⟩;obtain⟨gr,AC⟩:∃g,Hid (w.heap.size+1+1=g):=⟨_,yG rfl⟩;have AK:Hid (w.heap.size≤gr):=yG (by rw[←AC.out]; omega);rw[AC.out] at AD;rw[AF.out] at hB;rw[AE.out] at hA
 try rw[AC.out]
 try rw[AF.out]
 try rw[AE.out]
 have a0:W.cell? ⟨ga,0,none⟩=some (.int .i64 al):=hA.cell 0;have a1:W.cell? ⟨ga,1,none⟩=some (.int .i64 au):=hA.cell 1;have a2:W.cell? ⟨ga,2,none⟩=some (.int .i64 az):=hA.cell 2;have b0:W.cell? ⟨gb,0,none⟩=some (.int .i64 bl):=hB.cell 0;have b1:W.cell? ⟨gb,1,none⟩=some (.int .i64 bu):=hB.cell 1;have b2:W.cell? ⟨gb,2,none⟩=some (.int .i64 bs):=hB.cell 2;have AB:=hA.lt;have AA:=hB.lt;clear hA hB hR HW AE AF AC;apply xN 19 (by kernel_rfl) (by kernel_rfl) (by kernel_rfl);apply sQ (.func (.func K) #[] #[]);apply sQ (.pointer (some ⟨ga,0,none⟩));apply sL a0 AB (.int .i64 al);apply sQ (.pointer (some ⟨gb,0,none⟩));apply sL b0 AA (.int .i64 bl);apply xB (.int .i64 (G al bl)) rfl rfl rfl
 ·intro w' AH hH;clear hH;simp[xA,go_sem,he];refine(HG.out al bl HA.out.1 HB.out.1 w').mono ?_;rintro e w2 ⟨rfl,rfl⟩;exact⟨_,rfl,rfl,Ext.refl _⟩
 apply sQ (.func (.func K) #[] #[]);apply sQ (.pointer (some ⟨ga,1,none⟩));apply sL a1 AB (.int .i64 au);apply sQ (.pointer (some ⟨gb,1,none⟩));apply sL b1 AA (.int .i64 bu);apply xB (.int .i64 (G au bu)) rfl rfl rfl
 ·intro w' AH hH;clear hH;simp[xA,go_sem,he];refine(HG.out au bu HA.out.2.1 HB.out.2.1 w').mono ?_;rintro e w2 ⟨rfl,rfl⟩;exact⟨_,rfl,rfl,Ext.refl _⟩
 apply sQ (.func (.func K) #[] #[]);apply sQ (.pointer (some ⟨ga,2,none⟩));apply sL a2 AB (.int .i64 az);apply sQ (.pointer (some ⟨gb,2,none⟩));apply sL b2 AA (.int .i64 bs);apply xB (.int .i64 (G az bs)) rfl rfl rfl
 ·intro w' AH hH;clear hH;simp[xA,go_sem,he];refine(HG.out az bs HA.out.2.2 HB.out.2.2 w').mono ?_;rintro e w2 ⟨rfl,rfl⟩;exact⟨_,rfl,rfl,Ext.refl _⟩
 apply sQ (.agg #[.int .i64 (G al bl),.int .i64 (G au bu),.int .i64 (G az bs)]);apply xR;intro w2 AG hH;clear hH a0 a1 a2 b0 b1 b2 AB AA;have AL:Hid (Ext w w2):=yG (HX.out.trans AG);have AM:=yG (AD.out.ext AG);clear AG AD;refine(show wpList Tryz.prog _ _ [_] _ _ from ?_)
 try simp only[Act.put,yD,yF,yE]
 refine xQ rfl 48 (.tmp 6) (.tmp 25) rfl gr #[.int .i64 (G al bl),.int .i64 (G au bu),.int .i64 (G az bs)] rfl rfl 48 _ AM.out (by kernel_rfl) rfl rfl ?_;intro w3 AI AJ
 go_wp2_with fail
 refine JH gr 48 _ _ rfl rfl rfl AJ Tryz.underlying48 rfl (by kernel_rfl) ?_;exact⟨rfl,AI.ext AL.out AK.out⟩
def jK (w:World)(r:Nat)(es:Array MapEntry)(clock:Nat):Prop:=w.heap[r]?=some (.map es clock)
section
variable {w w':World} {r:Nat} {es:Array MapEntry} {clock:Nat}
theorem jK.lt (h:jK w r es clock):r<w.heap.size:=(Array.getElem?_eq_some_iff.1 h).1
theorem jK.new (w:World):jK (w.alloc (.map #[] 0)) w.heap.size #[] 0:=zQ w _
theorem jK.ext (h:jK w r es clock)(hx:Ext w w'):jK w' r es clock:=(hx.block r h.lt).trans h
theorem jK.jQ {g:Nat}(h:jK w r es clock)(ht:Touch g w w')(hg:r≠g):jK w' r es clock:=(ht.other r hg).trans h
end
section
variable {P:Program}
theorem zH3 {w:World}{t kt et:TypeId}{kk:IntKind}{r clock:Nat}{es:Array MapEntry}{n:Int}{val:Value}(hm:P.underlying t=some (.map kt et))(hk:P.underlying kt=some (.int kk))
  (hb:jK w r es clock) (hf:Instr.findNow (.int kk) (.int kk n) es.toList 0=some none) :
  (Instr.mapUpdate t (.map (some r)) (.int kk n) val).run P w=.ok () { w with heap:=w.heap.setIfInBounds r (.map (es.push { key:=.int kk n,val:=val,born:=clock }) (clock+1)) }:=by
 have hc:(Instr.checkKey false 10000 kt (.int kk n)).run P w=.ok () w:=MapKept.run_checkKey (k:=.int kk n) hk (by simp[MapKept.IsKey]) false 9999;simp[Instr.mapUpdate,run_underlying hm,MapKept.run_getObj_map hb,hc,MapKept.run_findKey hk hf,MapKept.run_setObj_map _ hb,Result.andThen]
theorem ZO {ops:Array Oper}{rest:List Oper}{o:Oper}{a:Act}{w:World}{Q:Exit→Act→World→Prop}(hgd:o.guard=none)(t:TypeId)(m k x:Operand)(ho:o.op=.insert t m k x){kt et:TypeId}{kk:IntKind}
  (hm:P.underlying t=some (.map kt et)) (hk:P.underlying kt=some (.int kk)) (r clock:Nat) (es:Array MapEntry) (n:Int) (v:Value)
  (em:a.eval m=.map (some r)) (ek:a.eval k=.int kk n) (ex:a.eval x=v) (hb:jK w r es clock) (hf:Instr.findNow (.int kk) (.int kk n) es.toList 0=some none)
  (h:∀w',Touch r w w'→jK w' r (es.push { key:=.int kk n,val:=v,born:=clock }) (clock+1)→wpList P ops Q rest (a.put o.dst undef) w'):wpList P ops Q (o::rest) a w:=by
 refine wpList_plain hgd fun K hK=>?_;have AA:=zH3 (val:=v) hm hk hb hf;unfold Oper.wp execOp;simp only[ho,em,ek,ex,Sem.run_bind,Sem.run_pure,AA,Result.andThen_ok];refine hK _ _ (h _ ⟨rfl,rfl,rfl,by simp,fun q hq=>?_⟩ ?_)
 ·simp[Array.getElem?_setIfInBounds,Ne.symm hq]
 ·have AB:=hb.lt;unfold jK;simp[AB]
theorem zIF {w:World}{t kt et:TypeId}{kk:IntKind}{r clock i:Nat}{es:Array MapEntry}{n:Int}{v:Value}(hm:P.underlying t=some (.map kt et))(hk:P.underlying kt=some (.int kk))
  (hb:jK w r es clock) (hf:Instr.findNow (.int kk) (.int kk n) es.toList 0=some (some (i,v))):(Instr.lookup t (.map (some r)) (.int kk n) false).run P w=.ok v w:=by
 have hc:(Instr.checkKey es.isEmpty 10000 kt (.int kk n)).run P w=.ok () w:=MapKept.run_checkKey (k:=.int kk n) hk (by simp[MapKept.IsKey]) _ 9999;simp[Instr.lookup,run_underlying hm,MapKept.run_getObj_map hb,hc,MapKept.run_findKey hk hf,Result.andThen]
theorem zFH {ops:Array Oper}{rest:List Oper}{o:Oper}{a:Act}{w:World}{Q:Exit→Act→World→Prop}(hgd:o.guard=none)(t:TypeId)(m k:Operand)(ho:o.op=.lookup t m k false){kt et:TypeId}{kk:IntKind}
  (hm:P.underlying t=some (.map kt et)) (hk:P.underlying kt=some (.int kk)) (r clock i:Nat) (es:Array MapEntry) (n:Int) (v:Value)
  (em:a.eval m=.map (some r)) (ek:a.eval k=.int kk n) (hb:jK w r es clock) (hf:Instr.findNow (.int kk) (.int kk n) es.toList 0=some (some (i,v)))
  (h:wpList P ops Q rest (a.put o.dst v) w):wpList P ops Q (o::rest) a w:=by
 refine wpList_plain hgd fun K hK=>?_;have AA:=zIF (P:=P) hm hk hb hf;unfold Oper.wp execOp;simp only[ho,em,ek,Sem.run_bind,Sem.run_pure,AA,Result.andThen_ok];exact hK _ _ h
theorem zCk {ops:Array Oper}{rest:List Oper}{o:Oper}{a:Act}{w:World}{Q:Exit→Act→World→Prop}(hgd:o.guard=none)(t:TypeId)(ho:o.op=.makeMap t none)
  (h:∀w',Ext w w'→jK w' w.heap.size #[] 0→w'.heap.size=w.heap.size+1→wpList P ops Q rest (a.put o.dst (.map (some w.heap.size))) w'):wpList P ops Q (o::rest) a w:=by
 refine wpList_plain hgd fun K hK=>?_;unfold Oper.wp execOp;simp only[ho,Option.map_none,Sem.run_bind,Sem.run_pure,run_makeMap,Result.andThen_ok];exact hK _ _ (h _ (Ext.alloc _ _) (jK.new w) (by simp))
end
theorem zRL (a b:B3)(ha:a.ok)(hb:b.ok)(w:World):Calls Tryz.prog 32 #[.agg a.val,.agg b.val] w fun e w'=>e=.returned (.agg (zKF a b).val)∧Ext w w':=by
 obtain⟨al,au,az⟩:=a;obtain⟨bl,bu,bz⟩:=b;have HA:=yG ha;have HB:=yG hb;clear ha hb;obtain⟨W,HW⟩:∃W,Hid (((w.alloc (.cells #[.int .i64 al,.int .i64 au,.int .i64 az] 48)).alloc (.cells #[.int .i64 bl,.int .i64 bu,.int .i64 bz] 48)).alloc (.cells #[.int .i64 0,.int .i64 0,.int .i64 0] 48)=W):=⟨_,yG rfl⟩;have HX:Hid (Ext w W):=yG (by rw[←HW.out]; exact((Ext.alloc _ _).trans (Ext.alloc _ _)).trans (Ext.alloc _ _))
 have hR:Blk W (w.heap.size+1+1) 48 #[.int .i64 0,.int .i64 0,.int .i64 0]:=by
  have h:=Blk.new ((w.alloc (.cells #[.int .i64 al,.int .i64 au,.int .i64 az] 48)).alloc (.cells #[.int .i64 bl,.int .i64 bu,.int .i64 bz] 48)) 48 #[.int .i64 0,.int .i64 0,.int .i64 0];rw[yT,yT] at h;rw[←HW.out];exact h
 have AC:=yG hR;clear hR;unfold B3.val
 go_enter Tryz.func32,Tryz.ntmps32
 go_wp2_with fail
 rw[HW.out];refine(zCj 65 max (fun AE w=>by simp[go_sem]) zQ6 ⟨al,au,az⟩ ⟨bl,bu,bz⟩ HA.out HB.out W).mono ?_;rintro e w2 ⟨rfl,AB⟩;have AG:=yG (HX.out.trans AB);have AD:=yG (AC.out.ext AB);obtain⟨gr,AA⟩:∃g,Hid (w.heap.size+1+1=g):=⟨_,yG rfl⟩;have AI:Hid (w.heap.size≤gr):=yG (by rw[←AA.out]; omega);rw[AA.out] at AD
 try rw[AA.out]
 clear AB AC HW AA;unfold JQ B3.val
 go_wp2_with (refine xQ rfl 48 (.tmp 4) (.tmp 7) rfl gr #[.int .i64 (max al bl),.int .i64 (max au bu),.int .i64 (max az bz)] rfl rfl 48 _ AD.out (by kernel_rfl) rfl rfl ?_; intro w3 AF AH)
 refine JH gr 48 _ _ rfl rfl rfl AH Tryz.underlying48 rfl (by kernel_rfl) ?_;exact⟨rfl,AF.ext AG.out AI.out⟩
section
variable {P:Program}
theorem zHh {w:World}{t kt et:TypeId}{kk:IntKind}{r clock i:Nat}{es:Array MapEntry}{n:Int}{v:Value}(hm:P.underlying t=some (.map kt et))(hk:P.underlying kt=some (.int kk))
  (hb:jK w r es clock) (hf:Instr.findNow (.int kk) (.int kk n) es.toList 0=some (some (i,v))):(Instr.lookup t (.map (some r)) (.int kk n) true).run P w=.ok (.tuple #[v,.bool true]) w:=by
 have hc:(Instr.checkKey es.isEmpty 10000 kt (.int kk n)).run P w=.ok () w:=MapKept.run_checkKey (k:=.int kk n) hk (by simp[MapKept.IsKey]) _ 9999;simp[Instr.lookup,run_underlying hm,MapKept.run_getObj_map hb,hc,MapKept.run_findKey hk hf,Result.andThen]
theorem zGu {w:World}{t kt et:TypeId}{kk:IntKind}{r clock:Nat}{es:Array MapEntry}{n:Int}{z:Value}(hm:P.underlying t=some (.map kt et))(hk:P.underlying kt=some (.int kk))(hz:∀w,(zeroValue et).run P w=.ok z w)
  (hb:jK w r es clock) (hf:Instr.findNow (.int kk) (.int kk n) es.toList 0=some none):(Instr.lookup t (.map (some r)) (.int kk n) true).run P w=.ok (.tuple #[z,.bool false]) w:=by
 have hc:(Instr.checkKey es.isEmpty 10000 kt (.int kk n)).run P w=.ok () w:=MapKept.run_checkKey (k:=.int kk n) hk (by simp[MapKept.IsKey]) _ 9999;simp[Instr.lookup,run_underlying hm,MapKept.run_getObj_map hb,hc,MapKept.run_findKey hk hf,hz,Result.andThen]
theorem zEs {ops:Array Oper}{rest:List Oper}{o:Oper}{a:Act}{w:World}{Q:Exit→Act→World→Prop}(hgd:o.guard=none)(t:TypeId)(m k:Operand)(ho:o.op=.lookup t m k true)
  {r:Nat} {kv v:Value} (em:a.eval m=.map (some r)) (ek:a.eval k=kv) (hrun:(Instr.lookup t (.map (some r)) kv true).run P w=.ok v w)
  (h:wpList P ops Q rest (a.put o.dst v) w):wpList P ops Q (o::rest) a w:=by
 refine wpList_plain hgd fun K hK=>?_;unfold Oper.wp execOp;simp only[ho,em,ek,Sem.run_bind,Sem.run_pure,hrun,Result.andThen_ok];exact hK _ _ h
end
def zCY (k:Int):B3:=if k=7 then ⟨2,0,5⟩ else if k=8∨k=9∨k=10 then ⟨2,1,5⟩ else if k=11 then ⟨1,0,3⟩ else if k=12 then ⟨1,0,2⟩ else ⟨0,0,1⟩
def ent (k:Int)(a:B3)(b:Nat):MapEntry:={ key:=.int .u8 k,val:=.agg a.val,born:=b }
def zHr:Array MapEntry:=#[ent 7 ⟨2,0,5⟩ 0,ent 8 ⟨2,1,5⟩ 1,ent 9 ⟨2,1,5⟩ 2,ent 10 ⟨2,1,5⟩ 3,ent 11 ⟨1,0,3⟩ 4,ent 12 ⟨1,0,2⟩ 5]
theorem zPT:∀w,(zeroValue 48).run Tryz.prog w=.ok (.agg #[.int .i64 0,.int .i64 0,.int .i64 0]) w:=fun _=>by kernel_rfl
theorem zOg (k:Int)(h0:0≤k)(h1:k<256):(Instr.findNow (.int .u8) (.int .u8 k) zHr.toList 0=some none∧zCY k=⟨0,0,1⟩)∨∃i,Instr.findNow (.int .u8) (.int .u8 k) zHr.toList 0=some (some (i,.agg (zCY k).val)):=by
 by_cases h:7≤k∧k≤12
 ·right
  have:k=7∨k=8∨k=9∨k=10∨k=11∨k=12:=by omega
  rcases this with rfl | rfl | rfl | rfl | rfl | rfl
  ·exact⟨0,by kernel_rfl⟩
  ·exact⟨1,by kernel_rfl⟩
  ·exact⟨2,by kernel_rfl⟩
  ·exact⟨3,by kernel_rfl⟩
  ·exact⟨4,by kernel_rfl⟩
  ·exact⟨5,by kernel_rfl⟩
 ·left
  refine⟨?_,by unfold zCY; rw[if_neg (by omega),if_neg (by omega),if_neg (by omega),if_neg (by omega)]⟩;have n7:(k==(7:Int))=false:=beq_eq_false_iff_ne.2 (by omega);have n8:(k==(8:Int))=false:=beq_eq_false_iff_ne.2 (by omega);have n9:(k==(9:Int))=false:=beq_eq_false_iff_ne.2 (by omega);have AC:(k==(10:Int))=false:=beq_eq_false_iff_ne.2 (by omega);have AA:(k==(11:Int))=false:=beq_eq_false_iff_ne.2 (by omega);have AB:(k==(12:Int))=false:=beq_eq_false_iff_ne.2 (by omega);simp[zHr,ent,Instr.findNow,Instr.sameNow,n7,n8,n9,AC,AA,AB]
theorem zQM (k:Int)(h0:0≤k)(h1:k<256)(w:World):Calls Tryz.prog 64 #[.int .u8 k] w fun e w'=>e=.returned (.agg (zCY k).val)∧Ext w w':=by
 have HF:=yG (zOg k h0 h1);clear h0 h1
 go_enter Tryz.func64,Tryz.ntmps64
 go_upto_region 1 with fail
 have Ah:Hid (Ext w (w.alloc (.cells #[.int .i64 0,.int .i64 0,.int .i64 0] 48))):=yG (Ext.alloc _ _);have AQ:=yG (Blk.new w 48 #[.int .i64 0,.int .i64 0,.int .i64 0]);have Aj:Hid ((w.alloc (.cells #[.int .i64 0,.int .i64 0,.int .i64 0] 48)).heap.size=w.heap.size+1):=yG (by simp);generalize w.alloc (.cells #[.int .i64 0,.int .i64 0,.int .i64 0] 48)=w0 at *;obtain⟨gz,AB⟩:∃g,Hid (w.heap.size=g):=⟨_,yG rfl⟩;rw[AB.out] at AQ
 try rw[AB.out]
 go_wp2_with (refine zCk rfl 176 rfl ?_)
 intro w1 AI AG Ai;obtain⟨gm,AL⟩:∃g,Hid (w0.heap.size=g):=⟨_,yG rfl⟩;rw[AL.out] at AG;have AA:Hid (w.heap.size≤gm∧gz≠gm):=yG (by have:=Aj.out; have:=AL.out; have:=AB.out; omega)
 try rw[AL.out]
 have AR:=yG AG;have AU:=yG (Ah.out.trans AI);have AY:=yG (AQ.out.ext AI);clear AI AG Ai
 go_wp2_with (refine ZO rfl 176 (.tmp 6) (.const (.int .u8 7)) (.tmp 7) rfl Tryz.underlying176 Tryz.underlying5 gm 0 #[] 7 (.agg #[.int .i64 2,.int .i64 0,.int .i64 5]) (by rfl) (by rfl) (by rfl) AR.out (by kernel_rfl) ?_)
 intro w2 ht hm;have AV:Hid (jK w2 gm #[ent 7 ⟨2,0,5⟩ 0] 1):=yG hm;have Ag:=yG (ht.ext AU.out AA.out.1);have Aa:=yG (ht.blk AY.out AA.out.2);clear ht hm AR AU AY
 go_wp2_with (refine ZO rfl 176 (.tmp 6) (.const (.int .u8 8)) (.tmp 8) rfl Tryz.underlying176 Tryz.underlying5 gm 1 #[ent 7 ⟨2,0,5⟩ 0] 8 (.agg #[.int .i64 2,.int .i64 1,.int .i64 5]) (by rfl) (by rfl) (by rfl) AV.out (by kernel_rfl) ?_)
 intro w3 ht hm;have AO:Hid (jK w3 gm #[ent 7 ⟨2,0,5⟩ 0,ent 8 ⟨2,1,5⟩ 1] 2):=yG hm;have Ab:=yG (ht.ext Ag.out AA.out.1);have Ad:=yG (ht.blk Aa.out AA.out.2);clear ht hm AV Ag Aa
 go_wp2_with (refine ZO rfl 176 (.tmp 6) (.const (.int .u8 9)) (.tmp 9) rfl Tryz.underlying176 Tryz.underlying5 gm 2 #[ent 7 ⟨2,0,5⟩ 0,ent 8 ⟨2,1,5⟩ 1] 9 (.agg #[.int .i64 2,.int .i64 1,.int .i64 5]) (by rfl) (by rfl) (by rfl) AO.out (by kernel_rfl) ?_)
 intro w4 ht hm;have AS:Hid (jK w4 gm #[ent 7 ⟨2,0,5⟩ 0,ent 8 ⟨2,1,5⟩ 1,ent 9 ⟨2,1,5⟩ 2] 3):=yG hm;have AP:=yG (ht.ext Ab.out AA.out.1);have AX:=yG (ht.blk Ad.out AA.out.2);clear ht hm AO Ab Ad
 go_wp2_with (refine ZO rfl 176 (.tmp 6) (.const (.int .u8 10)) (.tmp 10) rfl Tryz.underlying176 Tryz.underlying5 gm 3 #[ent 7 ⟨2,0,5⟩ 0,ent 8 ⟨2,1,5⟩ 1,ent 9 ⟨2,1,5⟩ 2] 10 (.agg #[.int .i64 2,.int .i64 1,.int .i64 5]) (by rfl) (by rfl) (by rfl) AS.out (by kernel_rfl) ?_)
 intro w5 ht hm;have Ac:Hid (jK w5 gm #[ent 7 ⟨2,0,5⟩ 0,ent 8 ⟨2,1,5⟩ 1,ent 9 ⟨2,1,5⟩ 2,ent 10 ⟨2,1,5⟩ 3] 4):=yG hm;have AZ:=yG (ht.ext AP.out AA.out.1);have AT:=yG (ht.blk AX.out AA.out.2);clear ht hm AS AP AX
 go_wp2_with (refine ZO rfl 176 (.tmp 6) (.const (.int .u8 11)) (.tmp 11) rfl Tryz.underlying176 Tryz.underlying5 gm 4 #[ent 7 ⟨2,0,5⟩ 0,ent 8 ⟨2,1,5⟩ 1,ent 9 ⟨2,1,5⟩ 2,ent 10 ⟨2,1,5⟩ 3] 11 (.agg #[.int .i64 1,.int .i64 0,.int .i64 3]) (by rfl) (by rfl) (by rfl) Ac.out (by kernel_rfl) ?_)
 intro w6 ht hm;have AW:Hid (jK w6 gm #[ent 7 ⟨2,0,5⟩ 0,ent 8 ⟨2,1,5⟩ 1,ent 9 ⟨2,1,5⟩ 2,ent 10 ⟨2,1,5⟩ 3,ent 11 ⟨1,0,3⟩ 4] 5):=yG hm;have Ae:=yG (ht.ext AZ.out AA.out.1);have Af:=yG (ht.blk AT.out AA.out.2);clear ht hm Ac AZ AT
 go_wp2_with (refine ZO rfl 176 (.tmp 6) (.const (.int .u8 12)) (.tmp 12) rfl Tryz.underlying176 Tryz.underlying5 gm 5 #[ent 7 ⟨2,0,5⟩ 0,ent 8 ⟨2,1,5⟩ 1,ent 9 ⟨2,1,5⟩ 2,ent 10 ⟨2,1,5⟩ 3,ent 11 ⟨1,0,3⟩ 4] 12 (.agg #[.int .i64 1,.int .i64 0,.int .i64 2]) (by rfl) (by rfl) (by rfl) AW.out (by kernel_rfl) ?_)
 intro w7 ht hm;have AH:Hid (jK w7 gm #[ent 7 ⟨2,0,5⟩ 0,ent 8 ⟨2,1,5⟩ 1,ent 9 ⟨2,1,5⟩ 2,ent 10 ⟨2,1,5⟩ 3,ent 11 ⟨1,0,3⟩ 4,ent 12 ⟨1,0,2⟩ 5] 6):=yG hm;have AE:=yG (ht.ext Ae.out AA.out.1);have AD:=yG (ht.blk Af.out AA.out.2);clear ht hm AW Ae Af;have AC:Hid (jK w7 gm zHr 6):=AH
 rcases HF.out with ⟨hf,hv⟩ | ⟨i,hf⟩
 ·have hl:=zGu (P:=Tryz.prog) (t:=176) Tryz.underlying176 Tryz.underlying5 zPT AC.out hf;have HV:=yG hv;clear hf hv HF AH AC
  go_upto_region 2 with fail
  go_upto_region 3 with (refine zEs (r:=gm) (by rfl) 176 (.tmp 15) (.tmp 16) (by rfl) (by rfl) (by rfl) hl ?_)
  have AM:=yG (AE.out.trans (Ext.alloc w7 (.cells #[.int .i64 0,.int .i64 0,.int .i64 0] 48)));have AN:=yG (AD.out.ext (Ext.alloc w7 (.cells #[.int .i64 0,.int .i64 0,.int .i64 0] 48)));clear hl AE AD;generalize w7.alloc (.cells #[.int .i64 0,.int .i64 0,.int .i64 0] 48)=w8 at *
  go_wp2_with (refine xQ rfl 48 (.tmp 2) (.tmp 22) rfl gz #[.int .i64 0,.int .i64 0,.int .i64 1] rfl rfl 48 _ AN.out (by kernel_rfl) rfl rfl ?_; intro w9 AJ AK)
  refine JH gz 48 _ _ rfl rfl rfl AK Tryz.underlying48 rfl (by kernel_rfl) ?_;exact⟨by rw[HV.out]; rfl,AJ.ext AM.out (by rw[AB.out]; exact zX _)⟩
 ·have hl:=zHh (P:=Tryz.prog) (t:=176) Tryz.underlying176 Tryz.underlying5 AC.out hf;clear hf HF AH AC;obtain⟨b,HB⟩:∃b,Hid (zCY k=b):=⟨_,yG rfl⟩;rw[HB.out] at hl;obtain⟨bl,bu,bz⟩:=b;unfold B3.val at hl
  go_upto_region 2 with fail
  go_upto_region 3 with (refine zEs (r:=gm) (by rfl) 176 (.tmp 15) (.tmp 16) (by rfl) (by rfl) (by rfl) hl ?_)
  have AM:=yG (AE.out.trans (Ext.alloc w7 (.cells #[.int .i64 bl,.int .i64 bu,.int .i64 bz] 48)));have AN:=yG (AD.out.ext (Ext.alloc w7 (.cells #[.int .i64 bl,.int .i64 bu,.int .i64 bz] 48)));have AF:=yG (Blk.new w7 48 #[.int .i64 bl,.int .i64 bu,.int .i64 bz]);clear hl AE AD;generalize w7.heap.size=g8 at *;generalize w7.alloc (.cells #[.int .i64 bl,.int .i64 bu,.int .i64 bz] 48)=w8 at *;have c0:w8.cell? ⟨g8,0,none⟩=some (.int .i64 bl):=AF.out.cell 0;have c1:w8.cell? ⟨g8,1,none⟩=some (.int .i64 bu):=AF.out.cell 1;have c2:w8.cell? ⟨g8,2,none⟩=some (.int .i64 bz):=AF.out.cell 2
  go_wp2_with (refine xQ rfl 48 (.tmp 2) (.tmp 21) rfl gz #[.int .i64 bl,.int .i64 bu,.int .i64 bz] rfl rfl 48 _ AN.out (by kernel_rfl) rfl rfl ?_; intro w9 AJ AK)
  refine JH gz 48 _ _ rfl rfl rfl AK Tryz.underlying48 rfl (by kernel_rfl) ?_;exact⟨by rw[HB.out]; rfl,AJ.ext AM.out (by rw[AB.out]; exact zX _)⟩
end Go.Proofs.YtbadjmmjbpeocaaGreat
namespace Go.Proofs.YtbadjmmjbpeocaaGreat
abbrev Bs:=List UInt8
def JC (c:UInt8):Bool:=decide (97≤c.toNat)&&decide (c.toNat≤122)
def ZU (c:UInt8):Bool:=decide (48≤c.toNat)&&decide (c.toNat≤57)
def XK (c:UInt8):Bool:=c==32||c==9||c==10||c==13
def zD4 (c:UInt8):Bool:=JC c||ZU c||c==95
def zUV:Bs:=[123,125,40,41,91,93,59,44,46,43,45,42,60,61]
def zH8 (c:UInt8):Bool:=zUV.contains c
structure Tok where
 kind:Nat
 at_:Nat
 en:Nat
 text:Bs
 n:Int
 deriving DecidableEq
def zCA:Int→Bs→Option Int
 | n,[]=>some n
 | n,c::r=>if 2147483647<n*10+((c.toNat:Int)-48) then none else zCA (n*10+((c.toNat:Int)-48)) r
inductive Step where
 | fin
 | skip (k:Nat)
 | tok (kind k:Nat) (n:Int)
 | bad (e:Int)
 deriving DecidableEq
def zO7 (r:Bs)(c:UInt8):Step:=
 match zCA 0 (c::r.takeWhile ZU) with
 | none=>.bad 31
 | some n=>.tok 2 (1+(r.takeWhile ZU).length) n
def zAY (c:UInt8)(r:Bs):Step:=
 if XK c then .skip 1
 else if c==35 then .skip (1+(r.takeWhile fun x=>x != 10).length)
 else if JC c then .tok 1 (1+(r.takeWhile zD4).length) 0
 else if ZU c then zO7 r c
 else if c==61&&r.head?==some 61 then .tok 3 2 0
 else if zH8 c then .tok 3 1 0
 else .bad 30
def step:Bs→Step
 | []=>.fin
 | c::r=>zAY c r
inductive zBS where
 | ok (l:List Tok)
 | err (at_:Nat) (e:Int)
 deriving DecidableEq
def zBS.cons (t:Tok):zBS→zBS
 | .ok l=>.ok (t::l)
 | .err a e=>.err a e
def zEc:Nat→Nat→Bs→zBS
 | 0,p,_=>.err p 0
 | f+1,p,s=>match step s with
  | .fin=>.ok [⟨4,p,p,[],0⟩]
  | .skip k=>zEc f (p+k) (s.drop k)
  | .tok kd k n=>(zEc f (p+k) (s.drop k)).cons ⟨kd,p,p+k,s.take k,n⟩
  | .bad e=>.err p e
def zAZ (p:Nat)(s:Bs):zBS:=zEc (s.length+1) p s
def Step.wide:Step→Nat→Prop
 | .fin,n=>n=0
 | .skip k,n=>1≤k∧k≤n
 | .tok _ k _,n=>1≤k∧k≤n
 | .bad _,n=>1≤n
theorem zM7 {α:Type}(p:α→Bool)(l:List α):(l.takeWhile p).length≤l.length:=(List.takeWhile_prefix p).length_le
theorem zDz (s:Bs):(step s).wide s.length:=by
 cases s with
 | nil=>exact rfl
 | cons c r=>
  show(zAY c r).wide (r.length+1)
  unfold zAY
  split
  ·exact⟨by omega,by omega⟩
  ·split
   ·have:=zM7 (fun x:UInt8=>x != 10) r; exact⟨by omega,by omega⟩
   ·split
    ·have:=zM7 zD4 r; exact⟨by omega,by omega⟩
    ·split
     ·unfold zO7
      split
      ·exact Nat.le_add_left ..
      ·have:=zM7 ZU r; exact⟨by omega,by omega⟩
     ·split
      ·rename_i h
       cases r with
       | nil=>simp at h
       | cons d r=>exact⟨by omega,by simp⟩
      ·split
       ·exact⟨by omega,by omega⟩
       ·exact Nat.le_add_left ..
theorem zES:∀(f g p:Nat) (s:Bs),s.length<f→s.length<g→zEc f p s=zEc g p s
 | 0,_,_,_,h,_=>absurd h (by omega)
 | _,0,_,_,_,h=>absurd h (by omega)
 | f+1,g+1,p,s,hf,hg=>by
  have hw:=zDz s;unfold zEc
  cases hs:step s with
  | fin=>rfl
  | bad e=>rfl
  | skip k=>
   rw[hs] at hw;have h1:1≤k:=hw.1;have h2:k≤s.length:=hw.2;exact zES f g _ _ (by simp; omega) (by simp; omega)
  | tok kd k n=>
   rw[hs] at hw;have h1:1≤k:=hw.1;have h2:k≤s.length:=hw.2
   show zBS.cons _ _=zBS.cons _ _
   rw[zES f g _ _ (by simp; omega) (by simp; omega)]
theorem zSu (p:Nat):zAZ p []=.ok [⟨4,p,p,[],0⟩]:=rfl
theorem zKJ {p k:Nat}{s:Bs}(h:step s=.skip k):zAZ p s=zAZ (p+k) (s.drop k):=by
 have hw:=zDz s;rw[h] at hw;have h1:1≤k:=hw.1;have h2:k≤s.length:=hw.2;unfold zAZ;rw[zEc,h];exact zES _ _ _ _ (by simp; omega) (by simp)
theorem zSq {p kd k:Nat}{n:Int}{s:Bs}(h:step s=.tok kd k n):zAZ p s=(zAZ (p+k) (s.drop k)).cons ⟨kd,p,p+k,s.take k,n⟩:=by
 have hw:=zDz s;rw[h] at hw;have h1:1≤k:=hw.1;have h2:k≤s.length:=hw.2;unfold zAZ;rw[zEc,h]
 show zBS.cons _ _=zBS.cons _ _
 rw[zES s.length ((s.drop k).length+1) _ _ (by simp; omega) (by simp)]
theorem zRr {p:Nat}{e:Int}{s:Bs}(h:step s=.bad e):zAZ p s=.err p e:=by
 unfold zAZ;rw[zEc,h]
def zBS.pre:List Tok→zBS→zBS
 | l,.ok m=>.ok (l++m)
 | _,.err a e=>.err a e
theorem zTv (r:zBS):zBS.pre [] r=r:=by cases r <;> rfl
theorem zSB (l:List Tok)(t:Tok)(r:zBS):zBS.pre (l++[t]) r=zBS.pre l (r.cons t):=by
 cases r with
 | ok m=>simp[zBS.pre,zBS.cons]
 | err a e=>rfl
def zBS.join:zBS→zBS→zBS
 | .ok l,r=>r.pre l.dropLast
 | .err a e,_=>.err a e
theorem zPg {p:UInt8→Bool}:∀(r:Bs) (m:Nat),(r.takeWhile p).length≤m→(r.take m).takeWhile p=r.takeWhile p
 | [],m,_=>by simp
 | c::r,0,h=>by
  rw[List.takeWhile_cons] at h ⊢
  split at h
  ·simp at h
  ·rename_i hc; simp[hc]
 | c::r,m+1,h=>by
  rw[List.take_succ_cons,List.takeWhile_cons,List.takeWhile_cons]
  by_cases hc:p c=true
  ·rw[if_pos hc,if_pos hc];rw[List.takeWhile_cons,if_pos hc] at h;rw[zPg r m (by simpa using h)]
  ·rw[if_neg hc,if_neg hc]
structure Nd where
 kind:Nat
 pos:Nat
 text:Bs
 num:Int
 kids:List Nat
 deriving DecidableEq
structure Ps where
 ts:List Tok
 nd:List Nd
 deep:Nat
 deriving DecidableEq
inductive Res (α:Type) where
 | ok (a:α) (s:Ps)
 | err (e:Int) (at_:Nat)
 deriving DecidableEq
def Res.bind {α β:Type}:Res α→(α→Ps→Res β)→Res β
 | .ok a s,f=>f a s
 | .err e p,_=>.err e p
theorem VN {α β:Type}(a:α)(s:Ps)(f:α→Ps→Res β):(Res.ok a s).bind f=f a s:=rfl
abbrev Pm (α:Type):=Ps→Res α
def zUE:Tok:=⟨4,0,0,[],0⟩
def Ps.hd (s:Ps):Tok:=s.ts.headD zUE
def Ps.adv (s:Ps):Ps:={ s with ts:=s.ts.tail }
def isP (t:Bs)(s:Ps):Bool:=(s.hd.kind != 4&&s.hd.kind != 2)&&s.hd.text==t
def vX (t:Bs):Pm Unit:=fun s=>if isP t s=true then .ok () s.adv else .err 50 s.hd.at_
def ofP (k:Nat):Pm Tok:=fun s=>if s.hd.kind=k then .ok s.hd s.adv else .err 50 s.hd.at_
def Ps.add (s:Ps)(n:Nd):Ps:={ s with nd:=s.nd++[n] }
def Ps.on (s:Ps)(i:Nat)(f:Nd→Nd):Ps:={ s with nd:=s.nd.modify i f }
def Ps.kid (s:Ps)(i:Nat):Ps:=s.on i fun n=>{ n with kids:=n.kids++[s.nd.length] }
def Ps.node (s:Ps)(k:Nat):Ps:=s.add ⟨k,s.hd.at_,[],0,[]⟩
def Ps.text (s:Ps)(i:Nat)(t:Bs):Ps:=s.on i fun n=>{ n with text:=t }
def Ps.num (s:Ps)(i:Nat)(x:Int):Ps:=s.on i fun n=>{ n with num:=x }
def Ps.kind (s:Ps)(i:Nat)(k:Nat):Ps:=s.on i fun n=>{ n with kind:=k }
def Ps.xI (s:Ps)(i k:Nat):Ps:=(s.kid i).node k
def jS (i:Nat):Pm Unit:=fun s=>(ofP 1 s).bind fun t s=>.ok () (s.text i t.text)
def zAI (i:Nat):Pm Unit:=fun s=>jS s.nd.length (s.xI i 5)
def zCW (i:Nat):Pm Unit:=fun s=>(ofP 2 s).bind fun t s=>.ok () (s.num i t.n)
def zCt (i:Nat):Pm Unit:=fun s=>zCW s.nd.length (s.xI i 21)
def jE {α:Type}(a z:Bs)(body:Pm α):Pm α:=fun s=>
 if isP a s=true then
  if s.deep=64 then .err 51 s.hd.at_
  else (body { s.adv with deep:=s.deep+1 }).bind fun x s=>
   if z=[] then .ok x { s with deep:=s.deep-1 }
   else (vX z s).bind fun _ s=>.ok x { s with deep:=s.deep-1 }
 else .err 50 s.hd.at_
inductive Ex where
 | leaf (kind pos:Nat) (text:Bs) (num:Int)
 | neg (pos:Nat) (a:Ex)
 | bin (kind pos:Nat) (a b:Ex)
 deriving DecidableEq
def Ex.pos:Ex→Nat
 | .leaf _ p _ _=>p
 | .neg p _=>p
 | .bin _ p _ _=>p
def zKP:List (Bs × Nat):=[([42],25)]
def zKc:List (Bs × Nat):=[([43],23),([45],24)]
def zD2 (ms:List (Bs × Nat))(s:Ps):Option Nat:=(ms.find? fun m=>isP m.1 s).map Prod.snd
def VX (ms:List (Bs × Nat))(part:Pm Ex):Nat→Ex→Pm Ex
 | 0,_,_=>.err 0 0
 | f+1,e,s=>match zD2 ms s with
  | none=>.ok e s
  | some k=>(part s.adv).bind fun r s=>VX ms part f (.bin k e.pos e r) s
def XB (ms:List (Bs × Nat))(part:Pm Ex):Pm Ex:=fun s=>(part s).bind fun e s=>VX ms part (s.ts.length+1) e s
def zRY (part:Pm Ex):Pm Ex:=XB zKP part
def zEA (part:Pm Ex):Pm Ex:=XB zKc (zRY part)
def vM:Nat→Pm Ex
 | 0,_=>.err 0 0
 | f+1,s=>
  if s.hd.kind=1 then .ok (.leaf 22 s.hd.at_ s.hd.text 0) s.adv
  else if s.hd.kind=2 then .ok (.leaf 21 s.hd.at_ [] s.hd.n) s.adv
  else if isP [45] s=true then (jE [45] [] (vM f) s).bind fun a t=>.ok (.neg s.hd.at_ a) t
  else jE [40] [41] (zEA (vM f)) s
def zPX:Pm Ex:=fun s=>zEA (vM s.ts.length) s
def zBT (i:Nat):Ex→Ps→Ps
 | .leaf k p t n,s=>(s.kid i).add ⟨k,p,t,n,[]⟩
 | .neg p a,s=>zBT s.nd.length a ((s.kid i).add ⟨26,p,[],0,[]⟩)
 | .bin k p a b,s=>zBT s.nd.length b (zBT s.nd.length a ((s.kid i).add ⟨k,p,[],0,[]⟩))
def zAC (i:Nat):Pm Unit:=fun s=>(zPX s).bind fun e s=>.ok () (zBT i e s)
def zBE (one:Pm Unit):Nat→Pm Unit
 | 0,_=>.err 0 0
 | f+1,s=>if isP [44] s=true then (one s.adv).bind fun _ s=>zBE one f s else .ok () s
def zAg (one:Pm Unit):Pm Unit:=fun s=>(one s).bind fun _ s=>zBE one (s.ts.length+1) s
def zGg (i:Nat):Pm Unit:=jE [91] [93] (zAC i)
def zJt (i:Nat):Pm Unit:=fun s=>(jS s.nd.length (s.xI i 20)).bind fun _ t=>zGg s.nd.length t
def zIC (i:Nat):Pm Unit:=fun s=>(zJt i s).bind fun _ s=>(vX [46] s).bind fun _ s=>zAI i s
def XA (st:Nat→Pm Unit)(i:Nat):Nat→Pm Unit
 | 0,_=>.err 0 0
 | f+1,s=>if isP [125] s=true then .ok () s else (st i s).bind fun _ s=>XA st i f s
def zAV (st:Nat→Pm Unit)(i:Nat):Pm Unit:=fun s=>jE [123] [125] (fun t=>XA st s.nd.length (t.ts.length+1) t) (s.xI i 6)
def zKS (i:Nat):Pm Unit:=fun s=>(jS i s).bind fun _ s=>(vX [61] s).bind fun _ s=>(zIC i s).bind fun _ s=>
 if isP [102,111,114] s=true then (vX [117,112,100,97,116,101] s.adv).bind fun _ s=>.ok () (s.num i 1) else .ok () s
def zQt (i:Nat):Pm Unit:=fun s=>(zIC i s).bind fun _ s=>(vX [61] s).bind fun _ s=>zAC i s
def zE3 (i:Nat):Pm Unit:=fun s=>(zJt i s).bind fun _ s=>(vX [40] s).bind fun _ s=>(zAg (zAC i) s).bind fun _ s=>vX [41] s
def zJ7 (i:Nat):Pm Unit:=fun s=>(jS i s).bind fun _ s=>(vX [61] s).bind fun _ s=>(zAI i s).bind fun _ s=>(vX [46] s).bind fun _ s=>zAI i s
def zKg (i:Nat):Pm Unit:=fun s=>(zAI i s).bind fun _ s=>if isP [97,108,108] s=true then .ok () (s.adv.num i 1) else vX [115,104,97,114,101,100] s
def zDt (i:Nat):Pm Unit:=fun s=>(jS s.nd.length (s.xI i 5)).bind fun _ t=>if isP [91] t=true then zGg s.nd.length (t.kind s.nd.length 20) else .ok () t
def zFf (i:Nat):Pm Unit:=fun s=>if isP [61,61] s=true then .ok () (s.adv.num i 1) else vX [60] s
def zGM (st:Nat→Pm Unit)(i:Nat):Pm Unit:=fun s=>if isP [101,108,115,101] s=true then zAV st i s.adv else .ok () s
def zDu (st:Nat→Pm Unit)(i:Nat):Pm Unit:=fun s=>(zAC i s).bind fun _ s=>(zFf i s).bind fun _ s=>(zAC i s).bind fun _ s=>(zAV st i s).bind fun _ s=>zGM st i s
def zGs (st:Nat→Pm Unit)(i:Nat):Pm Unit:=fun s=>(jS i s).bind fun _ s=>(vX [61] s).bind fun _ s=>(zCt i s).bind fun _ s=>(vX [116,111] s).bind fun _ s=>(zCt i s).bind fun _ s=>zAV st i s
def zPK (i:Nat):Pm Unit:=fun s=>(jS i s).bind fun _ s=>(vX [61] s).bind fun _ s=>zAC i s
def zT4:Pm Unit:=fun s=>.ok () s
def zIe:List (Bs × Nat):=[([114,101,97,100],7),([115,101,116],8),([112,117,116],9),([100,101,108,101,116,101],10),([115,99,97,110],11),([108,111,99,107],12),([114,101,108,101,97,115,101],13),([105,102],14),([102,111,114],15),([108,101,116],16),([101,109,105,116],17),([114,111,108,108,98,97,99,107],18),([99,104,111,112],19)]
def ZM (t:Bs):Option Nat:=(zIe.find? fun m=>m.1==t).map Prod.snd
def VK (st:Nat→Pm Unit)(k i:Nat):Pm Unit:=
 if k=7 then zKS i else if k=8 then zQt i else if k=9 then zE3 i else if k=10 then zJt i else if k=11 then zJ7 i
 else if k=12 then zKg i else if k=13 then zDt i else if k=14 then zDu st i else if k=15 then zGs st i else if k=16 then zPK i
 else if k=17 then zAC i else zT4
def YP:Nat→Nat→Pm Unit
 | 0,_,_=>.err 0 0
 | f+1,i,s=>match (if s.hd.kind=1 then ZM s.hd.text else none) with
  | none=>.err 50 s.hd.at_
  | some k=>(VK (YP f) k s.nd.length (s.xI i k).adv).bind fun _ s=>if k=14∨k=15 then .ok () s else vX [59] s
def zEf (i:Nat):Pm Unit:=fun s=>zAV (YP s.ts.length) i s
def zCV (i:Nat):Pm Unit:=fun s=>(vX [116,97,98,108,101] (s.xI i 2)).bind fun _ t=>(jS s.nd.length t).bind fun _ t=>(vX [40] t).bind fun _ t=>(zAg (zAI s.nd.length) t).bind fun _ t=>(vX [41] t).bind fun _ t=>vX [59] t
def zBR (i:Nat):Pm Unit:=fun s=>let n:=s.nd.length; let t:=s.xI i 4; if isP [41] t=true then .ok () t else zAg (zAI n) t
def zAd (i:Nat):Pm Unit:=fun s=>if isP [115,105,110,103,108,101] s=true then .ok () (s.adv.num i 1) else .ok () s
def zEw (i:Nat):Pm Unit:=fun s=>(vX [112,114,111,99] (s.xI i 3)).bind fun _ t=>(jS s.nd.length t).bind fun _ t=>(vX [40] t).bind fun _ t=>(zBR s.nd.length t).bind fun _ t=>(vX [41] t).bind fun _ t=>
 (zAd s.nd.length t).bind fun _ t=>zEf s.nd.length t
def YA:Nat→Pm Unit
 | 0,_=>.err 0 0
 | f+1,s=>if s.hd.kind=4 then .ok () s
  else if isP [116,97,98,108,101] s=true then (zCV 0 s).bind fun _ s=>YA f s
  else if isP [112,114,111,99] s=true then (zEw 0 s).bind fun _ s=>YA f s
  else .err 50 s.hd.at_
def zDs:Pm Unit:=fun s=>YA (s.ts.length+1) (s.node 1)
inductive zNQ where
 | ok (l:List Nd)
 | err (at_:Nat) (e:Int)
 deriving DecidableEq
def zC3 (ts:List Tok):zNQ:=match zDs ⟨ts,[],0⟩ with
 | .ok _ s=>.ok s.nd
 | .err e p=>.err p e
structure Nt where
 name:Bs
 zBW:List Bs
 deriving DecidableEq
structure Np where
 name:Bs
 params:Nat
 vars:List Bs
 single:Bool
 root:Nat
 deriving DecidableEq
structure Vr where
 name:Bs
 n:Nat
 loop:Bool
 deriving DecidableEq
structure Nr where
 xH:List Nt
 procs:List Np
 of:List Int
 vars:List Bs
 blocks:List (List Vr)
 deriving DecidableEq
inductive XH (α:Type) where
 | ok (a:α)
 | err (i:Nat) (e:Int)
 deriving DecidableEq
def XH.bind {α β:Type}:XH α→(α→XH β)→XH β
 | .ok a,f=>f a
 | .err i e,_=>.err i e
abbrev Nn:=Nr→XH Nr
def yZ (t:List Nd)(i:Nat):Nd:=t.getD i ⟨0,0,[],0,[]⟩
def Nr.set (s:Nr)(i:Nat)(x:Int):Nr:={ s with of:=s.of.set i x }
def zCw (s:Nr)(t:Bs):Option Nat:=s.xH.findIdx? fun x=>x.name==t
def zC6 (s:Nr)(t:Bs):Option Nat:=s.procs.findIdx? fun x=>x.name==t
def zSx (s:Nr)(k:Nat)(t:Bs):Option Nat:=((s.xH[k]?).map fun x=>x.zBW.findIdx? fun c=>c==t).join
def zA3 (s:Nr)(t:Bs):Option Vr:=s.blocks.findSome? fun b=>b.find? fun v=>v.name==t
def zBK (t:List Nd):List Nat→List Bs→Nr→XH (List Bs × Nr)
 | [],cs,s=>.ok (cs,s)
 | k::l,cs,s=>if cs.contains (yZ t k).text=true then .err k 71 else zBK t l (cs++[(yZ t k).text]) (s.set k cs.length)
def VU (t:List Nd)(i:Nat):Nn:=fun s=>
 if (zCw s (yZ t i).text).isSome=true then .err i 71
 else if s.xH.length<64∧(yZ t i).kids.length≤16 then
  (zBK t (yZ t i).kids [] s).bind fun x=>.ok { x.2.set i s.xH.length with xH:=s.xH++[⟨(yZ t i).text,x.1⟩] }
 else .err i 3
def zCH (t:List Nd)(i:Nat):Nn:=fun s=>
 if (zC6 s (yZ t i).text).isSome=true then .err i 71
 else if s.procs.length<64 then .ok { s.set i s.procs.length with procs:=s.procs++[⟨(yZ t i).text,0,[],(yZ t i).num==1,i⟩] }
 else .err i 3
def XU (t:List Nd):List Nat→Nn
 | [],s=>.ok s
 | k::l,s=>((if (yZ t k).kind=2 then VU t k else zCH t k) s).bind (XU t l)
def jF (t:List Nd)(i:Nat)(loop:Bool):Nn:=fun s=>
 if s.vars.length<64 then .ok { s.set i s.vars.length with vars:=s.vars++[(yZ t i).text],blocks:=(⟨(yZ t i).text,s.vars.length,loop⟩::s.blocks.headD [])::s.blocks.tail }
 else .err i 3
def YQ (t:List Nd)(i:Nat):Nn:=fun s=>match zA3 s (yZ t i).text with
 | none=>jF t i false s
 | some v=>if v.loop=true then .err i 71 else .ok (s.set i v.n)
def ZH (does:Nn):Nn:=fun s=>(does { s with blocks:=[]::s.blocks }).bind fun s=>.ok { s with blocks:=s.blocks.tail }
def ofN (t:List Nd)(i:Nat):Nn:=fun s=>match zCw s (yZ t i).text with
 | none=>.err i 70
 | some k=>.ok (s.set i k)
def YR (t:List Nd)(i:Nat)(table:Int):Nn:=fun s=>match zSx s table.toNat (yZ t i).text with
 | none=>.err i 70
 | some c=>.ok (s.set i c)
def vJ (one:Nat→Nn):List Nat→Nn
 | [],s=>.ok s
 | k::l,s=>(one k s).bind (vJ one l)
def vD (t:List Nd):Nat→Nat→Nn
 | 0,_,s=>.ok s
 | f+1,i,s=>
  ((if (yZ t i).kind=22 then (match zA3 s (yZ t i).text with | none=>.err i 70 | some v=>.ok (s.set i v.n))
   else if (yZ t i).kind=20 then ofN t i s else .ok s):XH Nr).bind (vJ (vD t f) (yZ t i).kids)
def VQ (t:List Nd)(i j:Nat):Nat:=(yZ t i).kids.getD j 0
def zCQ (s:Nr)(i:Nat):Int:=s.of.getD i (-1)
def ZJ (t:List Nd)(st:Nat→Nn)(i:Nat)(top:Bool):Nn:=
 ZH (vJ (fun k s=>if (top||(yZ t k).kind != 19)=true then st k s else .err k 73) (yZ t i).kids)
def ZN (t:List Nd)(i:Nat):Nn:=fun s=>if (yZ t i).kind=7∨(yZ t i).kind=11∨(yZ t i).kind=16 then YQ t i s else .ok s
def vP (t:List Nd):Nat→Nat→Nn
 | 0,_,s=>.ok s
 | f+1,i,s=>
  ((if (yZ t i).kind=7∨(yZ t i).kind=8 then
    (vD t (f+1) (VQ t i 0) s).bind fun s=>(YR t (VQ t i 1) (zCQ s (VQ t i 0)) s).bind (vJ (vD t (f+1)) ((yZ t i).kids.drop 2))
   else if (yZ t i).kind=9 then
    (ofN t (VQ t i 0) s).bind fun s=>
     (if (yZ t i).kids.length=((s.xH[(zCQ s (VQ t i 0)).toNat]?).map fun x=>x.zBW.length).getD 0+1 then XH.ok (s.set i (zCQ s (VQ t i 0))) else .err i 72).bind
      (vJ (vD t (f+1)) (yZ t i).kids)
   else if (yZ t i).kind=11 then (ofN t (VQ t i 0) s).bind fun s=>YR t (VQ t i 1) (zCQ s (VQ t i 0)) s
   else if (yZ t i).kind=15 then
    (if (zA3 s (yZ t i).text).isSome=true then .err i 71
     else ZH (fun s=>(jF t i true s).bind (ZJ t (vP t f) (VQ t i 2) false)) s)
   else vJ (fun k s=>if (yZ t k).kind=5 then ofN t k s else if (yZ t k).kind=6 then ZJ t (vP t f) k false s else vD t (f+1) k s) (yZ t i).kids s):XH Nr).bind (ZN t i)
def XE (t:List Nd):List Nat→Nn
 | [],s=>.ok s
 | k::l,s=>if (zA3 s (yZ t k).text).isSome=true then .err k 71 else (jF t k false s).bind (XE t l)
def zIa (t:List Nd)(j:Nat):Nn:=fun s=>match s.procs[j]? with
 | none=>.ok s
 | some p=>(ZH (fun s=>(XE t (yZ t (VQ t p.root 0)).kids s).bind (ZJ t (vP t t.length) (VQ t p.root 1) true)) { s with vars:=[] }).bind fun s=>
   .ok { s with procs:=s.procs.set j { p with params:=(yZ t (VQ t p.root 0)).kids.length,vars:=s.vars } }
def zAc (t:List Nd):Nat→Nat→Nn
 | 0,_,s=>.ok s
 | f+1,j,s=>if j<s.procs.length then (zIa t j s).bind (zAc t f (j+1)) else .ok s
def jM (t:List Nd):XH Nr:=
 (XU t (yZ t 0).kids ⟨[],[],List.replicate t.length (-1),[],[]⟩).bind fun s=>zAc t s.procs.length 0 s
end Go.Proofs.YtbadjmmjbpeocaaGreat
namespace Go.Proofs.YtbadjmmjbpeocaaGreat
open Go Go.RowKit
def zC4 (a b:Int):Int:=max 0 (wrap64 (wrap64 (b-a)+1))
def zF5:B3:=⟨0,0,1⟩
def zAN (t:List Nd):Nat→Nat→B3
 | 0,_=>⟨0,0,0⟩
 | f+1,i=>
  if (yZ t i).kind=15 then
   JQ xW zF5 (JQ vC (JQ xW ((yZ t (VQ t i 2)).kids.foldl (fun b k=>JQ xW b (zAN t f k)) ⟨0,0,0⟩) zF5)
    ⟨zC4 (yZ t (VQ t i 0)).num (yZ t (VQ t i 1)).num,zC4 (yZ t (VQ t i 0)).num (yZ t (VQ t i 1)).num,zC4 (yZ t (VQ t i 0)).num (yZ t (VQ t i 1)).num⟩)
  else zCY ((yZ t i).kind:Int)
def zEP (t:List Nd)(f j:Nat):B3:=(yZ t j).kids.foldl (fun b k=>JQ xW b (zAN t f k)) ⟨0,0,0⟩
theorem zDY (a b:Int):w64 (xW a b):=zK9 (zE2 a b) (zE6 a b)
theorem zA4 (a b:Int):w64 (vC a b):=zK9 (zDw a b) (zDC a b)
theorem VA (a b:B3):(JQ xW a b).ok:=⟨zDY _ _,zDY _ _,zDY _ _⟩
theorem zHU (a b:B3):(JQ vC a b).ok:=⟨zA4 _ _,zA4 _ _,zA4 _ _⟩
theorem zHV {a:B3}(h1:-1000≤a.l∧a.l≤1000)(h2:-1000≤a.u∧a.u≤1000)(h3:-1000≤a.s∧a.s≤1000):a.ok:=⟨⟨by omega,by omega⟩,⟨by omega,by omega⟩,by omega,by omega⟩
theorem zCg:(⟨0,0,0⟩:B3).ok:=zHV (by decide) (by decide) (by decide)
theorem zMI:zF5.ok:=zHV (by decide) (by decide) (by decide)
theorem zQA (k:Int):(zCY k).ok:=by
 unfold zCY
 repeat' split
 all_goals exact zHV (by decide) (by decide) (by decide)
theorem zLO {G:Nat→B3}:∀(l:List Nat) (b:B3),b.ok→(l.foldl (fun b k=>JQ xW b (G k)) b).ok
 | [],b,h=>h
 | k::l,b,h=>zLO l _ (VA _ _)
theorem zMd (t:List Nd):∀(f i:Nat),(zAN t f i).ok
 | 0,i=>zCg
 | f+1,i=>by
  unfold zAN
  split
  ·exact VA _ _
  ·exact zQA _
theorem zQz (t:List Nd)(f j:Nat):(zEP t f j).ok:=zLO _ _ zCg
theorem zPU (x:Int):w64 (wrap64 x):=by unfold wrap64 w64; omega
theorem zQw (a b:Int):w64 (zC4 a b):=by
 have:=zPU (wrap64 (b-a)+1)
 unfold zC4;unfold w64 at *;omega
end Go.Proofs.YtbadjmmjbpeocaaGreat
namespace Go.Proofs.YtbadjmmjbpeocaaGreat
structure Qn where
 xH:List Nt
 procs:List Np
 of:List Int
 vars:List Bs
 params:Nat
 there:List Vr
 e:Int
 at_:Nat
 deriving DecidableEq
def Qn.fail (i:Nat)(e:Int)(q:Qn):Qn:=if q.e=0 then { q with e:=e,at_:=i } else q
def Qn.set (q:Qn)(i:Nat)(x:Int):Qn:={ q with of:=q.of.set i x }
def zHm (o:Option Nat):Int:=match o with
 | some k=>k
 | none=>-1
def Qn.tab (q:Qn)(t:Bs):Int:=zHm (q.xH.findIdx? fun x=>x.name==t)
def Qn.proc (q:Qn)(t:Bs):Int:=zHm (q.procs.findIdx? fun x=>x.name==t)
def Qn.find (q:Qn)(t:Bs):Option Vr:=q.there.find? fun v=>v.name==t
structure Sim (s:Nr)(q:Qn):Prop where
 xH:q.xH=s.xH
 procs:q.procs=s.procs
 of:q.of=s.of
 vars:q.vars=s.vars
 there:q.there=s.blocks.flatten
 e:q.e=0
def zKs (x:XH Nr)(q:Qn):Prop:=match x with
 | .ok s=>Sim s q
 | .err i e=>q.e=e∧q.at_=i∧e≠0
def zGX (M:Qn→Qn):Prop:=∀q,q.e≠0→(M q).e=q.e∧(M q).at_=q.at_
structure zLY (m:Nn)(M:Qn→Qn):Prop where
 dead:zGX M
 live:∀s q,Sim s q→zKs (m s) (M q)
theorem zGX.comp {M N:Qn→Qn}(h:zGX M)(k:zGX N):zGX fun q=>N (M q):=fun q hq=>by
 obtain⟨h1,h2⟩:=h q hq;obtain⟨k1,k2⟩:=k (M q) (by rw[h1]; exact hq);exact⟨k1.trans h1,k2.trans h2⟩
theorem zKs.bind {x:XH Nr}{q:Qn}{f:Nr→XH Nr}{N:Qn→Qn}(h:zKs x q)(hN:zGX N)(k:∀s,x=.ok s→Sim s q→zKs (f s) (N q)):zKs (x.bind f) (N q):=by
 cases x with
 | ok s=>exact k s rfl h
 | err i e=>
  obtain⟨h1,h2,h3⟩:=h;obtain⟨k1,k2⟩:=hN q (by rw[h1]; exact h3);exact⟨k1.trans h1,k2.trans h2,h3⟩
theorem zLY.bind {m f:Nn}{M N:Qn→Qn}(h:zLY m M)(k:zLY f N):zLY (fun s=>(m s).bind f) fun q=>N (M q):=
 ⟨h.dead.comp k.dead,fun s q hs=>zKs.bind (h.live s q hs) k.dead fun s' _ AA=>k.live s' _ AA⟩
theorem Sim.set {s:Nr}{q:Qn}(h:Sim s q)(i:Nat)(x:Int):Sim (s.set i x) (q.set i x):=⟨h.xH,h.procs,by show q.of.set i x=s.of.set i x; rw[h.of],h.vars,h.there,h.e⟩
theorem Sim.tab {s:Nr}{q:Qn}(h:Sim s q)(t:Bs):q.tab t=zHm (zCw s t):=by unfold Qn.tab zCw; rw[h.xH]
theorem Sim.proc {s:Nr}{q:Qn}(h:Sim s q)(t:Bs):q.proc t=zHm (zC6 s t):=by unfold Qn.proc zC6; rw[h.procs]
theorem Sim.find {s:Nr}{q:Qn}(h:Sim s q)(t:Bs):q.find t=zA3 s t:=by
 unfold Qn.find zA3;rw[h.there,List.find?_flatten]
def zLF (k:Nat):Prop:=21≤k∧k≤26
def zCs (t:List Nd)(i:Nat):Prop:=match (yZ t i).kind with
 | 2=>True
 | 3=>∃a b,(yZ t i).kids=[a,b]∧(yZ t b).kind=6
 | 6=>∀k ∈ (yZ t i).kids,7≤(yZ t k).kind∧(yZ t k).kind≤19
 | 7=>∃a b,(yZ t i).kids=[a,b]∧(yZ t a).kind=20
 | 8=>∃a b c,(yZ t i).kids=[a,b,c]∧(yZ t a).kind=20∧zLF (yZ t c).kind
 | 9=>∃a l,(yZ t i).kids=a::l∧(yZ t a).kind=20∧∀k ∈ l,zLF (yZ t k).kind
 | 10=>∃a,(yZ t i).kids=[a]∧(yZ t a).kind=20
 | 11=>∃a b,(yZ t i).kids=[a,b]
 | 12=>∃a,(yZ t i).kids=[a]∧((yZ t a).kind=5∨(yZ t a).kind=20)
 | 13=>∃a,(yZ t i).kids=[a]∧((yZ t a).kind=5∨(yZ t a).kind=20)
 | 14=>∃a b l,(yZ t i).kids=a::b::l∧zLF (yZ t a).kind∧zLF (yZ t b).kind∧∀k ∈ l,(yZ t k).kind=6
 | 15=>∃a b c,(yZ t i).kids=[a,b,c]∧(yZ t c).kind=6
 | 16=>∃a,(yZ t i).kids=[a]∧zLF (yZ t a).kind
 | 17=>∃a,(yZ t i).kids=[a]∧zLF (yZ t a).kind
 | 18=>(yZ t i).kids=[]
 | 19=>(yZ t i).kids=[]
 | 20=>∃a,(yZ t i).kids=[a]∧zLF (yZ t a).kind
 | _=>∀k ∈ (yZ t i).kids,zLF (yZ t k).kind
structure zBU (t:List Nd):Prop where
 up:∀i,∀k ∈ (yZ t i).kids,i<k∧k<t.length
 form:∀i,i<t.length→(yZ t i).kind≠1→(yZ t i).kind≠4→zCs t i
end Go.Proofs.YtbadjmmjbpeocaaGreat
