/- A slice of bytes opened. (and what follows of it). The conditions stand at each lemma. -/
import Derived.Test.YtioffpjajhalaaaGreatDoorJaa
import Derived.Test.YtioffpjajhalaaaGreatDoorJae
import Derived.Test.YtioffpjajhalaaaGreatDoorJab
import Derived.Test.YtioffpjajhalaaaGreatDoorJbh
import Derived.Test.YtioffpjajhalaaaGreatDoorJaj
set_option linter.unusedVariables false
set_option linter.unusedSimpArgs false
set_option maxRecDepth 100000
set_option maxHeartbeats 16000000
namespace Go.Proofs.YtioffpjajhalaaaGreatDoor
open Go Go.RowKit Go.Deep Go.ChangeShapes Go.WideShapes
theorem zEC:∀(l:List Int),(∀x ∈ l,0≤x∧x<256)→xO (Lib.bytesOf l)=l.map (Value.int .u8)
 | [],_=>rfl
 | x::l,h=>by
  have hx:=h x (List.mem_cons_self ..);have ih:=zEC l (fun y hy=>h y (List.mem_cons_of_mem _ hy));unfold xO Lib.bytesOf at *;simp only[List.map_cons,List.map_map] at *;rw[ih]
  congr 2
  simp
  omega
theorem zWX {x:Int}(h:(Lit.int .u8 x).wf=true):0≤x∧x<256:=by
 have h1:IntKind.u8.min=0:=rfl;have h2:IntKind.u8.max=255:=rfl;simp only[Lit.wf,zF,zE] at h;omega
theorem zO3 {H:Type}{enc:TypeId × Value→H}{w:World}{base:Nat}{spare:Nat→Bool}{held:Bool}{a:Option Addr}{len cap:Nat}{d:DataW H}{p:List MemPlace}(h:DataW.Trod enc Tryz.prog w base spare held 22 (.slice a len cap) d p) :
  ∃l:Bs,len=l.length∧(a=none→cap=0)∧Cells w a (xO l)∧len≤cap:=by
 obtain⟨l,h1,h2,h3,h4⟩:=zKC (k:=.u8) Tryz.underlying22 Tryz.underlying5 (by kernel_rfl) h;have hb:∀x ∈ l,0≤x∧x<256:=fun x hx=>zWX (h4 x hx);refine⟨Lib.bytesOf l,by unfold Lib.bytesOf; simpa using h1,h2,by rw[zEC l hb]; exact h3,?_⟩;obtain⟨AB,AC⟩:=h
 rcases DataW.trod_slice Tryz.underlying22 AC with ⟨AA,_⟩ | ⟨a',AE,AD,_,_,_,_,AA,_,_,AF,_⟩
 ·simp[Value.cells] at AA;omega
 ·simp[Value.cells] at AA;omega
end Go.Proofs.YtioffpjajhalaaaGreatDoor
namespace Go.Proofs.YtioffpjajhalaaaGreatDoor
def Ex.dd:Ex→Nat
 | .leaf ..=>0
 | .neg _ a=>1+a.dd
 | .bin _ _ a b=>1+max a.dd b.dd
def isB:Ex→Bool
 | .bin ..=>true
 | _=>false
theorem zSk {M:Nat}{n:Nat}(hn:n≤3):∀e:Ex,QX M e→e.dp≤e.dd→(isB e=true→e.dp+1≤e.dd)→br n (exK e) e.dp≤e.dd
 | .leaf k p t x,q,h,_=>by
  have hk:vB k=3:=by rcases q.1 with ⟨rfl,_⟩ | ⟨rfl,_⟩ <;> rfl
  show br n k 0≤0
  unfold br;rw[hk,if_neg (by omega)];exact zU _
 | .neg p a,q,h,_=>by
  have e:br n (exK (.neg p a)) (Ex.neg p a).dp=(Ex.neg p a).dp:=by
   unfold br;rw[show vB (exK (.neg p a))=3 from rfl,if_neg (by omega)]
  rw[e];exact h
 | .bin k p a b,q,_,h=>by
  have:=h rfl
  unfold br
  split <;> omega
theorem zMK {M:Nat}:∀e:Ex,QX M e→e.dp≤e.dd∧(isB e=true→e.dp+1≤e.dd)
 | .leaf k p t x,q=>⟨zT _,fun h=>by cases h⟩
 | .neg p a,q=>by
  obtain⟨h1,h2⟩:=zMK a q.1;have h3:=zSk (n:=3) (by decide) a q.1 h1 h2;refine⟨?_,fun h=>by cases h⟩
  show 1+br 3 (exK a) a.dp≤1+a.dd
  omega
 | .bin k p a b,q=>by
  obtain⟨h1,h2⟩:=zMK a q.2.1;obtain⟨h4,h5⟩:=zMK b q.2.2.1
  have hl:zD3 k≤3∧zDG k≤3:=by rcases q.1 with rfl | rfl | rfl <;> decide
  have h3:=zSk hl.1 a q.2.1 h1 h2;have h6:=zSk hl.2 b q.2.2.1 h4 h5;have e1:(Ex.bin k p a b).dp=max (br (zD3 k) (exK a) a.dp) (br (zDG k) (exK b) b.dp):=rfl;have e2:(Ex.bin k p a b).dd=1+max a.dd b.dd:=rfl;rw[e1,e2];exact⟨by omega,fun _=>by omega⟩
def zB2 (k u:Nat):Nat:=if (k=6∨k=20)∨(21≤k∧21≤u) then 1 else 0
def Fo.YX:Nat→Fo→List Nat
 | _,.nil=>[]
 | u,.cons k p t x c r=>(zB2 k u+vV (Fo.YX k c))::Fo.YX u r
theorem zMu {M:Nat}(e:Ex)(q:QX M e):21≤exK e:=q.is.1
theorem zEA {M:Nat}:∀(e:Ex) (r:Fo) (u:Nat),QX M e→(e.fo r).YX u=(zB2 (exK e) u+e.dd)::r.YX u
 | .leaf k p t n,r,u,q=>rfl
 | .neg p a,r,u,q=>by
  have ha:21≤exK a:=zMu a q.1
  show(zB2 26 u+vV ((a.fo .nil).YX 26))::r.YX u=_
  rw[zEA a .nil 26 q.1];have e:zB2 (exK a) 26=1:=if_pos (.inr ⟨ha,by decide⟩);rw[e]
  show(zB2 26 u+max (1+a.dd) 0)::r.YX u=(zB2 26 u+(1+a.dd))::r.YX u
  rw[Nat.max_eq_left (zT _)]
 | .bin k p a b,r,u,q=>by
  have ha:21≤exK a:=zMu a q.2.1;have hb:21≤exK b:=zMu b q.2.2.1
  have hk:21≤k:=by rcases q.1 with rfl | rfl | rfl <;> decide
  show(zB2 k u+vV ((a.fo (b.fo .nil)).YX k))::r.YX u=_
  rw[zEA a _ k q.2.1,zEA b _ k q.2.2.1];have e1:zB2 (exK a) k=1:=if_pos (.inr ⟨ha,hk⟩);have e2:zB2 (exK b) k=1:=if_pos (.inr ⟨hb,hk⟩);rw[e1,e2]
  show(zB2 k u+max (1+a.dd) (max (1+b.dd) 0))::r.YX u=(zB2 k u+(1+max a.dd b.dd))::r.YX u
  congr 2
  omega
theorem zEf {M:Nat}:∀(f:Fo) (u:Nat),f.ok M→u<21→vV f.xP≤vV (f.YX u)
 | .nil,u,h,hu=>zU _
 | .cons k p t x c r,u,h,hu=>by
  have hr:=zEf r u h.2.2 hu;have e1:(Fo.cons k p t x c r).xP=ZI k c.xP c.kinds::r.xP:=rfl;have e2:(Fo.cons k p t x c r).YX u=(zB2 k u+vV (Fo.YX k c))::r.YX u:=rfl
  by_cases hk:21≤k
  ·have hE:isE k:=⟨hk,h.1.1.2.1⟩;obtain⟨e,q,he,hf⟩:=zGh _ _ (zU _) h k p t x c r rfl hE;rw[hf r,zCt e r q,zEA e r u q]
   have:=(zMK e q).1
   show max e.dp (vV r.xP)≤max (zB2 (exK e) u+e.dd) (vV (r.YX u))
   omega
  ·have hc:=zEf c k h.2.1 (by omega);rw[e1,e2]
   have e3:ZI k c.xP c.kinds≤zB2 k u+vV (Fo.YX k c):=by
    by_cases h6:k=20∨k=6
    ·have e4:zB2 k u=1:=if_pos (.inl (by omega));unfold ZI;rw[if_neg (by omega),if_neg (by omega),if_pos h6,e4];omega
    ·rw[zKS _ _ (by omega) (by omega) (by omega) (by omega) (by omega) (by omega)];omega
   show max (ZI k c.xP c.kinds) (vV r.xP)≤max (zB2 k u+vV (Fo.YX k c)) (vV (r.YX u))
   omega
theorem zWY {k u:Nat}(hk:k≤26)(hu:u≤26):TT.zJG (k:Int) (u:Int)=(zB2 k u:Int):=by
 unfold TT.zJG zB2 TT.ZQ;simp only[zF,zE]
 by_cases h:(k=6∨k=20)∨(21≤k∧21≤u)
 ·rw[if_pos h,if_pos (by omega)]; rfl
 ·rw[if_neg h,if_neg (by omega)]; rfl
theorem zT8 (L:List TT.xC)(a:Nat)(n:TT.xC)(h:L[a]?=some n):(TT.zD2 L).getD a 0=n.kind:=by
 unfold TT.zD2;rw[yE,zM,h]
 rfl
theorem zL8 (L:List TT.xC)(a:Nat)(n:TT.xC)(h:L[a]?=some n):(TT.ZO L).getD a []=n.kids:=by
 unfold TT.ZO;rw[yE,zM,h]
 rfl
theorem zIZ {M:Nat}{L:List TT.xC}:∀(f:Fo) (a fuel u:Nat) (m:Int),f.ok M→u≤26→VP L a f→f.size≤fuel→0≤m→(xK (f.roots a)).foldl (fun m k=>max m (TT.zAs (TT.zD2 L) (TT.ZO L) fuel k.toNat (u:Int))) m=max m ((vV (f.YX u):Nat):Int)
 | .nil,a,fuel,u,m,_,_,_,_,h0=>by
  show m=max m ((0:Nat):Int)
  omega
 | .cons k p t x c r,a,0,u,m,_,_,_,hs,h0=>by
  have:1+c.size+r.size≤0:=hs
  omega
 | .cons k p t x c r,a,fuel+1,u,m,ho,hu,hL,hs,h0=>by
  have hs:1+c.size+r.size≤fuel+1:=hs;obtain⟨⟨n,hn,hk,_,_,AB⟩,hc,hr⟩:=hL;have AA:k≤26:=ho.1.1.2.1;have e1:=zIZ c (a+1) fuel k 0 ho.2.1 AA hc (by omega) (Int.le_refl _)
  have e2:TT.zAs (TT.zD2 L) (TT.ZO L) (fuel+1) a (u:Int)=((zB2 k u+vV (Fo.YX k c):Nat):Int):=by
   unfold TT.zAs;rw[zT8 L a n hn,zL8 L a n hn,hk,AB,e1,zWY AA hu];omega
  show(xK (r.roots (a+1+c.size))).foldl _ (max m (TT.zAs _ _ (fuel+1) ((a:Int)).toNat (u:Int)))=_
  rw[zH,e2,zIZ r _ (fuel+1) u _ ho.2.2 hu hr (by omega) (by omega)]
  show _=max m ((max (zB2 k u+vV (Fo.YX k c)) (vV (r.YX u)):Nat):Int)
  omega
theorem zPN {M:Nat}{L:List TT.xC}{t:Bs}{x:Int}{f:Fo}(hr:TT.jT L=true)(hL:VP L 0 (Fo.one 1 0 t x f))(ho:(Fo.one 1 0 t x f).ok M)(hn:1+f.size=L.length):TT.zDn L=((vV (f.YX 1):Nat):Int):=by
 have h:=zIZ (Fo.one 1 0 t x f) 0 L.length 0 0 ho (by decide) hL (by show 1+f.size+0≤L.length; omega) (Int.le_refl _)
 have e:TT.zDn L=TT.zAs (TT.zD2 L) (TT.ZO L) L.length 0 0:=by
  rw[TT.zRf];unfold TT.zPn;rw[←TT.zEL,if_pos hr]
 rw[e];have h3:max 0 (TT.zAs (TT.zD2 L) (TT.ZO L) L.length 0 0)=max 0 ((max (zB2 1 0+vV (f.YX 1)) 0:Nat):Int):=h;have h4:zB2 1 0=0:=rfl
 have:=TT.zNg (TT.zD2 L) (TT.ZO L) L.length 0 0
 omega
theorem zOI {M:Nat}{L:List TT.xC}{t:Bs}{x:Int}{f:Fo}(hr:TT.jT L=true)(hL:VP L 0 (Fo.one 1 0 t x f))(ho:(Fo.one 1 0 t x f).ok M)(hn:1+f.size=L.length):((vV f.xP:Nat):Int)≤TT.zDn L:=by
 have h2:=zEf f 1 ho.2.1 (by decide);rw[zPN hr hL ho hn];omega
end Go.Proofs.YtioffpjajhalaaaGreatDoor
namespace Go.Proofs.YtioffpjajhalaaaGreatDoor.TT
open Go Go.RowKit
theorem zMp (D:List Int)(i:Nat)(v:Int):(xL D).toArray.setIfInBounds i (.int .i64 v)=(xL (D.set i v)).toArray:=by
 unfold xL;rw[yA,List.map_set]
theorem zH3 (D:List Int)(i:Nat)(h:i<D.length):(xL D).toArray[i]?=some (.int .i64 (D.getD i 0)):=by
 unfold xL;simp[yE,h]
theorem zWW (n:Nat):madeCells #[.int .i64 0] n=(xL (List.replicate n 0)).toArray:=by
 apply Array.toList_inj.1;rw[toList_madeCells_one];simp[xL]
theorem zSm {c:Int}(v:Int)(h0:0≤v)(hv:v≤c):∀(l D:List Int),(∀j,0≤D.getD j 0∧D.getD j 0≤c)→∀j,0≤(vG v l D).getD j 0∧(vG v l D).getD j 0≤c:=by
 intro l
 induction l with
 | nil=>intro D h; exact h
 | cons k r ih=>
  intro D h;refine ih _ (fun j=>?_);rw[zBP]
  split
  ·exact⟨h0,hv⟩
  ·exact h j
theorem zWR (k:Int):0≤zAl k∧zAl k≤1:=by unfold zAl; split <;> omega
theorem zXz (k:Int):0≤exD k∧exD k≤1:=by unfold exD; split <;> omega
theorem zU5 (kd:List Int)(ks:List (List Int)):∀(k:Nat),(∀j,0≤(zCU kd ks k).1.getD j 0∧(zCU kd ks k).1.getD j 0≤2*(k:Int))∧(0≤(zCU kd ks k).2∧(zCU kd ks k).2≤2*(k:Int)):=by
 intro k
 induction k with
 | zero=>
  refine⟨fun j=>?_,?_⟩
  ·show 0≤(List.replicate ks.length (0:Int)).getD j 0∧(List.replicate ks.length (0:Int)).getD j 0≤_
   simp[yE,List.getElem?_replicate]
   split <;> simp
  ·exact⟨Int.le_refl _,Int.le_refl _⟩
 | succ k ih=>
  rw[zJW];obtain⟨h1,h2⟩:=ih;have ho:=zWR (kd.getD k 0);have he:=zXz (kd.getD k 0);have hk:=h1 k;unfold zCx;refine⟨zSm _ (by omega) (by omega) _ _ (fun j=>?_),by simp only; omega⟩;rw[zBP]
  split
  ·omega
  ·have:=h1 j; omega
theorem zQ7 (kd:List Int)(ks:List (List Int))(k:Nat):(zCU kd ks k).1.length=ks.length:=by
 unfold zCU;rw[zM6]
 simp
theorem zMW (D:List Int)(i:Nat):D.set i (D.getD i 0+0)=D:=by
 rw[Int.add_zero];apply List.ext_getElem?;intro j;rw[List.getElem?_set]
 split
 ·rename_i h;subst h
  split
  ·rename_i h; rw[yG h]; simp[yE,h]
  ·rename_i h; rw[zL (by omega)]
 ·rfl
theorem zII (k:Int)(b:Bool)(h:Hid (ZQ k=b))(w:World):Calls Tryz.prog 55 #[.int .u8 k] w fun e w'=>e=.returned (.bool b)∧w=w':=by
 rw[←h.out]; exact zAV k w
theorem zLn (l:List xC)(A:Option Addr)(n c:Nat)(w:World)(hn:n=l.length)(ht:XU w A l)(hlen:l.length≤9000)(hsm:∀x ∈ l,zEt x)(r:Int)(hr:Hid (zDn l=r)) :
  Calls Tryz.prog 22 #[.agg #[.slice A n c]] w fun e w'=>e=.returned (.int .i64 r)∧Ext w w':=by
 subst hn;have HT:=yD ht;have BA:=yD hsm;clear ht hsm;obtain⟨d,HD⟩:∃d,Hid (jT l=d):=⟨_,yD rfl⟩;have Az:Hid (Blk (w.alloc (.cells #[.slice A l.length c] 39)) w.heap.size 39 #[.slice A l.length c]):=yD (Blk.new _ _ _);have Au:Hid (Ext w (w.alloc (.cells #[.slice A l.length c] 39))):=yD (Ext.alloc _ _)
 go_enter Tryz.func22,Tryz.ntmps22
 have y0:=Az.out.cell 0
 go_wp2_with fail
 refine(zCq l A l.length c _ rfl (HT.out.ext Au.out) hlen BA.out d HD).mono ?_;rintro e w1 ⟨rfl,A2⟩;have At:=yD (Az.out.ext A2);have Aw:Hid (Ext w w1):=yD (Au.out.trans A2);clear A2 y0 Az Au;obtain⟨gt,A7⟩:∃gt,gt=w.heap.size:=⟨_,rfl⟩;rw[←A7] at At ⊢;clear A7;have y0:=At.out.cell 0
 cases d with
 | false=>
  have HZ:Hid (r=0):=yD (by rw[←hr.out]; unfold zDn; rw[HD.out]; rfl)
  go_wp2_with fail
  go_ret;exact⟨by rw[HZ.out]; rfl,Aw.out⟩
 | true=>
  have BH:Hid (r=zNd (zD2 l) (ZO l)):=yD (by rw[←hr.out]; unfold zDn; rw[HD.out]; rfl);have BL:Hid (∀x ∈ l,zIM l x.kids):=yD (by obtain⟨Z,hZ⟩:=zCH HD.out; exact zC1 hZ);have BI:Hid (∀i,i<l.length→∀k ∈ (ZO l).getD i [],(i:Int)<k∧k<(l.length:Int)):=yD (by obtain⟨Z,hZ⟩:=zCH HD.out; exact(zFt l).1 (zFo hZ));have BJ:=run_make_row' (P:=Tryz.prog) 32 3 (.int .i64 0) 8 Tryz.underlying32 zFC rfl .i64 .i64 l.length (by omega) (by omega)
  go_upto_region 5 with fail
  have A9:Hid (Blk (w1.alloc (.cells (madeCells #[.int .i64 0] l.length) 3)) w1.heap.size 3 (xL (List.replicate l.length 0)).toArray):=yD (by
   rw[zWW]
   exact Blk.new _ _ _)
  have Ak:Hid (Ext w1 (w1.alloc (.cells (madeCells #[.int .i64 0] l.length) 3))):=yD (Ext.alloc _ _);have A4:=yD (At.out.ext Ak.out);have A3:=yD (Aw.out.trans Ak.out);have BK:Hid (gt≠w1.heap.size):=yD (by have:=At.out.lt; omega);have AN:Hid (w.heap.size≤w1.heap.size):=yD Aw.out.size;clear y0 Ak;generalize w1.alloc (.cells (madeCells #[.int .i64 0] l.length) 3)=w2 at *;generalize w1.heap.size=g at *;have y0:=A4.out.cell 0;clear BJ
  go_wp2_with fail
  clear y0
  go_loopw [3,19] (fun mo i wr=>∃(k:Nat) (D:List Int) (m:Int),k≤l.length∧i=.int .i64 k∧mo=.int .i64 m∧Hid (zCU (zD2 l) (ZO l) k=(D,m))∧Hid (Blk wr g 3 (xL D).toArray)∧Hid (Ext w wr)) (fun _ i _=>l.length-(intOf i).toNat)
  case atStart=>exact⟨0,List.replicate l.length 0,0,zT _,rfl,rfl,yD (by unfold zCU; rw[jC]; rfl),A9,A3⟩
  case round=>
   clear A9 A4 A3;obtain⟨k,D,m,hk,rfl,rfl,Av,HB,HX⟩:=hrel;obtain⟨wa,rfl⟩:∃wa:World,wa=wr:=⟨_,rfl⟩;have Ao:=zU5 (zD2 l) (ZO l) k;have Ap:=zQ7 (zD2 l) (ZO l) k;rw[Av.out] at Ao Ap;rw[jC] at Ap
   simp only at Ao Ap
   by_cases AX:k<l.length
   ·have d0:decide ((k:Int)<(l.length:Int))=true:=yP (by omega)
    have q1:(k:Int)<(l.length:Int):=by omega
    have BC:=Ao.1 k;have BN:=Ao.2;have AU:=yD Ap;clear Ao;have A0:=yD (HT.out.ext HX.out);have An:Hid (Cells w l[k].kA (xL l[k].kids)):=yD (HT.out.ok _ (yL AX)).kids;obtain⟨b1,AP,rfl,BM,Ai⟩:=A0.out.at_ k AX;have BB:Hid (zBZ wa l[k]):=yD (A0.out.ok _ (yL AX));have BF:l[k].kids.length≤9000:=(BA.out _ (yL AX)).kids;have AR:Hid (∀y ∈ l[k].kids,(k:Int)<y∧y<(l.length:Int)):=yD (by have:=BI.out k AX; rw[zCr l k AX] at this; exact this)
    have Al:Hid (zCU (zD2 l) (ZO l) (k+1)=(vG (D.getD k 0+zAl l[k].kind+exD l[k].kind) l[k].kids (D.set k (D.getD k 0+zAl l[k].kind)),max m (D.getD k 0+zAl l[k].kind))):=yD (by
     rw[zJW,Av.out];unfold zCx
     rw[zGB l k AX,zCr l k AX])
    generalize l[k]=x at *;obtain⟨kind,pos,text,num,kA,kc,AA⟩:=x;have BG:Hid (Cells w kA (xL AA)):=An;clear An
    simp only at BF AR Al
    have x0:wa.cell? ⟨b1,AP+k*5,none⟩=some (.int .u8 kind):=Ai 0 (by omega);have x1:wa.cell? ⟨b1,AP+k*5+1,none⟩=some (.int .i64 pos):=Ai 1 (by omega);have x2:wa.cell? ⟨b1,AP+k*5+2,none⟩=some (.string text):=Ai 2 (by omega);have x3:wa.cell? ⟨b1,AP+k*5+3,none⟩=some (.int .i64 num):=Ai 3 (by omega);have x4:wa.cell? ⟨b1,AP+k*5+4,none⟩=some (.slice kA AA.length kc):=Ai 4 (by omega);clear Ai
    go_upto_region 8 with fail
    have Aq:Hid (Ext wa (wa.alloc (.cells #[.int .u8 kind,.int .i64 pos,.string text,.int .i64 num,.slice kA AA.length kc] 48))):=yD (Ext.alloc _ _);have Af:Hid (Blk (wa.alloc (.cells #[.int .u8 kind,.int .i64 pos,.string text,.int .i64 num,.slice kA AA.length kc] 48)) wa.heap.size 48 #[.int .u8 kind,.int .i64 pos,.string text,.int .i64 num,.slice kA AA.length kc]):=yD (Blk.new _ _ _);have AW:=yD (HB.out.ext Aq.out);have As:=yD (HX.out.trans Aq.out);have A5:Hid (Cells (wa.alloc (.cells #[.int .u8 kind,.int .i64 pos,.string text,.int .i64 num,.slice kA AA.length kc] 48)) kA (xL AA)):=yD (BB.out.kids.ext Aq.out);have AV:Hid (wa.heap.size≠g):=yD (by have:=HB.out.lt; omega);clear x0 x1 x2 x3 x4 HB HX A0 BB Aq;generalize wa.alloc (.cells #[.int .u8 kind,.int .i64 pos,.string text,.int .i64 num,.slice kA AA.length kc] 48)=wb at *;obtain⟨gx,A6⟩:∃gx,gx=wa.heap.size:=⟨_,rfl⟩;rw[←A6] at Af AV ⊢;clear A6;have z0:wb.cell? ⟨g,k,none⟩=some (.int .i64 (D.getD k 0)):=(AW.out.cell k).trans (zH3 D k (by have:=AU.out; omega));have zf:wb.frozen? ⟨g,k,none⟩=false:=AW.out.frozen k;obtain⟨a,ha⟩:∃a,D.getD k 0=a:=⟨_,rfl⟩;rw[ha] at z0 BC Al;have HA:=yD ha;clear ha;have x0:wb.cell? ⟨gx,0,none⟩=some (.int .u8 kind):=Af.out.cell 0;have x4:wb.cell? ⟨gx,4,none⟩=some (.slice kA AA.length kc):=Af.out.cell 4;have Am:Hid (∀w',Ext w w'→Cells w' kA (xL AA)):=yD (fun w' h=>BG.out.ext h)
    by_cases h6:kind=6
    ·have AZ:Hid (ZQ kind=false):=yD (by rw[h6]; rfl);have Aj:Hid (zAl kind=1):=yD (by rw[h6]; rfl);have AG:Hid (exD kind=0):=yD (by rw[h6]; rfl)
     have e6:(kind==6)=true:=by rw[h6]; rfl
     clear h6;have AL:Hid (Blk (wb.setCell ⟨g,k,none⟩ (.int .i64 (a+1))) g 3 (xL (vG (a+1) (AA.take 0) (D.set k (a+1)))).toArray):=yD (by rw[List.take_zero]; show Blk _ g 3 (xL (D.set k (a+1))).toArray; rw[←zMp]; exact AW.out.put k _);have AB:=yD (Af.out.far AV.out (p:=⟨g,k,none⟩) (.int .i64 (a+1)));have AK:Hid (Ext w (wb.setCell ⟨g,k,none⟩ (.int .i64 (a+1)))):=yD (As.out.setCell (p:=⟨g,k,none⟩) AN.out _);have AC:Hid (Cells (wb.setCell ⟨g,k,none⟩ (.int .i64 (a+1))) kA (xL AA)):=yD (Am.out _ AK.out);have AM:Hid ((D.set k (a+1)).getD k 0=a+1):=yD (by rw[zBP,if_pos ⟨rfl,by have:=AU.out; omega⟩]);have AS:Hid ((D.set k (a+1)).length=l.length):=yD (by rw[zB]; exact AU.out);have AT:Hid ((vG (a+zAl kind+exD kind) AA (D.set k (a+zAl kind)),max m (a+zAl kind))=(vG (a+1) AA (D.set k (a+1)),max m (a+1))):=yD (by rw[Aj.out,AG.out]; simp)
     have xz:(wb.setCell ⟨g,k,none⟩ (.int .i64 (a+1))).cell? ⟨g,k,none⟩=some (.int .i64 (a+1)):=by have h:=(AW.out.put k (.int .i64 (a+1))).cell k; rw[zMp] at h; rw[h,zH3 _ k (by rw[zB]; have:=AU.out; omega),AM.out]
     have xy:(wb.setCell ⟨g,k,none⟩ (.int .i64 (a+1))).cell? ⟨gx,4,none⟩=some (.slice kA AA.length kc):=AB.out.cell 4;generalize hE:D.set k (a+1)=E at AL AM AS AT
     go_wp2_with fail
     all_goals
      clear xz xy;clear x0 x4 z0 zf
      go_loopw [47] (fun i w4=>∃j:Nat,j≤AA.length∧i=.int .i64 j∧Hid (Blk w4 g 3 (xL (vG (a+1) (AA.take j) E)).toArray)∧Hid (Blk w4 gx 48 #[.int .u8 kind,.int .i64 pos,.string text,.int .i64 num,.slice kA AA.length kc])∧Hid (Cells w4 kA (xL AA))∧Hid (Ext w w4)) (fun i _=>AA.length-(intOf i).toNat)
      case atStart=>exact⟨0,zT _,rfl,AL,AB,AC,AK⟩
      case round=>
       clear AL AB AC AK;obtain⟨j,hj,rfl,AD,AF,Ah,AJ⟩:=hrel;obtain⟨wd,rfl⟩:∃wd:World,wd=wr:=⟨_,rfl⟩;have x0:wd.cell? ⟨gx,0,none⟩=some (.int .u8 kind):=AF.out.cell 0;have x4:wd.cell? ⟨gx,4,none⟩=some (.slice kA AA.length kc):=AF.out.cell 4
       by_cases AH:j<AA.length
       ·have d1:decide ((j:Int)<(AA.length:Int))=true:=yP (by omega);obtain⟨b3,AE,rfl,Ay,A1⟩:=zCT Ah.out j AH;have hy:=AR.out AA[j] (yL AH);have AO:Hid (vG (a+1) (AA.take (j+1)) E=(vG (a+1) (AA.take j) E).set (AA[j]).toNat (a+1)):=yD (by rw[zW AH,zCV]);have Ab:Hid ((vG (a+1) (AA.take j) E).getD k 0=(a+1)):=yD (by rw[zBs _ _ _ _ (fun y hy=>by have:=AR.out y (List.mem_of_mem_take hy); omega)]; exact AM.out);have Aa:Hid ((vG (a+1) (AA.take j) E).length=l.length):=yD (by rw[zBf]; exact AS.out);generalize vG (a+1) (AA.take j) E=F at *;generalize AA[j]=y at *;obtain⟨q,rfl⟩:∃q:Nat,y=(q:Int):=⟨y.toNat,by omega⟩;rw[zH] at AO;have Ax:=Aa.out;have z1:wd.cell? ⟨g,k,none⟩=some (.int .i64 (a+1)):=(AD.out.cell k).trans (by rw[zH3 F k (by omega),Ab.out]);have z2:wd.cell? ⟨g,q,none⟩=some (.int .i64 (F.getD q 0)):=(AD.out.cell q).trans (zH3 F q (by omega));have zf:wd.frozen? ⟨g,q,none⟩=false:=AD.out.frozen q
        have q3:(q:Int)<(l.length:Int):=by omega
        have Ae:Hid (Blk (wd.setCell ⟨g,q,none⟩ (.int .i64 (a+1))) g 3 (xL (F.set q (a+1))).toArray):=yD (by rw[←zMp]; exact AD.out.put q _);have AQ:Hid (Blk (wd.setCell ⟨g,q,none⟩ (.int .i64 (a+1))) gx 48 #[.int .u8 kind,.int .i64 pos,.string text,.int .i64 num,.slice (some ⟨b3,AE,none⟩) AA.length kc]):=yD (AF.out.far AV.out _);have Ad:Hid (Cells (wd.setCell ⟨g,q,none⟩ (.int .i64 (a+1))) (some ⟨b3,AE,none⟩) (xL AA)):=yD (Am.out _ (AJ.out.setCell (p:=⟨g,q,none⟩) AN.out _));have Ac:Hid (Ext w (wd.setCell ⟨g,q,none⟩ (.int .i64 (a+1)))):=yD (AJ.out.setCell (p:=⟨g,q,none⟩) AN.out _);have xn:(wd.setCell ⟨g,q,none⟩ (.int .i64 (a+1))).cell? ⟨gx,0,none⟩=some (.int .u8 kind):=AQ.out.cell 0
        go_wp2_with (go_at_call 55; refine(zII kind _ AZ _).mono ?_; rintro e w3 ⟨rfl,rfl⟩)
        go_roundw
        case rel=>exact⟨j+1,by omega,by go_num,yD (by rw[AO.out]; exact Ae.out),AQ,Ad,Ac⟩
        case measure=>simp[intOf]; omega
       ·obtain rfl:j=AA.length:=by omega
        have d1:decide ((AA.length:Int)<(AA.length:Int))=false:=by simp
        have AI:=AD.out;rw[List.take_length] at AI;have Ag:=yD AI;clear AI
        go_wp2_with fail
        go_roundw
        case rel=>exact⟨k+1,vG (a+1) AA E,max m (a+1),by omega,by go_num,by first | rfl | (congr 1; omega) | (split <;> (congr 1; omega)),yD (by rw[Al.out,AT.out]),Ag,AJ⟩
        case measure=>simp[intOf]; omega
    ·have e6:(kind==6)=false:=beq_eq_false_iff_ne.2 h6
     by_cases AY:kind=20
     ·have AZ:Hid (ZQ kind=false):=yD (by rw[AY]; rfl);have Aj:Hid (zAl kind=1):=yD (by rw[AY]; rfl);have AG:Hid (exD kind=0):=yD (by rw[AY]; rfl)
      have BE:(kind==20)=true:=by rw[AY]; rfl
      clear AY h6;have AL:Hid (Blk (wb.setCell ⟨g,k,none⟩ (.int .i64 (a+1))) g 3 (xL (vG (a+1) (AA.take 0) (D.set k (a+1)))).toArray):=yD (by rw[List.take_zero]; show Blk _ g 3 (xL (D.set k (a+1))).toArray; rw[←zMp]; exact AW.out.put k _);have AB:=yD (Af.out.far AV.out (p:=⟨g,k,none⟩) (.int .i64 (a+1)));have AK:Hid (Ext w (wb.setCell ⟨g,k,none⟩ (.int .i64 (a+1)))):=yD (As.out.setCell (p:=⟨g,k,none⟩) AN.out _);have AC:Hid (Cells (wb.setCell ⟨g,k,none⟩ (.int .i64 (a+1))) kA (xL AA)):=yD (Am.out _ AK.out);have AM:Hid ((D.set k (a+1)).getD k 0=a+1):=yD (by rw[zBP,if_pos ⟨rfl,by have:=AU.out; omega⟩]);have AS:Hid ((D.set k (a+1)).length=l.length):=yD (by rw[zB]; exact AU.out);have AT:Hid ((vG (a+zAl kind+exD kind) AA (D.set k (a+zAl kind)),max m (a+zAl kind))=(vG (a+1) AA (D.set k (a+1)),max m (a+1))):=yD (by rw[Aj.out,AG.out]; simp)
      have xz:(wb.setCell ⟨g,k,none⟩ (.int .i64 (a+1))).cell? ⟨g,k,none⟩=some (.int .i64 (a+1)):=by have h:=(AW.out.put k (.int .i64 (a+1))).cell k; rw[zMp] at h; rw[h,zH3 _ k (by rw[zB]; have:=AU.out; omega),AM.out]
      have xy:(wb.setCell ⟨g,k,none⟩ (.int .i64 (a+1))).cell? ⟨gx,4,none⟩=some (.slice kA AA.length kc):=AB.out.cell 4;generalize hE:D.set k (a+1)=E at AL AM AS AT
      go_wp2_with fail
      all_goals
       clear xz xy;clear x0 x4 z0 zf
       go_loopw [47] (fun i w4=>∃j:Nat,j≤AA.length∧i=.int .i64 j∧Hid (Blk w4 g 3 (xL (vG (a+1) (AA.take j) E)).toArray)∧Hid (Blk w4 gx 48 #[.int .u8 kind,.int .i64 pos,.string text,.int .i64 num,.slice kA AA.length kc])∧Hid (Cells w4 kA (xL AA))∧Hid (Ext w w4)) (fun i _=>AA.length-(intOf i).toNat)
       case atStart=>exact⟨0,zT _,rfl,AL,AB,AC,AK⟩
       case round=>
        clear AL AB AC AK;obtain⟨j,hj,rfl,AD,AF,Ah,AJ⟩:=hrel;obtain⟨wd,rfl⟩:∃wd:World,wd=wr:=⟨_,rfl⟩;have x0:wd.cell? ⟨gx,0,none⟩=some (.int .u8 kind):=AF.out.cell 0;have x4:wd.cell? ⟨gx,4,none⟩=some (.slice kA AA.length kc):=AF.out.cell 4
        by_cases AH:j<AA.length
        ·have d1:decide ((j:Int)<(AA.length:Int))=true:=yP (by omega);obtain⟨b3,AE,rfl,Ay,A1⟩:=zCT Ah.out j AH;have hy:=AR.out AA[j] (yL AH);have AO:Hid (vG (a+1) (AA.take (j+1)) E=(vG (a+1) (AA.take j) E).set (AA[j]).toNat (a+1)):=yD (by rw[zW AH,zCV]);have Ab:Hid ((vG (a+1) (AA.take j) E).getD k 0=(a+1)):=yD (by rw[zBs _ _ _ _ (fun y hy=>by have:=AR.out y (List.mem_of_mem_take hy); omega)]; exact AM.out);have Aa:Hid ((vG (a+1) (AA.take j) E).length=l.length):=yD (by rw[zBf]; exact AS.out);generalize vG (a+1) (AA.take j) E=F at *;generalize AA[j]=y at *;obtain⟨q,rfl⟩:∃q:Nat,y=(q:Int):=⟨y.toNat,by omega⟩;rw[zH] at AO;have Ax:=Aa.out;have z1:wd.cell? ⟨g,k,none⟩=some (.int .i64 (a+1)):=(AD.out.cell k).trans (by rw[zH3 F k (by omega),Ab.out]);have z2:wd.cell? ⟨g,q,none⟩=some (.int .i64 (F.getD q 0)):=(AD.out.cell q).trans (zH3 F q (by omega));have zf:wd.frozen? ⟨g,q,none⟩=false:=AD.out.frozen q
         have q3:(q:Int)<(l.length:Int):=by omega
         have Ae:Hid (Blk (wd.setCell ⟨g,q,none⟩ (.int .i64 (a+1))) g 3 (xL (F.set q (a+1))).toArray):=yD (by rw[←zMp]; exact AD.out.put q _);have AQ:Hid (Blk (wd.setCell ⟨g,q,none⟩ (.int .i64 (a+1))) gx 48 #[.int .u8 kind,.int .i64 pos,.string text,.int .i64 num,.slice (some ⟨b3,AE,none⟩) AA.length kc]):=yD (AF.out.far AV.out _);have Ad:Hid (Cells (wd.setCell ⟨g,q,none⟩ (.int .i64 (a+1))) (some ⟨b3,AE,none⟩) (xL AA)):=yD (Am.out _ (AJ.out.setCell (p:=⟨g,q,none⟩) AN.out _));have Ac:Hid (Ext w (wd.setCell ⟨g,q,none⟩ (.int .i64 (a+1)))):=yD (AJ.out.setCell (p:=⟨g,q,none⟩) AN.out _);have xn:(wd.setCell ⟨g,q,none⟩ (.int .i64 (a+1))).cell? ⟨gx,0,none⟩=some (.int .u8 kind):=AQ.out.cell 0
         go_wp2_with (go_at_call 55; refine(zII kind _ AZ _).mono ?_; rintro e w3 ⟨rfl,rfl⟩)
         go_roundw
         case rel=>exact⟨j+1,by omega,by go_num,yD (by rw[AO.out]; exact Ae.out),AQ,Ad,Ac⟩
         case measure=>simp[intOf]; omega
        ·obtain rfl:j=AA.length:=by omega
         have d1:decide ((AA.length:Int)<(AA.length:Int))=false:=by simp
         have AI:=AD.out;rw[List.take_length] at AI;have Ag:=yD AI;clear AI
         go_wp2_with fail
         go_roundw
         case rel=>exact⟨k+1,vG (a+1) AA E,max m (a+1),by omega,by go_num,by first | rfl | (congr 1; omega) | (split <;> (congr 1; omega)),yD (by rw[Al.out,AT.out]),Ag,AJ⟩
         case measure=>simp[intOf]; omega
     ·have BE:(kind==20)=false:=beq_eq_false_iff_ne.2 AY;have Aj:Hid (zAl kind=0):=yD (by unfold zAl; rw[if_neg (fun h=>h.elim h6 AY)]);clear AY h6;obtain⟨t,AZ⟩:∃t,Hid (ZQ kind=t):=⟨_,yD rfl⟩
      cases t with
      | false=>
       have AG:Hid (exD kind=0):=yD (by unfold exD; rw[AZ.out]; rfl);obtain⟨E,hE⟩:∃E,E=D:=⟨_,rfl⟩;have AL:Hid (Blk wb g 3 (xL (vG a (AA.take 0) E)).toArray):=yD (by rw[List.take_zero,hE]; exact AW.out);have AB:=Af;have AK:=As;have AC:=A5;have AM:Hid (E.getD k 0=a):=yD (by rw[hE]; exact HA.out);have AS:Hid (E.length=l.length):=yD (by rw[hE]; exact AU.out);have AT:Hid ((vG (a+zAl kind+exD kind) AA (D.set k (a+zAl kind)),max m (a+zAl kind))=(vG a AA E,max m a)):=yD (by rw[Aj.out,AG.out]; rw[show D.set k (a+0)=D from by rw[←HA.out]; exact zMW D k,hE]; simp);clear hE
       go_wp2_with fail
       all_goals
        clear x0 x4 z0 zf
        go_loopw [47] (fun i w4=>∃j:Nat,j≤AA.length∧i=.int .i64 j∧Hid (Blk w4 g 3 (xL (vG a (AA.take j) E)).toArray)∧Hid (Blk w4 gx 48 #[.int .u8 kind,.int .i64 pos,.string text,.int .i64 num,.slice kA AA.length kc])∧Hid (Cells w4 kA (xL AA))∧Hid (Ext w w4)) (fun i _=>AA.length-(intOf i).toNat)
        case atStart=>exact⟨0,zT _,rfl,AL,AB,AC,AK⟩
        case round=>
         clear AL AB AC AK;obtain⟨j,hj,rfl,AD,AF,Ah,AJ⟩:=hrel;obtain⟨wd,rfl⟩:∃wd:World,wd=wr:=⟨_,rfl⟩;have x0:wd.cell? ⟨gx,0,none⟩=some (.int .u8 kind):=AF.out.cell 0;have x4:wd.cell? ⟨gx,4,none⟩=some (.slice kA AA.length kc):=AF.out.cell 4
         by_cases AH:j<AA.length
         ·have d1:decide ((j:Int)<(AA.length:Int))=true:=yP (by omega);obtain⟨b3,AE,rfl,Ay,A1⟩:=zCT Ah.out j AH;have hy:=AR.out AA[j] (yL AH);have AO:Hid (vG a (AA.take (j+1)) E=(vG a (AA.take j) E).set (AA[j]).toNat a):=yD (by rw[zW AH,zCV]);have Ab:Hid ((vG a (AA.take j) E).getD k 0=a):=yD (by rw[zBs _ _ _ _ (fun y hy=>by have:=AR.out y (List.mem_of_mem_take hy); omega)]; exact AM.out);have Aa:Hid ((vG a (AA.take j) E).length=l.length):=yD (by rw[zBf]; exact AS.out);generalize vG a (AA.take j) E=F at *;generalize AA[j]=y at *;obtain⟨q,rfl⟩:∃q:Nat,y=(q:Int):=⟨y.toNat,by omega⟩;rw[zH] at AO;have Ax:=Aa.out;have z1:wd.cell? ⟨g,k,none⟩=some (.int .i64 a):=(AD.out.cell k).trans (by rw[zH3 F k (by omega),Ab.out]);have z2:wd.cell? ⟨g,q,none⟩=some (.int .i64 (F.getD q 0)):=(AD.out.cell q).trans (zH3 F q (by omega));have zf:wd.frozen? ⟨g,q,none⟩=false:=AD.out.frozen q
          have q3:(q:Int)<(l.length:Int):=by omega
          have Ae:Hid (Blk (wd.setCell ⟨g,q,none⟩ (.int .i64 a)) g 3 (xL (F.set q a)).toArray):=yD (by rw[←zMp]; exact AD.out.put q _);have AQ:Hid (Blk (wd.setCell ⟨g,q,none⟩ (.int .i64 a)) gx 48 #[.int .u8 kind,.int .i64 pos,.string text,.int .i64 num,.slice (some ⟨b3,AE,none⟩) AA.length kc]):=yD (AF.out.far AV.out _);have Ad:Hid (Cells (wd.setCell ⟨g,q,none⟩ (.int .i64 a)) (some ⟨b3,AE,none⟩) (xL AA)):=yD (Am.out _ (AJ.out.setCell (p:=⟨g,q,none⟩) AN.out _));have Ac:Hid (Ext w (wd.setCell ⟨g,q,none⟩ (.int .i64 a))):=yD (AJ.out.setCell (p:=⟨g,q,none⟩) AN.out _);have xn:(wd.setCell ⟨g,q,none⟩ (.int .i64 a)).cell? ⟨gx,0,none⟩=some (.int .u8 kind):=AQ.out.cell 0
          go_wp2_with (go_at_call 55; refine(zII kind _ AZ _).mono ?_; rintro e w3 ⟨rfl,rfl⟩)
          go_roundw
          case rel=>exact⟨j+1,by omega,by go_num,yD (by rw[AO.out]; exact Ae.out),AQ,Ad,Ac⟩
          case measure=>simp[intOf]; omega
         ·obtain rfl:j=AA.length:=by omega
          have d1:decide ((AA.length:Int)<(AA.length:Int))=false:=by simp
          have AI:=AD.out;rw[List.take_length] at AI;have Ag:=yD AI;clear AI
          go_wp2_with fail
          go_roundw
          case rel=>exact⟨k+1,vG a AA E,max m a,by omega,by go_num,by first | rfl | (congr 1; omega) | (split <;> (congr 1; omega)),yD (by rw[Al.out,AT.out]),Ag,AJ⟩
          case measure=>simp[intOf]; omega
      | true=>
       have AG:Hid (exD kind=1):=yD (by unfold exD; rw[AZ.out]; rfl);obtain⟨E,hE⟩:∃E,E=D:=⟨_,rfl⟩;have AL:Hid (Blk wb g 3 (xL (vG (a+1) (AA.take 0) E)).toArray):=yD (by rw[List.take_zero,hE]; exact AW.out);have AB:=Af;have AK:=As;have AC:=A5;have AM:Hid (E.getD k 0=a):=yD (by rw[hE]; exact HA.out);have AS:Hid (E.length=l.length):=yD (by rw[hE]; exact AU.out);have AT:Hid ((vG (a+zAl kind+exD kind) AA (D.set k (a+zAl kind)),max m (a+zAl kind))=(vG (a+1) AA E,max m a)):=yD (by rw[Aj.out,AG.out]; rw[show D.set k (a+0)=D from by rw[←HA.out]; exact zMW D k,hE]; simp);clear hE
       go_wp2_with fail
       all_goals
        clear x0 x4 z0 zf
        go_loopw [47] (fun i w4=>∃j:Nat,j≤AA.length∧i=.int .i64 j∧Hid (Blk w4 g 3 (xL (vG (a+1) (AA.take j) E)).toArray)∧Hid (Blk w4 gx 48 #[.int .u8 kind,.int .i64 pos,.string text,.int .i64 num,.slice kA AA.length kc])∧Hid (Cells w4 kA (xL AA))∧Hid (Ext w w4)) (fun i _=>AA.length-(intOf i).toNat)
        case atStart=>exact⟨0,zT _,rfl,AL,AB,AC,AK⟩
        case round=>
         clear AL AB AC AK;obtain⟨j,hj,rfl,AD,AF,Ah,AJ⟩:=hrel;obtain⟨wd,rfl⟩:∃wd:World,wd=wr:=⟨_,rfl⟩;have x0:wd.cell? ⟨gx,0,none⟩=some (.int .u8 kind):=AF.out.cell 0;have x4:wd.cell? ⟨gx,4,none⟩=some (.slice kA AA.length kc):=AF.out.cell 4
         by_cases AH:j<AA.length
         ·have d1:decide ((j:Int)<(AA.length:Int))=true:=yP (by omega);obtain⟨b3,AE,rfl,Ay,A1⟩:=zCT Ah.out j AH;have hy:=AR.out AA[j] (yL AH);have AO:Hid (vG (a+1) (AA.take (j+1)) E=(vG (a+1) (AA.take j) E).set (AA[j]).toNat (a+1)):=yD (by rw[zW AH,zCV]);have Ab:Hid ((vG (a+1) (AA.take j) E).getD k 0=a):=yD (by rw[zBs _ _ _ _ (fun y hy=>by have:=AR.out y (List.mem_of_mem_take hy); omega)]; exact AM.out);have Aa:Hid ((vG (a+1) (AA.take j) E).length=l.length):=yD (by rw[zBf]; exact AS.out);generalize vG (a+1) (AA.take j) E=F at *;generalize AA[j]=y at *;obtain⟨q,rfl⟩:∃q:Nat,y=(q:Int):=⟨y.toNat,by omega⟩;rw[zH] at AO;have Ax:=Aa.out;have z1:wd.cell? ⟨g,k,none⟩=some (.int .i64 a):=(AD.out.cell k).trans (by rw[zH3 F k (by omega),Ab.out]);have z2:wd.cell? ⟨g,q,none⟩=some (.int .i64 (F.getD q 0)):=(AD.out.cell q).trans (zH3 F q (by omega));have zf:wd.frozen? ⟨g,q,none⟩=false:=AD.out.frozen q
          have q3:(q:Int)<(l.length:Int):=by omega
          have Ar:=yD (AD.out.put q (.int .i64 a));have Ak:=yD (AF.out.far AV.out (p:=⟨g,q,none⟩) (.int .i64 a));have A8:=yD (AJ.out.setCell (p:=⟨g,q,none⟩) AN.out (.int .i64 a));have xn:(wd.setCell ⟨g,q,none⟩ (.int .i64 a)).cell? ⟨gx,0,none⟩=some (.int .u8 kind):=Ak.out.cell 0
          go_upto_region 15 with fail
          clear z1 z2 zf x0 x4;rw[zMp] at Ar;generalize wd.setCell ⟨g,q,none⟩ (.int .i64 a)=we at *;have z2:we.cell? ⟨g,q,none⟩=some (.int .i64 a):=(Ar.out.cell q).trans (by rw[zH3 (F.set q a) q (by rw[zB]; omega),zBP,if_pos ⟨rfl,by omega⟩]);have zf:we.frozen? ⟨g,q,none⟩=false:=Ar.out.frozen q;have Ae:Hid (Blk (we.setCell ⟨g,q,none⟩ (.int .i64 (a+1))) g 3 (xL (F.set q (a+1))).toArray):=yD (by have:=Ar.out.put q (.int .i64 (a+1)); rw[zMp,List.set_set] at this; exact this);have AQ:=yD (Ak.out.far AV.out (p:=⟨g,q,none⟩) (.int .i64 (a+1)));have Ad:Hid (Cells (we.setCell ⟨g,q,none⟩ (.int .i64 (a+1))) (some ⟨b3,AE,none⟩) (xL AA)):=yD (Am.out _ (A8.out.setCell (p:=⟨g,q,none⟩) AN.out _));have Ac:Hid (Ext w (we.setCell ⟨g,q,none⟩ (.int .i64 (a+1)))):=yD (A8.out.setCell (p:=⟨g,q,none⟩) AN.out _)
          go_wp2_with (go_at_call 55; refine(zII kind _ AZ _).mono ?_; rintro e w3 ⟨rfl,rfl⟩)
          go_roundw
          case rel=>exact⟨j+1,by omega,by go_num,yD (by rw[AO.out]; exact Ae.out),AQ,Ad,Ac⟩
          case measure=>simp[intOf]; omega
         ·obtain rfl:j=AA.length:=by omega
          have d1:decide ((AA.length:Int)<(AA.length:Int))=false:=by simp
          have AI:=AD.out;rw[List.take_length] at AI;have Ag:=yD AI;clear AI
          go_wp2_with fail
          go_roundw
          case rel=>exact⟨k+1,vG (a+1) AA E,max m a,by omega,by go_num,by first | rfl | (congr 1; omega) | (split <;> (congr 1; omega)),yD (by rw[Al.out,AT.out]),Ag,AJ⟩
          case measure=>simp[intOf]; omega
   ·obtain rfl:k=l.length:=by omega
    have d0:decide ((l.length:Int)<(l.length:Int))=false:=by simp
    have HZ:Hid (r=m):=yD (by
     rw[BH.out];unfold zNd
     rw[jC,Av.out])
    go_wp2_with fail
    go_ret;exact⟨by rw[HZ.out]; rfl,HX.out⟩
end Go.Proofs.YtioffpjajhalaaaGreatDoor.TT
