/- The plain law of trees: where the nodes beneath one end, reckoned from the back and by recursion, is the same; sizes, depths, kids. No program in sight. (and what follows of it). The conditions stand at each lemma. -/
import Derived.Test.YtioffpjajhalaaaGreatDoorJaa
import Derived.Test.YtioffpjajhalaaaGreatDoorJae
import Derived.Deep.QuietTactic
import Derived.BigQuiet
import Derived.Deep.Cut
set_option linter.unusedVariables false
set_option linter.unusedSimpArgs false
set_option maxRecDepth 100000
set_option maxHeartbeats 16000000
namespace Go.Proofs.YtioffpjajhalaaaGreatDoor.TT
def zCa (len:Nat)(Z:List Nat):List Int→Nat→Option Nat
 | [],a=>some a
 | k::r,a=>if k=(a:Int)∧a<len then zCa len Z r (Z.getD a 0) else none
def JK (ks:List (List Int)):Nat→Option (List Nat)
 | 0=>some (List.replicate ks.length 0)
 | j+1=>match JK ks j with
  | none=>none
  | some Z=>match zCa ks.length Z (ks.getD (ks.length-1-j) []) (ks.length-1-j+1) with
   | none=>none
   | some a=>some (Z.set (ks.length-1-j) a)
def zAA (ks:List (List Int)):Option (List Nat):=
 match JK ks ks.length with
 | none=>none
 | some Z=>if ks.length≠0∧Z.getD 0 0=ks.length then some Z else none
def zA6 (g:Nat→Option Nat)(len:Nat):List Int→Option Nat→Option Nat
 | [],a=>a
 | _::_,none=>none
 | k::r,some a=>if a<len∧k=(a:Int) then zA6 g len r (g a) else none
def zL0 (ks:List (List Int)):Nat→Nat→Option Nat
 | 0,_=>none
 | f+1,i=>if i<ks.length then zA6 (zL0 ks f) ks.length (ks.getD i []) (some (i+1)) else none
theorem JY (g:Nat→Option Nat)(len:Nat)(l:List Int):zA6 g len l none=none:=by cases l <;> rfl
theorem YJ (g:Nat→Option Nat)(len:Nat)(k:Int)(r:List Int)(a:Nat):zA6 g len (k::r) (some a)=if a<len∧k=(a:Int) then zA6 g len r (g a) else none:=rfl
theorem zEl {g:Nat→Option Nat}{len:Nat}(hg:∀a e,g a=some e→a<e∧e≤len):∀(l:List Int) (a0 e:Nat),a0≤len→zA6 g len l (some a0)=some e→a0≤e∧e≤len:=by
 intro l
 induction l with
 | nil=>intro a0 e h0 h; injection h with h; omega
 | cons k r ih=>
  intro a0 e h0 h;rw[YJ] at h
  split at h
  ·rename_i hc
   cases ha:g a0 with
   | none=>rw[ha,JY] at h; cases h
   | some a1=>
    rw[ha] at h;have h1:=hg a0 a1 ha;have h2:=ih a1 e h1.2 h;omega
  ·cases h
theorem zQi (ks:List (List Int)):∀f i e,zL0 ks f i=some e→i<e∧e≤ks.length:=by
 intro f
 induction f with
 | zero=>intro i e h; cases h
 | succ f ih=>
  intro i e h;unfold zL0 at h
  split at h
  ·rename_i hi
   have:=zEl ih _ _ _ (by omega) h
   omega
  ·cases h
theorem zNp {g g':Nat→Option Nat}{len i:Nat}(h:∀a,i<a→g a=g' a)(hg:∀a e,g a=some e→a<e):∀(l:List Int) (a0:Nat),i<a0→zA6 g len l (some a0)=zA6 g' len l (some a0):=by
 intro l
 induction l with
 | nil=>intro a0 _; rfl
 | cons k r ih=>
  intro a0 h0;rw[YJ,YJ,←h a0 h0]
  split
  ·cases ha:g a0 with
   | none=>rw[JY,JY]
   | some a1=>exact ih a1 (by have:=hg a0 a1 ha; omega)
  ·rfl
theorem zQu (ks:List (List Int)):∀f f' i,ks.length-i≤f→ks.length-i≤f'→zL0 ks f i=zL0 ks f' i:=by
 intro f
 induction f with
 | zero=>
  intro f' i h _
  cases f' with
  | zero=>rfl
  | succ f'=>unfold zL0; rw[if_neg (by omega)]
 | succ f ih=>
  intro f' i h h'
  cases f' with
  | zero=>unfold zL0; rw[if_neg (by omega)]
  | succ f'=>
   unfold zL0
   split
   ·exact zNp (i:=i) (fun a ha=>ih f' a (by omega) (by omega)) (fun a e he=>(zQi ks f a e he).1) _ _ (by omega)
   ·rfl
def JO (ks:List (List Int))(i:Nat):Option Nat:=zL0 ks ks.length i
theorem zBC (ks:List (List Int))(i:Nat):JO ks i=if i<ks.length then zA6 (JO ks) ks.length (ks.getD i []) (some (i+1)) else none:=by
 unfold JO;rw[zQu ks ks.length (ks.length+1) i (by omega) (by omega)]
 rfl
theorem XA {ks:List (List Int)}{i e:Nat}(h:JO ks i=some e):i<e∧e≤ks.length:=zQi ks _ _ _ h
theorem zMo {ks:List (List Int)}{i e:Nat}(h:JO ks i=some e):i<ks.length:=by have:=XA h; omega
theorem zKA {ks:List (List Int)}{Z:List Nat}{i:Nat}(hZ:∀a,i<a→a<ks.length→JO ks a=some (Z.getD a 0)):∀(l:List Int) (a0:Nat),i<a0→zCa ks.length Z l a0=zA6 (JO ks) ks.length l (some a0):=by
 intro l
 induction l with
 | nil=>intro a0 _; rfl
 | cons k r ih=>
  intro a0 h0;rw[YJ];unfold zCa
  by_cases hc:k=(a0:Int)∧a0<ks.length
  ·have hz:=hZ a0 h0 hc.2;rw[if_pos hc,if_pos ⟨hc.2,hc.1⟩,hz];exact ih _ (by have:=XA hz; omega)
  ·rw[if_neg hc,if_neg (fun h=>hc ⟨h.2,h.1⟩)]
theorem zDy (ks:List (List Int)):∀(j:Nat) (Z:List Nat),j≤ks.length→JK ks j=some Z→Z.length=ks.length∧∀a,ks.length-j≤a→a<ks.length→JO ks a=some (Z.getD a 0):=by
 intro j
 induction j with
 | zero=>
  intro Z _ h;injection h with h;subst h;exact⟨by simp,fun a h1 h2=>by omega⟩
 | succ j ih=>
  intro Z hj h;unfold JK at h
  split at h
  ·cases h
  ·rename_i Z0 h0;obtain⟨hl,hz⟩:=ih Z0 (by omega) h0
   split at h
   ·cases h
   ·rename_i a ha;injection h with h;subst h;refine⟨by simpa using hl,fun b h1 h2=>?_⟩;rw[zKA (i:=ks.length-1-j) (fun a h1 h2=>hz a (by omega) h2) _ _ (by omega)] at ha
    by_cases hb:b=ks.length-1-j
    ·subst hb;rw[zBC,if_pos h2,ha];simp[yE,hl,h2]
    ·rw[hz b (by omega) h2];simp[yE,List.getElem?_set,Ne.symm hb]
theorem zOH (ks:List (List Int)):∀(j:Nat),j≤ks.length→(∀a,ks.length-j≤a→a<ks.length→(JO ks a).isSome=true)→∃Z,JK ks j=some Z:=by
 intro j
 induction j with
 | zero=>intro _ _; exact⟨_,rfl⟩
 | succ j ih=>
  intro hj h;obtain⟨Z0,h0⟩:=ih (by omega) (fun a h1 h2=>h a (by omega) h2);obtain⟨hl,hz⟩:=zDy ks j Z0 (by omega) h0;have h1:=h (ks.length-1-j) (by omega) (by omega);rw[zBC,if_pos (by omega),←zKA (Z:=Z0) (i:=ks.length-1-j) (fun a h1 h2=>hz a (by omega) h2) _ _ (by omega)] at h1;unfold JK;rw[h0]
  simp only
  cases hk:zCa ks.length Z0 (ks.getD (ks.length-1-j) []) (ks.length-1-j+1) with
  | none=>rw[hk] at h1; cases h1
  | some a=>exact⟨_,rfl⟩
theorem zNh {ks:List (List Int)}{i:Nat}(hi:∀a1,i<a1→∀e1,JO ks a1=some e1→∀a,a1≤a→a<e1→(JO ks a).isSome=true):∀(l:List Int) (a0 e:Nat),i<a0→zA6 (JO ks) ks.length l (some a0)=some e→∀a,a0≤a→a<e→(JO ks a).isSome=true:=by
 intro l
 induction l with
 | nil=>intro a0 e h0 h a h1 h2; injection h with h; omega
 | cons k r ih=>
  intro a0 e h0 h a h1 h2;rw[YJ] at h
  split at h
  ·cases ha:JO ks a0 with
   | none=>rw[ha,JY] at h; cases h
   | some a1=>
    rw[ha] at h
    by_cases AA:a<a1
    ·exact hi a0 h0 a1 ha a h1 AA
    ·exact ih a1 e (by have:=XA ha; omega) h a (by omega) h2
  ·cases h
theorem zPx (ks:List (List Int)):∀(n i e:Nat),ks.length-i≤n→JO ks i=some e→∀a,i≤a→a<e→(JO ks a).isSome=true:=by
 intro n
 induction n with
 | zero=>intro i e h he; have:=XA he; omega
 | succ n ih=>
  intro i e h he a h1 h2
  by_cases AC:a=i
  ·subst AC; rw[he]; rfl
  ·have AA:=he;rw[zBC,if_pos (by have:=XA he; omega)] at AA;exact zNh (i:=i) (fun a1 AD e1 AB=>ih a1 e1 (by have:=XA AB; omega) AB) _ _ _ (by omega) AA a (by omega) h2
theorem zBl {ks:List (List Int)}{Z:List Nat}(h:zAA ks=some Z):Z.length=ks.length∧ks.length≠0∧JO ks 0=some ks.length∧∀a,a<ks.length→JO ks a=some (Z.getD a 0):=by
 unfold zAA at h
 split at h
 ·cases h
 ·rename_i Z0 h0
  split at h
  ·rename_i hc;injection h with h;subst h;obtain⟨hl,hz⟩:=zDy ks ks.length Z0 (zU _) h0;refine⟨hl,hc.1,?_,fun a ha=>hz a (by omega) ha⟩;rw[hz 0 (by omega) (by omega),hc.2]
  ·cases h
theorem zK6 {ks:List (List Int)}(h:zAA ks=none):JO ks 0≠some ks.length:=by
 intro he;obtain⟨Z,hZ⟩:=zOH ks ks.length (zU _) (fun a _ h2=>zPx ks ks.length 0 ks.length (by omega) he a (zT _) h2);obtain⟨hl,hz⟩:=zDy ks ks.length Z (zU _) hZ;have h0:=XA he
 have:=hz 0 (by omega) (by omega)
 rw[he] at this;injection this with this;unfold zAA at h;rw[hZ] at h
 simp only at h
 rw[if_pos ⟨by omega,this.symm⟩] at h
 cases h
theorem zOi {ks:List (List Int)}:∀(l:List Int) (a0 e:Nat),zA6 (JO ks) ks.length l (some a0)=some e→∀k ∈ l,∃a:Nat,k=(a:Int)∧a0≤a∧a<ks.length:=by
 intro l
 induction l with
 | nil=>intro a0 e _ k hk; cases hk
 | cons x r ih=>
  intro a0 e h k hk;rw[YJ] at h
  split at h
  ·rename_i hc
   rcases List.mem_cons.1 hk with rfl | hk
   ·exact⟨a0,hc.2,zU _,hc.1⟩
   ·cases ha:JO ks a0 with
    | none=>rw[ha,JY] at h; cases h
    | some a1=>
     rw[ha] at h;obtain⟨a,h1,h2,h3⟩:=ih a1 e h k hk
     have:=XA ha
     exact⟨a,h1,by omega,h3⟩
  ·cases h
theorem zO8 {ks:List (List Int)}{i e:Nat}(h:JO ks i=some e):∀k ∈ ks.getD i [],∃a:Nat,k=(a:Int)∧i<a∧a<ks.length:=by
 intro k hk;have hl:=zMo h;rw[zBC,if_pos hl] at h;obtain⟨a,h1,h2,h3⟩:=zOi _ _ _ h k hk;exact⟨a,h1,by omega,h3⟩
end Go.Proofs.YtioffpjajhalaaaGreatDoor.TT
namespace Go.Proofs.YtioffpjajhalaaaGreatDoor.TT
open Go Go.RowKit Go.Deep Go.ChangeShapes Go.WideShapes
structure xC where
 kind:Int
 pos:Int
 text:ByteArray
 num:Int
 kA:Option Addr
 kc:Nat
 kids:List Int
def xC.cells (x:xC):List Value:=[.int .u8 x.kind,.int .i64 x.pos,.string x.text,.int .i64 x.num,.slice x.kA x.kids.length x.kc]
def xL (l:List Int):List Value:=l.map (Value.int .i64)
structure zBZ (w:World)(x:xC):Prop where
 kind:0≤x.kind∧x.kind<256
 num:-9223372036854775808≤x.num∧x.num≤9223372036854775807
 kids:Cells w x.kA (xL x.kids)
 nil:x.kA=none→x.kc=0
theorem zBZ.ext {w w':World}{x:xC}(h:zBZ w x)(hx:Ext w w'):zBZ w' x:=⟨h.kind,h.num,h.kids.ext hx,h.nil⟩
def zEP (l:List xC):List Value:=l.flatMap xC.cells
theorem zCM (l:List xC):(zEP l).length=l.length*5:=zM2 xC.cells 5 (fun _=>rfl) l
theorem zJz (l:List xC)(k j:Nat)(h:k<l.length)(hj:j<5):(zEP l)[k*5+j]?=(l[k].cells)[j]?:=zPU xC.cells 5 (fun _=>rfl) l k j h hj
theorem zFz (l:List Int):(xL l).length=l.length:=by simp[xL]
theorem zRi (l:List Int)(k:Nat)(h:k<l.length):(xL l)[k]?=some (.int .i64 l[k]):=by simp[xL,h]
structure XU (w:World)(A:Option Addr)(l:List xC):Prop where
 cells:Cells w A (zEP l)
 ok:∀x ∈ l,zBZ w x
theorem XU.ext {w w':World}{A:Option Addr}{l:List xC}(h:XU w A l)(hx:Ext w w'):XU w' A l:=⟨h.cells.ext hx,fun x hm=>(h.ok x hm).ext hx⟩
theorem XU.at_ {w:World}{A:Option Addr}{l:List xC}(h:XU w A l)(k:Nat)(hk:k<l.length) :
  ∃b AA,A=some ⟨b,AA,none⟩∧b<w.heap.size∧∀j,j<5→w.cell? ⟨b,AA+k*5+j,none⟩=(l[k].cells)[j]?:=by
 obtain⟨b,AA,hA,hb,AB⟩:=h.cells.at_ (by rw[zCM]; omega);refine⟨b,AA,hA,hb,fun j hj=>?_⟩;rw[Nat.add_assoc,AB _ (by rw[zCM]; omega)];exact zJz l k j hk hj
theorem zCT {w:World}{A:Option Addr}{l:List Int}(h:Cells w A (xL l))(k:Nat)(hk:k<l.length):∃b AA,A=some ⟨b,AA,none⟩∧b<w.heap.size∧w.cell? ⟨b,AA+k,none⟩=some (.int .i64 l[k]):=by
 obtain⟨b,AA,hA,hb,AB⟩:=h.at_ (by rw[zFz]; omega);exact⟨b,AA,hA,hb,(AB k (by rw[zFz]; exact hk)).trans (zRi l k hk)⟩
theorem zVP {x:Int}(h:(Lit.int .u8 x).wf=true):0≤x∧x<256:=by
 simp[Lit.wf,IntKind.min,IntKind.max,IntKind.signed,IntKind.bits] at h;omega
theorem zPH {x:Int}(h:(Lit.int .i64 x).wf=true):-9223372036854775808≤x∧x≤9223372036854775807:=by
 simp[Lit.wf,IntKind.min,IntKind.max,IntKind.signed,IntKind.bits] at h;omega
section
variable {H:Type} {enc:TypeId × Value→H} {w:World} {base:Nat} {spare:Nat→Bool} {held:Bool}
theorem zMU {t e:TypeId}{n:Nat}{v:Value}{x:DataW H × List MemPlace}(ht:Tryz.prog.underlying t=some (.slice e))(h:DataW.trod enc Tryz.prog w base spare held n t [v]=some x):∃(A:Option Addr) (len cap:Nat),v=.slice A len cap:=by
 rcases DataW.trod_slice ht h with ⟨h1,_⟩ | ⟨a,len,cap,_,_,_,_,h1,_⟩
 ·injection h1 with h1; exact⟨none,0,0,h1⟩
 ·injection h1 with h1; exact⟨some a,len,cap,h1⟩
end
end Go.Proofs.YtioffpjajhalaaaGreatDoor.TT
namespace Go.Proofs.YtioffpjajhalaaaGreatDoor
open Go Go.RowKit
def jF (x:TT.xC):Value:=.agg #[.int .u8 x.kind,.int .i64 x.pos,.string x.text,.int .i64 x.num,.slice x.kA x.kids.length x.kc]
theorem Blk.zAa {w:World}{o:Obj}{t:TypeId}{cs:Array Value}{g:Nat}(hg:(w.alloc o).heap.size=g):Blk ((w.alloc o).alloc (.cells cs t)) g t cs:=by subst hg; exact Blk.new _ _ _
theorem zA0 (w:World)(g n c:Nat)(A:Option Addr)(L:List TT.xC)(hT:TT.XU w A L)(hn:n=L.length)(hg:w.cell? ⟨g,0,none⟩=some (.slice A n c))(hgl:g<w.heap.size)(x:TT.xC)(hx:Cells w x.kA (TT.xL x.kids))(i k:Nat)(hi:i<x.kids.length)(hk:x.kids[i]=(k:Int))(hkl:k<L.length)(y:TT.xC)(hy:L[k]?=some y) :
  Calls Tryz.prog 40 #[.pointer (some ⟨g,0,none⟩),jF x,.int .i64 (i:Int)] w fun e w'=>e=.returned (jF y)∧Ext w w':=by
 subst hn;obtain⟨tb,tf,rfl,AB,hc⟩:=hT.at_ k hkl
 have AO:L[k]=y:=by rw[yG hkl] at hy; exact Option.some.inj hy
 rw[AO] at hc;obtain⟨kb,kf,AK,AF,AL⟩:=hx.at_ (by unfold TT.xL; simp; omega)
 have AI:w.cell? ⟨kb,kf+i,none⟩=some (.int .i64 (k:Int)):=by rw[AL i (by unfold TT.xL; simpa using hi)]; unfold TT.xL; simp[hi,hk]
 have q0:(i:Int)<(x.kids.length:Int):=by omega
 have q1:(k:Int)<(L.length:Int):=by omega
 have v0:w.cell? ⟨tb,tf+k*5,none⟩=some (.int .u8 y.kind):=hc 0 (by decide);have v1:w.cell? ⟨tb,tf+k*5+1,none⟩=some (.int .i64 y.pos):=hc 1 (by decide);have v2:w.cell? ⟨tb,tf+k*5+2,none⟩=some (.string y.text):=hc 2 (by decide);have v3:w.cell? ⟨tb,tf+k*5+3,none⟩=some (.int .i64 y.num):=hc 3 (by decide);have v4:w.cell? ⟨tb,tf+k*5+4,none⟩=some (.slice y.kA y.kids.length y.kc):=hc 4 (by decide);clear hc AL hT hx hk hy AO;obtain⟨AV,AP⟩:∃a,x.kA=a:=⟨_,rfl⟩;rw[AK] at AP;subst AP;have AA:Hid (Ext w ((w.alloc (.cells #[.int .u8 x.kind,.int .i64 x.pos,.string x.text,.int .i64 x.num,.slice x.kA x.kids.length x.kc] 48)).alloc (.cells #[.int .u8 0,.int .i64 0,.string ⟨#[]⟩,.int .i64 0,.slice none 0 0] 48))):=yD ((Ext.alloc _ _).trans (Ext.alloc _ _));have AD:Hid (Blk ((w.alloc (.cells #[.int .u8 x.kind,.int .i64 x.pos,.string x.text,.int .i64 x.num,.slice x.kA x.kids.length x.kc] 48)).alloc (.cells #[.int .u8 0,.int .i64 0,.string ⟨#[]⟩,.int .i64 0,.slice none 0 0] 48)) w.heap.size 48 #[.int .u8 x.kind,.int .i64 x.pos,.string x.text,.int .i64 x.num,.slice x.kA x.kids.length x.kc]):=yD ((Blk.new _ _ _).alloc _);have AH:Hid (Blk ((w.alloc (.cells #[.int .u8 x.kind,.int .i64 x.pos,.string x.text,.int .i64 x.num,.slice x.kA x.kids.length x.kc] 48)).alloc (.cells #[.int .u8 0,.int .i64 0,.string ⟨#[]⟩,.int .i64 0,.slice none 0 0] 48)) (w.heap.size+1) 48 #[.int .u8 0,.int .i64 0,.string ⟨#[]⟩,.int .i64 0,.slice none 0 0]):=yD (Blk.zAa (by simp));unfold jF;rw[AK] at AA AD AH ⊢
 go_enter Tryz.func40,Tryz.ntmps40
 go_upto_region 1 with fail
 try simp only[size_alloc]
 have AQ:=yD (show w.heap.size≤w.heap.size+1 by omega);generalize hgr:w.heap.size+1=gr at AH AQ ⊢;have AN:=yD AD.out.lt;have HW:=yD (show w.heap.size≤gr by omega);generalize hgn:w.heap.size=gn at AD AN ⊢;have HN:=yD hgn;clear hgr hgn AQ;generalize ((w.alloc (.cells #[.int .u8 x.kind,.int .i64 x.pos,.string x.text,.int .i64 x.num,.slice (some ⟨kb,kf,none⟩) x.kids.length x.kc] 48)).alloc (.cells #[.int .u8 0,.int .i64 0,.string ⟨#[]⟩,.int .i64 0,.slice none 0 0] 48))=w1 at *;have AS:=yD (show g<w1.heap.size from yR hgl AA.out.size);have AC:=yD (show tb<w1.heap.size from yR AB AA.out.size);have AT:=yD (show kb<w1.heap.size from yR AF AA.out.size);have yg:=(AA.out.cell (p:=⟨g,0,none⟩) hgl).trans hg;have yk:=(AA.out.cell (p:=⟨kb,kf+i,none⟩) AF).trans AI;have y4:w1.cell? ⟨gn,4,none⟩=some (.slice (some ⟨kb,kf,none⟩) x.kids.length x.kc):=AD.out.cell 4;have u0:=(AA.out.cell (p:=⟨tb,tf+k*5,none⟩) AB).trans v0;have u1:=(AA.out.cell (p:=⟨tb,tf+k*5+1,none⟩) AB).trans v1;have u2:=(AA.out.cell (p:=⟨tb,tf+k*5+2,none⟩) AB).trans v2;have u3:=(AA.out.cell (p:=⟨tb,tf+k*5+3,none⟩) AB).trans v3;have u4:=(AA.out.cell (p:=⟨tb,tf+k*5+4,none⟩) AB).trans v4;clear hg AI v0 v1 v2 v3 v4 hgl AB AF AD;apply xE 12 (by kernel_rfl) (by kernel_rfl) (by kernel_rfl);apply sQ (.pointer (some ⟨g,0,none⟩));apply sQ (.pointer (some ⟨g,0,none⟩));apply sQ (.pointer (some ⟨g,0,none⟩))
 apply sQ (.pointer (some ⟨g,0,none⟩));apply sL yg AS.out (.slice (some ⟨tb,tf,none⟩) L.length c);apply sQ (.pointer (some ⟨gn,4,none⟩));apply sL y4 AN.out (.slice (some ⟨kb,kf,none⟩) x.kids.length x.kc);apply sQ (.int .i64 (i:Int));apply sP q0 (.pointer (some ⟨kb,kf+i,none⟩));apply sL yk AT.out (.int .i64 (k:Int));apply sP q1 (.pointer (some ⟨tb,tf+k*5,none⟩));apply xA (.agg #[.int .u8 y.kind,.int .i64 y.pos,.string y.text,.int .i64 y.num,.slice y.kA y.kids.length y.kc]) rfl rfl rfl
 ·intro w' AE hH;clear hH;have z0:=(AE.cell (p:=⟨tb,tf+k*5,none⟩) AC.out).trans u0;have z1:=(AE.cell (p:=⟨tb,tf+k*5+1,none⟩) AC.out).trans u1;have z2:=(AE.cell (p:=⟨tb,tf+k*5+2,none⟩) AC.out).trans u2;have z3:=(AE.cell (p:=⟨tb,tf+k*5+3,none⟩) AC.out).trans u3;have z4:=(AE.cell (p:=⟨tb,tf+k*5+4,none⟩) AC.out).trans u4;simp[yY,go_sem,z0,z1,z2,z3,z4];exact Ext.refl _
 apply vA;intro w2 AG hH;clear hH yg yk y4 u0 u1 u2 u3 u4
 try simp only[Act.put,yA,yC,yB]
 refine vJ rfl 48 _ _ rfl gr #[.int .u8 y.kind,.int .i64 y.pos,.string y.text,.int .i64 y.num,.slice y.kA y.kids.length y.kc] (by kernel_rfl) (by kernel_rfl) 48 _ (AH.out.ext AG) (by kernel_rfl) rfl rfl ?_;intro w3 AJ AM;have AR:Hid (Ext w w3):=yD (AJ.ext (AA.out.trans AG) (by have:=HN.out; have:=HW.out; omega));have AU:=yD AM;clear AJ AM AG
 try simp only[Act.put]
 go_wp2_with fail
 refine zCk gr 48 _ _ rfl rfl rfl AU.out Tryz.underlying48 rfl (by kernel_rfl) ?_;exact⟨rfl,AR.out⟩
end Go.Proofs.YtioffpjajhalaaaGreatDoor
namespace Go.Proofs.YtioffpjajhalaaaGreatDoor.TT
def ZQ (k:Int):Bool:=decide (21≤k)&&decide (k≤26)
def zA5 (k:Int):Bool:=decide (7≤k)&&decide (k≤19)
def zBR (k:Int):Bool:=k==2||k==3
inductive jQ where
 | VR (k:Int)
 | expr
 | stmt
 | part
def jQ.holds:jQ→Int→Bool
 | .VR j,k=>k==j
 | .expr,k=>ZQ k
 | .stmt,k=>zA5 k
 | .part,k=>zBR k
structure jV where
 kids:List jQ
 more:Option jQ
 named:Bool
 most:Int
def zAH (k:Int):List jV:=
 if k=1 then [⟨[],some .part,false,0⟩]
 else if k=2 then [⟨[.VR 5],some (.VR 5),true,0⟩]
 else if k=3 then [⟨[.VR 4,.VR 6],none,true,1⟩]
 else if k=4 then [⟨[],some (.VR 5),false,0⟩]
 else if k=5 then [⟨[],none,true,0⟩]
 else if k=6 then [⟨[],some .stmt,false,0⟩]
 else if k=7 then [⟨[.VR 20,.VR 5],none,true,1⟩]
 else if k=8 then [⟨[.VR 20,.VR 5,.expr],none,false,0⟩]
 else if k=9 then [⟨[.VR 20,.expr],some .expr,false,0⟩]
 else if k=10 then [⟨[.VR 20],none,false,0⟩]
 else if k=11 then [⟨[.VR 5,.VR 5],none,true,0⟩]
 else if k=12 then [⟨[.VR 5],none,false,1⟩]
 else if k=13 then [⟨[.VR 5],none,false,0⟩,⟨[.VR 20],none,false,0⟩]
 else if k=14 then [⟨[.expr,.expr,.VR 6],none,false,1⟩,⟨[.expr,.expr,.VR 6,.VR 6],none,false,1⟩]
 else if k=15 then [⟨[.VR 21,.VR 21,.VR 6],none,true,0⟩]
 else if k=16 then [⟨[.expr],none,true,0⟩]
 else if k=17 then [⟨[.expr],none,false,0⟩]
 else if k=18 then [⟨[],none,false,0⟩]
 else if k=19 then [⟨[],none,false,0⟩]
 else if k=20 then [⟨[.expr],none,true,0⟩]
 else if k=21 then [⟨[],none,false,2147483647⟩]
 else if k=22 then [⟨[],none,true,0⟩]
 else if k=23 then [⟨[.expr,.expr],none,false,0⟩]
 else if k=24 then [⟨[.expr,.expr],none,false,0⟩]
 else if k=25 then [⟨[.expr,.expr],none,false,0⟩]
 else if k=26 then [⟨[.expr],none,false,0⟩]
 else []
def jV.want (f:jV)(i:Nat):Option jQ:=if i<f.kids.length then f.kids[i]? else f.more
def ZC (p:Option jQ)(k:Int):Bool:=match p with | none=>false | some p=>p.holds k
def jV.fits (f:jV)(l:List Int):Bool:=
 if l.length<f.kids.length∨(f.kids.length<l.length∧f.more.isNone=true) then false
 else (List.range l.length).all fun i=>ZC (f.want i) (l.getD i 0)
def jJ (c:Int):Bool:=decide (97≤c)&&decide (c≤122)
def jA (c:Int):Bool:=decide (48≤c)&&decide (c≤57)
def JA (c:Int):Bool:=jJ c||(jA c||c==95)
def VB (l:List UInt8):Bool:=match l with
 | []=>false
 | c::r=>jJ (c.toNat:Int)&&r.all fun c=>JA (c.toNat:Int)
def XK (f:jV)(num:Int)(text:List UInt8)(l:List Int):Bool:=
 f.fits l&&(decide (0≤num)&&(decide (num≤f.most)&&((f.named&&VB text)||(!f.named&&text.isEmpty))))
def zC9 (kind num:Int)(text:List UInt8)(l:List Int):Bool:=(zAH kind).any fun f=>XK f num text l
def zE7 (what x:Int):Bool:=if what=0 then ZQ x else if what=1 then zA5 x else x==what
def zCY (l:List Int)(frm:Nat)(what:Int):Bool:=(l.drop frm).all (zE7 what)
def jH (w x:Int):Bool:=if w=0 then ZQ x else x==w
def isR (l want:List Int):Bool:=l.length==want.length&&(List.range l.length).all fun i=>jH (want.getD i 0) (l.getD i 0)
def zAE (kind:Int)(l:List Int):Bool:=
 if kind=1 then l.all zBR
 else if kind=2 then decide (0<l.length)&&zCY l 0 5
 else if kind=3 then isR l [4,6]
 else if kind=4 then zCY l 0 5
 else if kind=6 then zCY l 0 1
 else if kind=7 then isR l [20,5]
 else if kind=8 then isR l [20,5,0]
 else if kind=9 then decide (1<l.length)&&(l.getD 0 0==20&&zCY l 1 0)
 else if kind=10 then isR l [20]
 else if kind=11 then isR l [5,5]
 else if kind=12 then isR l [5]
 else if kind=13 then isR l [5]||isR l [20]
 else if kind=14 then isR l [0,0,6]||isR l [0,0,6,6]
 else if kind=15 then isR l [21,21,6]
 else if kind=16∨kind=17∨kind=20∨kind=26 then isR l [0]
 else if kind=23∨kind=24∨kind=25 then isR l [0,0]
 else l.length==0
def zC2 (k:Int):Bool:=k==2||(k==3||(k==5||(k==7||(k==11||(k==15||(k==16||(k==20||k==22)))))))
def XP (k:Int):Int:=if k=3∨k=7∨k=12∨k=14 then 1 else if k=21 then 2147483647 else 0
def JR (kind num:Int)(text:List UInt8):Bool:=(zC2 kind==VB text)&&((zC2 kind||text.isEmpty)&&(decide (0≤num)&&decide (num≤XP kind)))
theorem zOv (p:Nat→Bool):(List.range 1).all p=p 0:=by simp[List.range,List.range.loop]
theorem zO5 (p:Nat→Bool):(List.range 2).all p=(p 0&&p 1):=by simp[List.range,List.range.loop]
theorem zOG (p:Nat→Bool):(List.range 3).all p=(p 0&&(p 1&&p 2)):=by simp[List.range,List.range.loop]
theorem zOX (p:Nat→Bool):(List.range 4).all p=(p 0&&(p 1&&(p 2&&p 3))):=by simp[List.range,List.range.loop]
theorem zFq (f:Int→Bool)(l:List Int):((List.range l.length).all fun i=>f (l.getD i 0))=l.all f:=by
 induction l with
 | nil=>rfl
 | cons x l ih=>
  rw[zJ,List.range_succ_eq_map,List.all_cons,List.all_map,List.all_cons]
  congr 1
theorem vP (ps:List jQ)(ws:List Int)(named:Bool)(most:Int)(hl:ps.length=ws.length)(h:∀i,i<ws.length→∀x,ZC ps[i]? x=jH (ws.getD i 0) x)(l:List Int) :
  (jV.mk ps none named most).fits l=isR l ws:=by
 unfold jV.fits isR;simp only[Option.isNone_none,and_true]
 by_cases AA:l.length=ws.length
 ·rw[if_neg (by omega),AA];simp only[beq_self_eq_true,Bool.true_and];rw[Bool.eq_iff_iff];simp only[zG,List.mem_range]
  constructor
  ·intro hh i hi
   have:=hh i hi
   unfold jV.want at this
   simp only at this
   rw[if_pos (by omega),h i hi] at this;exact this
  ·intro hh i hi
   have:=hh i hi
   unfold jV.want
   simp only
   rw[if_pos (by omega),h i hi];exact this
 ·rw[if_pos (by omega)];simp[AA]
theorem zGZ (p:jQ)(named:Bool)(most:Int)(l:List Int):(jV.mk [] (some p) named most).fits l=l.all p.holds:=by
 unfold jV.fits;rw[if_neg (by simp)];unfold jV.want ZC;simp only[zK,Nat.not_lt_zero,if_false];exact zFq p.holds l
theorem zRF (q p:jQ)(named:Bool)(most:Int)(l:List Int):(jV.mk [q] (some p) named most).fits l=(decide (0<l.length)&&(q.holds (l.getD 0 0)&&(l.drop 1).all p.holds)):=by
 unfold jV.fits
 cases l with
 | nil=>simp
 | cons x l=>
  rw[if_neg (by simp)];rw[zJ,List.range_succ_eq_map,List.all_cons,List.all_map];simp only[jV.want,ZC,zJ,zK]
  simp
  congr 1
  rw[←zFq p.holds l];simp[Function.comp_def,yE]
theorem zO4 (q r p:jQ)(named:Bool)(most:Int)(l:List Int):(jV.mk [q,r] (some p) named most).fits l=(decide (1<l.length)&&(q.holds (l.getD 0 0)&&(r.holds (l.getD 1 0)&&(l.drop 2).all p.holds))):=by
 unfold jV.fits
 match l with
 | []=>simp
 | [x]=>simp
 | x::y::l=>
  rw[if_neg (by simp)];rw[zJ,List.range_succ_eq_map,List.all_cons,List.all_map,zJ,List.range_succ_eq_map,List.all_cons,List.all_map];simp only[jV.want,ZC,zJ,zK]
  simp
  congr 2
  rw[←zFq p.holds l];simp[Function.comp_def,yE,show ∀x:Nat,¬(x+1+1<2) from fun x=>by omega]
theorem zMv {t:List UInt8}(h:VB t=true):t.isEmpty=false:=by
 cases t with
 | nil=>cases h
 | cons c r=>rfl
theorem zJk (kind num:Int)(text:List UInt8)(F:Bool)(named:Bool)(most:Int)(hn:zC2 kind=named)(hm:XP kind=most) :
  (F&&(decide (0≤num)&&(decide (num≤most)&&((named&&VB text)||(!named&&text.isEmpty)))))=(JR kind num text&&F):=by
 unfold JR;rw[hn,hm]
 cases hI:VB text
 ·cases named <;> cases F <;> cases text.isEmpty <;> cases decide (0≤num) <;> cases decide (num≤most) <;> rfl
 ·rw[zMv hI]
  cases named <;> cases F <;> cases decide (0≤num) <;> cases decide (num≤most) <;> rfl
theorem jP (kind num:Int)(text:List UInt8)(l:List Int)(ps:List jQ)(more:Option jQ)(named:Bool)(most:Int)(hf:zAH kind=[⟨ps,more,named,most⟩])(hn:zC2 kind=named)(hm:XP kind=most)(hk:(jV.mk ps more named most).fits l=zAE kind l) :
  zC9 kind num text l=(JR kind num text&&zAE kind l):=by
 unfold zC9;rw[hf,←zJk kind num text _ named most hn hm,←hk];simp[XK]
theorem zNX (kind num:Int)(text:List UInt8)(l:List Int)(ps qs:List jQ)(most:Int)(hf:zAH kind=[⟨ps,none,false,most⟩,⟨qs,none,false,most⟩])(hn:zC2 kind=false)(hm:XP kind=most)(hk:((jV.mk ps none false most).fits l||(jV.mk qs none false most).fits l)=zAE kind l) :
  zC9 kind num text l=(JR kind num text&&zAE kind l):=by
 unfold zC9;rw[hf,←zJk kind num text _ false most hn hm,←hk];simp only[List.any_cons,List.any_nil,Bool.or_false,XK];rw[Bool.and_or_distrib_right]
theorem YI (w:Int)(hw:w≠0)(x:Int):ZC (some (.VR w)) x=jH w x:=by
 unfold ZC jQ.holds jH;rw[if_neg hw]
theorem XL (x:Int):ZC (some .expr) x=jH 0 x:=rfl
theorem ex1 (p:jQ)(w:Int)(h:∀x,ZC (some p) x=jH w x):∀i,i < [w].length→∀x,ZC [p][i]? x=jH ([w].getD i 0) x:=by
 intro i hi x
 match i,hi with
 | 0,_=>exact h x
theorem ex2 (p q:jQ)(w v:Int)(h:∀x,ZC (some p) x=jH w x)(h2:∀x,ZC (some q) x=jH v x):∀i,i < [w,v].length→∀x,ZC [p,q][i]? x=jH ([w,v].getD i 0) x:=by
 intro i hi x
 match i,hi with
 | 0,_=>exact h x
 | 1,_=>exact h2 x
theorem ex3 (p q r:jQ)(w v u:Int)(h:∀x,ZC (some p) x=jH w x)(h2:∀x,ZC (some q) x=jH v x)(h3:∀x,ZC (some r) x=jH u x):∀i,i < [w,v,u].length→∀x,ZC [p,q,r][i]? x=jH ([w,v,u].getD i 0) x:=by
 intro i hi x
 match i,hi with
 | 0,_=>exact h x
 | 1,_=>exact h2 x
 | 2,_=>exact h3 x
theorem ex4 (p q r s:jQ)(w v u t:Int)(h:∀x,ZC (some p) x=jH w x)(h2:∀x,ZC (some q) x=jH v x)(h3:∀x,ZC (some r) x=jH u x)(h4:∀x,ZC (some s) x=jH t x):∀i,i < [w,v,u,t].length→∀x,ZC [p,q,r,s][i]? x=jH ([w,v,u,t].getD i 0) x:=by
 intro i hi x
 match i,hi with
 | 0,_=>exact h x
 | 1,_=>exact h2 x
 | 2,_=>exact h3 x
 | 3,_=>exact h4 x
theorem ex0:∀i,i<([]:List Int).length→∀x,ZC ([]:List jQ)[i]? x=jH (([]:List Int).getD i 0) x:=by
 intro i hi
 simp at hi
theorem zFB (l:List Int):isR l []=(l.length==0):=by
 cases l <;> simp[isR]
theorem zTi (kind num:Int)(text:List UInt8)(l:List Int):zC9 kind num text l=(decide (1≤kind)&&(decide (kind≤26)&&(JR kind num text&&zAE kind l))):=by
 by_cases hk:1≤kind∧kind≤26
 ·rw[yP hk.1,yP hk.2,Bool.true_and,Bool.true_and]
  have hc:kind=1∨kind=2∨kind=3∨kind=4∨kind=5∨kind=6∨kind=7∨kind=8∨kind=9∨kind=10∨kind=11∨kind=12∨kind=13∨kind=14∨kind=15∨kind=16∨kind=17∨kind=18∨kind=19∨kind=20∨kind=21∨kind=22∨kind=23∨kind=24∨kind=25∨kind=26:=by omega
  rcases hc with rfl | rfl | rfl | rfl | rfl | rfl | rfl | rfl | rfl | rfl | rfl | rfl | rfl | rfl | rfl | rfl | rfl | rfl | rfl | rfl | rfl | rfl | rfl | rfl | rfl | rfl
  ·exact jP _ _ _ _ _ _ _ _ rfl rfl rfl (zGZ _ _ _ _)
  ·refine jP _ _ _ _ _ _ _ _ rfl rfl rfl ((zRF _ _ _ _ _).trans ?_)
   show _=(decide (0<l.length)&&zCY l 0 5)
   cases l <;> rfl
  ·exact jP _ _ _ _ _ _ _ _ rfl rfl rfl (vP _ _ _ _ rfl (ex2 _ _ _ _ (YI 4 (by decide)) (YI 6 (by decide))) l)
  ·exact jP _ _ _ _ _ _ _ _ rfl rfl rfl (zGZ _ _ _ _)
  ·exact jP _ _ _ _ _ _ _ _ rfl rfl rfl ((vP [] [] _ _ rfl ex0 l).trans (zFB l))
  ·exact jP _ _ _ _ _ _ _ _ rfl rfl rfl (zGZ _ _ _ _)
  ·exact jP _ _ _ _ _ _ _ _ rfl rfl rfl (vP _ _ _ _ rfl (ex2 _ _ _ _ (YI 20 (by decide)) (YI 5 (by decide))) l)
  ·exact jP _ _ _ _ _ _ _ _ rfl rfl rfl (vP _ _ _ _ rfl (ex3 _ _ _ _ _ _ (YI 20 (by decide)) (YI 5 (by decide)) XL) l)
  ·refine jP _ _ _ _ _ _ _ _ rfl rfl rfl ((zO4 _ _ _ _ _ _).trans ?_)
   show _=(decide (1<l.length)&&(l.getD 0 0==20&&zCY l 1 0))
   match l with
   | []=>rfl
   | [x]=>rfl
   | x::y::l=>rfl
  ·exact jP _ _ _ _ _ _ _ _ rfl rfl rfl (vP _ _ _ _ rfl (ex1 _ _ (YI 20 (by decide))) l)
  ·exact jP _ _ _ _ _ _ _ _ rfl rfl rfl (vP _ _ _ _ rfl (ex2 _ _ _ _ (YI 5 (by decide)) (YI 5 (by decide))) l)
  ·exact jP _ _ _ _ _ _ _ _ rfl rfl rfl (vP _ _ _ _ rfl (ex1 _ _ (YI 5 (by decide))) l)
  ·refine zNX _ _ _ _ _ _ _ rfl rfl rfl ?_;rw[vP _ [5] _ _ rfl (ex1 _ _ (YI 5 (by decide))) l,vP _ [20] _ _ rfl (ex1 _ _ (YI 20 (by decide))) l]
   rfl
  ·refine zNX _ _ _ _ _ _ _ rfl rfl rfl ?_;rw[vP _ [0,0,6] _ _ rfl (ex3 _ _ _ _ _ _ XL XL (YI 6 (by decide))) l,vP _ [0,0,6,6] _ _ rfl (ex4 _ _ _ _ _ _ _ _ XL XL (YI 6 (by decide)) (YI 6 (by decide))) l]
   rfl
  ·exact jP _ _ _ _ _ _ _ _ rfl rfl rfl (vP _ _ _ _ rfl (ex3 _ _ _ _ _ _ (YI 21 (by decide)) (YI 21 (by decide)) (YI 6 (by decide))) l)
  ·exact jP _ _ _ _ _ _ _ _ rfl rfl rfl (vP _ _ _ _ rfl (ex1 _ _ XL) l)
  ·exact jP _ _ _ _ _ _ _ _ rfl rfl rfl (vP _ _ _ _ rfl (ex1 _ _ XL) l)
  ·exact jP _ _ _ _ _ _ _ _ rfl rfl rfl ((vP [] [] _ _ rfl ex0 l).trans (zFB l))
  ·exact jP _ _ _ _ _ _ _ _ rfl rfl rfl ((vP [] [] _ _ rfl ex0 l).trans (zFB l))
  ·exact jP _ _ _ _ _ _ _ _ rfl rfl rfl (vP _ _ _ _ rfl (ex1 _ _ XL) l)
  ·exact jP _ _ _ _ _ _ _ _ rfl rfl rfl ((vP [] [] _ _ rfl ex0 l).trans (zFB l))
  ·exact jP _ _ _ _ _ _ _ _ rfl rfl rfl ((vP [] [] _ _ rfl ex0 l).trans (zFB l))
  ·exact jP _ _ _ _ _ _ _ _ rfl rfl rfl (vP _ _ _ _ rfl (ex2 _ _ _ _ XL XL) l)
  ·exact jP _ _ _ _ _ _ _ _ rfl rfl rfl (vP _ _ _ _ rfl (ex2 _ _ _ _ XL XL) l)
  ·exact jP _ _ _ _ _ _ _ _ rfl rfl rfl (vP _ _ _ _ rfl (ex2 _ _ _ _ XL XL) l)
  ·exact jP _ _ _ _ _ _ _ _ rfl rfl rfl (vP _ _ _ _ rfl (ex1 _ _ XL) l)
 ·have h0:zAH kind=[]:=by
   unfold zAH
   repeat (rw[if_neg (by omega)])
  have h1:(decide (1≤kind)&&(decide (kind≤26)&&(JR kind num text&&zAE kind l)))=false:=by
   by_cases h1:1≤kind
   ·rw[yO (show ¬kind≤26 from by omega)]
    simp
   ·rw[yO h1]
    simp
  rw[h1];unfold zC9;rw[h0]
  rfl
end Go.Proofs.YtioffpjajhalaaaGreatDoor.TT
namespace Go.Proofs.YtioffpjajhalaaaGreatDoor.TT
open Go Go.RowKit
theorem vR {a b:Bool}(h:a=b):Ending.returned (.bool a)=.returned (.bool b):=by rw[h]
theorem zAV (k:Int)(w:World):Calls Tryz.prog 55 #[.int .u8 k] w fun e w'=>e=.returned (.bool (ZQ k))∧w=w':=by
 by_cases h:21≤k
 ·have H:Hid (ZQ k=decide (k≤26)):=yD (by unfold ZQ; rw[yP h,Bool.true_and]);have h1:decide (21≤k)=true:=yP h
  go_enter Tryz.func55,Tryz.ntmps55
  go_wp2
  go_ret;exact⟨vR H.out.symm,rfl⟩
 ·have H:Hid (ZQ k=false):=yD (by unfold ZQ; rw[yO h,Bool.false_and]);have h1:decide (21≤k)=false:=yO h
  go_enter Tryz.func55,Tryz.ntmps55
  go_wp2
  go_ret;exact⟨vR H.out.symm,rfl⟩
theorem zBO (k:Int)(w:World):Calls Tryz.prog 142 #[.int .u8 k] w fun e w'=>e=.returned (.bool (zA5 k))∧w=w':=by
 by_cases h:7≤k
 ·have H:Hid (zA5 k=decide (k≤19)):=yD (by unfold zA5; rw[yP h,Bool.true_and]);have h1:decide (7≤k)=true:=yP h
  go_enter Tryz.func142,Tryz.ntmps142
  go_wp2
  go_ret;exact⟨vR H.out.symm,rfl⟩
 ·have H:Hid (zA5 k=false):=yD (by unfold zA5; rw[yO h,Bool.false_and]);have h1:decide (7≤k)=false:=yO h
  go_enter Tryz.func142,Tryz.ntmps142
  go_wp2
  go_ret;exact⟨vR H.out.symm,rfl⟩
theorem YZ (k:Int)(w:World):Calls Tryz.prog 140 #[.int .u8 k] w fun e w'=>e=.returned (.bool (zBR k))∧w=w':=by
 by_cases h:k=2
 ·subst h
  go_enter Tryz.func140,Tryz.ntmps140
  go_wp2
  go_ret;exact⟨rfl,rfl⟩
 ·have h1:(k==2)=false:=beq_eq_false_iff_ne.2 h;have H:Hid (zBR k=(k==3)):=yD (by unfold zBR; rw[h1,Bool.false_or])
  go_enter Tryz.func140,Tryz.ntmps140
  go_wp2
  go_ret;exact⟨vR H.out.symm,rfl⟩
theorem zAM (k j:Int)(g:Nat)(w:World)(hg:Blk w g 5 #[.int .u8 j]):Calls Tryz.prog 168 #[.int .u8 k,.pointer (some ⟨g,0,none⟩)] w fun e w'=>e=.returned (.bool (k==j))∧w=w':=by
 have h0:=hg.cell 0;have hf:=hg.frozen 0;clear hg
 go_enter Tryz.func168,Tryz.ntmps168
 go_wp2
 go_ret;exact⟨rfl,rfl⟩
theorem zIX (k:Int)(w:World):Calls Tryz.prog 141 #[.int .u8 k] w fun e w'=>e=.returned (.func (.func 168) #[] #[.pointer (some ⟨w.heap.size,0,none⟩)])∧w'=w.alloc (.cells #[.int .u8 k] 5):=by
 go_enter Tryz.func141,Tryz.ntmps141
 go_wp2
 go_ret;exact⟨rfl,rfl⟩
def zBv (w:World):jQ→Value→Prop
 | .VR k,v=>∃g,v=.func (.func 168) #[] #[.pointer (some ⟨g,0,none⟩)]∧Blk w g 5 #[.int .u8 k]
 | .expr,v=>v=.func (.func 55) #[] #[]
 | .stmt,v=>v=.func (.func 142) #[] #[]
 | .part,v=>v=.func (.func 140) #[] #[]
theorem zBv.ext {w w':World}{p:jQ}{v:Value}(h:zBv w p v)(hx:Ext w w'):zBv w' p v:=by
 cases p with
 | VR k=>obtain⟨g,h1,h2⟩:=h; exact⟨g,h1,h2.ext hx⟩
 | expr=>exact h
 | stmt=>exact h
 | part=>exact h
theorem zBv.form {w:World}{p:jQ}{v:Value}(h:zBv w p v):∃f lb,v=.func (.func f) #[] lb∧v.oneCell'=true:=by
 cases p with
 | VR k=>obtain⟨g,h1,h2⟩:=h; subst h1; exact⟨_,_,rfl,rfl⟩
 | expr=>subst h; exact⟨_,_,rfl,rfl⟩
 | stmt=>subst h; exact⟨_,_,rfl,rfl⟩
 | part=>subst h; exact⟨_,_,rfl,rfl⟩
end Go.Proofs.YtioffpjajhalaaaGreatDoor.TT
