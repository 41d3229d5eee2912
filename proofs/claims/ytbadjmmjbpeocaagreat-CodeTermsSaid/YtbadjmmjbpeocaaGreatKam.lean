/- Arguments opened: a slice value that can be read as data reads as a list of cells. (and what follows of it). The conditions stand at each lemma. -/
import Derived.Test.YtbadjmmjbpeocaaGreatKaa
import Derived.Test.YtbadjmmjbpeocaaGreatKab
import Derived.Deep.Slices
import Derived.Deep.Fields
import Derived.ChangeSame
import Derived.OpenShut
import Derived.ShutString
import Derived.ChangeOld
import Derived.Test.YtbadjmmjbpeocaaGreatKal
set_option linter.unusedVariables false
set_option linter.unusedSimpArgs false
set_option maxRecDepth 100000
set_option maxHeartbeats 16000000
namespace Go.Proofs.YtbadjmmjbpeocaaGreat
open Go Go.RowKit Go.Deep Go.ChangeShapes Go.WideShapes
theorem zPo {α:Type}(f:α→List Value)(sz:Nat)(hf:∀x,(f x).length=sz)(l:List α):∀(i j:Nat) (hi:i<l.length),j<sz→(l.flatMap f)[i*sz+j]?=(f l[i])[j]?:=by
 induction l with
 | nil=>intro i j hi; simp at hi
 | cons x l ih=>
  intro i j hi hj;rw[List.flatMap_cons]
  match i,hi with
  | 0,_=>
   rw[Nat.zero_mul,Nat.zero_add,List.getElem?_append_left (by rw[hf]; exact hj)]
   rfl
  | i+1,hi=>
   rw[List.getElem?_append_right (by rw[hf,Nat.succ_mul]; omega),hf,show(i+1)*sz+j-sz=i*sz+j from by rw[Nat.succ_mul]; omega];exact ih i j (by simpa using hi) hj
theorem zMK {α:Type}(f:α→List Value)(sz:Nat)(hf:∀x,(f x).length=sz)(l:List α):(l.flatMap f).length=l.length*sz:=by
 induction l with
 | nil=>simp
 | cons x l ih=>rw[List.flatMap_cons,yP,hf,ih,zK,Nat.succ_mul]; omega
theorem zSw (b off k:Nat):(⟨b,off,none⟩:Addr).add k=⟨b,off+k,none⟩:=by
 unfold Addr.add
 by_cases h:k=0
 ·subst h; rfl
 ·simp[h]
theorem Cells.zSF {α:Type}{w:World}(f:α→List Value)(sz:Nat)(hsz:0<sz)(hf:∀x,(f x).length=sz)(l:List α)(a:Addr)
  (h:∀(i:Nat) (hi:i<l.length) (j:Nat),j<sz→w.cell? (a.add (i*sz+j))=(f l[i])[j]?):Cells w (some a) (l.flatMap f):=by
 by_cases hl:l=[]
 ·subst hl; exact .inl rfl
 ·have hpos:0<l.length:=List.length_pos_iff.2 hl;have h0:=h 0 hpos 0 hsz
  have h0':w.cell? (a.add (0*sz+0))=some ((f l[0])[0]'(by rw[hf]; exact hsz)):=by rw[h0]; exact yJ _
  obtain⟨b,off,spot⟩:=a
  have hspot:spot=none:=by simpa [Addr.add] using World.cell?_spot h0'
  subst hspot;refine .inr ⟨b,off,rfl,?_,fun k hk=>?_⟩
  ·have:=World.block_lt_of_cell? w _ h0'
   simpa [Addr.add] using this
  ·rw[zMK f sz hf] at hk;have hi:k / sz<l.length:=Nat.div_lt_of_lt_mul (by rw[Nat.mul_comm]; exact hk);have hj:k % sz<sz:=Nat.mod_lt _ hsz
   have hkk:k / sz*sz+k % sz=k:=by rw[Nat.mul_comm]; exact Nat.div_add_mod k sz
   have h1:=h (k / sz) hi (k % sz) hj;have h2:=zPo f sz hf l (k / sz) (k % sz) hi hj;rw[hkk] at h1 h2;rw[h2,←h1,zSw]
section
variable {H:Type} {enc:TypeId × Value→H} {P:Program} {w:World} {base:Nat} {spare:Nat→Bool} {held:Bool}
theorem zOu {α:Type}(f:α→List Value)(ok:α→Prop)(sz:Nat)(hsz:0<sz)(hf:∀x,(f x).length=sz){t e:TypeId}{a:Option Addr}{len cap:Nat}{d:DataW H}{p:List MemPlace}(ht:P.underlying t=some (.slice e))(hC:P.cellsOf e=sz)
  (hel:∀(n:Nat) (cs:List Value) (y:DataW H × List MemPlace),cs.length=sz→DataW.trod enc P w base spare held n e cs=some y→∃x,cs=f x∧ok x)
  (h:DataW.Trod enc P w base spare held t (.slice a len cap) d p) :
  ∃l:List α,len=l.length∧(a=none→cap=0)∧Cells w a (l.flatMap f)∧∀x ∈ l,ok x:=by
 obtain⟨fuel,hfu⟩:=h
 rcases open_slice ht hfu with ⟨hcs,_⟩ | ⟨a',len',cap',m,n,D,Pl,hcs,hb,hl,hm,hmm,_,hx⟩
 ·simp[Value.cells] at hcs;obtain⟨rfl,rfl,rfl⟩:=hcs;exact⟨[],rfl,fun _=>rfl,.inl rfl,fun x hx=>by cases hx⟩
 ·simp[Value.cells] at hcs;obtain⟨rfl,rfl,rfl⟩:=hcs
  have hlm:len≤m:=by rw[hmm]; split <;> omega
  have key:∀k,k≤len→∃l:List α,l.length=k∧(∀x ∈ l,ok x)∧∀(i:Nat) (hi:i<l.length) (j:Nat),j<sz→w.cell? (a'.add (i*sz+j))=(f l[i])[j]?:=by
   intro k
   induction k with
   | zero=>intro _; exact⟨[],rfl,(fun x hx=>by cases hx),(fun i hi=>by simp at hi)⟩
   | succ k ih=>
    intro hk;obtain⟨l,hll,hok,hce⟩:=ih (by omega);obtain⟨cs',h1,h2⟩:=hx k (by omega);rw[hC] at h1;obtain⟨_,hcl,hcell⟩:=World.cells?_some h1;obtain⟨x,rfl,hx'⟩:=hel n cs' _ hcl h2;refine⟨l++[x],by simp[hll],fun y hy=>?_,fun i hi j hj=>?_⟩
    ·rcases List.mem_append.1 hy with h | h
     ·exact hok y h
     ·rw[List.mem_singleton.1 h]; exact hx'
    ·by_cases hik:i<l.length
     ·rw[List.getElem_append_left hik]; exact hce i hik j hj
     ·have hik':i=k:=by simp at hi; omega
      subst hik';rw[List.getElem_append_right (by omega)];simp only[hll,Nat.sub_self,List.getElem_cons_zero];rw[←hcell j hj,Go.Deep.add_add]
  obtain⟨l,hll,hok,hce⟩:=key len (zX _);exact⟨l,hll.symm,(fun h=>by cases h),Cells.zSF f sz hsz hf l a' hce,hok⟩
theorem zKy {k:IntKind}{t e:TypeId}{a:Option Addr}{len cap:Nat}{d:DataW H}{p:List MemPlace}(ht:P.underlying t=some (.slice e))(he:P.underlying e=some (.int k))(hC:P.cellsOf e=1)
  (h:DataW.Trod enc P w base spare held t (.slice a len cap) d p) :
  ∃l:List Int,len=l.length∧(a=none→cap=0)∧Cells w a (l.map (Value.int k))∧∀x ∈ l,(Lit.int k x).wf=true:=by
 obtain⟨l,h1,h2,h3,h4⟩:=zOu (fun x=>[Value.int k x]) (fun x=>(Lit.int k x).wf=true) 1 (by decide) (fun _=>rfl) ht hC (fun n cs y _ hy=>by
  obtain⟨x,hx,_,hw⟩:=DataW.trod_int he hy
  exact⟨x,hx,hw⟩) h
 refine⟨l,h1,h2,?_,h4⟩
 have e:l.flatMap (fun x=>[Value.int k x])=l.map (Value.int k):=by
  induction l with
  | nil=>rfl
  | cons x l ih=>
   have ih':∀l:List Int,l.flatMap (fun x=>[Value.int k x])=l.map (Value.int k):=by
    intro l
    induction l with
    | nil=>rfl
    | cons y l ih=>rw[List.flatMap_cons,List.map_cons,List.singleton_append,ih]
   exact ih' _
 rw[←e];exact h3
end
end Go.Proofs.YtbadjmmjbpeocaaGreat
namespace Go.Proofs.YtbadjmmjbpeocaaGreat.TT
def zBX (len:Nat)(Z:List Nat):List Int→Nat→Option Nat
 | [],a=>some a
 | k::r,a=>if k=(a:Int)∧a<len then zBX len Z r (Z.getD a 0) else none
def JH (ks:List (List Int)):Nat→Option (List Nat)
 | 0=>some (List.replicate ks.length 0)
 | j+1=>match JH ks j with
  | none=>none
  | some Z=>match zBX ks.length Z (ks.getD (ks.length-1-j) []) (ks.length-1-j+1) with
   | none=>none
   | some a=>some (Z.set (ks.length-1-j) a)
def zB3 (ks:List (List Int)):Option (List Nat):=
 match JH ks ks.length with
 | none=>none
 | some Z=>if ks.length≠0∧Z.getD 0 0=ks.length then some Z else none
def zCJ (g:Nat→Option Nat)(len:Nat):List Int→Option Nat→Option Nat
 | [],a=>a
 | _::_,none=>none
 | k::r,some a=>if a<len∧k=(a:Int) then zCJ g len r (g a) else none
def zFu (ks:List (List Int)):Nat→Nat→Option Nat
 | 0,_=>none
 | f+1,i=>if i<ks.length then zCJ (zFu ks f) ks.length (ks.getD i []) (some (i+1)) else none
theorem zAs (g:Nat→Option Nat)(len:Nat)(l:List Int):zCJ g len l none=none:=by cases l <;> rfl
theorem VQ (g:Nat→Option Nat)(len:Nat)(k:Int)(r:List Int)(a:Nat):zCJ g len (k::r) (some a)=if a<len∧k=(a:Int) then zCJ g len r (g a) else none:=rfl
theorem zRT {g:Nat→Option Nat}{len:Nat}(hg:∀a e,g a=some e→a<e∧e≤len):∀(l:List Int) (a0 e:Nat),a0≤len→zCJ g len l (some a0)=some e→a0≤e∧e≤len:=by
 intro l
 induction l with
 | nil=>intro a0 e h0 h; injection h with h; omega
 | cons k r ih=>
  intro a0 e h0 h;rw[VQ] at h
  split at h
  ·rename_i hc
   cases ha:g a0 with
   | none=>rw[ha,zAs] at h; cases h
   | some a1=>
    rw[ha] at h;have h1:=hg a0 a1 ha;have h2:=ih a1 e h1.2 h;omega
  ·cases h
theorem zPD (ks:List (List Int)):∀f i e,zFu ks f i=some e→i<e∧e≤ks.length:=by
 intro f
 induction f with
 | zero=>intro i e h; cases h
 | succ f ih=>
  intro i e h;unfold zFu at h
  split at h
  ·rename_i hi
   have:=zRT ih _ _ _ (by omega) h
   omega
  ·cases h
theorem zMZ {g g':Nat→Option Nat}{len i:Nat}(h:∀a,i<a→g a=g' a)(hg:∀a e,g a=some e→a<e):∀(l:List Int) (a0:Nat),i<a0→zCJ g len l (some a0)=zCJ g' len l (some a0):=by
 intro l
 induction l with
 | nil=>intro a0 _; rfl
 | cons k r ih=>
  intro a0 h0;rw[VQ,VQ,←h a0 h0]
  split
  ·cases ha:g a0 with
   | none=>rw[zAs,zAs]
   | some a1=>exact ih a1 (by have:=hg a0 a1 ha; omega)
  ·rfl
theorem zPM (ks:List (List Int)):∀f f' i,ks.length-i≤f→ks.length-i≤f'→zFu ks f i=zFu ks f' i:=by
 intro f
 induction f with
 | zero=>
  intro f' i h _
  cases f' with
  | zero=>rfl
  | succ f'=>unfold zFu; rw[if_neg (by omega)]
 | succ f ih=>
  intro f' i h h'
  cases f' with
  | zero=>unfold zFu; rw[if_neg (by omega)]
  | succ f'=>
   unfold zFu
   split
   ·exact zMZ (i:=i) (fun a ha=>ih f' a (by omega) (by omega)) (fun a e he=>(zPD ks f a e he).1) _ _ (by omega)
   ·rfl
def zBM (ks:List (List Int))(i:Nat):Option Nat:=zFu ks ks.length i
theorem zHD (ks:List (List Int))(i:Nat):zBM ks i=if i<ks.length then zCJ (zBM ks) ks.length (ks.getD i []) (some (i+1)) else none:=by
 unfold zBM;rw[zPM ks ks.length (ks.length+1) i (by omega) (by omega)]
 rfl
theorem zBu {ks:List (List Int)}{i e:Nat}(h:zBM ks i=some e):i<e∧e≤ks.length:=zPD ks _ _ _ h
theorem zTJ {ks:List (List Int)}{i e:Nat}(h:zBM ks i=some e):i<ks.length:=by have:=zBu h; omega
theorem zKt {ks:List (List Int)}{Z:List Nat}{i:Nat}(hZ:∀a,i<a→a<ks.length→zBM ks a=some (Z.getD a 0)):∀(l:List Int) (a0:Nat),i<a0→zBX ks.length Z l a0=zCJ (zBM ks) ks.length l (some a0):=by
 intro l
 induction l with
 | nil=>intro a0 _; rfl
 | cons k r ih=>
  intro a0 h0;rw[VQ];unfold zBX
  by_cases hc:k=(a0:Int)∧a0<ks.length
  ·have hz:=hZ a0 h0 hc.2;rw[if_pos hc,if_pos ⟨hc.2,hc.1⟩,hz];exact ih _ (by have:=zBu hz; omega)
  ·rw[if_neg hc,if_neg (fun h=>hc ⟨h.2,h.1⟩)]
theorem zDx (ks:List (List Int)):∀(j:Nat) (Z:List Nat),j≤ks.length→JH ks j=some Z→Z.length=ks.length∧∀a,ks.length-j≤a→a<ks.length→zBM ks a=some (Z.getD a 0):=by
 intro j
 induction j with
 | zero=>
  intro Z _ h;injection h with h;subst h;exact⟨by simp,fun a h1 h2=>by omega⟩
 | succ j ih=>
  intro Z hj h;unfold JH at h
  split at h
  ·cases h
  ·rename_i Z0 h0;obtain⟨hl,hz⟩:=ih Z0 (by omega) h0
   split at h
   ·cases h
   ·rename_i a ha;injection h with h;subst h;refine⟨by simpa using hl,fun b h1 h2=>?_⟩;rw[zKt (i:=ks.length-1-j) (fun a h1 h2=>hz a (by omega) h2) _ _ (by omega)] at ha
    by_cases hb:b=ks.length-1-j
    ·subst hb;rw[zHD,if_pos h2,ha];simp[yH,hl,h2]
    ·rw[hz b (by omega) h2];simp[yH,List.getElem?_set,Ne.symm hb]
theorem zOf (ks:List (List Int)):∀(j:Nat),j≤ks.length→(∀a,ks.length-j≤a→a<ks.length→(zBM ks a).isSome=true)→∃Z,JH ks j=some Z:=by
 intro j
 induction j with
 | zero=>intro _ _; exact⟨_,rfl⟩
 | succ j ih=>
  intro hj h;obtain⟨Z0,h0⟩:=ih (by omega) (fun a h1 h2=>h a (by omega) h2);obtain⟨hl,hz⟩:=zDx ks j Z0 (by omega) h0;have h1:=h (ks.length-1-j) (by omega) (by omega);rw[zHD,if_pos (by omega),←zKt (Z:=Z0) (i:=ks.length-1-j) (fun a h1 h2=>hz a (by omega) h2) _ _ (by omega)] at h1;unfold JH;rw[h0]
  simp only
  cases hk:zBX ks.length Z0 (ks.getD (ks.length-1-j) []) (ks.length-1-j+1) with
  | none=>rw[hk] at h1; cases h1
  | some a=>exact⟨_,rfl⟩
theorem zMU {ks:List (List Int)}{i:Nat}(hi:∀a1,i<a1→∀e1,zBM ks a1=some e1→∀a,a1≤a→a<e1→(zBM ks a).isSome=true):∀(l:List Int) (a0 e:Nat),i<a0→zCJ (zBM ks) ks.length l (some a0)=some e→∀a,a0≤a→a<e→(zBM ks a).isSome=true:=by
 intro l
 induction l with
 | nil=>intro a0 e h0 h a h1 h2; injection h with h; omega
 | cons k r ih=>
  intro a0 e h0 h a h1 h2;rw[VQ] at h
  split at h
  ·cases ha:zBM ks a0 with
   | none=>rw[ha,zAs] at h; cases h
   | some a1=>
    rw[ha] at h
    by_cases hlt:a<a1
    ·exact hi a0 h0 a1 ha a h1 hlt
    ·exact ih a1 e (by have:=zBu ha; omega) h a (by omega) h2
  ·cases h
theorem zIS (ks:List (List Int)):∀(n i e:Nat),ks.length-i≤n→zBM ks i=some e→∀a,i≤a→a<e→(zBM ks a).isSome=true:=by
 intro n
 induction n with
 | zero=>intro i e h he; have:=zBu he; omega
 | succ n ih=>
  intro i e h he a h1 h2
  by_cases hai:a=i
  ·subst hai; rw[he]; rfl
  ·have he':=he;rw[zHD,if_pos (by have:=zBu he; omega)] at he';exact zMU (i:=i) (fun a1 ha1 e1 he1=>ih a1 e1 (by have:=zBu he1; omega) he1) _ _ _ (by omega) he' a (by omega) h2
theorem zGw {ks:List (List Int)}{Z:List Nat}(h:zB3 ks=some Z):Z.length=ks.length∧ks.length≠0∧zBM ks 0=some ks.length∧∀a,a<ks.length→zBM ks a=some (Z.getD a 0):=by
 unfold zB3 at h
 split at h
 ·cases h
 ·rename_i Z0 h0
  split at h
  ·rename_i hc;injection h with h;subst h;obtain⟨hl,hz⟩:=zDx ks ks.length Z0 (zX _) h0;refine⟨hl,hc.1,?_,fun a ha=>hz a (by omega) ha⟩;rw[hz 0 (by omega) (by omega),hc.2]
  ·cases h
theorem zQJ {ks:List (List Int)}(h:zB3 ks=none):zBM ks 0≠some ks.length:=by
 intro he;obtain⟨Z,hZ⟩:=zOf ks ks.length (zX _) (fun a _ h2=>zIS ks ks.length 0 ks.length (by omega) he a (zW _) h2);obtain⟨hl,hz⟩:=zDx ks ks.length Z (zX _) hZ;have h0:=zBu he
 have:=hz 0 (by omega) (by omega)
 rw[he] at this;injection this with this;unfold zB3 at h;rw[hZ] at h
 simp only at h
 rw[if_pos ⟨by omega,this.symm⟩] at h
 cases h
theorem zNT {ks:List (List Int)}:∀(l:List Int) (a0 e:Nat),zCJ (zBM ks) ks.length l (some a0)=some e→∀k ∈ l,∃a:Nat,k=(a:Int)∧a0≤a∧a<ks.length:=by
 intro l
 induction l with
 | nil=>intro a0 e _ k hk; cases hk
 | cons x r ih=>
  intro a0 e h k hk;rw[VQ] at h
  split at h
  ·rename_i hc
   rcases List.mem_cons.1 hk with rfl | hk
   ·exact⟨a0,hc.2,zX _,hc.1⟩
   ·cases ha:zBM ks a0 with
    | none=>rw[ha,zAs] at h; cases h
    | some a1=>
     rw[ha] at h;obtain⟨a,h1,h2,h3⟩:=ih a1 e h k hk
     have:=zBu ha
     exact⟨a,h1,by omega,h3⟩
  ·cases h
theorem zOL {ks:List (List Int)}{i e:Nat}(h:zBM ks i=some e):∀k ∈ ks.getD i [],∃a:Nat,k=(a:Int)∧i<a∧a<ks.length:=by
 intro k hk;have hl:=zTJ h;rw[zHD,if_pos hl] at h;obtain⟨a,h1,h2,h3⟩:=zNT _ _ _ h k hk;exact⟨a,h1,by omega,h3⟩
end Go.Proofs.YtbadjmmjbpeocaaGreat.TT
namespace Go.Proofs.YtbadjmmjbpeocaaGreat.TT
open Go Go.RowKit Go.Deep Go.ChangeShapes Go.WideShapes
structure xQ where
 kind:Int
 pos:Int
 text:ByteArray
 num:Int
 kA:Option Addr
 kc:Nat
 kids:List Int
def xQ.cells (x:xQ):List Value:=[.int .u8 x.kind,.int .i64 x.pos,.string x.text,.int .i64 x.num,.slice x.kA x.kids.length x.kc]
def jP (l:List Int):List Value:=l.map (Value.int .i64)
structure zDH (w:World)(x:xQ):Prop where
 kind:0≤x.kind∧x.kind<256
 num:-9223372036854775808≤x.num∧x.num≤9223372036854775807
 kids:Cells w x.kA (jP x.kids)
 nil:x.kA=none→x.kc=0
theorem zDH.ext {w w':World}{x:xQ}(h:zDH w x)(hx:Ext w w'):zDH w' x:=⟨h.kind,h.num,h.kids.ext hx,h.nil⟩
def YL (l:List xQ):List Value:=l.flatMap xQ.cells
theorem zBB (l:List xQ):(YL l).length=l.length*5:=zMK xQ.cells 5 (fun _=>rfl) l
theorem zIr (l:List xQ)(k j:Nat)(h:k<l.length)(hj:j<5):(YL l)[k*5+j]?=(l[k].cells)[j]?:=zPo xQ.cells 5 (fun _=>rfl) l k j h hj
theorem zBp (l:List Int):(jP l).length=l.length:=by simp[jP]
theorem zKU (l:List Int)(k:Nat)(h:k<l.length):(jP l)[k]?=some (.int .i64 l[k]):=by simp[jP,h]
structure zA3 (w:World)(A:Option Addr)(l:List xQ):Prop where
 cells:Cells w A (YL l)
 ok:∀x ∈ l,zDH w x
theorem zA3.ext {w w':World}{A:Option Addr}{l:List xQ}(h:zA3 w A l)(hx:Ext w w'):zA3 w' A l:=⟨h.cells.ext hx,fun x hm=>(h.ok x hm).ext hx⟩
theorem zA3.at_ {w:World}{A:Option Addr}{l:List xQ}(h:zA3 w A l)(k:Nat)(hk:k<l.length) :
  ∃b off,A=some ⟨b,off,none⟩∧b<w.heap.size∧∀j,j<5→w.cell? ⟨b,off+k*5+j,none⟩=(l[k].cells)[j]?:=by
 obtain⟨b,off,hA,hb,hcc⟩:=h.cells.at_ (by rw[zBB]; omega);refine⟨b,off,hA,hb,fun j hj=>?_⟩;rw[Nat.add_assoc,hcc _ (by rw[zBB]; omega)];exact zIr l k j hk hj
theorem zPG {w:World}{A:Option Addr}{l:List Int}(h:Cells w A (jP l))(k:Nat)(hk:k<l.length):∃b off,A=some ⟨b,off,none⟩∧b<w.heap.size∧w.cell? ⟨b,off+k,none⟩=some (.int .i64 l[k]):=by
 obtain⟨b,off,hA,hb,hcc⟩:=h.at_ (by rw[zBp]; omega);exact⟨b,off,hA,hb,(hcc k (by rw[zBp]; exact hk)).trans (zKU l k hk)⟩
section
variable {H:Type} {enc:TypeId × Value→H} {w:World} {base:Nat} {spare:Nat→Bool} {held:Bool}
end
end Go.Proofs.YtbadjmmjbpeocaaGreat.TT
namespace Go.Proofs.YtbadjmmjbpeocaaGreat
open Go Go.RowKit TT
theorem zQ0:(Tryz.prog.info? 38).map (fun i=>(i.zero,i.size,i.bytes))=some (some (.agg #[.int .u8 0,.int .i64 0,.string ⟨#[]⟩,.int .i64 0,.slice none 0 0]),5,64):=by kernel_rfl
theorem zML:(Tryz.prog.info? 3).map (fun i=>(i.zero,i.size,i.bytes))=some (some (.int .i64 0),1,8):=by kernel_rfl
theorem zNY (l:List xQ):∀u ∈ YL l,u.oneCell'=true:=by
 intro u hu;unfold YL at hu;obtain⟨t,_,h⟩:=List.mem_flatMap.1 hu;unfold xQ.cells at h;simp only[zU,List.not_mem_nil,or_false] at h
 rcases h with rfl | rfl | rfl | rfl | rfl <;> rfl
theorem zN7 (l:List Int):∀u ∈ TT.jP l,u.oneCell'=true:=by
 intro u hu;unfold TT.jP at hu;obtain⟨p,_,rfl⟩:=List.mem_map.1 hu
 rfl
theorem zOS (w:World):Calls Tryz.prog 81 #[.slice none 0 0] w fun e w'=>e=.returned (.slice none 0 0)∧w=w':=by
 have q:=fun w:World=>Lib.run_eql_slice_nil (P:=Tryz.prog) w 25 _ none 0 0 0 0 Tryz.underlying25
 go_enter Tryz.func81,Tryz.ntmps81
 go_wp2
 go_ret;exact⟨rfl,rfl⟩
theorem zOF (w:World):Calls Tryz.prog 82 #[.slice none 0 0] w fun e w'=>e=.returned (.slice none 0 0)∧w=w':=by
 have q:=fun w:World=>Lib.run_eql_slice_nil (P:=Tryz.prog) w 30 _ none 0 0 0 0 Tryz.underlying30
 go_enter Tryz.func82,Tryz.ntmps82
 go_wp2
 go_ret;exact⟨rfl,rfl⟩
theorem zOl (A:Option Addr)(l:List xQ)(n c:Nat)(w:World)(hn:n=l.length)(hbig:l.length≤100000)(hz:A=none→c=0)(hc:Cells w A (YL l)) :
  Calls Tryz.prog 81 #[.slice A n c] w fun e w'=>∃v,e=.returned v∧w'.ownsRow w.heap.size 38 5 v l.length (YL l)∧Ext w w':=by
 subst hn
 cases A with
 | none=>
  have h0:=hz rfl;subst h0
  have ht:l=[]:=by
   rcases hc with hc | ⟨b,off,h,_⟩
   ·cases l with
    | nil=>rfl
    | cons t ts=>have:=congrArg List.length hc; rw[zBB] at this; simp at this
   ·cases h
  subst ht;refine(zOS w).mono ?_;rintro e w' ⟨rfl,rfl⟩;exact⟨_,rfl,zR _ _ _ _,Ext.refl _⟩
 | some a=>
  obtain⟨i0,hi,hz0,hz1,hz2⟩:=info_parts zQ0;have q:=fun w:World=>Lib.run_eql_slice_nil (P:=Tryz.prog) w 25 _ (some a) l.length c 0 0 Tryz.underlying25;have HC:=yG hc;have hl:(YL l).length=l.length*5:=zBB l;have HL:=yG hl;clear hc hl hz
  go_enter Tryz.func81,Tryz.ntmps81
  go_wp2_with (at_builtin; refine YN rfl (.tmp 5) (.tmp 6) 25 rfl w.heap.size 38 i0 _ 5 64 Tryz.underlying25 hi hz0 hz1 hz2 rfl (by decide) (.slice (some ⟨w.heap.size,0,none⟩) 0 0) 0 [] rfl ⟨rfl,.inr ⟨w.heap.size,0,#[],rfl,zX _,Blk.new w _ _,zX _,by decide,rfl,rfl⟩⟩ (some a) l.length c (YL l) rfl (fun h=>by cases h) HL.out (HC.out.ext (Ext.alloc _ _)) (zNY l) (by unfold maxLen; omega) (by omega) (by simp) ?_)
  intro A' c' w1 h0 ho hg;have hX:Ext w w1:=Below.grown ((Below.refl _ w).alloc (zX _) _) hg (by simp) (fun j ej=>by simp[Value.ownBlock] at ej; omega);have HO:=yG ho;have HX:=yG hX;clear ho hX hg h0
  go_wp2
  go_ret;exact⟨_,rfl,HO.out,HX.out⟩
theorem zOr (A:Option Addr)(l:List Int)(n c:Nat)(w:World)(hn:n=l.length)(hbig:l.length≤100000)(hz:A=none→c=0)(hc:Cells w A (TT.jP l)) :
  Calls Tryz.prog 82 #[.slice A n c] w fun e w'=>∃v,e=.returned v∧w'.ownsRow w.heap.size 3 1 v l.length (TT.jP l)∧Ext w w':=by
 subst hn
 cases A with
 | none=>
  have h0:=hz rfl;subst h0
  have ht:l=[]:=by
   rcases hc with hc | ⟨b,off,h,_⟩
   ·cases l with
    | nil=>rfl
    | cons t ts=>have:=congrArg List.length hc; rw[TT.zBp] at this; simp at this
   ·cases h
  subst ht;refine(zOF w).mono ?_;rintro e w' ⟨rfl,rfl⟩;exact⟨_,rfl,zR _ _ _ _,Ext.refl _⟩
 | some a=>
  obtain⟨i0,hi,hz0,hz1,hz2⟩:=info_parts zML;have q:=fun w:World=>Lib.run_eql_slice_nil (P:=Tryz.prog) w 30 _ (some a) l.length c 0 0 Tryz.underlying30;have HC:=yG hc
  have hl:(TT.jP l).length=l.length*1:=by rw[TT.zBp]; omega
  have HL:=yG hl;clear hc hl hz
  go_enter Tryz.func82,Tryz.ntmps82
  go_wp2_with (at_builtin; refine YN rfl (.tmp 5) (.tmp 6) 30 rfl w.heap.size 3 i0 _ 1 8 Tryz.underlying30 hi hz0 hz1 hz2 rfl (by decide) (.slice (some ⟨w.heap.size,0,none⟩) 0 0) 0 [] rfl ⟨rfl,.inr ⟨w.heap.size,0,#[],rfl,zX _,Blk.new w _ _,zX _,by decide,rfl,rfl⟩⟩ (some a) l.length c (TT.jP l) rfl (fun h=>by cases h) HL.out (HC.out.ext (Ext.alloc _ _)) (zN7 l) (by unfold maxLen; omega) (by omega) (by simp) ?_)
  intro A' c' w1 h0 ho hg;have hX:Ext w w1:=Below.grown ((Below.refl _ w).alloc (zX _) _) hg (by simp) (fun j ej=>by simp[Value.ownBlock] at ej; omega);have HO:=yG ho;have HX:=yG hX;clear ho hX hg h0
  go_wp2
  go_ret;exact⟨_,rfl,HO.out,HX.out⟩
theorem zMz {w:World}{N:Nat}{t:TypeId}{sz n:Nat}{v:Value}{xs:List Value}(h:w.ownsRow N t sz v n xs):∃A c,v=.slice A n c∧n≤c:=by
 rcases h.2 with ⟨rfl,rfl⟩ | ⟨g,cap,cur,rfl,_,_,hle,_⟩
 ·exact⟨none,0,rfl,zX _⟩
 ·exact⟨_,cap,rfl,hle⟩
theorem zHE {w:World}{B N:Nat}{t:TypeId}{sz n:Nat}{v:Value}{xs:List Value}(h:w.ownsRow B t sz v n xs)(hN:N≤B):w.ownsRow N t sz v n xs:=by
 refine⟨h.1,?_⟩
 rcases h.2 with hn | ⟨g,cap,cur,hv,hb,r⟩
 ·exact .inl hn
 ·exact .inr ⟨g,cap,cur,hv,Nat.le_trans hN hb,r⟩
theorem zNM (l:List xQ):∀(i:Nat) (hi:i<l.length) (A:Option Addr) (c:Nat),YL (l.set i { l[i] with kA:=A,kc:=c })=(YL l).set (i*5+4) (.slice A l[i].kids.length c):=by
 induction l with
 | nil=>intro i hi; simp at hi
 | cons x l ih=>
  intro i hi A c
  cases i with
  | zero=>
   show xQ.cells _++YL l=(x.cells++YL l).set (0*5+4) _
   rw[Nat.zero_mul,Nat.zero_add,List.set_append_left _ _ (by show 4<5; omega)]
   rfl
  | succ i=>
   show x.cells++YL (l.set i _)=(x.cells++YL l).set ((i+1)*5+4) _
   have:=ih i (by simpa using hi) A c
   simp only[List.getElem_cons_succ] at this ⊢;rw[this,List.set_append_right _ _ (by show 5≤_; omega)]
   congr 2
   show _=(i+1)*5+4-5
   omega
structure zDw (N:Nat)(w:World)(g c:Nat)(l l':List xQ)(k:Nat):Prop where
 len:l'.length=l.length
 row:w.ownsRow N 38 5 (.slice (some ⟨g,0,none⟩) l.length c) l.length (YL l')
 same:∀i (h:i<l.length) (h':i<l'.length),l'[i].kind=l[i].kind∧l'[i].pos=l[i].pos∧l'[i].text=l[i].text∧l'[i].num=l[i].num∧l'[i].kids=l[i].kids
 done:∀i (h':i<l'.length),i<k→w.ownsRow N 3 1 (.slice l'[i].kA l'[i].kids.length l'[i].kc) l'[i].kids.length (TT.jP l'[i].kids)
 todo:∀i (h:i<l.length) (h':i<l'.length),k≤i→l'[i].kA=l[i].kA∧l'[i].kc=l[i].kc
theorem zDw.ext {N:Nat}{w w':World}{g c:Nat}{l l':List xQ}{k:Nat}(h:zDw N w g c l l' k)(hx:Ext w w'):zDw N w' g c l l' k:=⟨h.len,zBt h.row hx,h.same,fun i h' hk=>zBt (h.done i h' hk) hx,h.todo⟩
theorem zDw.step {N:Nat}{w:World}{g c:Nat}{l l':List xQ}{k:Nat}(h:zDw N w g c l l' k)(hk:k<l'.length)(A:Option Addr)(c2:Nat)(ho:w.ownsRow N 3 1 (.slice A l'[k].kids.length c2) l'[k].kids.length (TT.jP l'[k].kids)) :
  zDw N (w.setCell ⟨g,k*5+4,none⟩ (.slice A l'[k].kids.length c2)) g c l (l'.set k { l'[k] with kA:=A,kc:=c2 }) (k+1):=by
 have hl:=h.len;obtain⟨cur,hc⟩:=xY h.row rfl;refine⟨by rw[zB]; exact hl,?_,fun i h1 h2=>?_,fun i h' hi=>?_,fun i h1 h2 hi=>?_⟩
 ·rw[zNM l' k hk];exact zHU h.row (by omega) _
 ·rw[zB] at h2;rw[List.getElem_set]
  split
  ·rename_i e;subst e;exact h.same k h1 h2
  ·exact h.same i h1 h2
 ·rw[zB] at h';rw[List.getElem_set]
  split
  ·exact zAx ho hc (by decide) _ _
  ·rename_i e;exact zAx (h.done i h' (by omega)) hc (by decide) _ _
 ·rw[zB] at h2;rw[List.getElem_set,if_neg (by omega)];exact h.todo i h1 h2 (by omega)
theorem zTH (A:Option Addr)(l:List xQ)(n c:Nat)(w:World)(hn:n=l.length)(h0:0<l.length)(hbig:l.length≤100000)(hkb:∀x ∈ l,x.kids.length≤100000)(hz:A=none→c=0)(ht:zA3 w A l) :
  Calls Tryz.prog 46 #[.agg #[.slice A n c]] w fun e w'=>∃g c' l',e=.returned (.agg #[.slice (some ⟨g,0,none⟩) l.length c'])∧zDw w.heap.size w' g c' l l' l.length∧Ext w w':=by
 subst hn;have HT:=yG ht;have HBG:=yG hbig;have HKB:=yG hkb;have HZ:=yG hz;have H0:=yG h0;clear ht hkb hz h0;have b1:((w.alloc (.cells #[.slice A l.length c] 27)).alloc (.cells #[.slice none 0 0] 27)).cell? ⟨w.heap.size,0,none⟩=some (.slice A l.length c):=((Blk.new _ _ _).alloc _).cell 0;have HX0:Hid (Ext w ((w.alloc (.cells #[.slice A l.length c] 27)).alloc (.cells #[.slice none 0 0] 27))):=yG ((Ext.alloc _ _).trans (Ext.alloc _ _))
 have HRB:Hid (Blk ((w.alloc (.cells #[.slice A l.length c] 27)).alloc (.cells #[.slice none 0 0] 27)) (w.heap.size+1) 27 #[.slice none 0 0]):=yG (by
  have:=Blk.new (w.alloc (.cells #[.slice A l.length c] 27)) 27 #[.slice none 0 0]
  rwa [yT] at this)
 go_enter Tryz.func46,Tryz.ntmps46
 go_wp2_with fail
 clear b1;refine(zOl A l l.length c _ rfl hbig HZ.out (HT.out.cells.ext HX0.out)).mono ?_;rintro e w1 ⟨v,rfl,ho,hx1⟩;obtain⟨A1,c1,rfl,hle⟩:=zMz ho
 obtain⟨g,rfl⟩:∃g,A1=some ⟨g,0,none⟩:=by
  rcases zAN ho with e | e
  ·exfalso
   rw[e] at ho
   rcases ho.2 with ⟨_,h⟩ | ⟨_,_,_,h,_⟩
   ·have:=H0.out; omega
   ·cases h
  ·exact e
 have hgl:=jD ho rfl;have HO1:Hid (zDw w.heap.size w1 g c1 l l 0):=yG ⟨rfl,zHE ho HX0.out.size,fun i h h'=>⟨rfl,rfl,rfl,rfl,rfl⟩,fun i h' hi=>by omega,fun i h h' _=>⟨rfl,rfl⟩⟩;have HX1:=yG (HX0.out.trans hx1);have HRB1:=yG (HRB.out.ext hx1);have HGN:Hid (w.heap.size+1<g):=yG (by have:=hgl.1; simp at this; omega);clear ho hx1 hgl HX0
 go_upto_region 3 with fail
 go_loopw [10] (fun i' wr=>∃(k:Nat) (l':List xQ),k≤l.length∧i'=.int .i64 k∧Hid (zDw w.heap.size wr g c1 l l' k)∧Hid (Ext w wr)∧Hid (Blk wr (w.heap.size+1) 27 #[.slice none 0 0])) (fun i' _=>l.length-(intOf i').toNat)
 case atStart=>exact⟨0,l,zW _,rfl,HO1,HX1,HRB1⟩
 case round=>
  obtain⟨k,l',hk,rfl,HOK,HXK,HRK⟩:=hrel;obtain⟨wa,rfl⟩:∃wa:World,wa=wr:=⟨_,rfl⟩
  by_cases hlt:k<l.length
  ·have d0:decide ((k:Int)<(l.length:Int))=true:=yS (by omega)
   have q1:(k:Int)<(l.length:Int):=by omega
   have hk':k<l'.length:=by rw[HOK.out.len]; exact hlt
   have e4:wa.cell? ⟨g,k*5+4,none⟩=some (.slice l'[k].kA l'[k].kids.length l'[k].kc):=by
    rw[HOK.out.row.cellAt (k*5+4) (by omega),zIr l' k 4 hk' (by decide)]
    rfl
   obtain⟨cur,hcur⟩:=xY HOK.out.row rfl;have ez:wa.frozen? ⟨g,k*5+4,none⟩=false:=hcur.frozen _;have hsm:=HOK.out.same k hlt hk';have htd:=HOK.out.todo k hlt hk' (zX _);have hok:=HT.out.ok l[k] (yO hlt);have hkc:=HKB.out l[k] (yO hlt)
   have HCL:Hid (Cells wa l'[k].kA (TT.jP l'[k].kids)∧(l'[k].kA=none→l'[k].kc=0)∧l'[k].kids.length≤100000):=yG (by
    rw[hsm.2.2.2.2,htd.1,htd.2]
    exact⟨hok.kids.ext HXK.out,hok.nil,hkc⟩)
   have HST:Hid (∀(w2:World) (A2:Option Addr) (c2:Nat),Ext wa w2→w2.ownsRow wa.heap.size 3 1 (.slice A2 l'[k].kids.length c2) l'[k].kids.length (TT.jP l'[k].kids)→∃l'',zDw w.heap.size (w2.setCell ⟨g,k*5+4,none⟩ (.slice A2 l'[k].kids.length c2)) g c1 l l'' (k+1)):=yG fun w2 A2 c2 hx ho=>⟨_,(HOK.out.ext hx).step hk' A2 c2 (zHE ho HXK.out.size)⟩;have hgl:=hcur.lt;have HCU:=yG hcur;clear hsm htd hok hkc hcur;generalize l'[k].kids=ks at *;generalize l'[k].kA=kA at *;generalize l'[k].kc=kc at *
   go_wp2_with fail
   refine(zOr kA ks ks.length kc wa rfl HCL.out.2.2 HCL.out.2.1 HCL.out.1).mono ?_;rintro e w2 ⟨v,rfl,ho,hx2⟩;obtain⟨A2,c2,rfl,hle⟩:=zMz ho;obtain⟨l2,hl2⟩:=HST.out w2 A2 c2 hx2 ho;have HL2:=yG hl2;have e4':w2.cell? ⟨g,k*5+4,none⟩=some (.slice kA ks.length kc):=(hx2.cell (p:=⟨g,k*5+4,none⟩) hgl).trans e4;have ez':w2.frozen? ⟨g,k*5+4,none⟩=false:=(HCU.out.ext hx2).frozen _;have HX2:Hid (Ext w (w2.setCell ⟨g,k*5+4,none⟩ (.slice A2 ks.length c2))):=yG ((HXK.out.trans hx2).setCell (p:=⟨g,k*5+4,none⟩) (by show w.heap.size≤g; have:=HGN.out; omega) _);have HR2:Hid (Blk (w2.setCell ⟨g,k*5+4,none⟩ (.slice A2 ks.length c2)) (w.heap.size+1) 27 #[.slice none 0 0]):=yG ((HRK.out.ext hx2).far (p:=⟨g,k*5+4,none⟩) (by have:=HGN.out; show w.heap.size+1≠g; omega) _);clear hx2 ho hl2 e4 ez hgl
   go_wp2_with fail
   go_roundw
   case rel=>exact⟨k+1,l2,by omega,by go_num,HL2,HX2,HR2⟩
   case measure=>simp[intOf]; omega
  ·obtain rfl:k=l.length:=by omega
   have d0:decide ((l.length:Int)<(l.length:Int))=false:=by simp
   have d1:decide (l.length<l.length)=false:=by simp
   have y0:wa.cell? ⟨w.heap.size+1,0,none⟩=some (.slice none 0 0):=HRK.out.cell 0;have yz:=HRK.out.frozen 0;have HR9:Hid (Blk (wa.setCell ⟨w.heap.size+1,0,none⟩ (.slice (some ⟨g,0,none⟩) l.length c1)) (w.heap.size+1) 27 #[.slice (some ⟨g,0,none⟩) l.length c1]):=yG (HRK.out.put 0 _);have HO9:Hid (zDw w.heap.size (wa.setCell ⟨w.heap.size+1,0,none⟩ (.slice (some ⟨g,0,none⟩) l.length c1)) g c1 l l' l.length):=yG ⟨HOK.out.len,zAx HOK.out.row HRK.out (by decide) _ _,HOK.out.same,fun i h' hi=>zAx (HOK.out.done i h' hi) HRK.out (by decide) _ _,HOK.out.todo⟩;have HX9:Hid (Ext w (wa.setCell ⟨w.heap.size+1,0,none⟩ (.slice (some ⟨g,0,none⟩) l.length c1))):=yG (HXK.out.setCell (p:=⟨w.heap.size+1,0,none⟩) (by show w.heap.size≤w.heap.size+1; omega) _)
   go_wp2_with fail
   generalize wa.setCell ⟨w.heap.size+1,0,none⟩ (.slice (some ⟨g,0,none⟩) l.length c1)=w9 at *;have r0:w9.cell? ⟨w.heap.size+1,0,none⟩=some (.slice (some ⟨g,0,none⟩) l.length c1):=HR9.out.cell 0;refine bodyPost_ret (v:=.agg #[.slice (some ⟨g,0,none⟩) l.length c1]) (by simp[results,Tryz.results46,go_sem,r0]) rfl ⟨g,c1,l',rfl,HO9.out,HX9.out⟩
end Go.Proofs.YtbadjmmjbpeocaaGreat
namespace Go.Proofs.YtbadjmmjbpeocaaGreat
open Go Go.RowKit
abbrev Pw:=Np × Hd2
def prc (x:Pw):List Value:=[.string (xH x.1.name),.int .i64 (x.1.params:Int),.slice x.2.1 x.1.vars.length x.2.2,.bool x.1.single,.int .i64 (x.1.root:Int)]
def zB4 (l:List Pw):List Value:=l.flatMap prc
theorem zEx (l:List Pw):(zB4 l).length=l.length*5:=by
 unfold zB4
 induction l with
 | nil=>rfl
 | cons t l ih=>rw[List.flatMap_cons,yP,ih,zK]; show 5+_=_; omega
theorem zQW (l:List Pw)(x:Pw):zB4 (l++[x])=zB4 l++prc x:=by unfold zB4; simp
theorem zDU (l:List Pw):∀(i:Nat) (hi:i<l.length) (j:Nat),j<5→(zB4 l)[i*5+j]?=(prc l[i])[j]?:=by
 induction l with
 | nil=>intro i hi; simp at hi
 | cons x l ih=>
  intro i hi j hj
  show(prc x++zB4 l)[i*5+j]?=_
  match i,hi with
  | 0,_=>rw[Nat.zero_mul,Nat.zero_add,List.getElem?_append_left (by show j<5; exact hj)]; rfl
  | i+1,hi=>
   have e:(i+1)*5+j=5+(i*5+j):=by omega
   rw[e,List.getElem?_append_right (by show 5≤_; omega),show 5+(i*5+j)-(prc x).length=i*5+j from by show 5+(i*5+j)-5=_; omega];exact ih i (by simpa using hi) j hj
theorem zQN (w:World)(g:Nat)(nm nm2:ByteArray)(pa:Int)(vs:Value)(hvs:∃A n c,vs=.slice A n c)(sg:Bool)(rt:Int)(hg:Blk w g 9 #[.string nm])(b:Bool)(hb:Hid ((nm2.toList==nm.toList)=b)) :
  Calls Tryz.prog 120 #[.agg #[.string nm2,.int .i64 pa,vs,.bool sg,.int .i64 rt],.pointer (some ⟨g,0,none⟩)] w fun e w'=>e=.returned (.bool b)∧Ext w w':=by
 obtain⟨A,n,c,rfl⟩:=hvs;have HG:=yG hg;have gl:=hg.lt;have g0:(w.alloc (.cells #[.string nm2,.int .i64 pa,.slice A n c,.bool sg,.int .i64 rt] 85)).cell? ⟨g,0,none⟩=some (.string nm):=(hg.alloc _).cell 0;have y0:(w.alloc (.cells #[.string nm2,.int .i64 pa,.slice A n c,.bool sg,.int .i64 rt] 85)).cell? ⟨w.heap.size,0,none⟩=some (.string nm2):=(Blk.new _ _ _).cell 0;clear hg
 go_enter Tryz.func120,Tryz.ntmps120
 go_wp2_with fail
 go_ret;refine⟨zCr ?_,Ext.alloc _ _⟩;exact hb.out
theorem findIdx_take {α:Type}(p:α→Bool)(l:List α)(k:Nat)(hk:k<l.length)(h:∀j (hj:j<l.length),j<k→p l[j]=false)(hp:p l[k]=true):l.findIdx? p=some k:=by
 rw[List.findIdx?_eq_some_iff_getElem];exact⟨hk,hp,fun j hj=>by rw[h j (by omega) hj]; decide⟩
theorem zND {α:Type}(p:α→Bool)(l:List α)(h:∀j (hj:j<l.length),p l[j]=false):l.findIdx? p=none:=by
 rw[List.findIdx?_eq_none_iff];intro x hx;obtain⟨j,hj,rfl⟩:=List.getElem_of_mem hx;exact h j hj
theorem zOO (w:World)(g:Nat)(nm:Bs)(A:Option Addr)(ps:List Pw)(c:Nat)(hlen:ps.length≤100000)(hc:Cells w A (zB4 ps))(hg:Blk w g 9 #[.string (xH nm)]) :
  Calls Tryz.prog 119 #[.slice A ps.length c,.func (.func 120) #[] #[.pointer (some ⟨g,0,none⟩)]] w fun e w'=>e=.returned (.int .i64 (zHy (ps.findIdx? fun x=>x.1.name==nm)))∧Ext w w':=by
 have HC:=yG hc;have HG:=yG hg;have HE:Hid (∀args w,(callFunc 120 args).run Tryz.prog w=.ok (.enter 120 args) w):=yG (enters_of Tryz.func120 (by kernel_rfl) rfl);clear hc hg
 go_enter Tryz.func119,Tryz.ntmps119
 go_wp2_with fail
 go_loopw [8] (fun i wr=>∃k:Nat,k≤ps.length∧i=.int .i64 k∧Hid (Ext w wr)∧Hid (∀j (hj:j<ps.length),j<k→(ps[j].1.name==nm)=false)) (fun i _=>ps.length-(intOf i).toNat)
 case atStart=>exact⟨0,zW _,rfl,yG (Ext.refl _),yG fun j hj h=>by omega⟩
 case round=>
  obtain⟨k,hk,rfl,HX,HQ⟩:=hrel;obtain⟨wa,rfl⟩:∃wa:World,wa=wr:=⟨_,rfl⟩
  by_cases hlt:k<ps.length
  ·have d0:decide ((k:Int)<(ps.length:Int))=true:=yS (by omega)
   have q1:(k:Int)<(ps.length:Int):=by omega
   obtain⟨b,off,rfl,hb,hcc⟩:=(HC.out.ext HX.out).at_ (by rw[zEx]; omega)
   have hcell:∀j,j<5→wa.cell? ⟨b,off+k*5+j,none⟩=(prc ps[k])[j]?:=fun j hj=>by
    rw[Nat.add_assoc,hcc _ (by rw[zEx]; omega)];exact zDU ps k hlt j hj
   obtain⟨t,ht⟩:∃t,(ps[k].1.name==nm)=t:=⟨_,rfl⟩;have HTT:=yG ht;have HFT:Hid (((xH ps[k].1.name).toList==(xH nm).toList)=t):=yG (by rw[VS,VS]; exact ht);have e0:=hcell 0 (by decide);have e1:=hcell 1 (by decide);have e2:=hcell 2 (by decide);have e3:=hcell 3 (by decide);have e4:=hcell 4 (by decide);unfold prc at e0 e1 e2 e3 e4;simp only[yM,List.getElem?_cons_succ,Nat.add_zero] at e0 e1 e2 e3 e4;have HFY:Hid (t=true→ps.findIdx? (fun x=>x.1.name==nm)=some k):=yG fun h=>findIdx_take _ ps k hlt HQ.out (by rw[ht]; exact h)
   have HFN:Hid (t=false→∀j (hj:j<ps.length),j<k+1→(ps[j].1.name==nm)=false):=yG fun h j hj hjk=>by
    by_cases e:j=k
    ·subst e; rw[ht]; exact h
    ·exact HQ.out j hj (by omega)
   clear hcell hcc ht HTT;generalize ps[k].1.name=nk at *;generalize ps[k].1.params=pk at *;generalize ps[k].1.vars.length=vk at *;generalize ps[k].1.single=sk at *;generalize ps[k].1.root=rk at *;generalize ps[k].2.1=hA at *;generalize ps[k].2.2=hc2 at *;have he:=HE.out
   go_wp2_with fail
   refine(zQN wa g (xH nm) (xH nk) (pk:Int) (.slice hA vk hc2) ⟨_,_,_,rfl⟩ sk (rk:Int) (HG.out.ext HX.out) t HFT).mono ?_;rintro e w2 ⟨rfl,hx2⟩;have HX2:=yG (HX.out.trans hx2);clear hx2 e0 e1 e2 e3 e4 he
   cases t with
   | true=>
    go_wp2_with fail
    go_ret;rw[HFY.out (by first | rfl | trivial)];exact⟨rfl,HX2.out⟩
   | false=>
    have HQ2:=yG (HFN.out (by first | rfl | trivial))
    go_wp2_with fail
    go_roundw
    case rel=>exact⟨k+1,by omega,by go_num,HX2,HQ2⟩
    case measure=>simp[intOf]; omega
  ·obtain rfl:k=ps.length:=by omega
   have d0:decide ((ps.length:Int)<(ps.length:Int))=false:=by simp
   have d1:decide (ps.length<ps.length)=false:=by simp
   have HN:Hid (ps.findIdx? (fun x=>x.1.name==nm)=none):=yG (zND _ ps fun j hj=>HQ.out j hj hj)
   go_wp2_with fail
   go_ret;rw[HN.out];exact⟨rfl,HX.out⟩
theorem zRa (w:World)(tA tT tO:Value)(htA:∃A n c,tA=.slice A n c)(htT:∃A n c,tT=.slice A n c)(htO:∃A n c,tO=.slice A n c)(nm:Bs)(A:Option Addr)(ps:List Pw)(c:Nat)(hlen:ps.length≤100000)(hc:Cells w A (zB4 ps)) :
  Calls Tryz.prog 84 #[.agg #[tA,tT,.slice A ps.length c,tO],.string (xH nm)] w fun e w'=>e=.returned (.int .i64 (zHy (ps.findIdx? fun x=>x.1.name==nm)))∧Ext w w':=by
 obtain⟨A1,n1,c1,rfl⟩:=htA;obtain⟨A2,n2,c2,rfl⟩:=htT;obtain⟨A3,n3,c3,rfl⟩:=htO;obtain⟨W2,HW2⟩:∃W2,Hid ((w.alloc (.cells #[.slice A1 n1 c1,.slice A2 n2 c2,.slice A ps.length c,.slice A3 n3 c3] 32)).alloc (.cells #[.string (xH nm)] 9)=W2):=⟨_,yG rfl⟩;have HX2:Hid (Ext w W2):=yG (by rw[←HW2.out]; exact(Ext.alloc _ _).trans (Ext.alloc _ _))
 have HB2:Hid (Blk W2 (w.heap.size+1) 9 #[.string (xH nm)]):=yG (by
  rw[←HW2.out]
  have:=Blk.new (w.alloc (.cells #[.slice A1 n1 c1,.slice A2 n2 c2,.slice A ps.length c,.slice A3 n3 c3] 32)) 9 #[.string (xH nm)]
  rwa [yT] at this)
 have HC:=yG hc;have y2:((w.alloc (.cells #[.slice A1 n1 c1,.slice A2 n2 c2,.slice A ps.length c,.slice A3 n3 c3] 32)).alloc (.cells #[.string (xH nm)] 9)).cell? ⟨w.heap.size,2,none⟩=some (.slice A ps.length c):=((Blk.new _ _ _).alloc _).cell 2;clear hc
 go_enter Tryz.func84,Tryz.ntmps84
 go_wp2_with fail
 rw[HW2.out];clear y2 HW2;refine(zOO W2 (w.heap.size+1) nm A ps c hlen (HC.out.ext HX2.out) HB2.out).mono ?_;rintro e w3 ⟨rfl,hx3⟩;have HX3:=yG (HX2.out.trans hx3);clear hx3
 go_wp2_with fail
 go_ret;exact⟨rfl,HX3.out⟩
end Go.Proofs.YtbadjmmjbpeocaaGreat
