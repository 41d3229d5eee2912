/- Arguments opened: a slice value that can be read as data reads as a list of cells. (and what follows of it). The conditions stand at each lemma. -/
import Derived.Test.YtbadjmmjbpeocaaGreatDoorKaa
import Derived.Test.YtbadjmmjbpeocaaGreatDoorKab
import Derived.Deep.Slices
import Derived.Deep.Fields
import Derived.ChangeSame
import Derived.OpenShut
import Derived.ShutString
import Derived.ChangeOld
import Derived.Test.YtbadjmmjbpeocaaGreatDoorKat
set_option linter.unusedVariables false
set_option linter.unusedSimpArgs false
set_option maxRecDepth 100000
set_option maxHeartbeats 16000000
namespace Go.Proofs.YtbadjmmjbpeocaaGreatDoor
open Go Go.RowKit Go.Deep Go.ChangeShapes Go.WideShapes
theorem zPe {α:Type}(f:α→List Value)(sz:Nat)(hf:∀x,(f x).length=sz)(l:List α):∀(i j:Nat) (hi:i<l.length),j<sz→(l.flatMap f)[i*sz+j]?=(f l[i])[j]?:=by
 induction l with
 | nil=>intro i j hi; simp at hi
 | cons x l ih=>
  intro i j hi hj;rw[List.flatMap_cons]
  match i,hi with
  | 0,_=>
   rw[Nat.zero_mul,Nat.zero_add,List.getElem?_append_left (by rw[hf]; exact hj)]
   rfl
  | i+1,hi=>
   rw[List.getElem?_append_right (by rw[hf,Nat.succ_mul]; omega),hf,show(i+1)*sz+j-sz=i*sz+j from by rw[Nat.succ_mul]; omega];exact ih i j (by simpa using hi) hj
theorem zMp {α:Type}(f:α→List Value)(sz:Nat)(hf:∀x,(f x).length=sz)(l:List α):(l.flatMap f).length=l.length*sz:=by
 induction l with
 | nil=>simp
 | cons x l ih=>rw[List.flatMap_cons,yP,hf,ih,zK,Nat.succ_mul]; omega
theorem zSy (b off k:Nat):(⟨b,off,none⟩:Addr).add k=⟨b,off+k,none⟩:=by
 unfold Addr.add
 by_cases h:k=0
 ·subst h; rfl
 ·simp[h]
theorem Cells.zSK {α:Type}{w:World}(f:α→List Value)(sz:Nat)(hsz:0<sz)(hf:∀x,(f x).length=sz)(l:List α)(a:Addr)
  (h:∀(i:Nat) (hi:i<l.length) (j:Nat),j<sz→w.cell? (a.add (i*sz+j))=(f l[i])[j]?):Cells w (some a) (l.flatMap f):=by
 by_cases hl:l=[]
 ·subst hl; exact .inl rfl
 ·have hpos:0<l.length:=List.length_pos_iff.2 hl;have h0:=h 0 hpos 0 hsz
  have h0':w.cell? (a.add (0*sz+0))=some ((f l[0])[0]'(by rw[hf]; exact hsz)):=by rw[h0]; exact yJ _
  obtain⟨b,off,spot⟩:=a
  have hspot:spot=none:=by simpa [Addr.add] using World.cell?_spot h0'
  subst hspot;refine .inr ⟨b,off,rfl,?_,fun k hk=>?_⟩
  ·have:=World.block_lt_of_cell? w _ h0'
   simpa [Addr.add] using this
  ·rw[zMp f sz hf] at hk;have hi:k / sz<l.length:=Nat.div_lt_of_lt_mul (by rw[Nat.mul_comm]; exact hk);have hj:k % sz<sz:=Nat.mod_lt _ hsz
   have hkk:k / sz*sz+k % sz=k:=by rw[Nat.mul_comm]; exact Nat.div_add_mod k sz
   have h1:=h (k / sz) hi (k % sz) hj;have h2:=zPe f sz hf l (k / sz) (k % sz) hi hj;rw[hkk] at h1 h2;rw[h2,←h1,zSy]
section
variable {H:Type} {enc:TypeId × Value→H} {P:Program} {w:World} {base:Nat} {spare:Nat→Bool} {held:Bool}
theorem zOe {α:Type}(f:α→List Value)(ok:α→Prop)(sz:Nat)(hsz:0<sz)(hf:∀x,(f x).length=sz){t e:TypeId}{a:Option Addr}{len cap:Nat}{d:DataW H}{p:List MemPlace}(ht:P.underlying t=some (.slice e))(hC:P.cellsOf e=sz)
  (hel:∀(n:Nat) (cs:List Value) (y:DataW H × List MemPlace),cs.length=sz→DataW.trod enc P w base spare held n e cs=some y→∃x,cs=f x∧ok x)
  (h:DataW.Trod enc P w base spare held t (.slice a len cap) d p) :
  ∃l:List α,len=l.length∧(a=none→cap=0)∧Cells w a (l.flatMap f)∧∀x ∈ l,ok x:=by
 obtain⟨fuel,hfu⟩:=h
 rcases open_slice ht hfu with ⟨hcs,_⟩ | ⟨a',len',cap',m,n,D,Pl,hcs,hb,hl,hm,hmm,_,hx⟩
 ·simp[Value.cells] at hcs;obtain⟨rfl,rfl,rfl⟩:=hcs;exact⟨[],rfl,fun _=>rfl,.inl rfl,fun x hx=>by cases hx⟩
 ·simp[Value.cells] at hcs;obtain⟨rfl,rfl,rfl⟩:=hcs
  have hlm:len≤m:=by rw[hmm]; split <;> omega
  have key:∀k,k≤len→∃l:List α,l.length=k∧(∀x ∈ l,ok x)∧∀(i:Nat) (hi:i<l.length) (j:Nat),j<sz→w.cell? (a'.add (i*sz+j))=(f l[i])[j]?:=by
   intro k
   induction k with
   | zero=>intro _; exact⟨[],rfl,(fun x hx=>by cases hx),(fun i hi=>by simp at hi)⟩
   | succ k ih=>
    intro hk;obtain⟨l,hll,hok,hce⟩:=ih (by omega);obtain⟨cs',h1,h2⟩:=hx k (by omega);rw[hC] at h1;obtain⟨_,hcl,hcell⟩:=World.cells?_some h1;obtain⟨x,rfl,hx'⟩:=hel n cs' _ hcl h2;refine⟨l++[x],by simp[hll],fun y hy=>?_,fun i hi j hj=>?_⟩
    ·rcases List.mem_append.1 hy with h | h
     ·exact hok y h
     ·rw[List.mem_singleton.1 h]; exact hx'
    ·by_cases hik:i<l.length
     ·rw[List.getElem_append_left hik]; exact hce i hik j hj
     ·have hik':i=k:=by simp at hi; omega
      subst hik';rw[List.getElem_append_right (by omega)];simp only[hll,Nat.sub_self,List.getElem_cons_zero];rw[←hcell j hj,Go.Deep.add_add]
  obtain⟨l,hll,hok,hce⟩:=key len (zX _);exact⟨l,hll.symm,(fun h=>by cases h),Cells.zSK f sz hsz hf l a' hce,hok⟩
theorem zP2 {k:IntKind}{t e:TypeId}{a:Option Addr}{len cap:Nat}{d:DataW H}{p:List MemPlace}(ht:P.underlying t=some (.slice e))(he:P.underlying e=some (.int k))(hC:P.cellsOf e=1)
  (h:DataW.Trod enc P w base spare held t (.slice a len cap) d p) :
  ∃l:List Int,len=l.length∧(a=none→cap=0)∧Cells w a (l.map (Value.int k))∧∀x ∈ l,(Lit.int k x).wf=true:=by
 obtain⟨l,h1,h2,h3,h4⟩:=zOe (fun x=>[Value.int k x]) (fun x=>(Lit.int k x).wf=true) 1 (by decide) (fun _=>rfl) ht hC (fun n cs y _ hy=>by
  obtain⟨x,hx,_,hw⟩:=DataW.trod_int he hy
  exact⟨x,hx,hw⟩) h
 refine⟨l,h1,h2,?_,h4⟩
 have e:l.flatMap (fun x=>[Value.int k x])=l.map (Value.int k):=by
  induction l with
  | nil=>rfl
  | cons x l ih=>
   have ih':∀l:List Int,l.flatMap (fun x=>[Value.int k x])=l.map (Value.int k):=by
    intro l
    induction l with
    | nil=>rfl
    | cons y l ih=>rw[List.flatMap_cons,List.map_cons,List.singleton_append,ih]
   exact ih' _
 rw[←e];exact h3
end
end Go.Proofs.YtbadjmmjbpeocaaGreatDoor
namespace Go.Proofs.YtbadjmmjbpeocaaGreatDoor.TT
def zCd (len:Nat)(Z:List Nat):List Int→Nat→Option Nat
 | [],a=>some a
 | k::r,a=>if k=(a:Int)∧a<len then zCd len Z r (Z.getD a 0) else none
def JC (ks:List (List Int)):Nat→Option (List Nat)
 | 0=>some (List.replicate ks.length 0)
 | j+1=>match JC ks j with
  | none=>none
  | some Z=>match zCd ks.length Z (ks.getD (ks.length-1-j) []) (ks.length-1-j+1) with
   | none=>none
   | some a=>some (Z.set (ks.length-1-j) a)
def zCj (ks:List (List Int)):Option (List Nat):=
 match JC ks ks.length with
 | none=>none
 | some Z=>if ks.length≠0∧Z.getD 0 0=ks.length then some Z else none
def zCS (g:Nat→Option Nat)(len:Nat):List Int→Option Nat→Option Nat
 | [],a=>a
 | _::_,none=>none
 | k::r,some a=>if a<len∧k=(a:Int) then zCS g len r (g a) else none
def zFn (ks:List (List Int)):Nat→Nat→Option Nat
 | 0,_=>none
 | f+1,i=>if i<ks.length then zCS (zFn ks f) ks.length (ks.getD i []) (some (i+1)) else none
theorem zAt (g:Nat→Option Nat)(len:Nat)(l:List Int):zCS g len l none=none:=by cases l <;> rfl
theorem VV (g:Nat→Option Nat)(len:Nat)(k:Int)(r:List Int)(a:Nat):zCS g len (k::r) (some a)=if a<len∧k=(a:Int) then zCS g len r (g a) else none:=rfl
theorem zRY {g:Nat→Option Nat}{len:Nat}(hg:∀a e,g a=some e→a<e∧e≤len):∀(l:List Int) (a0 e:Nat),a0≤len→zCS g len l (some a0)=some e→a0≤e∧e≤len:=by
 intro l
 induction l with
 | nil=>intro a0 e h0 h; injection h with h; omega
 | cons k r ih=>
  intro a0 e h0 h;rw[VV] at h
  split at h
  ·rename_i hc
   cases ha:g a0 with
   | none=>rw[ha,zAt] at h; cases h
   | some a1=>
    rw[ha] at h;have h1:=hg a0 a1 ha;have h2:=ih a1 e h1.2 h;omega
  ·cases h
theorem zPt (ks:List (List Int)):∀f i e,zFn ks f i=some e→i<e∧e≤ks.length:=by
 intro f
 induction f with
 | zero=>intro i e h; cases h
 | succ f ih=>
  intro i e h;unfold zFn at h
  split at h
  ·rename_i hi
   have:=zRY ih _ _ _ (by omega) h
   omega
  ·cases h
theorem zMF {g g':Nat→Option Nat}{len i:Nat}(h:∀a,i<a→g a=g' a)(hg:∀a e,g a=some e→a<e):∀(l:List Int) (a0:Nat),i<a0→zCS g len l (some a0)=zCS g' len l (some a0):=by
 intro l
 induction l with
 | nil=>intro a0 _; rfl
 | cons k r ih=>
  intro a0 h0;rw[VV,VV,←h a0 h0]
  split
  ·cases ha:g a0 with
   | none=>rw[zAt,zAt]
   | some a1=>exact ih a1 (by have:=hg a0 a1 ha; omega)
  ·rfl
theorem zPE (ks:List (List Int)):∀f f' i,ks.length-i≤f→ks.length-i≤f'→zFn ks f i=zFn ks f' i:=by
 intro f
 induction f with
 | zero=>
  intro f' i h _
  cases f' with
  | zero=>rfl
  | succ f'=>unfold zFn; rw[if_neg (by omega)]
 | succ f ih=>
  intro f' i h h'
  cases f' with
  | zero=>unfold zFn; rw[if_neg (by omega)]
  | succ f'=>
   unfold zFn
   split
   ·exact zMF (i:=i) (fun a ha=>ih f' a (by omega) (by omega)) (fun a e he=>(zPt ks f a e he).1) _ _ (by omega)
   ·rfl
def zBO (ks:List (List Int))(i:Nat):Option Nat:=zFn ks ks.length i
theorem zIs (ks:List (List Int))(i:Nat):zBO ks i=if i<ks.length then zCS (zBO ks) ks.length (ks.getD i []) (some (i+1)) else none:=by
 unfold zBO;rw[zPE ks ks.length (ks.length+1) i (by omega) (by omega)]
 rfl
theorem zBx {ks:List (List Int)}{i e:Nat}(h:zBO ks i=some e):i<e∧e≤ks.length:=zPt ks _ _ _ h
theorem zT3 {ks:List (List Int)}{i e:Nat}(h:zBO ks i=some e):i<ks.length:=by have:=zBx h; omega
theorem zJ8 {ks:List (List Int)}{Z:List Nat}{i:Nat}(hZ:∀a,i<a→a<ks.length→zBO ks a=some (Z.getD a 0)):∀(l:List Int) (a0:Nat),i<a0→zCd ks.length Z l a0=zCS (zBO ks) ks.length l (some a0):=by
 intro l
 induction l with
 | nil=>intro a0 _; rfl
 | cons k r ih=>
  intro a0 h0;rw[VV];unfold zCd
  by_cases hc:k=(a0:Int)∧a0<ks.length
  ·have hz:=hZ a0 h0 hc.2;rw[if_pos hc,if_pos ⟨hc.2,hc.1⟩,hz];exact ih _ (by have:=zBx hz; omega)
  ·rw[if_neg hc,if_neg (fun h=>hc ⟨h.2,h.1⟩)]
theorem zDr (ks:List (List Int)):∀(j:Nat) (Z:List Nat),j≤ks.length→JC ks j=some Z→Z.length=ks.length∧∀a,ks.length-j≤a→a<ks.length→zBO ks a=some (Z.getD a 0):=by
 intro j
 induction j with
 | zero=>
  intro Z _ h;injection h with h;subst h;exact⟨by simp,fun a h1 h2=>by omega⟩
 | succ j ih=>
  intro Z hj h;unfold JC at h
  split at h
  ·cases h
  ·rename_i Z0 h0;obtain⟨hl,hz⟩:=ih Z0 (by omega) h0
   split at h
   ·cases h
   ·rename_i a ha;injection h with h;subst h;refine⟨by simpa using hl,fun b h1 h2=>?_⟩;rw[zJ8 (i:=ks.length-1-j) (fun a h1 h2=>hz a (by omega) h2) _ _ (by omega)] at ha
    by_cases hb:b=ks.length-1-j
    ·subst hb;rw[zIs,if_pos h2,ha];simp[yH,hl,h2]
    ·rw[hz b (by omega) h2];simp[yH,List.getElem?_set,Ne.symm hb]
theorem zNY (ks:List (List Int)):∀(j:Nat),j≤ks.length→(∀a,ks.length-j≤a→a<ks.length→(zBO ks a).isSome=true)→∃Z,JC ks j=some Z:=by
 intro j
 induction j with
 | zero=>intro _ _; exact⟨_,rfl⟩
 | succ j ih=>
  intro hj h;obtain⟨Z0,h0⟩:=ih (by omega) (fun a h1 h2=>h a (by omega) h2);obtain⟨hl,hz⟩:=zDr ks j Z0 (by omega) h0;have h1:=h (ks.length-1-j) (by omega) (by omega);rw[zIs,if_pos (by omega),←zJ8 (Z:=Z0) (i:=ks.length-1-j) (fun a h1 h2=>hz a (by omega) h2) _ _ (by omega)] at h1;unfold JC;rw[h0]
  simp only
  cases hk:zCd ks.length Z0 (ks.getD (ks.length-1-j) []) (ks.length-1-j+1) with
  | none=>rw[hk] at h1; cases h1
  | some a=>exact⟨_,rfl⟩
theorem zMz {ks:List (List Int)}{i:Nat}(hi:∀a1,i<a1→∀e1,zBO ks a1=some e1→∀a,a1≤a→a<e1→(zBO ks a).isSome=true):∀(l:List Int) (a0 e:Nat),i<a0→zCS (zBO ks) ks.length l (some a0)=some e→∀a,a0≤a→a<e→(zBO ks a).isSome=true:=by
 intro l
 induction l with
 | nil=>intro a0 e h0 h a h1 h2; injection h with h; omega
 | cons k r ih=>
  intro a0 e h0 h a h1 h2;rw[VV] at h
  split at h
  ·cases ha:zBO ks a0 with
   | none=>rw[ha,zAt] at h; cases h
   | some a1=>
    rw[ha] at h
    by_cases hlt:a<a1
    ·exact hi a0 h0 a1 ha a h1 hlt
    ·exact ih a1 e (by have:=zBx ha; omega) h a (by omega) h2
  ·cases h
theorem zFx (ks:List (List Int)):∀(n i e:Nat),ks.length-i≤n→zBO ks i=some e→∀a,i≤a→a<e→(zBO ks a).isSome=true:=by
 intro n
 induction n with
 | zero=>intro i e h he; have:=zBx he; omega
 | succ n ih=>
  intro i e h he a h1 h2
  by_cases hai:a=i
  ·subst hai; rw[he]; rfl
  ·have he':=he;rw[zIs,if_pos (by have:=zBx he; omega)] at he';exact zMz (i:=i) (fun a1 ha1 e1 he1=>ih a1 e1 (by have:=zBx he1; omega) he1) _ _ _ (by omega) he' a (by omega) h2
theorem zGr {ks:List (List Int)}{Z:List Nat}(h:zCj ks=some Z):Z.length=ks.length∧ks.length≠0∧zBO ks 0=some ks.length∧∀a,a<ks.length→zBO ks a=some (Z.getD a 0):=by
 unfold zCj at h
 split at h
 ·cases h
 ·rename_i Z0 h0
  split at h
  ·rename_i hc;injection h with h;subst h;obtain⟨hl,hz⟩:=zDr ks ks.length Z0 (zX _) h0;refine⟨hl,hc.1,?_,fun a ha=>hz a (by omega) ha⟩;rw[hz 0 (by omega) (by omega),hc.2]
  ·cases h
theorem zQJ {ks:List (List Int)}(h:zCj ks=none):zBO ks 0≠some ks.length:=by
 intro he;obtain⟨Z,hZ⟩:=zNY ks ks.length (zX _) (fun a _ h2=>zFx ks ks.length 0 ks.length (by omega) he a (zW _) h2);obtain⟨hl,hz⟩:=zDr ks ks.length Z (zX _) hZ;have h0:=zBx he
 have:=hz 0 (by omega) (by omega)
 rw[he] at this;injection this with this;unfold zCj at h;rw[hZ] at h
 simp only at h
 rw[if_pos ⟨by omega,this.symm⟩] at h
 cases h
theorem zNA {ks:List (List Int)}:∀(l:List Int) (a0 e:Nat),zCS (zBO ks) ks.length l (some a0)=some e→∀k ∈ l,∃a:Nat,k=(a:Int)∧a0≤a∧a<ks.length:=by
 intro l
 induction l with
 | nil=>intro a0 e _ k hk; cases hk
 | cons x r ih=>
  intro a0 e h k hk;rw[VV] at h
  split at h
  ·rename_i hc
   rcases List.mem_cons.1 hk with rfl | hk
   ·exact⟨a0,hc.2,zX _,hc.1⟩
   ·cases ha:zBO ks a0 with
    | none=>rw[ha,zAt] at h; cases h
    | some a1=>
     rw[ha] at h;obtain⟨a,h1,h2,h3⟩:=ih a1 e h k hk
     have:=zBx ha
     exact⟨a,h1,by omega,h3⟩
  ·cases h
theorem zOx {ks:List (List Int)}{i e:Nat}(h:zBO ks i=some e):∀k ∈ ks.getD i [],∃a:Nat,k=(a:Int)∧i<a∧a<ks.length:=by
 intro k hk;have hl:=zT3 h;rw[zIs,if_pos hl] at h;obtain⟨a,h1,h2,h3⟩:=zNA _ _ _ h k hk;exact⟨a,h1,by omega,h3⟩
end Go.Proofs.YtbadjmmjbpeocaaGreatDoor.TT
namespace Go.Proofs.YtbadjmmjbpeocaaGreatDoor.TT
open Go Go.RowKit Go.Deep Go.ChangeShapes Go.WideShapes
structure xR where
 kind:Int
 pos:Int
 text:ByteArray
 num:Int
 kA:Option Addr
 kc:Nat
 kids:List Int
def xR.cells (x:xR):List Value:=[.int .u8 x.kind,.int .i64 x.pos,.string x.text,.int .i64 x.num,.slice x.kA x.kids.length x.kc]
def jP (l:List Int):List Value:=l.map (Value.int .i64)
structure zDB (w:World)(x:xR):Prop where
 kind:0≤x.kind∧x.kind<256
 num:-9223372036854775808≤x.num∧x.num≤9223372036854775807
 kids:Cells w x.kA (jP x.kids)
 nil:x.kA=none→x.kc=0
theorem zDB.ext {w w':World}{x:xR}(h:zDB w x)(hx:Ext w w'):zDB w' x:=⟨h.kind,h.num,h.kids.ext hx,h.nil⟩
def YJ (l:List xR):List Value:=l.flatMap xR.cells
theorem zBE (l:List xR):(YJ l).length=l.length*5:=zMp xR.cells 5 (fun _=>rfl) l
theorem zJd (l:List xR)(k j:Nat)(h:k<l.length)(hj:j<5):(YJ l)[k*5+j]?=(l[k].cells)[j]?:=zPe xR.cells 5 (fun _=>rfl) l k j h hj
theorem zBt (l:List Int):(jP l).length=l.length:=by simp[jP]
theorem zKu (l:List Int)(k:Nat)(h:k<l.length):(jP l)[k]?=some (.int .i64 l[k]):=by simp[jP,h]
structure zA7 (w:World)(A:Option Addr)(l:List xR):Prop where
 cells:Cells w A (YJ l)
 ok:∀x ∈ l,zDB w x
theorem zA7.ext {w w':World}{A:Option Addr}{l:List xR}(h:zA7 w A l)(hx:Ext w w'):zA7 w' A l:=⟨h.cells.ext hx,fun x hm=>(h.ok x hm).ext hx⟩
theorem zA7.at_ {w:World}{A:Option Addr}{l:List xR}(h:zA7 w A l)(k:Nat)(hk:k<l.length) :
  ∃b off,A=some ⟨b,off,none⟩∧b<w.heap.size∧∀j,j<5→w.cell? ⟨b,off+k*5+j,none⟩=(l[k].cells)[j]?:=by
 obtain⟨b,off,hA,hb,hcc⟩:=h.cells.at_ (by rw[zBE]; omega);refine⟨b,off,hA,hb,fun j hj=>?_⟩;rw[Nat.add_assoc,hcc _ (by rw[zBE]; omega)];exact zJd l k j hk hj
theorem zPx {w:World}{A:Option Addr}{l:List Int}(h:Cells w A (jP l))(k:Nat)(hk:k<l.length):∃b off,A=some ⟨b,off,none⟩∧b<w.heap.size∧w.cell? ⟨b,off+k,none⟩=some (.int .i64 l[k]):=by
 obtain⟨b,off,hA,hb,hcc⟩:=h.at_ (by rw[zBt]; omega);exact⟨b,off,hA,hb,(hcc k (by rw[zBt]; exact hk)).trans (zKu l k hk)⟩
section
variable {H:Type} {enc:TypeId × Value→H} {w:World} {base:Nat} {spare:Nat→Bool} {held:Bool}
end
end Go.Proofs.YtbadjmmjbpeocaaGreatDoor.TT
namespace Go.Proofs.YtbadjmmjbpeocaaGreatDoor
open Go Go.RowKit TT
theorem zQZ:(Tryz.prog.info? 39).map (fun i=>(i.zero,i.size,i.bytes))=some (some (.agg #[.int .u8 0,.int .i64 0,.string ⟨#[]⟩,.int .i64 0,.slice none 0 0]),5,64):=by kernel_rfl
theorem zMq:(Tryz.prog.info? 3).map (fun i=>(i.zero,i.size,i.bytes))=some (some (.int .i64 0),1,8):=by kernel_rfl
theorem zNF (l:List xR):∀u ∈ YJ l,u.oneCell'=true:=by
 intro u hu;unfold YJ at hu;obtain⟨t,_,h⟩:=List.mem_flatMap.1 hu;unfold xR.cells at h;simp only[zU,List.not_mem_nil,or_false] at h
 rcases h with rfl | rfl | rfl | rfl | rfl <;> rfl
theorem zNO (l:List Int):∀u ∈ TT.jP l,u.oneCell'=true:=by
 intro u hu;unfold TT.jP at hu;obtain⟨p,_,rfl⟩:=List.mem_map.1 hu
 rfl
theorem zOE (w:World):Calls Tryz.prog 56 #[.slice none 0 0] w fun e w'=>e=.returned (.slice none 0 0)∧w=w':=by
 have q:=fun w:World=>Lib.run_eql_slice_nil (P:=Tryz.prog) w 24 _ none 0 0 0 0 Tryz.underlying24
 go_enter Tryz.func56,Tryz.ntmps56
 go_wp2
 go_ret;exact⟨rfl,rfl⟩
theorem zOp (w:World):Calls Tryz.prog 57 #[.slice none 0 0] w fun e w'=>e=.returned (.slice none 0 0)∧w=w':=by
 have q:=fun w:World=>Lib.run_eql_slice_nil (P:=Tryz.prog) w 33 _ none 0 0 0 0 Tryz.underlying33
 go_enter Tryz.func57,Tryz.ntmps57
 go_wp2
 go_ret;exact⟨rfl,rfl⟩
theorem zN5 (A:Option Addr)(l:List xR)(n c:Nat)(w:World)(hn:n=l.length)(hbig:l.length≤100000)(hz:A=none→c=0)(hc:Cells w A (YJ l)) :
  Calls Tryz.prog 56 #[.slice A n c] w fun e w'=>∃v,e=.returned v∧w'.ownsRow w.heap.size 39 5 v l.length (YJ l)∧Ext w w':=by
 subst hn
 cases A with
 | none=>
  have h0:=hz rfl;subst h0
  have ht:l=[]:=by
   rcases hc with hc | ⟨b,off,h,_⟩
   ·cases l with
    | nil=>rfl
    | cons t ts=>have:=congrArg List.length hc; rw[zBE] at this; simp at this
   ·cases h
  subst ht;refine(zOE w).mono ?_;rintro e w' ⟨rfl,rfl⟩;exact⟨_,rfl,zR _ _ _ _,Ext.refl _⟩
 | some a=>
  obtain⟨i0,hi,hz0,hz1,hz2⟩:=info_parts zQZ;have q:=fun w:World=>Lib.run_eql_slice_nil (P:=Tryz.prog) w 24 _ (some a) l.length c 0 0 Tryz.underlying24;have HC:=yG hc;have hl:(YJ l).length=l.length*5:=zBE l;have HL:=yG hl;clear hc hl hz
  go_enter Tryz.func56,Tryz.ntmps56
  go_wp2_with (at_builtin; refine zBD rfl (.tmp 5) (.tmp 6) 24 rfl w.heap.size 39 i0 _ 5 64 Tryz.underlying24 hi hz0 hz1 hz2 rfl (by decide) (.slice (some ⟨w.heap.size,0,none⟩) 0 0) 0 [] rfl ⟨rfl,.inr ⟨w.heap.size,0,#[],rfl,zX _,Blk.new w _ _,zX _,by decide,rfl,rfl⟩⟩ (some a) l.length c (YJ l) rfl (fun h=>by cases h) HL.out (HC.out.ext (Ext.alloc _ _)) (zNF l) (by unfold maxLen; omega) (by omega) (by simp) ?_)
  intro A' c' w1 h0 ho hg;have hX:Ext w w1:=Below.grown ((Below.refl _ w).alloc (zX _) _) hg (by simp) (fun j ej=>by simp[Value.ownBlock] at ej; omega);have HO:=yG ho;have HX:=yG hX;clear ho hX hg h0
  go_wp2
  go_ret;exact⟨_,rfl,HO.out,HX.out⟩
theorem zOb (A:Option Addr)(l:List Int)(n c:Nat)(w:World)(hn:n=l.length)(hbig:l.length≤100000)(hz:A=none→c=0)(hc:Cells w A (TT.jP l)) :
  Calls Tryz.prog 57 #[.slice A n c] w fun e w'=>∃v,e=.returned v∧w'.ownsRow w.heap.size 3 1 v l.length (TT.jP l)∧Ext w w':=by
 subst hn
 cases A with
 | none=>
  have h0:=hz rfl;subst h0
  have ht:l=[]:=by
   rcases hc with hc | ⟨b,off,h,_⟩
   ·cases l with
    | nil=>rfl
    | cons t ts=>have:=congrArg List.length hc; rw[TT.zBt] at this; simp at this
   ·cases h
  subst ht;refine(zOp w).mono ?_;rintro e w' ⟨rfl,rfl⟩;exact⟨_,rfl,zR _ _ _ _,Ext.refl _⟩
 | some a=>
  obtain⟨i0,hi,hz0,hz1,hz2⟩:=info_parts zMq;have q:=fun w:World=>Lib.run_eql_slice_nil (P:=Tryz.prog) w 33 _ (some a) l.length c 0 0 Tryz.underlying33;have HC:=yG hc
  have hl:(TT.jP l).length=l.length*1:=by rw[TT.zBt]; omega
  have HL:=yG hl;clear hc hl hz
  go_enter Tryz.func57,Tryz.ntmps57
  go_wp2_with (at_builtin; refine zBD rfl (.tmp 5) (.tmp 6) 33 rfl w.heap.size 3 i0 _ 1 8 Tryz.underlying33 hi hz0 hz1 hz2 rfl (by decide) (.slice (some ⟨w.heap.size,0,none⟩) 0 0) 0 [] rfl ⟨rfl,.inr ⟨w.heap.size,0,#[],rfl,zX _,Blk.new w _ _,zX _,by decide,rfl,rfl⟩⟩ (some a) l.length c (TT.jP l) rfl (fun h=>by cases h) HL.out (HC.out.ext (Ext.alloc _ _)) (zNO l) (by unfold maxLen; omega) (by omega) (by simp) ?_)
  intro A' c' w1 h0 ho hg;have hX:Ext w w1:=Below.grown ((Below.refl _ w).alloc (zX _) _) hg (by simp) (fun j ej=>by simp[Value.ownBlock] at ej; omega);have HO:=yG ho;have HX:=yG hX;clear ho hX hg h0
  go_wp2
  go_ret;exact⟨_,rfl,HO.out,HX.out⟩
theorem zMd {w:World}{N:Nat}{t:TypeId}{sz n:Nat}{v:Value}{xs:List Value}(h:w.ownsRow N t sz v n xs):∃A c,v=.slice A n c∧n≤c:=by
 rcases h.2 with ⟨rfl,rfl⟩ | ⟨g,cap,cur,rfl,_,_,hle,_⟩
 ·exact⟨none,0,rfl,zX _⟩
 ·exact⟨_,cap,rfl,hle⟩
theorem zIt {w:World}{B N:Nat}{t:TypeId}{sz n:Nat}{v:Value}{xs:List Value}(h:w.ownsRow B t sz v n xs)(hN:N≤B):w.ownsRow N t sz v n xs:=by
 refine⟨h.1,?_⟩
 rcases h.2 with hn | ⟨g,cap,cur,hv,hb,r⟩
 ·exact .inl hn
 ·exact .inr ⟨g,cap,cur,hv,Nat.le_trans hN hb,r⟩
theorem zNt (l:List xR):∀(i:Nat) (hi:i<l.length) (A:Option Addr) (c:Nat),YJ (l.set i { l[i] with kA:=A,kc:=c })=(YJ l).set (i*5+4) (.slice A l[i].kids.length c):=by
 induction l with
 | nil=>intro i hi; simp at hi
 | cons x l ih=>
  intro i hi A c
  cases i with
  | zero=>
   show xR.cells _++YJ l=(x.cells++YJ l).set (0*5+4) _
   rw[Nat.zero_mul,Nat.zero_add,List.set_append_left _ _ (by show 4<5; omega)]
   rfl
  | succ i=>
   show x.cells++YJ (l.set i _)=(x.cells++YJ l).set ((i+1)*5+4) _
   have:=ih i (by simpa using hi) A c
   simp only[List.getElem_cons_succ] at this ⊢;rw[this,List.set_append_right _ _ (by show 5≤_; omega)]
   congr 2
   show _=(i+1)*5+4-5
   omega
structure zDp (N:Nat)(w:World)(g c:Nat)(l l':List xR)(k:Nat):Prop where
 len:l'.length=l.length
 row:w.ownsRow N 39 5 (.slice (some ⟨g,0,none⟩) l.length c) l.length (YJ l')
 same:∀i (h:i<l.length) (h':i<l'.length),l'[i].kind=l[i].kind∧l'[i].pos=l[i].pos∧l'[i].text=l[i].text∧l'[i].num=l[i].num∧l'[i].kids=l[i].kids
 done:∀i (h':i<l'.length),i<k→w.ownsRow N 3 1 (.slice l'[i].kA l'[i].kids.length l'[i].kc) l'[i].kids.length (TT.jP l'[i].kids)
 todo:∀i (h:i<l.length) (h':i<l'.length),k≤i→l'[i].kA=l[i].kA∧l'[i].kc=l[i].kc
theorem zDp.ext {N:Nat}{w w':World}{g c:Nat}{l l':List xR}{k:Nat}(h:zDp N w g c l l' k)(hx:Ext w w'):zDp N w' g c l l' k:=⟨h.len,zCM h.row hx,h.same,fun i h' hk=>zCM (h.done i h' hk) hx,h.todo⟩
theorem zDp.step {N:Nat}{w:World}{g c:Nat}{l l':List xR}{k:Nat}(h:zDp N w g c l l' k)(hk:k<l'.length)(A:Option Addr)(c2:Nat)(ho:w.ownsRow N 3 1 (.slice A l'[k].kids.length c2) l'[k].kids.length (TT.jP l'[k].kids)) :
  zDp N (w.setCell ⟨g,k*5+4,none⟩ (.slice A l'[k].kids.length c2)) g c l (l'.set k { l'[k] with kA:=A,kc:=c2 }) (k+1):=by
 have hl:=h.len;obtain⟨cur,hc⟩:=xY h.row rfl;refine⟨by rw[zB]; exact hl,?_,fun i h1 h2=>?_,fun i h' hi=>?_,fun i h1 h2 hi=>?_⟩
 ·rw[zNt l' k hk];exact zIF h.row (by omega) _
 ·rw[zB] at h2;rw[List.getElem_set]
  split
  ·rename_i e;subst e;exact h.same k h1 h2
  ·exact h.same i h1 h2
 ·rw[zB] at h';rw[List.getElem_set]
  split
  ·exact zAy ho hc (by decide) _ _
  ·rename_i e;exact zAy (h.done i h' (by omega)) hc (by decide) _ _
 ·rw[zB] at h2;rw[List.getElem_set,if_neg (by omega)];exact h.todo i h1 h2 (by omega)
theorem zTZ (A:Option Addr)(l:List xR)(n c:Nat)(w:World)(hn:n=l.length)(h0:0<l.length)(hbig:l.length≤100000)(hkb:∀x ∈ l,x.kids.length≤100000)(hz:A=none→c=0)(ht:zA7 w A l) :
  Calls Tryz.prog 26 #[.agg #[.slice A n c]] w fun e w'=>∃g c' l',e=.returned (.agg #[.slice (some ⟨g,0,none⟩) l.length c'])∧zDp w.heap.size w' g c' l l' l.length∧Ext w w':=by
 subst hn;have HT:=yG ht;have HBG:=yG hbig;have HKB:=yG hkb;have HZ:=yG hz;have H0:=yG h0;clear ht hkb hz h0;have b1:((w.alloc (.cells #[.slice A l.length c] 26)).alloc (.cells #[.slice none 0 0] 26)).cell? ⟨w.heap.size,0,none⟩=some (.slice A l.length c):=((Blk.new _ _ _).alloc _).cell 0;have HX0:Hid (Ext w ((w.alloc (.cells #[.slice A l.length c] 26)).alloc (.cells #[.slice none 0 0] 26))):=yG ((Ext.alloc _ _).trans (Ext.alloc _ _))
 have HRB:Hid (Blk ((w.alloc (.cells #[.slice A l.length c] 26)).alloc (.cells #[.slice none 0 0] 26)) (w.heap.size+1) 26 #[.slice none 0 0]):=yG (by
  have:=Blk.new (w.alloc (.cells #[.slice A l.length c] 26)) 26 #[.slice none 0 0]
  rwa [yT] at this)
 go_enter Tryz.func26,Tryz.ntmps26
 go_wp2_with fail
 clear b1;refine(zN5 A l l.length c _ rfl hbig HZ.out (HT.out.cells.ext HX0.out)).mono ?_;rintro e w1 ⟨v,rfl,ho,hx1⟩;obtain⟨A1,c1,rfl,hle⟩:=zMd ho
 obtain⟨g,rfl⟩:∃g,A1=some ⟨g,0,none⟩:=by
  rcases zAQ ho with e | e
  ·exfalso
   rw[e] at ho
   rcases ho.2 with ⟨_,h⟩ | ⟨_,_,_,h,_⟩
   ·have:=H0.out; omega
   ·cases h
  ·exact e
 have hgl:=jE ho rfl;have HO1:Hid (zDp w.heap.size w1 g c1 l l 0):=yG ⟨rfl,zIt ho HX0.out.size,fun i h h'=>⟨rfl,rfl,rfl,rfl,rfl⟩,fun i h' hi=>by omega,fun i h h' _=>⟨rfl,rfl⟩⟩;have HX1:=yG (HX0.out.trans hx1);have HRB1:=yG (HRB.out.ext hx1);have HGN:Hid (w.heap.size+1<g):=yG (by have:=hgl.1; simp at this; omega);clear ho hx1 hgl HX0
 go_upto_region 3 with fail
 go_loopw [10] (fun i' wr=>∃(k:Nat) (l':List xR),k≤l.length∧i'=.int .i64 k∧Hid (zDp w.heap.size wr g c1 l l' k)∧Hid (Ext w wr)∧Hid (Blk wr (w.heap.size+1) 26 #[.slice none 0 0])) (fun i' _=>l.length-(intOf i').toNat)
 case atStart=>exact⟨0,l,zW _,rfl,HO1,HX1,HRB1⟩
 case round=>
  obtain⟨k,l',hk,rfl,HOK,HXK,HRK⟩:=hrel;obtain⟨wa,rfl⟩:∃wa:World,wa=wr:=⟨_,rfl⟩
  by_cases hlt:k<l.length
  ·have d0:decide ((k:Int)<(l.length:Int))=true:=yS (by omega)
   have q1:(k:Int)<(l.length:Int):=by omega
   have hk':k<l'.length:=by rw[HOK.out.len]; exact hlt
   have e4:wa.cell? ⟨g,k*5+4,none⟩=some (.slice l'[k].kA l'[k].kids.length l'[k].kc):=by
    rw[HOK.out.row.cellAt (k*5+4) (by omega),zJd l' k 4 hk' (by decide)]
    rfl
   obtain⟨cur,hcur⟩:=xY HOK.out.row rfl;have ez:wa.frozen? ⟨g,k*5+4,none⟩=false:=hcur.frozen _;have hsm:=HOK.out.same k hlt hk';have htd:=HOK.out.todo k hlt hk' (zX _);have hok:=HT.out.ok l[k] (yO hlt);have hkc:=HKB.out l[k] (yO hlt)
   have HCL:Hid (Cells wa l'[k].kA (TT.jP l'[k].kids)∧(l'[k].kA=none→l'[k].kc=0)∧l'[k].kids.length≤100000):=yG (by
    rw[hsm.2.2.2.2,htd.1,htd.2]
    exact⟨hok.kids.ext HXK.out,hok.nil,hkc⟩)
   have HST:Hid (∀(w2:World) (A2:Option Addr) (c2:Nat),Ext wa w2→w2.ownsRow wa.heap.size 3 1 (.slice A2 l'[k].kids.length c2) l'[k].kids.length (TT.jP l'[k].kids)→∃l'',zDp w.heap.size (w2.setCell ⟨g,k*5+4,none⟩ (.slice A2 l'[k].kids.length c2)) g c1 l l'' (k+1)):=yG fun w2 A2 c2 hx ho=>⟨_,(HOK.out.ext hx).step hk' A2 c2 (zIt ho HXK.out.size)⟩;have hgl:=hcur.lt;have HCU:=yG hcur;clear hsm htd hok hkc hcur;generalize l'[k].kids=ks at *;generalize l'[k].kA=kA at *;generalize l'[k].kc=kc at *
   go_wp2_with fail
   refine(zOb kA ks ks.length kc wa rfl HCL.out.2.2 HCL.out.2.1 HCL.out.1).mono ?_;rintro e w2 ⟨v,rfl,ho,hx2⟩;obtain⟨A2,c2,rfl,hle⟩:=zMd ho;obtain⟨l2,hl2⟩:=HST.out w2 A2 c2 hx2 ho;have HL2:=yG hl2;have e4':w2.cell? ⟨g,k*5+4,none⟩=some (.slice kA ks.length kc):=(hx2.cell (p:=⟨g,k*5+4,none⟩) hgl).trans e4;have ez':w2.frozen? ⟨g,k*5+4,none⟩=false:=(HCU.out.ext hx2).frozen _;have HX2:Hid (Ext w (w2.setCell ⟨g,k*5+4,none⟩ (.slice A2 ks.length c2))):=yG ((HXK.out.trans hx2).setCell (p:=⟨g,k*5+4,none⟩) (by show w.heap.size≤g; have:=HGN.out; omega) _);have HR2:Hid (Blk (w2.setCell ⟨g,k*5+4,none⟩ (.slice A2 ks.length c2)) (w.heap.size+1) 26 #[.slice none 0 0]):=yG ((HRK.out.ext hx2).far (p:=⟨g,k*5+4,none⟩) (by have:=HGN.out; show w.heap.size+1≠g; omega) _);clear hx2 ho hl2 e4 ez hgl
   go_wp2_with fail
   go_roundw
   case rel=>exact⟨k+1,l2,by omega,by go_num,HL2,HX2,HR2⟩
   case measure=>simp[intOf]; omega
  ·obtain rfl:k=l.length:=by omega
   have d0:decide ((l.length:Int)<(l.length:Int))=false:=by simp
   have d1:decide (l.length<l.length)=false:=by simp
   have y0:wa.cell? ⟨w.heap.size+1,0,none⟩=some (.slice none 0 0):=HRK.out.cell 0;have yz:=HRK.out.frozen 0;have HR9:Hid (Blk (wa.setCell ⟨w.heap.size+1,0,none⟩ (.slice (some ⟨g,0,none⟩) l.length c1)) (w.heap.size+1) 26 #[.slice (some ⟨g,0,none⟩) l.length c1]):=yG (HRK.out.put 0 _);have HO9:Hid (zDp w.heap.size (wa.setCell ⟨w.heap.size+1,0,none⟩ (.slice (some ⟨g,0,none⟩) l.length c1)) g c1 l l' l.length):=yG ⟨HOK.out.len,zAy HOK.out.row HRK.out (by decide) _ _,HOK.out.same,fun i h' hi=>zAy (HOK.out.done i h' hi) HRK.out (by decide) _ _,HOK.out.todo⟩;have HX9:Hid (Ext w (wa.setCell ⟨w.heap.size+1,0,none⟩ (.slice (some ⟨g,0,none⟩) l.length c1))):=yG (HXK.out.setCell (p:=⟨w.heap.size+1,0,none⟩) (by show w.heap.size≤w.heap.size+1; omega) _)
   go_wp2_with fail
   generalize wa.setCell ⟨w.heap.size+1,0,none⟩ (.slice (some ⟨g,0,none⟩) l.length c1)=w9 at *;have r0:w9.cell? ⟨w.heap.size+1,0,none⟩=some (.slice (some ⟨g,0,none⟩) l.length c1):=HR9.out.cell 0;refine bodyPost_ret (v:=.agg #[.slice (some ⟨g,0,none⟩) l.length c1]) (by simp[results,Tryz.results26,go_sem,r0]) rfl ⟨g,c1,l',rfl,HO9.out,HX9.out⟩
end Go.Proofs.YtbadjmmjbpeocaaGreatDoor
namespace Go.Proofs.YtbadjmmjbpeocaaGreatDoor
open Go Go.RowKit
abbrev Pw:=Np × Hd2
def prc (x:Pw):List Value:=[.string (xI x.1.name),.int .i64 (x.1.params:Int),.slice x.2.1 x.1.vars.length x.2.2,.bool x.1.single,.int .i64 (x.1.root:Int)]
def zCk (l:List Pw):List Value:=l.flatMap prc
theorem zAW (l:List Pw):(zCk l).length=l.length*5:=by
 unfold zCk
 induction l with
 | nil=>rfl
 | cons t l ih=>rw[List.flatMap_cons,yP,ih,zK]; show 5+_=_; omega
theorem zQV (l:List Pw)(x:Pw):zCk (l++[x])=zCk l++prc x:=by unfold zCk; simp
theorem zCU (l:List Pw):∀(i:Nat) (hi:i<l.length) (j:Nat),j<5→(zCk l)[i*5+j]?=(prc l[i])[j]?:=by
 induction l with
 | nil=>intro i hi; simp at hi
 | cons x l ih=>
  intro i hi j hj
  show(prc x++zCk l)[i*5+j]?=_
  match i,hi with
  | 0,_=>rw[Nat.zero_mul,Nat.zero_add,List.getElem?_append_left (by show j<5; exact hj)]; rfl
  | i+1,hi=>
   have e:(i+1)*5+j=5+(i*5+j):=by omega
   rw[e,List.getElem?_append_right (by show 5≤_; omega),show 5+(i*5+j)-(prc x).length=i*5+j from by show 5+(i*5+j)-5=_; omega];exact ih i (by simpa using hi) j hj
theorem zQN (w:World)(g:Nat)(nm nm2:ByteArray)(pa:Int)(vs:Value)(hvs:∃A n c,vs=.slice A n c)(sg:Bool)(rt:Int)(hg:Blk w g 9 #[.string nm])(b:Bool)(hb:Hid ((nm2.toList==nm.toList)=b)) :
  Calls Tryz.prog 38 #[.agg #[.string nm2,.int .i64 pa,vs,.bool sg,.int .i64 rt],.pointer (some ⟨g,0,none⟩)] w fun e w'=>e=.returned (.bool b)∧Ext w w':=by
 obtain⟨A,n,c,rfl⟩:=hvs;have HG:=yG hg;have gl:=hg.lt;have g0:(w.alloc (.cells #[.string nm2,.int .i64 pa,.slice A n c,.bool sg,.int .i64 rt] 42)).cell? ⟨g,0,none⟩=some (.string nm):=(hg.alloc _).cell 0;have y0:(w.alloc (.cells #[.string nm2,.int .i64 pa,.slice A n c,.bool sg,.int .i64 rt] 42)).cell? ⟨w.heap.size,0,none⟩=some (.string nm2):=(Blk.new _ _ _).cell 0;clear hg
 go_enter Tryz.func38,Tryz.ntmps38
 go_wp2_with fail
 go_ret;refine⟨zCD ?_,Ext.alloc _ _⟩;exact hb.out
theorem findIdx_take {α:Type}(p:α→Bool)(l:List α)(k:Nat)(hk:k<l.length)(h:∀j (hj:j<l.length),j<k→p l[j]=false)(hp:p l[k]=true):l.findIdx? p=some k:=by
 rw[List.findIdx?_eq_some_iff_getElem];exact⟨hk,hp,fun j hj=>by rw[h j (by omega) hj]; decide⟩
theorem zNi {α:Type}(p:α→Bool)(l:List α)(h:∀j (hj:j<l.length),p l[j]=false):l.findIdx? p=none:=by
 rw[List.findIdx?_eq_none_iff];intro x hx;obtain⟨j,hj,rfl⟩:=List.getElem_of_mem hx;exact h j hj
theorem zOA (w:World)(g:Nat)(nm:Bs)(A:Option Addr)(ps:List Pw)(c:Nat)(hlen:ps.length≤100000)(hc:Cells w A (zCk ps))(hg:Blk w g 9 #[.string (xI nm)]) :
  Calls Tryz.prog 37 #[.slice A ps.length c,.func (.func 38) #[] #[.pointer (some ⟨g,0,none⟩)]] w fun e w'=>e=.returned (.int .i64 (zIe (ps.findIdx? fun x=>x.1.name==nm)))∧Ext w w':=by
 have HC:=yG hc;have HG:=yG hg;have HE:Hid (∀args w,(callFunc 38 args).run Tryz.prog w=.ok (.enter 38 args) w):=yG (enters_of Tryz.func38 (by kernel_rfl) rfl);clear hc hg
 go_enter Tryz.func37,Tryz.ntmps37
 go_wp2_with fail
 go_loopw [8] (fun i wr=>∃k:Nat,k≤ps.length∧i=.int .i64 k∧Hid (Ext w wr)∧Hid (∀j (hj:j<ps.length),j<k→(ps[j].1.name==nm)=false)) (fun i _=>ps.length-(intOf i).toNat)
 case atStart=>exact⟨0,zW _,rfl,yG (Ext.refl _),yG fun j hj h=>by omega⟩
 case round=>
  obtain⟨k,hk,rfl,HX,HQ⟩:=hrel;obtain⟨wa,rfl⟩:∃wa:World,wa=wr:=⟨_,rfl⟩
  by_cases hlt:k<ps.length
  ·have d0:decide ((k:Int)<(ps.length:Int))=true:=yS (by omega)
   have q1:(k:Int)<(ps.length:Int):=by omega
   obtain⟨b,off,rfl,hb,hcc⟩:=(HC.out.ext HX.out).at_ (by rw[zAW]; omega)
   have hcell:∀j,j<5→wa.cell? ⟨b,off+k*5+j,none⟩=(prc ps[k])[j]?:=fun j hj=>by
    rw[Nat.add_assoc,hcc _ (by rw[zAW]; omega)];exact zCU ps k hlt j hj
   obtain⟨t,ht⟩:∃t,(ps[k].1.name==nm)=t:=⟨_,rfl⟩;have HTT:=yG ht;have HFT:Hid (((xI ps[k].1.name).toList==(xI nm).toList)=t):=yG (by rw[VW,VW]; exact ht);have e0:=hcell 0 (by decide);have e1:=hcell 1 (by decide);have e2:=hcell 2 (by decide);have e3:=hcell 3 (by decide);have e4:=hcell 4 (by decide);unfold prc at e0 e1 e2 e3 e4;simp only[yM,List.getElem?_cons_succ,Nat.add_zero] at e0 e1 e2 e3 e4;have HFY:Hid (t=true→ps.findIdx? (fun x=>x.1.name==nm)=some k):=yG fun h=>findIdx_take _ ps k hlt HQ.out (by rw[ht]; exact h)
   have HFN:Hid (t=false→∀j (hj:j<ps.length),j<k+1→(ps[j].1.name==nm)=false):=yG fun h j hj hjk=>by
    by_cases e:j=k
    ·subst e; rw[ht]; exact h
    ·exact HQ.out j hj (by omega)
   clear hcell hcc ht HTT;generalize ps[k].1.name=nk at *;generalize ps[k].1.params=pk at *;generalize ps[k].1.vars.length=vk at *;generalize ps[k].1.single=sk at *;generalize ps[k].1.root=rk at *;generalize ps[k].2.1=hA at *;generalize ps[k].2.2=hc2 at *;have he:=HE.out
   go_wp2_with fail
   refine(zQN wa g (xI nm) (xI nk) (pk:Int) (.slice hA vk hc2) ⟨_,_,_,rfl⟩ sk (rk:Int) (HG.out.ext HX.out) t HFT).mono ?_;rintro e w2 ⟨rfl,hx2⟩;have HX2:=yG (HX.out.trans hx2);clear hx2 e0 e1 e2 e3 e4 he
   cases t with
   | true=>
    go_wp2_with fail
    go_ret;rw[HFY.out (by first | rfl | trivial)];exact⟨rfl,HX2.out⟩
   | false=>
    have HQ2:=yG (HFN.out (by first | rfl | trivial))
    go_wp2_with fail
    go_roundw
    case rel=>exact⟨k+1,by omega,by go_num,HX2,HQ2⟩
    case measure=>simp[intOf]; omega
  ·obtain rfl:k=ps.length:=by omega
   have d0:decide ((ps.length:Int)<(ps.length:Int))=false:=by simp
   have d1:decide (ps.length<ps.length)=false:=by simp
   have HN:Hid (ps.findIdx? (fun x=>x.1.name==nm)=none):=yG (zNi _ ps fun j hj=>HQ.out j hj hj)
   go_wp2_with fail
   go_ret;rw[HN.out];exact⟨rfl,HX.out⟩
theorem zQ9 (w:World)(tA tT tO:Value)(htA:∃A n c,tA=.slice A n c)(htT:∃A n c,tT=.slice A n c)(htO:∃A n c,tO=.slice A n c)(nm:Bs)(A:Option Addr)(ps:List Pw)(c:Nat)(hlen:ps.length≤100000)(hc:Cells w A (zCk ps)) :
  Calls Tryz.prog 14 #[.agg #[tA,tT,.slice A ps.length c,tO],.string (xI nm)] w fun e w'=>e=.returned (.int .i64 (zIe (ps.findIdx? fun x=>x.1.name==nm)))∧Ext w w':=by
 obtain⟨A1,n1,c1,rfl⟩:=htA;obtain⟨A2,n2,c2,rfl⟩:=htT;obtain⟨A3,n3,c3,rfl⟩:=htO;obtain⟨W2,HW2⟩:∃W2,Hid ((w.alloc (.cells #[.slice A1 n1 c1,.slice A2 n2 c2,.slice A ps.length c,.slice A3 n3 c3] 35)).alloc (.cells #[.string (xI nm)] 9)=W2):=⟨_,yG rfl⟩;have HX2:Hid (Ext w W2):=yG (by rw[←HW2.out]; exact(Ext.alloc _ _).trans (Ext.alloc _ _))
 have HB2:Hid (Blk W2 (w.heap.size+1) 9 #[.string (xI nm)]):=yG (by
  rw[←HW2.out]
  have:=Blk.new (w.alloc (.cells #[.slice A1 n1 c1,.slice A2 n2 c2,.slice A ps.length c,.slice A3 n3 c3] 35)) 9 #[.string (xI nm)]
  rwa [yT] at this)
 have HC:=yG hc;have y2:((w.alloc (.cells #[.slice A1 n1 c1,.slice A2 n2 c2,.slice A ps.length c,.slice A3 n3 c3] 35)).alloc (.cells #[.string (xI nm)] 9)).cell? ⟨w.heap.size,2,none⟩=some (.slice A ps.length c):=((Blk.new _ _ _).alloc _).cell 2;clear hc
 go_enter Tryz.func14,Tryz.ntmps14
 go_wp2_with fail
 rw[HW2.out];clear y2 HW2;refine(zOA W2 (w.heap.size+1) nm A ps c hlen (HC.out.ext HX2.out) HB2.out).mono ?_;rintro e w3 ⟨rfl,hx3⟩;have HX3:=yG (HX2.out.trans hx3);clear hx3
 go_wp2_with fail
 go_ret;exact⟨rfl,HX3.out⟩
end Go.Proofs.YtbadjmmjbpeocaaGreatDoor
