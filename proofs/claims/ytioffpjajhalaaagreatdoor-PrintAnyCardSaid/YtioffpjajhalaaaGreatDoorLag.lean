/- Arguments opened: a slice value that can be read as data reads as a list of cells. (and what follows of it). The conditions stand at each lemma. -/
import Derived.Test.YtioffpjajhalaaaGreatDoorLaa
import Derived.Test.YtioffpjajhalaaaGreatDoorLab
import Derived.Deep.Slices
import Derived.Deep.Fields
import Derived.ChangeSame
import Derived.OpenShut
import Derived.ShutString
import Derived.ChangeOld
import Derived.Test.YtioffpjajhalaaaGreatDoorLaf
set_option linter.unusedVariables false
set_option linter.unusedSimpArgs false
set_option maxRecDepth 100000
set_option maxHeartbeats 16000000
namespace Go.Proofs.YtioffpjajhalaaaGreatDoor
open Go Go.RowKit Go.Deep Go.ChangeShapes Go.WideShapes
theorem zNg {α:Type}(f:α→List Value)(sz:Nat)(hf:∀x,(f x).length=sz)(l:List α):∀(i j:Nat) (hi:i<l.length),j<sz→(l.flatMap f)[i*sz+j]?=(f l[i])[j]?:=by
 induction l with
 | nil=>intro i j hi; simp at hi
 | cons x l ih=>
  intro i j hi hj;rw[List.flatMap_cons]
  match i,hi with
  | 0,_=>
   rw[Nat.zero_mul,Nat.zero_add,List.getElem?_append_left (by rw[hf]; exact hj)]
   rfl
  | i+1,hi=>
   rw[List.getElem?_append_right (by rw[hf,Nat.succ_mul]; omega),hf,show(i+1)*sz+j-sz=i*sz+j from by rw[Nat.succ_mul]; omega];exact ih i j (by simpa using hi) hj
theorem zJ4 {α:Type}(f:α→List Value)(sz:Nat)(hf:∀x,(f x).length=sz)(l:List α):(l.flatMap f).length=l.length*sz:=by
 induction l with
 | nil=>simp
 | cons x l ih=>rw[List.flatMap_cons,yM,hf,ih,zJ,Nat.succ_mul]; omega
theorem zQH (b off k:Nat):(⟨b,off,none⟩:Addr).add k=⟨b,off+k,none⟩:=by
 unfold Addr.add
 by_cases h:k=0
 ·subst h; rfl
 ·simp[h]
theorem Cells.zQQ {α:Type}{w:World}(f:α→List Value)(sz:Nat)(hsz:0<sz)(hf:∀x,(f x).length=sz)(l:List α)(a:Addr)
  (h:∀(i:Nat) (hi:i<l.length) (j:Nat),j<sz→w.cell? (a.add (i*sz+j))=(f l[i])[j]?):Cells w (some a) (l.flatMap f):=by
 by_cases hl:l=[]
 ·subst hl; exact .inl rfl
 ·have AB:0<l.length:=List.length_pos_iff.2 hl;have h0:=h 0 AB 0 hsz
  have AC:w.cell? (a.add (0*sz+0))=some ((f l[0])[0]'(by rw[hf]; exact hsz)):=by rw[h0]; exact yG _
  obtain⟨b,AD,spot⟩:=a
  have AA:spot=none:=by simpa [Addr.add] using World.cell?_spot AC
  subst AA;refine .inr ⟨b,AD,rfl,?_,fun k hk=>?_⟩
  ·have:=World.block_lt_of_cell? w _ AC
   simpa [Addr.add] using this
  ·rw[zJ4 f sz hf] at hk;have hi:k / sz<l.length:=Nat.div_lt_of_lt_mul (by rw[Nat.mul_comm]; exact hk);have hj:k % sz<sz:=Nat.mod_lt _ hsz
   have AE:k / sz*sz+k % sz=k:=by rw[Nat.mul_comm]; exact Nat.div_add_mod k sz
   have h1:=h (k / sz) hi (k % sz) hj;have h2:=zNg f sz hf l (k / sz) (k % sz) hi hj;rw[AE] at h1 h2;rw[h2,←h1,zQH]
section
variable {H:Type} {enc:TypeId × Value→H} {P:Program} {w:World} {base:Nat} {spare:Nat→Bool} {held:Bool}
theorem zHi {α:Type}(f:α→List Value)(ok:α→Prop)(sz:Nat)(hsz:0<sz)(hf:∀x,(f x).length=sz){t e:TypeId}{a:Option Addr}{len cap:Nat}{d:DataW H}{p:List MemPlace}(ht:P.underlying t=some (.slice e))(hC:P.cellsOf e=sz)
  (hel:∀(n:Nat) (cs:List Value) (y:DataW H × List MemPlace),cs.length=sz→DataW.trod enc P w base spare held n e cs=some y→∃x,cs=f x∧ok x)
  (h:DataW.Trod enc P w base spare held t (.slice a len cap) d p) :
  ∃l:List α,len=l.length∧(a=none→cap=0)∧Cells w a (l.flatMap f)∧∀x ∈ l,ok x:=by
 obtain⟨AP,AK⟩:=h
 rcases open_slice ht AK with ⟨AA,_⟩ | ⟨a',AH,AI,m,n,D,Pl,AA,hb,hl,hm,AN,_,hx⟩
 ·simp[Value.cells] at AA;obtain⟨rfl,rfl,rfl⟩:=AA;exact⟨[],rfl,fun _=>rfl,.inl rfl,fun x hx=>by cases hx⟩
 ·simp[Value.cells] at AA;obtain⟨rfl,rfl,rfl⟩:=AA
  have AQ:len≤m:=by rw[AN]; split <;> omega
  have AM:∀k,k≤len→∃l:List α,l.length=k∧(∀x ∈ l,ok x)∧∀(i:Nat) (hi:i<l.length) (j:Nat),j<sz→w.cell? (a'.add (i*sz+j))=(f l[i])[j]?:=by
   intro k
   induction k with
   | zero=>intro _; exact⟨[],rfl,(fun x hx=>by cases hx),(fun i hi=>by simp at hi)⟩
   | succ k ih=>
    intro hk;obtain⟨l,AC,AD,AE⟩:=ih (by omega);obtain⟨AJ,h1,h2⟩:=hx k (by omega);rw[hC] at h1;obtain⟨_,AL,AB⟩:=World.cells?_some h1;obtain⟨x,rfl,AO⟩:=hel n AJ _ AL h2;refine⟨l++[x],by simp[AC],fun y hy=>?_,fun i hi j hj=>?_⟩
    ·rcases List.mem_append.1 hy with h | h
     ·exact AD y h
     ·rw[List.mem_singleton.1 h]; exact AO
    ·by_cases AG:i<l.length
     ·rw[List.getElem_append_left AG]; exact AE i AG j hj
     ·have AF:i=k:=by simp at hi; omega
      subst AF;rw[List.getElem_append_right (by omega)];simp only[AC,Nat.sub_self,List.getElem_cons_zero];rw[←AB j hj,Go.Deep.add_add]
  obtain⟨l,AC,AD,AE⟩:=AM len (zU _);exact⟨l,AC.symm,(fun h=>by cases h),Cells.zQQ f sz hsz hf l a' AE,AD⟩
theorem zFq {e:TypeId}{fs:Array Field}{n:Nat}{cs:List Value}{y:DataW H × List MemPlace}(he:P.underlying e=some (.struct fs))(hone:oneCellFields P fs=true)
  (h:DataW.trod enc P w base spare held n e cs=some y) (hlen:cs.length=fs.size) :
  ∃m:Nat,∀(j:Nat) (f:Field),fs[j]?=some f→∃(v:Value) (z:DataW H × List MemPlace),cs[j]?=some v∧DataW.trod enc P w base spare held m f.type [v]=some z:=by
 obtain⟨xs,m,_,_,_,AA,hf⟩:=DataW.trod_struct he h;refine⟨m,fun j f hj=>?_⟩;obtain⟨ho,hk⟩:=hone_of hone j f hj;have AB:j<fs.size:=(Array.getElem?_eq_some_iff.1 hj).1;have h1:=hf j f hj;rw[ho,hk] at h1
 have hd:(cs.drop j).take 1=[cs[j]'(by omega)]:=by
  rw[List.drop_eq_getElem_cons (by omega)]
  rfl
 rw[hd,yG (by omega)] at h1;exact⟨_,_,yG (by omega),h1⟩
theorem zN0 {k:IntKind}{t e:TypeId}{a:Option Addr}{len cap:Nat}{d:DataW H}{p:List MemPlace}(ht:P.underlying t=some (.slice e))(he:P.underlying e=some (.int k))(hC:P.cellsOf e=1)
  (h:DataW.Trod enc P w base spare held t (.slice a len cap) d p) :
  ∃l:List Int,len=l.length∧(a=none→cap=0)∧Cells w a (l.map (Value.int k))∧∀x ∈ l,(Lit.int k x).wf=true:=by
 obtain⟨l,h1,h2,h3,h4⟩:=zHi (fun x=>[Value.int k x]) (fun x=>(Lit.int k x).wf=true) 1 (by decide) (fun _=>rfl) ht hC (fun n cs y _ hy=>by
  obtain⟨x,hx,_,hw⟩:=DataW.trod_int he hy
  exact⟨x,hx,hw⟩) h
 refine⟨l,h1,h2,?_,h4⟩
 have e:l.flatMap (fun x=>[Value.int k x])=l.map (Value.int k):=by
  induction l with
  | nil=>rfl
  | cons x l ih=>
   have AA:∀l:List Int,l.flatMap (fun x=>[Value.int k x])=l.map (Value.int k):=by
    intro l
    induction l with
    | nil=>rfl
    | cons y l ih=>rw[List.flatMap_cons,List.map_cons,List.singleton_append,ih]
   exact AA _
 rw[←e];exact h3
end
end Go.Proofs.YtioffpjajhalaaaGreatDoor
namespace Go.Proofs.YtioffpjajhalaaaGreatDoor.TT
def zA9 (len:Nat)(Z:List Nat):List Int→Nat→Option Nat
 | [],a=>some a
 | k::r,a=>if k=(a:Int)∧a<len then zA9 len Z r (Z.getD a 0) else none
def XK (ks:List (List Int)):Nat→Option (List Nat)
 | 0=>some (List.replicate ks.length 0)
 | j+1=>match XK ks j with
  | none=>none
  | some Z=>match zA9 ks.length Z (ks.getD (ks.length-1-j) []) (ks.length-1-j+1) with
   | none=>none
   | some a=>some (Z.set (ks.length-1-j) a)
def zBf (ks:List (List Int)):Option (List Nat):=
 match XK ks ks.length with
 | none=>none
 | some Z=>if ks.length≠0∧Z.getD 0 0=ks.length then some Z else none
def zAt (g:Nat→Option Nat)(len:Nat):List Int→Option Nat→Option Nat
 | [],a=>a
 | _::_,none=>none
 | k::r,some a=>if a<len∧k=(a:Int) then zAt g len r (g a) else none
def zJa (ks:List (List Int)):Nat→Nat→Option Nat
 | 0,_=>none
 | f+1,i=>if i<ks.length then zAt (zJa ks f) ks.length (ks.getD i []) (some (i+1)) else none
theorem VP (g:Nat→Option Nat)(len:Nat)(l:List Int):zAt g len l none=none:=by cases l <;> rfl
theorem YW (g:Nat→Option Nat)(len:Nat)(k:Int)(r:List Int)(a:Nat):zAt g len (k::r) (some a)=if a<len∧k=(a:Int) then zAt g len r (g a) else none:=rfl
theorem zHq {g:Nat→Option Nat}{len:Nat}(hg:∀a e,g a=some e→a<e∧e≤len):∀(l:List Int) (a0 e:Nat),a0≤len→zAt g len l (some a0)=some e→a0≤e∧e≤len:=by
 intro l
 induction l with
 | nil=>intro a0 e h0 h; injection h with h; omega
 | cons k r ih=>
  intro a0 e h0 h;rw[YW] at h
  split at h
  ·rename_i hc
   cases ha:g a0 with
   | none=>rw[ha,VP] at h; cases h
   | some a1=>
    rw[ha] at h;have h1:=hg a0 a1 ha;have h2:=ih a1 e h1.2 h;omega
  ·cases h
theorem zNv (ks:List (List Int)):∀f i e,zJa ks f i=some e→i<e∧e≤ks.length:=by
 intro f
 induction f with
 | zero=>intro i e h; cases h
 | succ f ih=>
  intro i e h;unfold zJa at h
  split at h
  ·rename_i hi
   have:=zHq ih _ _ _ (by omega) h
   omega
  ·cases h
theorem zKp {g g':Nat→Option Nat}{len i:Nat}(h:∀a,i<a→g a=g' a)(hg:∀a e,g a=some e→a<e):∀(l:List Int) (a0:Nat),i<a0→zAt g len l (some a0)=zAt g' len l (some a0):=by
 intro l
 induction l with
 | nil=>intro a0 _; rfl
 | cons k r ih=>
  intro a0 h0;rw[YW,YW,←h a0 h0]
  split
  ·cases ha:g a0 with
   | none=>rw[VP,VP]
   | some a1=>exact ih a1 (by have:=hg a0 a1 ha; omega)
  ·rfl
theorem zNG (ks:List (List Int)):∀f f' i,ks.length-i≤f→ks.length-i≤f'→zJa ks f i=zJa ks f' i:=by
 intro f
 induction f with
 | zero=>
  intro f' i h _
  cases f' with
  | zero=>rfl
  | succ f'=>unfold zJa; rw[if_neg (by omega)]
 | succ f ih=>
  intro f' i h h'
  cases f' with
  | zero=>unfold zJa; rw[if_neg (by omega)]
  | succ f'=>
   unfold zJa
   split
   ·exact zKp (i:=i) (fun a ha=>ih f' a (by omega) (by omega)) (fun a e he=>(zNv ks f a e he).1) _ _ (by omega)
   ·rfl
def XD (ks:List (List Int))(i:Nat):Option Nat:=zJa ks ks.length i
theorem zBE (ks:List (List Int))(i:Nat):XD ks i=if i<ks.length then zAt (XD ks) ks.length (ks.getD i []) (some (i+1)) else none:=by
 unfold XD;rw[zNG ks ks.length (ks.length+1) i (by omega) (by omega)]
 rfl
theorem JJ {ks:List (List Int)}{i e:Nat}(h:XD ks i=some e):i<e∧e≤ks.length:=zNv ks _ _ _ h
theorem zRV {ks:List (List Int)}{i e:Nat}(h:XD ks i=some e):i<ks.length:=by have:=JJ h; omega
theorem zIc {ks:List (List Int)}{Z:List Nat}{i:Nat}(hZ:∀a,i<a→a<ks.length→XD ks a=some (Z.getD a 0)):∀(l:List Int) (a0:Nat),i<a0→zA9 ks.length Z l a0=zAt (XD ks) ks.length l (some a0):=by
 intro l
 induction l with
 | nil=>intro a0 _; rfl
 | cons k r ih=>
  intro a0 h0;rw[YW];unfold zA9
  by_cases hc:k=(a0:Int)∧a0<ks.length
  ·have hz:=hZ a0 h0 hc.2;rw[if_pos hc,if_pos ⟨hc.2,hc.1⟩,hz];exact ih _ (by have:=JJ hz; omega)
  ·rw[if_neg hc,if_neg (fun h=>hc ⟨h.2,h.1⟩)]
theorem zCl (ks:List (List Int)):∀(j:Nat) (Z:List Nat),j≤ks.length→XK ks j=some Z→Z.length=ks.length∧∀a,ks.length-j≤a→a<ks.length→XD ks a=some (Z.getD a 0):=by
 intro j
 induction j with
 | zero=>
  intro Z _ h;injection h with h;subst h;exact⟨by simp,fun a h1 h2=>by omega⟩
 | succ j ih=>
  intro Z hj h;unfold XK at h
  split at h
  ·cases h
  ·rename_i Z0 h0;obtain⟨hl,hz⟩:=ih Z0 (by omega) h0
   split at h
   ·cases h
   ·rename_i a ha;injection h with h;subst h;refine⟨by simpa using hl,fun b h1 h2=>?_⟩;rw[zIc (i:=ks.length-1-j) (fun a h1 h2=>hz a (by omega) h2) _ _ (by omega)] at ha
    by_cases hb:b=ks.length-1-j
    ·subst hb;rw[zBE,if_pos h2,ha];simp[yE,hl,h2]
    ·rw[hz b (by omega) h2];simp[yE,List.getElem?_set,Ne.symm hb]
theorem zLI (ks:List (List Int)):∀(j:Nat),j≤ks.length→(∀a,ks.length-j≤a→a<ks.length→(XD ks a).isSome=true)→∃Z,XK ks j=some Z:=by
 intro j
 induction j with
 | zero=>intro _ _; exact⟨_,rfl⟩
 | succ j ih=>
  intro hj h;obtain⟨Z0,h0⟩:=ih (by omega) (fun a h1 h2=>h a (by omega) h2);obtain⟨hl,hz⟩:=zCl ks j Z0 (by omega) h0;have h1:=h (ks.length-1-j) (by omega) (by omega);rw[zBE,if_pos (by omega),←zIc (Z:=Z0) (i:=ks.length-1-j) (fun a h1 h2=>hz a (by omega) h2) _ _ (by omega)] at h1;unfold XK;rw[h0]
  simp only
  cases hk:zA9 ks.length Z0 (ks.getD (ks.length-1-j) []) (ks.length-1-j+1) with
  | none=>rw[hk] at h1; cases h1
  | some a=>exact⟨_,rfl⟩
theorem zKi {ks:List (List Int)}{i:Nat}(hi:∀a1,i<a1→∀e1,XD ks a1=some e1→∀a,a1≤a→a<e1→(XD ks a).isSome=true):∀(l:List Int) (a0 e:Nat),i<a0→zAt (XD ks) ks.length l (some a0)=some e→∀a,a0≤a→a<e→(XD ks a).isSome=true:=by
 intro l
 induction l with
 | nil=>intro a0 e h0 h a h1 h2; injection h with h; omega
 | cons k r ih=>
  intro a0 e h0 h a h1 h2;rw[YW] at h
  split at h
  ·cases ha:XD ks a0 with
   | none=>rw[ha,VP] at h; cases h
   | some a1=>
    rw[ha] at h
    by_cases AA:a<a1
    ·exact hi a0 h0 a1 ha a h1 AA
    ·exact ih a1 e (by have:=JJ ha; omega) h a (by omega) h2
  ·cases h
theorem zMZ (ks:List (List Int)):∀(n i e:Nat),ks.length-i≤n→XD ks i=some e→∀a,i≤a→a<e→(XD ks a).isSome=true:=by
 intro n
 induction n with
 | zero=>intro i e h he; have:=JJ he; omega
 | succ n ih=>
  intro i e h he a h1 h2
  by_cases AC:a=i
  ·subst AC; rw[he]; rfl
  ·have AB:=he;rw[zBE,if_pos (by have:=JJ he; omega)] at AB;exact zKi (i:=i) (fun a1 AD e1 AA=>ih a1 e1 (by have:=JJ AA; omega) AA) _ _ _ (by omega) AB a (by omega) h2
theorem zEE {ks:List (List Int)}{Z:List Nat}(h:zBf ks=some Z):Z.length=ks.length∧ks.length≠0∧XD ks 0=some ks.length∧∀a,a<ks.length→XD ks a=some (Z.getD a 0):=by
 unfold zBf at h
 split at h
 ·cases h
 ·rename_i Z0 h0
  split at h
  ·rename_i hc;injection h with h;subst h;obtain⟨hl,hz⟩:=zCl ks ks.length Z0 (zU _) h0;refine⟨hl,hc.1,?_,fun a ha=>hz a (by omega) ha⟩;rw[hz 0 (by omega) (by omega),hc.2]
  ·cases h
theorem zO4 {ks:List (List Int)}(h:zBf ks=none):XD ks 0≠some ks.length:=by
 intro he;obtain⟨Z,hZ⟩:=zLI ks ks.length (zU _) (fun a _ h2=>zMZ ks ks.length 0 ks.length (by omega) he a (zT _) h2);obtain⟨hl,hz⟩:=zCl ks ks.length Z (zU _) hZ;have h0:=JJ he
 have:=hz 0 (by omega) (by omega)
 rw[he] at this;injection this with this;unfold zBf at h;rw[hZ] at h
 simp only at h
 rw[if_pos ⟨by omega,this.symm⟩] at h
 cases h
theorem zLj {ks:List (List Int)}:∀(l:List Int) (a0 e:Nat),zAt (XD ks) ks.length l (some a0)=some e→∀k ∈ l,∃a:Nat,k=(a:Int)∧a0≤a∧a<ks.length:=by
 intro l
 induction l with
 | nil=>intro a0 e _ k hk; cases hk
 | cons x r ih=>
  intro a0 e h k hk;rw[YW] at h
  split at h
  ·rename_i hc
   rcases List.mem_cons.1 hk with rfl | hk
   ·exact⟨a0,hc.2,zU _,hc.1⟩
   ·cases ha:XD ks a0 with
    | none=>rw[ha,VP] at h; cases h
    | some a1=>
     rw[ha] at h;obtain⟨a,h1,h2,h3⟩:=ih a1 e h k hk
     have:=JJ ha
     exact⟨a,h1,by omega,h3⟩
  ·cases h
theorem zMj {ks:List (List Int)}{i e:Nat}(h:XD ks i=some e):∀k ∈ ks.getD i [],∃a:Nat,k=(a:Int)∧i<a∧a<ks.length:=by
 intro k hk;have hl:=zRV h;rw[zBE,if_pos hl] at h;obtain⟨a,h1,h2,h3⟩:=zLj _ _ _ h k hk;exact⟨a,h1,by omega,h3⟩
end Go.Proofs.YtioffpjajhalaaaGreatDoor.TT
namespace Go.Proofs.YtioffpjajhalaaaGreatDoor.TT
open Go Go.RowKit Go.Deep Go.ChangeShapes Go.WideShapes
structure xB where
 kind:Int
 pos:Int
 text:ByteArray
 num:Int
 kA:Option Addr
 kc:Nat
 kids:List Int
def xB.cells (x:xB):List Value:=[.int .u8 x.kind,.int .i64 x.pos,.string x.text,.int .i64 x.num,.slice x.kA x.kids.length x.kc]
def xD (l:List Int):List Value:=l.map (Value.int .i64)
structure VQ (w:World)(x:xB):Prop where
 kind:0≤x.kind∧x.kind<256
 num:-9223372036854775808≤x.num∧x.num≤9223372036854775807
 kids:Cells w x.kA (xD x.kids)
 nil:x.kA=none→x.kc=0
theorem VQ.ext {w w':World}{x:xB}(h:VQ w x)(hx:Ext w w'):VQ w' x:=⟨h.kind,h.num,h.kids.ext hx,h.nil⟩
def YN (l:List xB):List Value:=l.flatMap xB.cells
theorem zBJ (l:List xB):(YN l).length=l.length*5:=zJ4 xB.cells 5 (fun _=>rfl) l
theorem zHt (l:List xB)(k j:Nat)(h:k<l.length)(hj:j<5):(YN l)[k*5+j]?=(l[k].cells)[j]?:=zNg xB.cells 5 (fun _=>rfl) l k j h hj
theorem zJv (l:List xB)(x:xB):YN (l++[x])=YN l++x.cells:=by unfold YN; rw[List.flatMap_append]; simp
theorem zDW (l:List Int):(xD l).length=l.length:=by simp[xD]
theorem zOF (l:List Int)(k:Nat)(h:k<l.length):(xD l)[k]?=some (.int .i64 l[k]):=by simp[xD,h]
structure vV (w:World)(A:Option Addr)(l:List xB):Prop where
 cells:Cells w A (YN l)
 ok:∀x ∈ l,VQ w x
theorem vV.ext {w w':World}{A:Option Addr}{l:List xB}(h:vV w A l)(hx:Ext w w'):vV w' A l:=⟨h.cells.ext hx,fun x hm=>(h.ok x hm).ext hx⟩
theorem vV.at_ {w:World}{A:Option Addr}{l:List xB}(h:vV w A l)(k:Nat)(hk:k<l.length) :
  ∃b AA,A=some ⟨b,AA,none⟩∧b<w.heap.size∧∀j,j<5→w.cell? ⟨b,AA+k*5+j,none⟩=(l[k].cells)[j]?:=by
 obtain⟨b,AA,hA,hb,AB⟩:=h.cells.at_ (by rw[zBJ]; omega);refine⟨b,AA,hA,hb,fun j hj=>?_⟩;rw[Nat.add_assoc,AB _ (by rw[zBJ]; omega)];exact zHt l k j hk hj
theorem zCC {w:World}{A:Option Addr}{l:List Int}(h:Cells w A (xD l))(k:Nat)(hk:k<l.length):∃b AA,A=some ⟨b,AA,none⟩∧b<w.heap.size∧w.cell? ⟨b,AA+k,none⟩=some (.int .i64 l[k]):=by
 obtain⟨b,AA,hA,hb,AB⟩:=h.at_ (by rw[zDW]; omega);exact⟨b,AA,hA,hb,(AB k (by rw[zDW]; exact hk)).trans (zOF l k hk)⟩
theorem zSr {x:Int}(h:(Lit.int .u8 x).wf=true):0≤x∧x<256:=by
 simp[Lit.wf,IntKind.min,IntKind.max,IntKind.signed,IntKind.bits] at h;omega
theorem zM9 {x:Int}(h:(Lit.int .i64 x).wf=true):-9223372036854775808≤x∧x≤9223372036854775807:=by
 simp[Lit.wf,IntKind.min,IntKind.max,IntKind.signed,IntKind.bits] at h;omega
section
variable {H:Type} {enc:TypeId × Value→H} {w:World} {base:Nat} {spare:Nat→Bool} {held:Bool}
theorem zJV {t e:TypeId}{n:Nat}{v:Value}{x:DataW H × List MemPlace}(ht:Tryz.prog.underlying t=some (.slice e))(h:DataW.trod enc Tryz.prog w base spare held n t [v]=some x):∃(A:Option Addr) (len cap:Nat),v=.slice A len cap:=by
 rcases DataW.trod_slice ht h with ⟨h1,_⟩ | ⟨a,len,cap,_,_,_,_,h1,_⟩
 ·injection h1 with h1; exact⟨none,0,0,h1⟩
 ·injection h1 with h1; exact⟨some a,len,cap,h1⟩
end
end Go.Proofs.YtioffpjajhalaaaGreatDoor.TT
namespace Go.Proofs.YtioffpjajhalaaaGreatDoor
open Go Go.RowKit
def vZ (x:TT.xB):Value:=.agg #[.int .u8 x.kind,.int .i64 x.pos,.string x.text,.int .i64 x.num,.slice x.kA x.kids.length x.kc]
theorem Blk.VV {w:World}{o:Obj}{t:TypeId}{cs:Array Value}{g:Nat}(hg:(w.alloc o).heap.size=g):Blk ((w.alloc o).alloc (.cells cs t)) g t cs:=by subst hg; exact Blk.new _ _ _
theorem zAl (w:World)(g n c:Nat)(A:Option Addr)(L:List TT.xB)(hT:TT.vV w A L)(hn:n=L.length)(hg:w.cell? ⟨g,0,none⟩=some (.slice A n c))(hgl:g<w.heap.size)(x:TT.xB)(hx:Cells w x.kA (TT.xD x.kids))(i k:Nat)(hi:i<x.kids.length)(hk:x.kids[i]=(k:Int))(hkl:k<L.length)(y:TT.xB)(hy:L[k]?=some y) :
  Calls Tryz.prog 40 #[.pointer (some ⟨g,0,none⟩),vZ x,.int .i64 (i:Int)] w fun e w'=>e=.returned (vZ y)∧Ext w w':=by
 subst hn;obtain⟨tb,tf,rfl,AB,hc⟩:=hT.at_ k hkl
 have AN:L[k]=y:=by rw[yG hkl] at hy; exact Option.some.inj hy
 rw[AN] at hc;obtain⟨kb,kf,AL,AF,AM⟩:=hx.at_ (by unfold TT.xD; simp; omega)
 have AI:w.cell? ⟨kb,kf+i,none⟩=some (.int .i64 (k:Int)):=by rw[AM i (by unfold TT.xD; simpa using hi)]; unfold TT.xD; simp[hi,hk]
 have q0:(i:Int)<(x.kids.length:Int):=by omega
 have q1:(k:Int)<(L.length:Int):=by omega
 have v0:w.cell? ⟨tb,tf+k*5,none⟩=some (.int .u8 y.kind):=hc 0 (by decide);have v1:w.cell? ⟨tb,tf+k*5+1,none⟩=some (.int .i64 y.pos):=hc 1 (by decide);have v2:w.cell? ⟨tb,tf+k*5+2,none⟩=some (.string y.text):=hc 2 (by decide);have v3:w.cell? ⟨tb,tf+k*5+3,none⟩=some (.int .i64 y.num):=hc 3 (by decide);have v4:w.cell? ⟨tb,tf+k*5+4,none⟩=some (.slice y.kA y.kids.length y.kc):=hc 4 (by decide);clear hc AM hT hx hk hy AN;obtain⟨AV,AP⟩:∃a,x.kA=a:=⟨_,rfl⟩;rw[AL] at AP;subst AP;have AA:Hid (Ext w ((w.alloc (.cells #[.int .u8 x.kind,.int .i64 x.pos,.string x.text,.int .i64 x.num,.slice x.kA x.kids.length x.kc] 48)).alloc (.cells #[.int .u8 0,.int .i64 0,.string ⟨#[]⟩,.int .i64 0,.slice none 0 0] 48))):=yD ((Ext.alloc _ _).trans (Ext.alloc _ _));have AD:Hid (Blk ((w.alloc (.cells #[.int .u8 x.kind,.int .i64 x.pos,.string x.text,.int .i64 x.num,.slice x.kA x.kids.length x.kc] 48)).alloc (.cells #[.int .u8 0,.int .i64 0,.string ⟨#[]⟩,.int .i64 0,.slice none 0 0] 48)) w.heap.size 48 #[.int .u8 x.kind,.int .i64 x.pos,.string x.text,.int .i64 x.num,.slice x.kA x.kids.length x.kc]):=yD ((Blk.new _ _ _).alloc _);have AH:Hid (Blk ((w.alloc (.cells #[.int .u8 x.kind,.int .i64 x.pos,.string x.text,.int .i64 x.num,.slice x.kA x.kids.length x.kc] 48)).alloc (.cells #[.int .u8 0,.int .i64 0,.string ⟨#[]⟩,.int .i64 0,.slice none 0 0] 48)) (w.heap.size+1) 48 #[.int .u8 0,.int .i64 0,.string ⟨#[]⟩,.int .i64 0,.slice none 0 0]):=yD (Blk.VV (by simp));unfold vZ;rw[AL] at AA AD AH ⊢
 go_enter Tryz.func40,Tryz.ntmps40
 go_upto_region 1 with fail
 try simp only[size_alloc]
 have AJ:=yD (show w.heap.size≤w.heap.size+1 by omega);generalize hgr:w.heap.size+1=gr at AH AJ ⊢;have AO:=yD AD.out.lt;have HW:=yD (show w.heap.size≤gr by omega);generalize hgn:w.heap.size=gn at AD AO ⊢;have HN:=yD hgn;clear hgr hgn AJ;generalize ((w.alloc (.cells #[.int .u8 x.kind,.int .i64 x.pos,.string x.text,.int .i64 x.num,.slice (some ⟨kb,kf,none⟩) x.kids.length x.kc] 48)).alloc (.cells #[.int .u8 0,.int .i64 0,.string ⟨#[]⟩,.int .i64 0,.slice none 0 0] 48))=w1 at *;have AS:=yD (show g<w1.heap.size from yR hgl AA.out.size);have AE:=yD (show tb<w1.heap.size from yR AB AA.out.size);have AR:=yD (show kb<w1.heap.size from yR AF AA.out.size);have yg:=(AA.out.cell (p:=⟨g,0,none⟩) hgl).trans hg;have yk:=(AA.out.cell (p:=⟨kb,kf+i,none⟩) AF).trans AI;have y4:w1.cell? ⟨gn,4,none⟩=some (.slice (some ⟨kb,kf,none⟩) x.kids.length x.kc):=AD.out.cell 4;have u0:=(AA.out.cell (p:=⟨tb,tf+k*5,none⟩) AB).trans v0;have u1:=(AA.out.cell (p:=⟨tb,tf+k*5+1,none⟩) AB).trans v1;have u2:=(AA.out.cell (p:=⟨tb,tf+k*5+2,none⟩) AB).trans v2;have u3:=(AA.out.cell (p:=⟨tb,tf+k*5+3,none⟩) AB).trans v3;have u4:=(AA.out.cell (p:=⟨tb,tf+k*5+4,none⟩) AB).trans v4;clear hg AI v0 v1 v2 v3 v4 hgl AB AF AD;apply xI 12 (by kernel_rfl) (by kernel_rfl) (by kernel_rfl);apply sQ (.pointer (some ⟨g,0,none⟩));apply sQ (.pointer (some ⟨g,0,none⟩));apply sQ (.pointer (some ⟨g,0,none⟩))
 apply sQ (.pointer (some ⟨g,0,none⟩));apply sL yg AS.out (.slice (some ⟨tb,tf,none⟩) L.length c);apply sQ (.pointer (some ⟨gn,4,none⟩));apply sL y4 AO.out (.slice (some ⟨kb,kf,none⟩) x.kids.length x.kc);apply sQ (.int .i64 (i:Int));apply sP q0 (.pointer (some ⟨kb,kf+i,none⟩));apply sL yk AR.out (.int .i64 (k:Int));apply sP q1 (.pointer (some ⟨tb,tf+k*5,none⟩));apply yZ (.agg #[.int .u8 y.kind,.int .i64 y.pos,.string y.text,.int .i64 y.num,.slice y.kA y.kids.length y.kc]) rfl rfl rfl
 ·intro w' AC hH;clear hH;have z0:=(AC.cell (p:=⟨tb,tf+k*5,none⟩) AE.out).trans u0;have z1:=(AC.cell (p:=⟨tb,tf+k*5+1,none⟩) AE.out).trans u1;have z2:=(AC.cell (p:=⟨tb,tf+k*5+2,none⟩) AE.out).trans u2;have z3:=(AC.cell (p:=⟨tb,tf+k*5+3,none⟩) AE.out).trans u3;have z4:=(AC.cell (p:=⟨tb,tf+k*5+4,none⟩) AE.out).trans u4;simp[yY,go_sem,z0,z1,z2,z3,z4];exact Ext.refl _
 apply xN;intro w2 AG hH;clear hH yg yk y4 u0 u1 u2 u3 u4
 try simp only[Act.put,yA,yC,yB]
 refine vF rfl 48 _ _ rfl gr #[.int .u8 y.kind,.int .i64 y.pos,.string y.text,.int .i64 y.num,.slice y.kA y.kids.length y.kc] (by kernel_rfl) (by kernel_rfl) 48 _ (AH.out.ext AG) (by kernel_rfl) rfl rfl ?_;intro w3 AK AQ;have AU:Hid (Ext w w3):=yD (AK.ext (AA.out.trans AG) (by have:=HN.out; have:=HW.out; omega));have AT:=yD AQ;clear AK AQ AG
 try simp only[Act.put]
 go_wp2_with fail
 refine zBh gr 48 _ _ rfl rfl rfl AT.out Tryz.underlying48 rfl (by kernel_rfl) ?_;exact⟨rfl,AU.out⟩
end Go.Proofs.YtioffpjajhalaaaGreatDoor
namespace Go.Proofs.YtioffpjajhalaaaGreatDoor.TT
def XH (k:Int):Bool:=decide (21≤k)&&decide (k≤26)
def JP (k:Int):Bool:=decide (7≤k)&&decide (k≤19)
def VJ (k:Int):Bool:=k==2||k==3
inductive jG where
 | JL (k:Int)
 | expr
 | stmt
 | part
def jG.holds:jG→Int→Bool
 | .JL j,k=>k==j
 | .expr,k=>XH k
 | .stmt,k=>JP k
 | .part,k=>VJ k
structure jK where
 kids:List jG
 more:Option jG
 named:Bool
 most:Int
def VU (k:Int):List jK:=
 if k=1 then [⟨[],some .part,false,0⟩]
 else if k=2 then [⟨[.JL 5],some (.JL 5),true,0⟩]
 else if k=3 then [⟨[.JL 4,.JL 6],none,true,1⟩]
 else if k=4 then [⟨[],some (.JL 5),false,0⟩]
 else if k=5 then [⟨[],none,true,0⟩]
 else if k=6 then [⟨[],some .stmt,false,0⟩]
 else if k=7 then [⟨[.JL 20,.JL 5],none,true,1⟩]
 else if k=8 then [⟨[.JL 20,.JL 5,.expr],none,false,0⟩]
 else if k=9 then [⟨[.JL 20,.expr],some .expr,false,0⟩]
 else if k=10 then [⟨[.JL 20],none,false,0⟩]
 else if k=11 then [⟨[.JL 5,.JL 5],none,true,0⟩]
 else if k=12 then [⟨[.JL 5],none,false,1⟩]
 else if k=13 then [⟨[.JL 5],none,false,0⟩,⟨[.JL 20],none,false,0⟩]
 else if k=14 then [⟨[.expr,.expr,.JL 6],none,false,1⟩,⟨[.expr,.expr,.JL 6,.JL 6],none,false,1⟩]
 else if k=15 then [⟨[.JL 21,.JL 21,.JL 6],none,true,0⟩]
 else if k=16 then [⟨[.expr],none,true,0⟩]
 else if k=17 then [⟨[.expr],none,false,0⟩]
 else if k=18 then [⟨[],none,false,0⟩]
 else if k=19 then [⟨[],none,false,0⟩]
 else if k=20 then [⟨[.expr],none,true,0⟩]
 else if k=21 then [⟨[],none,false,2147483647⟩]
 else if k=22 then [⟨[],none,true,0⟩]
 else if k=23 then [⟨[.expr,.expr],none,false,0⟩]
 else if k=24 then [⟨[.expr,.expr],none,false,0⟩]
 else if k=25 then [⟨[.expr,.expr],none,false,0⟩]
 else if k=26 then [⟨[.expr],none,false,0⟩]
 else []
def jK.want (f:jK)(i:Nat):Option jG:=if i<f.kids.length then f.kids[i]? else f.more
def jR (p:Option jG)(k:Int):Bool:=match p with | none=>false | some p=>p.holds k
def jK.fits (f:jK)(l:List Int):Bool:=
 if l.length<f.kids.length∨(f.kids.length<l.length∧f.more.isNone=true) then false
 else (List.range l.length).all fun i=>jR (f.want i) (l.getD i 0)
def vI (c:Int):Bool:=decide (97≤c)&&decide (c≤122)
def vP (c:Int):Bool:=decide (48≤c)&&decide (c≤57)
def YJ (c:Int):Bool:=vI c||(vP c||c==95)
def xX (l:List UInt8):Bool:=match l with
 | []=>false
 | c::r=>vI (c.toNat:Int)&&r.all fun c=>YJ (c.toNat:Int)
def YL (f:jK)(num:Int)(text:List UInt8)(l:List Int):Bool:=
 f.fits l&&(decide (0≤num)&&(decide (num≤f.most)&&((f.named&&xX text)||(!f.named&&text.isEmpty))))
def zBZ (kind num:Int)(text:List UInt8)(l:List Int):Bool:=(VU kind).any fun f=>YL f num text l
def zE6 (what x:Int):Bool:=if what=0 then XH x else if what=1 then JP x else x==what
def zAP (l:List Int)(frm:Nat)(what:Int):Bool:=(l.drop frm).all (zE6 what)
def YD (w x:Int):Bool:=if w=0 then XH x else x==w
def isR (l want:List Int):Bool:=l.length==want.length&&(List.range l.length).all fun i=>YD (want.getD i 0) (l.getD i 0)
def vY (kind:Int)(l:List Int):Bool:=
 if kind=1 then l.all VJ
 else if kind=2 then decide (0<l.length)&&zAP l 0 5
 else if kind=3 then isR l [4,6]
 else if kind=4 then zAP l 0 5
 else if kind=6 then zAP l 0 1
 else if kind=7 then isR l [20,5]
 else if kind=8 then isR l [20,5,0]
 else if kind=9 then decide (1<l.length)&&(l.getD 0 0==20&&zAP l 1 0)
 else if kind=10 then isR l [20]
 else if kind=11 then isR l [5,5]
 else if kind=12 then isR l [5]
 else if kind=13 then isR l [5]||isR l [20]
 else if kind=14 then isR l [0,0,6]||isR l [0,0,6,6]
 else if kind=15 then isR l [21,21,6]
 else if kind=16∨kind=17∨kind=20∨kind=26 then isR l [0]
 else if kind=23∨kind=24∨kind=25 then isR l [0,0]
 else l.length==0
def zC8 (k:Int):Bool:=k==2||(k==3||(k==5||(k==7||(k==11||(k==15||(k==16||(k==20||k==22)))))))
def zBB (k:Int):Int:=if k=3∨k=7∨k=12∨k=14 then 1 else if k=21 then 2147483647 else 0
def vL (kind num:Int)(text:List UInt8):Bool:=(zC8 kind==xX text)&&((zC8 kind||text.isEmpty)&&(decide (0≤num)&&decide (num≤zBB kind)))
theorem zDP (f:Int→Bool)(l:List Int):((List.range l.length).all fun i=>f (l.getD i 0))=l.all f:=by
 induction l with
 | nil=>rfl
 | cons x l ih=>
  rw[zJ,List.range_succ_eq_map,List.all_cons,List.all_map,List.all_cons]
  congr 1
theorem vK (ps:List jG)(ws:List Int)(named:Bool)(most:Int)(hl:ps.length=ws.length)(h:∀i,i<ws.length→∀x,jR ps[i]? x=YD (ws.getD i 0) x)(l:List Int) :
  (jK.mk ps none named most).fits l=isR l ws:=by
 unfold jK.fits isR;simp only[Option.isNone_none,and_true]
 by_cases AA:l.length=ws.length
 ·rw[if_neg (by omega),AA];simp only[beq_self_eq_true,Bool.true_and];rw[Bool.eq_iff_iff];simp only[zG,List.mem_range]
  constructor
  ·intro hh i hi
   have:=hh i hi
   unfold jK.want at this
   simp only at this
   rw[if_pos (by omega),h i hi] at this;exact this
  ·intro hh i hi
   have:=hh i hi
   unfold jK.want
   simp only
   rw[if_pos (by omega),h i hi];exact this
 ·rw[if_pos (by omega)];simp[AA]
theorem zEY (p:jG)(named:Bool)(most:Int)(l:List Int):(jK.mk [] (some p) named most).fits l=l.all p.holds:=by
 unfold jK.fits;rw[if_neg (by simp)];unfold jK.want jR;simp only[zK,Nat.not_lt_zero,if_false];exact zDP p.holds l
theorem zO9 (q p:jG)(named:Bool)(most:Int)(l:List Int):(jK.mk [q] (some p) named most).fits l=(decide (0<l.length)&&(q.holds (l.getD 0 0)&&(l.drop 1).all p.holds)):=by
 unfold jK.fits
 cases l with
 | nil=>simp
 | cons x l=>
  rw[if_neg (by simp)];rw[zJ,List.range_succ_eq_map,List.all_cons,List.all_map];simp only[jK.want,jR,zJ,zK]
  simp
  congr 1
  rw[←zDP p.holds l];simp[Function.comp_def,yE]
theorem zMd (q r p:jG)(named:Bool)(most:Int)(l:List Int):(jK.mk [q,r] (some p) named most).fits l=(decide (1<l.length)&&(q.holds (l.getD 0 0)&&(r.holds (l.getD 1 0)&&(l.drop 2).all p.holds))):=by
 unfold jK.fits
 match l with
 | []=>simp
 | [x]=>simp
 | x::y::l=>
  rw[if_neg (by simp)];rw[zJ,List.range_succ_eq_map,List.all_cons,List.all_map,zJ,List.range_succ_eq_map,List.all_cons,List.all_map];simp only[jK.want,jR,zJ,zK]
  simp
  congr 2
  rw[←zDP p.holds l];simp[Function.comp_def,yE,show ∀x:Nat,¬(x+1+1<2) from fun x=>by omega]
theorem zJz {t:List UInt8}(h:xX t=true):t.isEmpty=false:=by
 cases t with
 | nil=>cases h
 | cons c r=>rfl
theorem zHe (kind num:Int)(text:List UInt8)(F:Bool)(named:Bool)(most:Int)(hn:zC8 kind=named)(hm:zBB kind=most) :
  (F&&(decide (0≤num)&&(decide (num≤most)&&((named&&xX text)||(!named&&text.isEmpty)))))=(vL kind num text&&F):=by
 unfold vL;rw[hn,hm]
 cases hI:xX text
 ·cases named <;> cases F <;> cases text.isEmpty <;> cases decide (0≤num) <;> cases decide (num≤most) <;> rfl
 ·rw[zJz hI]
  cases named <;> cases F <;> cases decide (0≤num) <;> cases decide (num≤most) <;> rfl
theorem jD (kind num:Int)(text:List UInt8)(l:List Int)(ps:List jG)(more:Option jG)(named:Bool)(most:Int)(hf:VU kind=[⟨ps,more,named,most⟩])(hn:zC8 kind=named)(hm:zBB kind=most)(hk:(jK.mk ps more named most).fits l=vY kind l) :
  zBZ kind num text l=(vL kind num text&&vY kind l):=by
 unfold zBZ;rw[hf,←zHe kind num text _ named most hn hm,←hk];simp[YL]
theorem zKZ (kind num:Int)(text:List UInt8)(l:List Int)(ps qs:List jG)(most:Int)(hf:VU kind=[⟨ps,none,false,most⟩,⟨qs,none,false,most⟩])(hn:zC8 kind=false)(hm:zBB kind=most)(hk:((jK.mk ps none false most).fits l||(jK.mk qs none false most).fits l)=vY kind l) :
  zBZ kind num text l=(vL kind num text&&vY kind l):=by
 unfold zBZ;rw[hf,←zHe kind num text _ false most hn hm,←hk];simp only[List.any_cons,List.any_nil,Bool.or_false,YL];rw[Bool.and_or_distrib_right]
theorem ZP (w:Int)(hw:w≠0)(x:Int):jR (some (.JL w)) x=YD w x:=by
 unfold jR jG.holds YD;rw[if_neg hw]
theorem YM (x:Int):jR (some .expr) x=YD 0 x:=rfl
theorem ex1 (p:jG)(w:Int)(h:∀x,jR (some p) x=YD w x):∀i,i < [w].length→∀x,jR [p][i]? x=YD ([w].getD i 0) x:=by
 intro i hi x
 match i,hi with
 | 0,_=>exact h x
theorem ex2 (p q:jG)(w v:Int)(h:∀x,jR (some p) x=YD w x)(h2:∀x,jR (some q) x=YD v x):∀i,i < [w,v].length→∀x,jR [p,q][i]? x=YD ([w,v].getD i 0) x:=by
 intro i hi x
 match i,hi with
 | 0,_=>exact h x
 | 1,_=>exact h2 x
theorem ex3 (p q r:jG)(w v u:Int)(h:∀x,jR (some p) x=YD w x)(h2:∀x,jR (some q) x=YD v x)(h3:∀x,jR (some r) x=YD u x):∀i,i < [w,v,u].length→∀x,jR [p,q,r][i]? x=YD ([w,v,u].getD i 0) x:=by
 intro i hi x
 match i,hi with
 | 0,_=>exact h x
 | 1,_=>exact h2 x
 | 2,_=>exact h3 x
theorem ex4 (p q r s:jG)(w v u t:Int)(h:∀x,jR (some p) x=YD w x)(h2:∀x,jR (some q) x=YD v x)(h3:∀x,jR (some r) x=YD u x)(h4:∀x,jR (some s) x=YD t x):∀i,i < [w,v,u,t].length→∀x,jR [p,q,r,s][i]? x=YD ([w,v,u,t].getD i 0) x:=by
 intro i hi x
 match i,hi with
 | 0,_=>exact h x
 | 1,_=>exact h2 x
 | 2,_=>exact h3 x
 | 3,_=>exact h4 x
theorem ex0:∀i,i<([]:List Int).length→∀x,jR ([]:List jG)[i]? x=YD (([]:List Int).getD i 0) x:=by
 intro i hi
 simp at hi
theorem zDY (l:List Int):isR l []=(l.length==0):=by
 cases l <;> simp[isR]
theorem zQI (kind num:Int)(text:List UInt8)(l:List Int):zBZ kind num text l=(decide (1≤kind)&&(decide (kind≤26)&&(vL kind num text&&vY kind l))):=by
 by_cases hk:1≤kind∧kind≤26
 ·rw[yP hk.1,yP hk.2,Bool.true_and,Bool.true_and]
  have hc:kind=1∨kind=2∨kind=3∨kind=4∨kind=5∨kind=6∨kind=7∨kind=8∨kind=9∨kind=10∨kind=11∨kind=12∨kind=13∨kind=14∨kind=15∨kind=16∨kind=17∨kind=18∨kind=19∨kind=20∨kind=21∨kind=22∨kind=23∨kind=24∨kind=25∨kind=26:=by omega
  rcases hc with rfl | rfl | rfl | rfl | rfl | rfl | rfl | rfl | rfl | rfl | rfl | rfl | rfl | rfl | rfl | rfl | rfl | rfl | rfl | rfl | rfl | rfl | rfl | rfl | rfl | rfl
  ·exact jD _ _ _ _ _ _ _ _ rfl rfl rfl (zEY _ _ _ _)
  ·refine jD _ _ _ _ _ _ _ _ rfl rfl rfl ((zO9 _ _ _ _ _).trans ?_)
   show _=(decide (0<l.length)&&zAP l 0 5)
   cases l <;> rfl
  ·exact jD _ _ _ _ _ _ _ _ rfl rfl rfl (vK _ _ _ _ rfl (ex2 _ _ _ _ (ZP 4 (by decide)) (ZP 6 (by decide))) l)
  ·exact jD _ _ _ _ _ _ _ _ rfl rfl rfl (zEY _ _ _ _)
  ·exact jD _ _ _ _ _ _ _ _ rfl rfl rfl ((vK [] [] _ _ rfl ex0 l).trans (zDY l))
  ·exact jD _ _ _ _ _ _ _ _ rfl rfl rfl (zEY _ _ _ _)
  ·exact jD _ _ _ _ _ _ _ _ rfl rfl rfl (vK _ _ _ _ rfl (ex2 _ _ _ _ (ZP 20 (by decide)) (ZP 5 (by decide))) l)
  ·exact jD _ _ _ _ _ _ _ _ rfl rfl rfl (vK _ _ _ _ rfl (ex3 _ _ _ _ _ _ (ZP 20 (by decide)) (ZP 5 (by decide)) YM) l)
  ·refine jD _ _ _ _ _ _ _ _ rfl rfl rfl ((zMd _ _ _ _ _ _).trans ?_)
   show _=(decide (1<l.length)&&(l.getD 0 0==20&&zAP l 1 0))
   match l with
   | []=>rfl
   | [x]=>rfl
   | x::y::l=>rfl
  ·exact jD _ _ _ _ _ _ _ _ rfl rfl rfl (vK _ _ _ _ rfl (ex1 _ _ (ZP 20 (by decide))) l)
  ·exact jD _ _ _ _ _ _ _ _ rfl rfl rfl (vK _ _ _ _ rfl (ex2 _ _ _ _ (ZP 5 (by decide)) (ZP 5 (by decide))) l)
  ·exact jD _ _ _ _ _ _ _ _ rfl rfl rfl (vK _ _ _ _ rfl (ex1 _ _ (ZP 5 (by decide))) l)
  ·refine zKZ _ _ _ _ _ _ _ rfl rfl rfl ?_;rw[vK _ [5] _ _ rfl (ex1 _ _ (ZP 5 (by decide))) l,vK _ [20] _ _ rfl (ex1 _ _ (ZP 20 (by decide))) l]
   rfl
  ·refine zKZ _ _ _ _ _ _ _ rfl rfl rfl ?_;rw[vK _ [0,0,6] _ _ rfl (ex3 _ _ _ _ _ _ YM YM (ZP 6 (by decide))) l,vK _ [0,0,6,6] _ _ rfl (ex4 _ _ _ _ _ _ _ _ YM YM (ZP 6 (by decide)) (ZP 6 (by decide))) l]
   rfl
  ·exact jD _ _ _ _ _ _ _ _ rfl rfl rfl (vK _ _ _ _ rfl (ex3 _ _ _ _ _ _ (ZP 21 (by decide)) (ZP 21 (by decide)) (ZP 6 (by decide))) l)
  ·exact jD _ _ _ _ _ _ _ _ rfl rfl rfl (vK _ _ _ _ rfl (ex1 _ _ YM) l)
  ·exact jD _ _ _ _ _ _ _ _ rfl rfl rfl (vK _ _ _ _ rfl (ex1 _ _ YM) l)
  ·exact jD _ _ _ _ _ _ _ _ rfl rfl rfl ((vK [] [] _ _ rfl ex0 l).trans (zDY l))
  ·exact jD _ _ _ _ _ _ _ _ rfl rfl rfl ((vK [] [] _ _ rfl ex0 l).trans (zDY l))
  ·exact jD _ _ _ _ _ _ _ _ rfl rfl rfl (vK _ _ _ _ rfl (ex1 _ _ YM) l)
  ·exact jD _ _ _ _ _ _ _ _ rfl rfl rfl ((vK [] [] _ _ rfl ex0 l).trans (zDY l))
  ·exact jD _ _ _ _ _ _ _ _ rfl rfl rfl ((vK [] [] _ _ rfl ex0 l).trans (zDY l))
  ·exact jD _ _ _ _ _ _ _ _ rfl rfl rfl (vK _ _ _ _ rfl (ex2 _ _ _ _ YM YM) l)
  ·exact jD _ _ _ _ _ _ _ _ rfl rfl rfl (vK _ _ _ _ rfl (ex2 _ _ _ _ YM YM) l)
  ·exact jD _ _ _ _ _ _ _ _ rfl rfl rfl (vK _ _ _ _ rfl (ex2 _ _ _ _ YM YM) l)
  ·exact jD _ _ _ _ _ _ _ _ rfl rfl rfl (vK _ _ _ _ rfl (ex1 _ _ YM) l)
 ·have h0:VU kind=[]:=by
   unfold VU
   repeat (rw[if_neg (by omega)])
  have h1:(decide (1≤kind)&&(decide (kind≤26)&&(vL kind num text&&vY kind l)))=false:=by
   by_cases h1:1≤kind
   ·rw[yO (show ¬kind≤26 from by omega)]
    simp
   ·rw[yO h1]
    simp
  rw[h1];unfold zBZ;rw[h0]
  rfl
end Go.Proofs.YtioffpjajhalaaaGreatDoor.TT
