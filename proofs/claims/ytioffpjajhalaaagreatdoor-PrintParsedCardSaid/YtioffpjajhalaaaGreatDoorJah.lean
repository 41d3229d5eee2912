/- Names, told by the program and by the document. (and what follows of it). The conditions stand at each lemma. -/
import Derived.Test.YtioffpjajhalaaaGreatDoorJaa
import Derived.Test.YtioffpjajhalaaaGreatDoorJaf
import Derived.Lib.Bytealg
import Derived.Deep.LoopGhost
import Derived.RegionTactic
import Derived.Laws.Externs
import Derived.Laws.IdiomStrings
import Derived.Test.YtioffpjajhalaaaGreatDoorJag
set_option linter.unusedVariables false
set_option linter.unusedSimpArgs false
set_option maxRecDepth 100000
set_option maxHeartbeats 16000000
namespace Go.Proofs.YtioffpjajhalaaaGreatDoor.TT
open Go Go.RowKit
def zMm (s:ByteArray)(c:Int):Int:=Lib.indexByte s.data.toList c.toNat.toUInt8
theorem zTQ (s:ByteArray)(c:Int)(w:World):(callFunc 158 #[.string s,.int .u8 c]).run Tryz.prog w=.ok (.value (.int .i64 (zMm s c))) w:=by
 rw[run_callFunc_extern Tryz.func158 (by kernel_rfl) (by kernel_rfl) (by kernel_rfl) (e:=Extern.BytealgIndexByte.indexByte) (by kernel_rfl),Lib.run_indexByteString]
 rfl
theorem zJC (s:ByteArray)(c:Int)(w:World):Calls Tryz.prog 114 #[.string s,.int .u8 c] w fun e w'=>e=.returned (.int .i64 (zMm s c))∧w'=w:=by
 have he:=zTQ
 go_enter Tryz.func114,Tryz.ntmps114
 go_wp2
 go_ret;exact⟨rfl,rfl⟩
theorem zKe (s:ByteArray)(c:Int)(w:World):Calls Tryz.prog 70 #[.string s,.int .u8 c] w fun e w'=>e=.returned (.int .i64 (zMm s c))∧w'=w:=by
 go_enter Tryz.func70,Tryz.ntmps70
 go_wp2_with (refine(zJC _ _ _).mono ?_; rintro e w' ⟨rfl,rfl⟩)
 go_ret;exact⟨rfl,rfl⟩
theorem zD7 (s:ByteArray)(c v:Int)(h:Hid (zMm s c=v))(w:World):Calls Tryz.prog 70 #[.string s,.int .u8 c] w fun e w'=>e=.returned (.int .i64 v)∧w'=w:=by
 rw[←h.out];exact zKe s c w
def VT (l:List UInt8):List Value:=l.map fun b=>Value.int .u8 (b.toNat:Int)
theorem zCu (l:List UInt8):(VT l).length=l.length:=by simp[VT]
theorem zGr (l:List UInt8)(k:Nat)(h:k<l.length):(VT l)[k]?=some (.int .u8 (l[k].toNat:Int)):=by simp[VT,h]
def scan (p:UInt8→Bool)(l:List UInt8):Nat:=(l.takeWhile p).length
theorem zSo {p:UInt8→Bool}{l:List UInt8}{k:Nat}(hk:k<l.length)(h:p l[k]=true):scan p (l.drop k)=scan p (l.drop (k+1))+1:=by
 unfold scan;rw[List.drop_eq_getElem_cons hk,List.takeWhile_cons,if_pos h]
 rfl
theorem zUw {p:UInt8→Bool}{l:List UInt8}{k:Nat}(hk:k<l.length)(h:p l[k]=false):scan p (l.drop k)=0:=by
 unfold scan;rw[List.drop_eq_getElem_cons hk,List.takeWhile_cons,if_neg (by rw[h]; exact Bool.false_ne_true)]
 rfl
theorem zN1 (p:UInt8→Bool)(l:List UInt8):scan p (l.drop l.length)=0:=by simp[scan]
theorem zUO {w:World}{g b off n c at_:Nat}{A:Option Addr}{l:List UInt8}(hg:Blk w g 65 #[.slice A n c,.int .i64 at_])(k:Nat)(hk:k<l.length)(hs:Cells w (some ⟨b,off,none⟩) (VT l)):b≠g:=by
 rintro rfl;obtain⟨b',AA,hA,_,hc⟩:=hs.at_ (by rw[zCu]; omega);injection hA with hA;injection hA with h1 h2;subst h1 h2;have h0:=(hc k (by rw[zCu]; exact hk)).trans (zGr l k hk);rw[hg.cell] at h0
 match h:off+k with
 | 0=>rw[h] at h0; simp at h0
 | 1=>rw[h] at h0; simp at h0
 | n+2=>rw[h] at h0; simp at h0
theorem YW {g:Nat}{a b c:World}(h:Touch g a b)(k:Touch g b c):Touch g a c:=
 ⟨k.os.trans h.os,k.tape.trans h.tape,k.output.trans h.output,k.size.trans h.size,fun i hi=>(k.other i hi).trans (h.other i hi)⟩
theorem zIW (g:Nat)(a:World):Touch g a a:=⟨rfl,rfl,rfl,rfl,fun _ _=>rfl⟩
theorem JZ (g:Nat)(a:World)(n:Nat):Touch g a (a.drewN n):=by
 induction n with
 | zero=>exact zIW g a
 | succ n ih=>exact YW ih ⟨rfl,rfl,rfl,rfl,fun _ _=>rfl⟩
theorem zQy {g i:Nat}(a:World)(u:Value):Touch g a (a.setCell ⟨g,i,none⟩ u):=⟨rfl,rfl,rfl,by simp[World.setCell],fun k hk=>zQ a _ u k hk⟩
theorem zCv {w:World}{g:Nat}{t:TypeId}{cs:Array Value}(h:Blk w g t cs)(n:Nat):Blk (w.drewN n) g t cs:=by
 induction n with
 | zero=>exact h
 | succ n ih=>exact ih
def zAq (set:ByteArray)(p:UInt8→Bool):Prop:=∀c:UInt8,((0≤zMm set (c.toNat:Int))↔p c=true)
theorem zJt {w w':World}{g b off n c at_:Nat}{A:Option Addr}{l:List UInt8}(hg:Blk w g 65 #[.slice A n c,.int .i64 at_])(hs:Cells w (some ⟨b,off,none⟩) (VT l))(ht:Touch g w w')(k:Nat)(hk:k<l.length) :
  w'.cell? ⟨b,off+k,none⟩=some (.int .u8 (l[k].toNat:Int)):=by
 have AB:b≠g:=zUO hg k hk hs;obtain⟨b',AC,hA,_,AA⟩:=(ht.cells hs (by rintro _ _ ⟨⟩; exact AB)).at_ (by rw[zCu]; omega);injection hA with hA;injection hA with h1 h2;subst h1 h2;exact(AA k (by rw[zCu]; exact hk)).trans (zGr l k hk)
theorem zMV {w w':World}{g b off n c at_:Nat}{A:Option Addr}{l:List UInt8}(hg:Blk w g 65 #[.slice A n c,.int .i64 at_])(hs:Cells w (some ⟨b,off,none⟩) (VT l))(ht:Touch g w w')(i k cap:Nat)(hik:i≤k)(hk:k≤l.length) :
  (convert 22 9 (.slice (some ⟨b,off+i,none⟩) (k-i) cap)).run Tryz.prog w'=.ok (.string ⟨((l.drop i).take (k-i)).toArray⟩) w':=by
 have h:=run_convert_bytes_back (P:=Tryz.prog) w' 22 9 5 ⟨b,off+i,none⟩ cap ((l.drop i).take (k-i)) Tryz.underlying22 Tryz.underlying5 Tryz.underlying9 (fun j hj=>by
  have AA:j<k-i:=by simp at hj; omega
  have:=zJt hg hs ht (i+j) (by omega)
  unfold Addr.add
  by_cases h0:j=0
  ·subst h0; simpa using this
  ·simp only[h0,if_false]; rw[Nat.add_assoc,this]; simp)
 have hl:((l.drop i).take (k-i)).length=k-i:=by simp; omega
 rw[hl] at h;exact h
theorem zEU (set:ByteArray)(p:UInt8→Bool)(hp:zAq set p)(g b off n c at_:Nat)(l:List UInt8)(w:World)(hn:n=l.length)(hc:n≤c)(hlen:l.length≤4611686018427387904)(hat:at_≤l.length)
  (hg:Blk w g 65 #[.slice (some ⟨b,off,none⟩) n c,.int .i64 at_]) (hs:Cells w (some ⟨b,off,none⟩) (VT l)) :
  Calls Tryz.prog 67 #[.pointer (some ⟨g,0,none⟩),.string set] w fun e w'=>e=.returned (.string ⟨((l.drop at_).take (scan p (l.drop at_))).toArray⟩)∧Touch g w w'∧Blk w' g 65 #[.slice (some ⟨b,off,none⟩) n c,.int .i64 ((at_+scan p (l.drop at_):Nat):Int)]:=by
 subst hn;have HP:=yD hp;have HS:=yD hs;have HG:=yD hg;have x0:=hg.cell 0;have x1:=hg.cell 1;clear hp hs hg
 go_enter Tryz.func67,Tryz.ntmps67
 go_wp2_with fail
 clear x0 x1
 go_loopg [] (l.length-at_) (fun m wr=>∃k:Nat,at_≤k∧k≤l.length∧m=l.length-k∧Hid (k+scan p (l.drop k)=at_+scan p (l.drop at_))∧Hid (Touch g w wr)∧Hid (Blk wr g 65 #[.slice (some ⟨b,off,none⟩) l.length c,.int .i64 k]))
 case atStart=>exact⟨at_,zU _,hat,rfl,yD rfl,yD (zIW _ _),HG⟩
 case round=>
  obtain⟨k,AI,hk,hm,HK,HT,HB⟩:=hrel;have HM:=yD hm;clear hm;have x0:=HB.out.cell 0;have x1:=HB.out.cell 1;have y0:=HB.out.frozen 1
  by_cases AG:k<l.length
  ·have d0:decide ((k:Int)<(l.length:Int))=true:=yP (by omega);have AE:wr.cell? ⟨b,off+k,none⟩=some (.int .u8 (l[k].toNat:Int)):=zJt HG.out HS.out HT.out k AG;obtain⟨v,HV⟩:∃v,Hid (zMm set (l[k].toNat:Int)=v):=⟨_,yD rfl⟩
   have q0:(k:Int)<(l.length:Int):=by omega
   by_cases AD:p l[k]=true
   ·have AF:0≤v:=by rw[←HV.out]; exact(HP.out _).2 AD
    have d1:decide (0≤v)=true:=yP AF;have AJ:Hid (k+1+scan p (l.drop (k+1))=at_+scan p (l.drop at_)):=yD (by rw[←HK.out,zSo AG AD]; omega);have HQ:=yD AD;clear AD
    go_wp2_with fail
    go_quiet ((go_at_call 70; exact Calls.quiet_of_same (zD7 set _ v HV _)))
    rename_i nq;have AB:Hid (Touch g w (wr.drewN nq)):=yD (YW HT.out (JZ g wr nq));have AA:=yD (zCv HB.out nq);clear HT HB x0 x1 y0 AE;generalize wr.drewN nq=wd at *;have x0:=AA.out.cell 0;have x1:=AA.out.cell 1;have y0:=AA.out.frozen 1
    go_wp2_with fail
    go_roundg (l.length-(k+1))
    case measure=>have:=HM.out; omega
    case rel=>
     exact⟨k+1,by omega,by omega,rfl,AJ,yD (YW AB.out (zQy _ _)),yD (AA.out.put 1 _)⟩
   ·have AF:v<0:=by
     have:=(HP.out l[k])
     rw[HV.out] at this
     by_cases h:0≤v
     ·exact absurd (this.1 h) AD
     ·omega
    have d1:decide (0≤v)=false:=yO (by omega);have HE:Hid (k=at_+scan p (l.drop at_)):=yD (by rw[←HK.out]; rw[zUw AG (by simpa using AD)]; rfl);have HR:Hid (((l.drop at_).take (k-at_)).toArray=((l.drop at_).take (scan p (l.drop at_))).toArray):=yD (by rw[show k-at_=scan p (l.drop at_) from by have:=HE.out; omega])
    have hw:IntKind.i64.wrap ((k:Int)-(at_:Int))=(k:Int)-(at_:Int):=by rw[IntKind.wrap_i64]; omega
    clear AD AF
    go_wp2_with fail
    go_quiet ((go_at_call 70; exact Calls.quiet_of_same (zD7 set _ v HV _)))
    rename_i nq;have AB:Hid (Touch g w (wr.drewN nq)):=yD (YW HT.out (JZ g wr nq));have AA:=yD (zCv HB.out nq);clear HT HB x0 x1 y0;generalize wr.drewN nq=wd at *;have x0:=AA.out.cell 0;have x1:=AA.out.cell 1;have AC:∀q,(convert 22 9 (.slice (some ⟨b,off+at_,none⟩) (k-at_) (c-at_))).run Tryz.prog (wd.drewN q)=.ok (.string ⟨((l.drop at_).take (k-at_)).toArray⟩) (wd.drewN q):=fun q=>zMV HG.out HS.out (YW AB.out (JZ g wd q)) at_ k (c-at_) AI hk
    go_wp2_with fail
    go_quiet (fail)
    go_wp2_with fail
    go_ret;have AH:=HE.out;refine⟨by rw[←HR.out]; rfl,YW AB.out (JZ g wd _),?_⟩;rw[←AH];exact zCv AA.out _
  ·obtain rfl:k=l.length:=by omega
   have d0:decide ((l.length:Int)<(l.length:Int))=false:=by simp
   by_cases AK:at_<c
   ·have HE:Hid (l.length=at_+scan p (l.drop at_)):=yD (by rw[←HK.out,zN1]; rfl);have HR:Hid (((l.drop at_).take (l.length-at_)).toArray=((l.drop at_).take (scan p (l.drop at_))).toArray):=yD (by rw[show l.length-at_=scan p (l.drop at_) from by have:=HE.out; omega])
    have hw:IntKind.i64.wrap ((l.length:Int)-(at_:Int))=(l.length:Int)-(at_:Int):=by rw[IntKind.wrap_i64]; omega
    go_wp2_with fail
    go_quiet (fail)
    rename_i nq;have AB:Hid (Touch g w (wr.drewN nq)):=yD (YW HT.out (JZ g wr nq));have AA:=yD (zCv HB.out nq);clear HT HB x0 x1 y0;generalize wr.drewN nq=wd at *;have x0:=AA.out.cell 0;have x1:=AA.out.cell 1;have AC:∀q,(convert 22 9 (.slice (some ⟨b,off+at_,none⟩) (l.length-at_) (c-at_))).run Tryz.prog (wd.drewN q)=.ok (.string ⟨((l.drop at_).take (l.length-at_)).toArray⟩) (wd.drewN q):=fun q=>zMV HG.out HS.out (YW AB.out (JZ g wd q)) at_ l.length (c-at_) AI hk
    go_wp2_with fail
    go_quiet (fail)
    go_wp2_with fail
    go_ret;have AH:=HE.out;refine⟨by rw[←HR.out]; rfl,YW AB.out (JZ g wd _),?_⟩;rw[←AH];exact zCv AA.out _
   ·obtain rfl:at_=l.length:=by omega
    obtain rfl:c=l.length:=by omega
    have HZ:Hid (scan p (l.drop l.length)=0):=yD (zN1 p l)
    have hw:IntKind.i64.wrap ((l.length:Int)-(l.length:Int))=(l.length:Int)-(l.length:Int):=by rw[IntKind.wrap_i64]; omega
    have AC:∀W,(convert 22 9 (.slice (some ⟨b,off,none⟩) 0 0)).run Tryz.prog W=.ok (.string ⟨#[]⟩) W:=fun W=>run_convert_bytes_back (P:=Tryz.prog) W 22 9 5 ⟨b,off,none⟩ 0 [] Tryz.underlying22 Tryz.underlying5 Tryz.underlying9 (fun j hj=>by simp at hj)
    go_wp2_with fail
    go_quiet (fail)
    rename_i nq;have AB:Hid (Touch g w (wr.drewN nq)):=yD (YW HT.out (JZ g wr nq));have AA:=yD (zCv HB.out nq);clear HT HB x0 x1 y0;generalize wr.drewN nq=wd at *;have x0:=AA.out.cell 0;have x1:=AA.out.cell 1
    go_wp2_with fail
    go_quiet (fail)
    go_wp2_with fail
    go_ret;refine⟨by rw[HZ.out]; rfl,YW AB.out (JZ g wd _),?_⟩;rw[HZ.out];exact zCv AA.out _
def zSZ:ByteArray:=⟨#[97,98,99,100,101,102,103,104,105,106,107,108,109,110,111,112,113,114,115,116,117,118,119,120,121,122]⟩
def zVt:ByteArray:=⟨#[97,98,99,100,101,102,103,104,105,106,107,108,109,110,111,112,113,114,115,116,117,118,119,120,121,122,48,49,50,51,52,53,54,55,56,57,95]⟩
theorem zNV (set:ByteArray)(p:UInt8→Bool)(h:((List.range 256).all fun n=>decide (0≤zMm set (n:Int))==p (UInt8.ofNat n))=true):zAq set p:=by
 intro c;have h1:=List.all_eq_true.1 h c.toNat (List.mem_range.2 c.toNat_lt);rw[UInt8.ofNat_toNat] at h1;rw[zN] at h1;rw[←h1]
 simp
def zWM (c:UInt8):Bool:=jJ (c.toNat:Int)
def zHt (c:UInt8):Bool:=JA (c.toNat:Int)
theorem zKZ:zAq zSZ zWM:=zNV _ _ (by decide +kernel)
theorem zPa:zAq zVt zHt:=zNV _ _ (by decide +kernel)
theorem zTb (s:ByteArray)(w:World):∃c w',(convert 9 22 (.string s)).run Tryz.prog w=.ok (.slice (some ⟨w.heap.size,0,none⟩) s.size c) w'∧Ext w w'∧Cells w' (some ⟨w.heap.size,0,none⟩) (VT s.data.toList)∧s.size≤c∧w'.heap.size=w.heap.size+1:=by
 refine⟨_,_,run_bytes_of_string w 9 22 5 s Tryz.underlying9 Tryz.underlying22 Tryz.underlying5,Ext.trans (Below.drew (Below.refl _ _)) (Ext.alloc _ _),?_,grownCap_ge w s.size 0 5,by simp⟩
 by_cases h0:s.data.toList=[]
 ·left; rw[h0]; rfl
 ·right
  refine⟨_,0,rfl,by simp,fun k hk=>?_⟩;rw[zCu] at hk
  have AA:k<s.data.size:=by simpa using hk
  rw[Nat.zero_add];refine(cell_of_row (w.drew.alloc (.cells (bytesRow s (grownCap w s.size 0 5)) 5 ((bytesRow s (grownCap w s.size 0 5)).size,(bytesRow s (grownCap w s.size 0 5)).size+1))) w.drew.heap.size k _ _ _ (zO w.drew _)).trans ?_;rw[bytesRow_at s _ k AA,zGr _ k hk]
  simp
theorem zHx (s:ByteArray)(c v:Int)(h:Hid (zMm s c=v))(w:World):Calls Tryz.prog 70 #[.string s,.int .u8 c] w fun e w'=>e=.returned (.int .i64 v)∧w=w':=
 (zD7 s c v h w).mono fun e w' h=>⟨h.1,h.2.symm⟩
theorem zSQ (p:UInt8→Bool)(l:List UInt8)(h:l.all p=true):scan p l=l.length:=by
 induction l with
 | nil=>rfl
 | cons a l ih=>
  unfold scan at *;rw[List.all_cons,zF] at h;rw[List.takeWhile_cons,if_pos h.1,zJ,zJ,ih h.2]
theorem zTg (p:UInt8→Bool)(l:List UInt8)(h:l.all p=false):scan p l<l.length:=by
 induction l with
 | nil=>cases h
 | cons a l ih=>
  unfold scan at *;rw[List.takeWhile_cons];rw[List.all_cons] at h
  cases hp:p a with
  | true=>rw[hp,Bool.true_and] at h; rw[if_pos rfl,zJ,zJ]; have:=ih h; omega
  | false=>rw[if_neg (by decide)]; simp
theorem zOW (s:ByteArray)(w:World)(hs:s.size≤9000):Calls Tryz.prog 95 #[.string s] w fun e w'=>e=.returned (.bool (VB s.data.toList))∧Ext w w':=by
 have AC:zSZ=⟨#[97,98,99,100,101,102,103,104,105,106,107,108,109,110,111,112,113,114,115,116,117,118,119,120,121,122]⟩:=rfl
 by_cases h0:s.data.toList=[]
 ·have HR:Hid (VB s.data.toList=false):=yD (by rw[h0]; rfl)
  have e1:s.toList=[]:=by rw[ByteArray.toList_eq]; exact h0
  go_enter Tryz.func95,Tryz.ntmps95
  go_wp2_with fail
  go_ret;exact⟨vR HR.out.symm,Ext.refl _⟩
 ·have hp:0<s.size:=by
   rw[Lib.size_eq];exact List.length_pos_iff.2 h0
  have e1:¬s.toList=[]:=by rw[ByteArray.toList_eq]; exact h0
  have e2:s.toList.isEmpty=false:=by simpa using e1
  have H0:=yD h0;clear h0;clear AC
  have hz:s.data.toList=s[0]::s.data.toList.tail:=by
   have h1:s.data.toList.head?=some s[0]:=by
    rw[List.head?_eq_getElem?];simp[ByteArray.getElem_eq_getElem_data]
   cases hl:s.data.toList with
   | nil=>exact absurd hl H0.out
   | cons a r=>rw[hl] at h1; simp at h1; rw[h1]; rfl
  have AA:Hid (VB s.data.toList=(jJ (s[0].toNat:Int)&&s.data.toList.tail.all zHt)):=yD (by rw[hz]; rfl);obtain⟨v,HV⟩:∃v,Hid (zMm zSZ (s[0].toNat:Int)=v):=⟨_,yD rfl⟩
  cases hl:jJ (s[0].toNat:Int) with
  | false=>
   have AF:v<0:=by
    have:=zKZ s[0]
    rw[HV.out] at this;unfold zWM at this;rw[hl] at this
    by_cases h:0≤v
    ·exact absurd (this.1 h) (by decide)
    ·omega
   have d1:decide (v<0)=true:=yP AF;have HR:Hid (VB s.data.toList=false):=yD (by rw[AA.out,hl]; rfl);clear hl hz
   go_enter Tryz.func95,Tryz.ntmps95
   go_wp2_with (refine(zHx zSZ _ v HV w).mono ?_; rintro e w' ⟨rfl,rfl⟩)
   go_ret;exact⟨vR HR.out.symm,Ext.refl _⟩
  | true=>
   have AF:0≤v:=by rw[←HV.out]; exact(zKZ s[0]).2 hl
   have d1:decide (v<0)=false:=yO (by omega);obtain⟨c,w1,AG,AH,AD,AP,AE⟩:=zTb s w;have AM:=yD AH;have AO:=yD AD;have AR:=yD AE;have HL:=yD hl;have HZ:=yD hz;have AK:=Blk.new w1 65 #[.slice (some ⟨w.heap.size,0,none⟩) s.size c,.int .i64 0];have AL:=Ext.alloc w1 (.cells #[.slice (some ⟨w.heap.size,0,none⟩) s.size c,.int .i64 0] 65);have AQ:=yD AK;have AJ:=yD AL;clear AH AD AE hl AK AL hz
   go_enter Tryz.func95,Tryz.ntmps95
   go_wp2_with (refine(zHx zSZ _ v HV w).mono ?_; rintro e w' ⟨rfl,rfl⟩)
   refine(zEU zVt zHt zPa w1.heap.size w.heap.size 0 s.size c 0 s.data.toList _ (by rw[Lib.size_eq]) AP (by rw[←Lib.size_eq]; omega) (zT _) AQ.out (AO.out.ext AJ.out)).mono ?_;rintro e w2 ⟨rfl,ht,-⟩;have AI:Hid (Ext w w2):=yD (ht.ext (AM.out.trans AJ.out) (by have:=AR.out; omega));clear ht;obtain⟨xs,AB⟩:∃xs:ByteArray,Hid ((⟨((s.data.toList.drop 0).take (scan zHt (s.data.toList.drop 0))).toArray⟩:ByteArray)=xs):=⟨_,yD rfl⟩;rw[AB.out]
   cases hal:s.data.toList.tail.all zHt with
   | true=>
    have HR:Hid (VB s.data.toList=true):=yD (by rw[AA.out,HL.out,hal]; rfl)
    have AN:xs=s:=by
     rw[←AB.out,List.drop_zero,zSQ zHt _ (by rw[HZ.out,List.all_cons,hal,Bool.and_true]; unfold zHt JA; rw[HL.out]; rfl),List.take_length]
    subst AN
    go_wp2_with fail
    go_ret;exact⟨vR HR.out.symm,AI.out⟩
   | false=>
    have HR:Hid (VB s.data.toList=false):=yD (by rw[AA.out,HL.out,hal]; rfl)
    have AS:(xs.toList==s.toList)=false:=by
     rw[yF];intro h;have h2:=congrArg List.length h;rw[←AB.out,ByteArray.toList_eq,ByteArray.toList_eq] at h2;have h3:=zTg zHt s.data.toList (by rw[HZ.out,List.all_cons,hal,Bool.and_false])
     simp at h2 h3
     omega
    go_wp2_with fail
    go_ret;exact⟨vR HR.out.symm,AI.out⟩
theorem VQ (f:jV)(cs:List Value)(L:Option Addr)(ls:List Int)(n lc:Nat)(w:World)(hn:n=ls.length)(hf:zC6 w f cs)(hl:Cells w L (xO ls))(hlen:ls.length≤9000)(b:Bool)(hb:f.fits ls=b) :
  Calls Tryz.prog 94 #[.agg (Array.mk cs),.slice L n lc] w fun e w'=>e=.returned (.bool b)∧Ext w w':=by
 subst hb;exact zQO f cs L ls n lc w hn hf hl hlen
theorem zGj (s:ByteArray)(w:World)(hs:s.size≤9000)(b:Bool)(hb:VB s.data.toList=b):Calls Tryz.prog 95 #[.string s] w fun e w'=>e=.returned (.bool b)∧Ext w w':=by
 subst hb;exact zOW s w hs
theorem zRy (f:jV)(cs:List Value)(L:Option Addr)(ls:List Int)(n lc gk gn:Nat)(x:xC)(w:World)(hn:n=ls.length)(hf:zC6 w f cs)(hl:Cells w L (xO ls))(hlen:ls.length≤9000)(hx:x.text.size≤9000)
  (hgk:Blk w gk 22 #[.slice L n lc]) (hgn:Blk w gn 48 (Array.mk x.cells)) :
  Calls Tryz.prog 93 #[.agg (Array.mk cs),.pointer (some ⟨gk,0,none⟩),.pointer (some ⟨gn,0,none⟩)] w fun e w'=>e=.returned (.bool (XK f x.num x.text.data.toList ls))∧Ext w w':=by
 subst hn;obtain⟨kind,pos,text,num,kA,kc,Aa⟩:=x;obtain⟨ks,mv,rfl,AX,AV⟩:=hf;have AS:zC6 w f [ks,mv,.bool f.named,.int .i64 f.most]:=⟨ks,mv,rfl,AX,AV⟩;obtain⟨KA,AI,rfl,-⟩:=AX.open_
 have hmf:mv=.nilFunc∨∃fm lm,mv=.func (.func fm) #[] lm:=by
  cases hm:f.more with
  | none=>rw[hm] at AV; exact .inl AV
  | some q=>rw[hm] at AV; obtain⟨fm,lm,h3,_⟩:=zBv.form AV; exact .inr ⟨fm,lm,h3⟩
 simp only at hx
 unfold xC.cells at hgn
 simp only at hgn
 have HF:=yD AS;have HL:=yD hl;have AN:=yD hgk;have AM:=yD hgn;clear AX AV AS hl hgk hgn;obtain⟨nm,AZ⟩:∃nm,Hid (f.named=nm):=⟨_,yD rfl⟩;obtain⟨mo,AY⟩:∃mo,Hid (f.most=mo):=⟨_,yD rfl⟩;have AT:Hid (XK f num text.data.toList ls=(f.fits ls&&(decide (0≤num)&&(decide (num≤mo)&&((nm&&VB text.data.toList)||(!nm&&text.data.toList.isEmpty)))))):=yD (by rw[←AZ.out,←AY.out]; rfl)
 show Calls Tryz.prog 93 #[.agg #[.slice KA f.kids.length AI,mv,.bool f.named,.int .i64 f.most],.pointer (some ⟨gk,0,none⟩),.pointer (some ⟨gn,0,none⟩)] w fun e w'=>e=.returned (.bool (XK f num text.data.toList ls))∧Ext w w'
 rw[AZ.out,AY.out] at HF ⊢;have HT:Hid (text.toList=text.data.toList):=yD (ByteArray.toList_eq _)
 cases hF:f.fits ls
 case false=>
  have HR:Hid (XK f num text.data.toList ls=false):=yD (by rw[AT.out]; rw[hF]; rfl);have hF:=yD hF
  rcases hmf with rfl | ⟨fm,lm,rfl⟩
  ·have AH:=Blk.new w 147 #[.slice KA f.kids.length AI,.nilFunc,.bool nm,.int .i64 mo];have AG:=Ext.alloc w (.cells #[.slice KA f.kids.length AI,.nilFunc,.bool nm,.int .i64 mo] 147);have AK:=yD AH;have AA:=yD AG;clear AH AG
   go_enter Tryz.func93,Tryz.ntmps93
   have c0:=(AN.out.ext AA.out).cell 0
   go_wp2_with fail
   refine(VQ f _ L ls _ lc _ rfl (HF.out.kept (Kept.ZZ AA.out)) (HL.out.ext AA.out) hlen false hF.out).mono ?_;rintro e w1 ⟨rfl,AB⟩;have AE:=AK.out.ext AB;have AF:=AM.out.ext (AA.out.trans AB);have AC:=yD AE;have AD:=yD AF;have AJ:Hid (Ext w w1):=yD (AA.out.trans AB);clear AB AE AF c0;generalize w.heap.size=ga at *;have b2:=AC.out.cell 2;have b3:=AC.out.cell 3;have n2:=AD.out.cell 2;have n3:=AD.out.cell 3
   go_wp2_with fail
   go_ret;exact⟨vR HR.out.symm,AJ.out⟩
  ·have AH:=Blk.new w 147 #[.slice KA f.kids.length AI,(.func (.func fm) #[] lm),.bool nm,.int .i64 mo];have AG:=Ext.alloc w (.cells #[.slice KA f.kids.length AI,(.func (.func fm) #[] lm),.bool nm,.int .i64 mo] 147);have AK:=yD AH;have AA:=yD AG;clear AH AG
   go_enter Tryz.func93,Tryz.ntmps93
   have c0:=(AN.out.ext AA.out).cell 0
   go_wp2_with fail
   refine(VQ f _ L ls _ lc _ rfl (HF.out.kept (Kept.ZZ AA.out)) (HL.out.ext AA.out) hlen false hF.out).mono ?_;rintro e w1 ⟨rfl,AB⟩;have AE:=AK.out.ext AB;have AF:=AM.out.ext (AA.out.trans AB);have AC:=yD AE;have AD:=yD AF;have AJ:Hid (Ext w w1):=yD (AA.out.trans AB);clear AB AE AF c0;generalize w.heap.size=ga at *;have b2:=AC.out.cell 2;have b3:=AC.out.cell 3;have n2:=AD.out.cell 2;have n3:=AD.out.cell 3
   go_wp2_with fail
   go_ret;exact⟨vR HR.out.symm,AJ.out⟩
 case true=>
  by_cases h1:0≤num
  case neg=>
   have d1:decide (0≤num)=false:=yO h1;have HR:Hid (XK f num text.data.toList ls=false):=yD (by rw[AT.out]; rw[hF,d1]; rfl);have hF:=yD hF
   rcases hmf with rfl | ⟨fm,lm,rfl⟩
   ·have AH:=Blk.new w 147 #[.slice KA f.kids.length AI,.nilFunc,.bool nm,.int .i64 mo];have AG:=Ext.alloc w (.cells #[.slice KA f.kids.length AI,.nilFunc,.bool nm,.int .i64 mo] 147);have AK:=yD AH;have AA:=yD AG;clear AH AG
    go_enter Tryz.func93,Tryz.ntmps93
    have c0:=(AN.out.ext AA.out).cell 0
    go_wp2_with fail
    refine(VQ f _ L ls _ lc _ rfl (HF.out.kept (Kept.ZZ AA.out)) (HL.out.ext AA.out) hlen true hF.out).mono ?_;rintro e w1 ⟨rfl,AB⟩;have AE:=AK.out.ext AB;have AF:=AM.out.ext (AA.out.trans AB);have AC:=yD AE;have AD:=yD AF;have AJ:Hid (Ext w w1):=yD (AA.out.trans AB);clear AB AE AF c0;generalize w.heap.size=ga at *;have b2:=AC.out.cell 2;have b3:=AC.out.cell 3;have n2:=AD.out.cell 2;have n3:=AD.out.cell 3
    go_wp2_with fail
    go_ret;exact⟨vR HR.out.symm,AJ.out⟩
   ·have AH:=Blk.new w 147 #[.slice KA f.kids.length AI,(.func (.func fm) #[] lm),.bool nm,.int .i64 mo];have AG:=Ext.alloc w (.cells #[.slice KA f.kids.length AI,(.func (.func fm) #[] lm),.bool nm,.int .i64 mo] 147);have AK:=yD AH;have AA:=yD AG;clear AH AG
    go_enter Tryz.func93,Tryz.ntmps93
    have c0:=(AN.out.ext AA.out).cell 0
    go_wp2_with fail
    refine(VQ f _ L ls _ lc _ rfl (HF.out.kept (Kept.ZZ AA.out)) (HL.out.ext AA.out) hlen true hF.out).mono ?_;rintro e w1 ⟨rfl,AB⟩;have AE:=AK.out.ext AB;have AF:=AM.out.ext (AA.out.trans AB);have AC:=yD AE;have AD:=yD AF;have AJ:Hid (Ext w w1):=yD (AA.out.trans AB);clear AB AE AF c0;generalize w.heap.size=ga at *;have b2:=AC.out.cell 2;have b3:=AC.out.cell 3;have n2:=AD.out.cell 2;have n3:=AD.out.cell 3
    go_wp2_with fail
    go_ret;exact⟨vR HR.out.symm,AJ.out⟩
  case pos=>
   have d1:decide (0≤num)=true:=yP h1
   by_cases h2:num≤mo
   case neg=>
    have d2:decide (num≤mo)=false:=yO h2;have HR:Hid (XK f num text.data.toList ls=false):=yD (by rw[AT.out]; rw[hF,d1,d2]; rfl);have hF:=yD hF
    rcases hmf with rfl | ⟨fm,lm,rfl⟩
    ·have AH:=Blk.new w 147 #[.slice KA f.kids.length AI,.nilFunc,.bool nm,.int .i64 mo];have AG:=Ext.alloc w (.cells #[.slice KA f.kids.length AI,.nilFunc,.bool nm,.int .i64 mo] 147);have AK:=yD AH;have AA:=yD AG;clear AH AG
     go_enter Tryz.func93,Tryz.ntmps93
     have c0:=(AN.out.ext AA.out).cell 0
     go_wp2_with fail
     refine(VQ f _ L ls _ lc _ rfl (HF.out.kept (Kept.ZZ AA.out)) (HL.out.ext AA.out) hlen true hF.out).mono ?_;rintro e w1 ⟨rfl,AB⟩;have AE:=AK.out.ext AB;have AF:=AM.out.ext (AA.out.trans AB);have AC:=yD AE;have AD:=yD AF;have AJ:Hid (Ext w w1):=yD (AA.out.trans AB);clear AB AE AF c0;generalize w.heap.size=ga at *;have b2:=AC.out.cell 2;have b3:=AC.out.cell 3;have n2:=AD.out.cell 2;have n3:=AD.out.cell 3
     go_wp2_with fail
     go_ret;exact⟨vR HR.out.symm,AJ.out⟩
    ·have AH:=Blk.new w 147 #[.slice KA f.kids.length AI,(.func (.func fm) #[] lm),.bool nm,.int .i64 mo];have AG:=Ext.alloc w (.cells #[.slice KA f.kids.length AI,(.func (.func fm) #[] lm),.bool nm,.int .i64 mo] 147);have AK:=yD AH;have AA:=yD AG;clear AH AG
     go_enter Tryz.func93,Tryz.ntmps93
     have c0:=(AN.out.ext AA.out).cell 0
     go_wp2_with fail
     refine(VQ f _ L ls _ lc _ rfl (HF.out.kept (Kept.ZZ AA.out)) (HL.out.ext AA.out) hlen true hF.out).mono ?_;rintro e w1 ⟨rfl,AB⟩;have AE:=AK.out.ext AB;have AF:=AM.out.ext (AA.out.trans AB);have AC:=yD AE;have AD:=yD AF;have AJ:Hid (Ext w w1):=yD (AA.out.trans AB);clear AB AE AF c0;generalize w.heap.size=ga at *;have b2:=AC.out.cell 2;have b3:=AC.out.cell 3;have n2:=AD.out.cell 2;have n3:=AD.out.cell 3
     go_wp2_with fail
     go_ret;exact⟨vR HR.out.symm,AJ.out⟩
   case pos=>
    have d2:decide (num≤mo)=true:=yP h2
    cases nm with
    | true=>
     cases hI:VB text.data.toList with
     | true=>
      have HR:Hid (XK f num text.data.toList ls=true):=yD (by rw[AT.out]; rw[hF,d1,d2,hI]; rfl);have hF:=yD hF;have hI:=yD hI
      rcases hmf with rfl | ⟨fm,lm,rfl⟩
      ·have AH:=Blk.new w 147 #[.slice KA f.kids.length AI,.nilFunc,.bool true,.int .i64 mo];have AG:=Ext.alloc w (.cells #[.slice KA f.kids.length AI,.nilFunc,.bool true,.int .i64 mo] 147);have AK:=yD AH;have AA:=yD AG;clear AH AG
       go_enter Tryz.func93,Tryz.ntmps93
       have c0:=(AN.out.ext AA.out).cell 0
       go_wp2_with fail
       refine(VQ f _ L ls _ lc _ rfl (HF.out.kept (Kept.ZZ AA.out)) (HL.out.ext AA.out) hlen true hF.out).mono ?_;rintro e w1 ⟨rfl,AB⟩;have AE:=AK.out.ext AB;have AF:=AM.out.ext (AA.out.trans AB);have AC:=yD AE;have AD:=yD AF;have AJ:Hid (Ext w w1):=yD (AA.out.trans AB);clear AB AE AF c0;generalize w.heap.size=ga at *;have b2:=AC.out.cell 2;have b3:=AC.out.cell 3;have n2:=AD.out.cell 2;have n3:=AD.out.cell 3
       go_wp2_with fail
       refine(zGj text _ hx true hI.out).mono ?_;rintro e w2 ⟨rfl,AL⟩;have AU:Hid (Ext w w2):=yD (AJ.out.trans AL);have AP:=AC.out.ext AL;have AQ:=AD.out.ext AL;have AR:=yD AP;have AO:=yD AQ;clear AL AP AQ b2 b3 n2 n3;have b2:=AR.out.cell 2;have b3:=AR.out.cell 3;have n2:=AO.out.cell 2;have n3:=AO.out.cell 3
       go_wp2_with fail
       go_ret;exact⟨vR HR.out.symm,AU.out⟩
      ·have AH:=Blk.new w 147 #[.slice KA f.kids.length AI,(.func (.func fm) #[] lm),.bool true,.int .i64 mo];have AG:=Ext.alloc w (.cells #[.slice KA f.kids.length AI,(.func (.func fm) #[] lm),.bool true,.int .i64 mo] 147);have AK:=yD AH;have AA:=yD AG;clear AH AG
       go_enter Tryz.func93,Tryz.ntmps93
       have c0:=(AN.out.ext AA.out).cell 0
       go_wp2_with fail
       refine(VQ f _ L ls _ lc _ rfl (HF.out.kept (Kept.ZZ AA.out)) (HL.out.ext AA.out) hlen true hF.out).mono ?_;rintro e w1 ⟨rfl,AB⟩;have AE:=AK.out.ext AB;have AF:=AM.out.ext (AA.out.trans AB);have AC:=yD AE;have AD:=yD AF;have AJ:Hid (Ext w w1):=yD (AA.out.trans AB);clear AB AE AF c0;generalize w.heap.size=ga at *;have b2:=AC.out.cell 2;have b3:=AC.out.cell 3;have n2:=AD.out.cell 2;have n3:=AD.out.cell 3
       go_wp2_with fail
       refine(zGj text _ hx true hI.out).mono ?_;rintro e w2 ⟨rfl,AL⟩;have AU:Hid (Ext w w2):=yD (AJ.out.trans AL);have AP:=AC.out.ext AL;have AQ:=AD.out.ext AL;have AR:=yD AP;have AO:=yD AQ;clear AL AP AQ b2 b3 n2 n3;have b2:=AR.out.cell 2;have b3:=AR.out.cell 3;have n2:=AO.out.cell 2;have n3:=AO.out.cell 3
       go_wp2_with fail
       go_ret;exact⟨vR HR.out.symm,AU.out⟩
     | false=>
      have HR:Hid (XK f num text.data.toList ls=false):=yD (by rw[AT.out]; rw[hF,d1,d2,hI]; rfl);have hF:=yD hF;have hI:=yD hI
      rcases hmf with rfl | ⟨fm,lm,rfl⟩
      ·have AH:=Blk.new w 147 #[.slice KA f.kids.length AI,.nilFunc,.bool true,.int .i64 mo];have AG:=Ext.alloc w (.cells #[.slice KA f.kids.length AI,.nilFunc,.bool true,.int .i64 mo] 147);have AK:=yD AH;have AA:=yD AG;clear AH AG
       go_enter Tryz.func93,Tryz.ntmps93
       have c0:=(AN.out.ext AA.out).cell 0
       go_wp2_with fail
       refine(VQ f _ L ls _ lc _ rfl (HF.out.kept (Kept.ZZ AA.out)) (HL.out.ext AA.out) hlen true hF.out).mono ?_;rintro e w1 ⟨rfl,AB⟩;have AE:=AK.out.ext AB;have AF:=AM.out.ext (AA.out.trans AB);have AC:=yD AE;have AD:=yD AF;have AJ:Hid (Ext w w1):=yD (AA.out.trans AB);clear AB AE AF c0;generalize w.heap.size=ga at *;have b2:=AC.out.cell 2;have b3:=AC.out.cell 3;have n2:=AD.out.cell 2;have n3:=AD.out.cell 3
       go_wp2_with fail
       refine(zGj text _ hx false hI.out).mono ?_;rintro e w2 ⟨rfl,AL⟩;have AU:Hid (Ext w w2):=yD (AJ.out.trans AL);have AP:=AC.out.ext AL;have AQ:=AD.out.ext AL;have AR:=yD AP;have AO:=yD AQ;clear AL AP AQ b2 b3 n2 n3;have b2:=AR.out.cell 2;have b3:=AR.out.cell 3;have n2:=AO.out.cell 2;have n3:=AO.out.cell 3
       go_wp2_with fail
       go_ret;exact⟨vR HR.out.symm,AU.out⟩
      ·have AH:=Blk.new w 147 #[.slice KA f.kids.length AI,(.func (.func fm) #[] lm),.bool true,.int .i64 mo];have AG:=Ext.alloc w (.cells #[.slice KA f.kids.length AI,(.func (.func fm) #[] lm),.bool true,.int .i64 mo] 147);have AK:=yD AH;have AA:=yD AG;clear AH AG
       go_enter Tryz.func93,Tryz.ntmps93
       have c0:=(AN.out.ext AA.out).cell 0
       go_wp2_with fail
       refine(VQ f _ L ls _ lc _ rfl (HF.out.kept (Kept.ZZ AA.out)) (HL.out.ext AA.out) hlen true hF.out).mono ?_;rintro e w1 ⟨rfl,AB⟩;have AE:=AK.out.ext AB;have AF:=AM.out.ext (AA.out.trans AB);have AC:=yD AE;have AD:=yD AF;have AJ:Hid (Ext w w1):=yD (AA.out.trans AB);clear AB AE AF c0;generalize w.heap.size=ga at *;have b2:=AC.out.cell 2;have b3:=AC.out.cell 3;have n2:=AD.out.cell 2;have n3:=AD.out.cell 3
       go_wp2_with fail
       refine(zGj text _ hx false hI.out).mono ?_;rintro e w2 ⟨rfl,AL⟩;have AU:Hid (Ext w w2):=yD (AJ.out.trans AL);have AP:=AC.out.ext AL;have AQ:=AD.out.ext AL;have AR:=yD AP;have AO:=yD AQ;clear AL AP AQ b2 b3 n2 n3;have b2:=AR.out.cell 2;have b3:=AR.out.cell 3;have n2:=AO.out.cell 2;have n3:=AO.out.cell 3
       go_wp2_with fail
       go_ret;exact⟨vR HR.out.symm,AU.out⟩
    | false=>
     by_cases h3:text.data.toList=[]
     case pos=>
      have AW:text.data.toList.isEmpty=true:=by rw[h3]; rfl
      have e3:text.toList=[]:=by rw[HT.out]; exact h3
      have HR:Hid (XK f num text.data.toList ls=true):=yD (by rw[AT.out]; rw[hF,d1,d2,AW]; rfl);have hF:=yD hF;have H3:=yD h3;clear h3 AW
      rcases hmf with rfl | ⟨fm,lm,rfl⟩
      ·have AH:=Blk.new w 147 #[.slice KA f.kids.length AI,.nilFunc,.bool false,.int .i64 mo];have AG:=Ext.alloc w (.cells #[.slice KA f.kids.length AI,.nilFunc,.bool false,.int .i64 mo] 147);have AK:=yD AH;have AA:=yD AG;clear AH AG
       go_enter Tryz.func93,Tryz.ntmps93
       have c0:=(AN.out.ext AA.out).cell 0
       go_wp2_with fail
       refine(VQ f _ L ls _ lc _ rfl (HF.out.kept (Kept.ZZ AA.out)) (HL.out.ext AA.out) hlen true hF.out).mono ?_;rintro e w1 ⟨rfl,AB⟩;have AE:=AK.out.ext AB;have AF:=AM.out.ext (AA.out.trans AB);have AC:=yD AE;have AD:=yD AF;have AJ:Hid (Ext w w1):=yD (AA.out.trans AB);clear AB AE AF c0;generalize w.heap.size=ga at *;have b2:=AC.out.cell 2;have b3:=AC.out.cell 3;have n2:=AD.out.cell 2;have n3:=AD.out.cell 3
       go_wp2_with fail
       go_ret;exact⟨vR HR.out.symm,AJ.out⟩
      ·have AH:=Blk.new w 147 #[.slice KA f.kids.length AI,(.func (.func fm) #[] lm),.bool false,.int .i64 mo];have AG:=Ext.alloc w (.cells #[.slice KA f.kids.length AI,(.func (.func fm) #[] lm),.bool false,.int .i64 mo] 147);have AK:=yD AH;have AA:=yD AG;clear AH AG
       go_enter Tryz.func93,Tryz.ntmps93
       have c0:=(AN.out.ext AA.out).cell 0
       go_wp2_with fail
       refine(VQ f _ L ls _ lc _ rfl (HF.out.kept (Kept.ZZ AA.out)) (HL.out.ext AA.out) hlen true hF.out).mono ?_;rintro e w1 ⟨rfl,AB⟩;have AE:=AK.out.ext AB;have AF:=AM.out.ext (AA.out.trans AB);have AC:=yD AE;have AD:=yD AF;have AJ:Hid (Ext w w1):=yD (AA.out.trans AB);clear AB AE AF c0;generalize w.heap.size=ga at *;have b2:=AC.out.cell 2;have b3:=AC.out.cell 3;have n2:=AD.out.cell 2;have n3:=AD.out.cell 3
       go_wp2_with fail
       go_ret;exact⟨vR HR.out.symm,AJ.out⟩
     case neg=>
      have AW:text.data.toList.isEmpty=false:=by simpa using h3
      have e3:¬text.toList=[]:=by rw[HT.out]; exact h3
      have e4:text.toList.isEmpty=false:=by simpa using e3
      have HR:Hid (XK f num text.data.toList ls=false):=yD (by rw[AT.out]; rw[hF,d1,d2,AW]; rfl);have hF:=yD hF;have H3:=yD h3;clear h3 AW
      rcases hmf with rfl | ⟨fm,lm,rfl⟩
      ·have AH:=Blk.new w 147 #[.slice KA f.kids.length AI,.nilFunc,.bool false,.int .i64 mo];have AG:=Ext.alloc w (.cells #[.slice KA f.kids.length AI,.nilFunc,.bool false,.int .i64 mo] 147);have AK:=yD AH;have AA:=yD AG;clear AH AG
       go_enter Tryz.func93,Tryz.ntmps93
       have c0:=(AN.out.ext AA.out).cell 0
       go_wp2_with fail
       refine(VQ f _ L ls _ lc _ rfl (HF.out.kept (Kept.ZZ AA.out)) (HL.out.ext AA.out) hlen true hF.out).mono ?_;rintro e w1 ⟨rfl,AB⟩;have AE:=AK.out.ext AB;have AF:=AM.out.ext (AA.out.trans AB);have AC:=yD AE;have AD:=yD AF;have AJ:Hid (Ext w w1):=yD (AA.out.trans AB);clear AB AE AF c0;generalize w.heap.size=ga at *;have b2:=AC.out.cell 2;have b3:=AC.out.cell 3;have n2:=AD.out.cell 2;have n3:=AD.out.cell 3
       go_wp2_with fail
       go_ret;exact⟨vR HR.out.symm,AJ.out⟩
      ·have AH:=Blk.new w 147 #[.slice KA f.kids.length AI,(.func (.func fm) #[] lm),.bool false,.int .i64 mo];have AG:=Ext.alloc w (.cells #[.slice KA f.kids.length AI,(.func (.func fm) #[] lm),.bool false,.int .i64 mo] 147);have AK:=yD AH;have AA:=yD AG;clear AH AG
       go_enter Tryz.func93,Tryz.ntmps93
       have c0:=(AN.out.ext AA.out).cell 0
       go_wp2_with fail
       refine(VQ f _ L ls _ lc _ rfl (HF.out.kept (Kept.ZZ AA.out)) (HL.out.ext AA.out) hlen true hF.out).mono ?_;rintro e w1 ⟨rfl,AB⟩;have AE:=AK.out.ext AB;have AF:=AM.out.ext (AA.out.trans AB);have AC:=yD AE;have AD:=yD AF;have AJ:Hid (Ext w w1):=yD (AA.out.trans AB);clear AB AE AF c0;generalize w.heap.size=ga at *;have b2:=AC.out.cell 2;have b3:=AC.out.cell 3;have n2:=AD.out.cell 2;have n3:=AD.out.cell 3
       go_wp2_with fail
       go_ret;exact⟨vR HR.out.symm,AJ.out⟩
end Go.Proofs.YtioffpjajhalaaaGreatDoor.TT
