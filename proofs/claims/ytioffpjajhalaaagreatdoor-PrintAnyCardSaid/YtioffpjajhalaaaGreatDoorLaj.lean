/- lex.IsName and the document's, walked. (and what follows of it). The conditions stand at each lemma. -/
import Derived.Test.YtioffpjajhalaaaGreatDoorLaa
import Derived.Test.YtioffpjajhalaaaGreatDoorLai
set_option linter.unusedVariables false
set_option linter.unusedSimpArgs false
set_option maxRecDepth 100000
set_option maxHeartbeats 16000000
namespace Go.Proofs.YtioffpjajhalaaaGreatDoor.TT
open Go Go.RowKit
def zQq:ByteArray:=⟨#[97,98,99,100,101,102,103,104,105,106,107,108,109,110,111,112,113,114,115,116,117,118,119,120,121,122]⟩
def zSh:ByteArray:=⟨#[97,98,99,100,101,102,103,104,105,106,107,108,109,110,111,112,113,114,115,116,117,118,119,120,121,122,48,49,50,51,52,53,54,55,56,57,95]⟩
theorem zKX (set:ByteArray)(p:UInt8→Bool)(h:((List.range 256).all fun n=>decide (0≤zJt set (n:Int))==p (UInt8.ofNat n))=true):VG set p:=by
 intro c;have h1:=List.all_eq_true.1 h c.toNat (List.mem_range.2 c.toNat_lt);rw[UInt8.ofNat_toNat] at h1;rw[zN] at h1;rw[←h1]
 simp
def zSR (c:UInt8):Bool:=vI (c.toNat:Int)
def zBP (c:UInt8):Bool:=YJ (c.toNat:Int)
theorem zIs:VG zQq zSR:=zKX _ _ (by decide +kernel)
theorem zMo:VG zSh zBP:=zKX _ _ (by decide +kernel)
theorem zQy (s:ByteArray)(w:World):∃c w',(convert 9 22 (.string s)).run Tryz.prog w=.ok (.slice (some ⟨w.heap.size,0,none⟩) s.size c) w'∧Ext w w'∧Cells w' (some ⟨w.heap.size,0,none⟩) (YE s.data.toList)∧s.size≤c∧w'.heap.size=w.heap.size+1:=by
 refine⟨_,_,run_bytes_of_string w 9 22 5 s Tryz.underlying9 Tryz.underlying22 Tryz.underlying5,Ext.trans (Below.drew (Below.refl _ _)) (Ext.alloc _ _),?_,grownCap_ge w s.size 0 5,by simp⟩
 by_cases h0:s.data.toList=[]
 ·left; rw[h0]; rfl
 ·right
  refine⟨_,0,rfl,by simp,fun k hk=>?_⟩;rw[zBm] at hk
  have AA:k<s.data.size:=by simpa using hk
  rw[Nat.zero_add];refine(cell_of_row (w.drew.alloc (.cells (bytesRow s (grownCap w s.size 0 5)) 5 ((bytesRow s (grownCap w s.size 0 5)).size,(bytesRow s (grownCap w s.size 0 5)).size+1))) w.drew.heap.size k _ _ _ (zO w.drew _)).trans ?_;rw[bytesRow_at s _ k AA,zEB _ k hk]
  simp
theorem zFo (s:ByteArray)(c v:Int)(h:Hid (zJt s c=v))(w:World):Calls Tryz.prog 70 #[.string s,.int .u8 c] w fun e w'=>e=.returned (.int .i64 v)∧w=w':=
 (zCJ s c v h w).mono fun e w' h=>⟨h.1,h.2.symm⟩
theorem zQi (p:UInt8→Bool)(l:List UInt8)(h:l.all p=true):scan p l=l.length:=by
 induction l with
 | nil=>rfl
 | cons a l ih=>
  unfold scan at *;rw[List.all_cons,zF] at h;rw[List.takeWhile_cons,if_pos h.1,zJ,zJ,ih h.2]
theorem zQG (p:UInt8→Bool)(l:List UInt8)(h:l.all p=false):scan p l<l.length:=by
 induction l with
 | nil=>cases h
 | cons a l ih=>
  unfold scan at *;rw[List.takeWhile_cons];rw[List.all_cons] at h
  cases hp:p a with
  | true=>rw[hp,Bool.true_and] at h; rw[if_pos rfl,zJ,zJ]; have:=ih h; omega
  | false=>rw[if_neg (by decide)]; simp
theorem zL1 (s:ByteArray)(w:World)(hs:s.size≤9000):Calls Tryz.prog 95 #[.string s] w fun e w'=>e=.returned (.bool (xX s.data.toList))∧Ext w w':=by
 have AB:zQq=⟨#[97,98,99,100,101,102,103,104,105,106,107,108,109,110,111,112,113,114,115,116,117,118,119,120,121,122]⟩:=rfl
 by_cases h0:s.data.toList=[]
 ·have HR:Hid (xX s.data.toList=false):=yD (by rw[h0]; rfl)
  have e1:s.toList=[]:=by rw[ByteArray.toList_eq]; exact h0
  go_enter Tryz.func95,Tryz.ntmps95
  go_wp2_with fail
  go_ret;exact⟨xE HR.out.symm,Ext.refl _⟩
 ·have hp:0<s.size:=by
   rw[Lib.size_eq];exact List.length_pos_iff.2 h0
  have e1:¬s.toList=[]:=by rw[ByteArray.toList_eq]; exact h0
  have e2:s.toList.isEmpty=false:=by simpa using e1
  have H0:=yD h0;clear h0;clear AB
  have hz:s.data.toList=s[0]::s.data.toList.tail:=by
   have h1:s.data.toList.head?=some s[0]:=by
    rw[List.head?_eq_getElem?];simp[ByteArray.getElem_eq_getElem_data]
   cases hl:s.data.toList with
   | nil=>exact absurd hl H0.out
   | cons a r=>rw[hl] at h1; simp at h1; rw[h1]; rfl
  have AA:Hid (xX s.data.toList=(vI (s[0].toNat:Int)&&s.data.toList.tail.all zBP)):=yD (by rw[hz]; rfl);obtain⟨v,HV⟩:∃v,Hid (zJt zQq (s[0].toNat:Int)=v):=⟨_,yD rfl⟩
  cases hl:vI (s[0].toNat:Int) with
  | false=>
   have AH:v<0:=by
    have:=zIs s[0]
    rw[HV.out] at this;unfold zSR at this;rw[hl] at this
    by_cases h:0≤v
    ·exact absurd (this.1 h) (by decide)
    ·omega
   have d1:decide (v<0)=true:=yP AH;have HR:Hid (xX s.data.toList=false):=yD (by rw[AA.out,hl]; rfl);clear hl hz
   go_enter Tryz.func95,Tryz.ntmps95
   go_wp2_with (refine(zFo zQq _ v HV w).mono ?_; rintro e w' ⟨rfl,rfl⟩)
   go_ret;exact⟨xE HR.out.symm,Ext.refl _⟩
  | true=>
   have AH:0≤v:=by rw[←HV.out]; exact(zIs s[0]).2 hl
   have d1:decide (v<0)=false:=yO (by omega);obtain⟨c,w1,AG,AK,AF,AR,AI⟩:=zQy s w;have AO:=yD AK;have AN:=yD AF;have AP:=yD AI;have HL:=yD hl;have HZ:=yD hz;have AL:=Blk.new w1 65 #[.slice (some ⟨w.heap.size,0,none⟩) s.size c,.int .i64 0];have AE:=Ext.alloc w1 (.cells #[.slice (some ⟨w.heap.size,0,none⟩) s.size c,.int .i64 0] 65);have AM:=yD AL;have AJ:=yD AE;clear AK AF AI hl AL AE hz
   go_enter Tryz.func95,Tryz.ntmps95
   go_wp2_with (refine(zFo zQq _ v HV w).mono ?_; rintro e w' ⟨rfl,rfl⟩)
   refine(zDk zSh zBP zMo w1.heap.size w.heap.size 0 s.size c 0 s.data.toList _ (by rw[Lib.size_eq]) AR (by rw[←Lib.size_eq]; omega) (zT _) AM.out (AN.out.ext AJ.out)).mono ?_;rintro e w2 ⟨rfl,ht,-⟩;have AD:Hid (Ext w w2):=yD (ht.ext (AO.out.trans AJ.out) (by have:=AP.out; omega));clear ht;obtain⟨xs,AC⟩:∃xs:ByteArray,Hid ((⟨((s.data.toList.drop 0).take (scan zBP (s.data.toList.drop 0))).toArray⟩:ByteArray)=xs):=⟨_,yD rfl⟩;rw[AC.out]
   cases hal:s.data.toList.tail.all zBP with
   | true=>
    have HR:Hid (xX s.data.toList=true):=yD (by rw[AA.out,HL.out,hal]; rfl)
    have AQ:xs=s:=by
     rw[←AC.out,List.drop_zero,zQi zBP _ (by rw[HZ.out,List.all_cons,hal,Bool.and_true]; unfold zBP YJ; rw[HL.out]; rfl),List.take_length]
    subst AQ
    go_wp2_with fail
    go_ret;exact⟨xE HR.out.symm,AD.out⟩
   | false=>
    have HR:Hid (xX s.data.toList=false):=yD (by rw[AA.out,HL.out,hal]; rfl)
    have AS:(xs.toList==s.toList)=false:=by
     rw[yF];intro h;have h2:=congrArg List.length h;rw[←AC.out,ByteArray.toList_eq,ByteArray.toList_eq] at h2;have h3:=zQG zBP s.data.toList (by rw[HZ.out,List.all_cons,hal,Bool.and_false])
     simp at h2 h3
     omega
    go_wp2_with fail
    go_ret;exact⟨xE HR.out.symm,AD.out⟩
def zJY (j:Nat)(c:UInt8):Bool:=if j=0 then vI (c.toNat:Int) else zBP c
theorem zN2 (l:List UInt8)(h0:l≠[])(h:∀j (hj:j<l.length),zJY j l[j]=true):xX l=true:=by
 cases l with
 | nil=>exact absurd rfl h0
 | cons c r=>
  have h1:=h 0 (by simp);unfold zJY at h1;rw[if_pos rfl] at h1
  show(vI (c.toNat:Int)&&r.all fun c=>YJ (c.toNat:Int))=true
  have AA:vI (c.toNat:Int)=true:=h1;rw[AA,Bool.true_and,zG];intro x hx;obtain⟨i,hi,rfl⟩:=List.getElem_of_mem hx
  have:=h (i+1) (by simpa using hi)
  unfold zJY at this;rw[if_neg (by omega)] at this;exact this
theorem zMC (l:List UInt8)(j:Nat)(hj:j<l.length)(h:zJY j l[j]=false):xX l=false:=by
 cases l with
 | nil=>simp at hj
 | cons c r=>
  show(vI (c.toNat:Int)&&r.all fun c=>YJ (c.toNat:Int))=false
  unfold zJY at h
  match j with
  | 0=>
   rw[if_pos rfl] at h;have h':vI (c.toNat:Int)=false:=h;rw[h',Bool.false_and]
  | j+1=>
   rw[if_neg (by omega)] at h;rw[Bool.and_eq_false_iff]
   right
   rw[List.all_eq_false]
   have AA:j<r.length:=by simpa using hj
   have h':YJ ((r[j]'AA).toNat:Int)=false:=h;exact⟨r[j]'AA,yL AA,by rw[h']; exact Bool.false_ne_true⟩
theorem zKo (s:ByteArray)(w:World)(hs:s.size≤9000):Calls Tryz.prog 143 #[.string s] w fun e w'=>e=.returned (.bool (xX s.data.toList))∧w=w':=by
 go_enter Tryz.func143,Tryz.ntmps143
 go_wp2_with fail
 go_loop [3] (fun i=>∃k:Nat,k≤s.size∧i=.int .i64 k∧Hid (∀j (hj:j<s.data.toList.length),j<k→zJY j s.data.toList[j]=true)) (fun i=>s.size-(intOf i).toNat)
 case atStart=>exact⟨0,zT _,rfl,yD fun j hj hk=>by omega⟩
 case round=>
  obtain⟨k,hk,rfl,HR⟩:=hrel;have AC:=yD (Lib.size_eq s)
  by_cases AD:k<s.size
  ·have AA:k<s.data.toList.length:=by rw[←AC.out]; exact AD
   have AG:s.data.toList[k]=s[k]'AD:=by simp[ByteArray.getElem_eq_getElem_data]
   obtain⟨b,hb⟩:∃b,zJY k s.data.toList[k]=b:=⟨_,rfl⟩;have HC:Hid (b=if k=0 then vI ((s[k]'AD).toNat:Int) else zBP (s[k]'AD)):=yD (by rw[←hb,AG]; rfl)
   have AF:Hid (b=true→∀j (hj:j<s.data.toList.length),j<k+1→zJY j s.data.toList[j]=true):=yD (by
    intro h j hj AK
    by_cases AH:j=k
    ·subst AH; rw[hb]; exact h
    ·exact HR.out j hj (by omega))
   have AB:Hid (b=false→xX s.data.toList=false):=yD (fun h=>zMC _ k AA (hb.trans h));clear AG hb AA;have d0:decide ((k:Int)<(s.size:Int))=true:=yP (by omega)
   cases hl:vI (s[k].toNat:Int) with
   | true=>
    have HT:Hid (b=true):=yD (by rw[HC.out]; unfold zBP YJ; rw[hl]; simp);have HL:=yD hl;clear hl
    go_wp2_with (refine(zBD _ _).mono ?_; rintro e w' ⟨rfl,rfl⟩; rw[HL.out])
    go_round
    case rel=>exact⟨k+1,by omega,by go_num,yD (AF.out HT.out)⟩
    case measure=>simp[intOf]; omega
   | false=>
    have HL:=yD hl
    by_cases AE:k=0
    ·subst AE;have HT:Hid (xX s.data.toList=false):=yD (AB.out (by rw[HC.out]; simp[hl]));clear hl
     go_wp2_with (refine(zBD _ _).mono ?_; rintro e w' ⟨rfl,rfl⟩; rw[HL.out])
     go_ret;exact⟨xE HT.out.symm,rfl⟩
    ·have AJ:((k:Int)==0)=false:=beq_eq_false_iff_ne.2 (by omega)
     cases hd:vP (s[k].toNat:Int) with
     | true=>
      have HT:Hid (b=true):=yD (by rw[HC.out,if_neg AE]; unfold zBP YJ; rw[hl,hd]; rfl);have HD:=yD hd;clear hl hd
      go_wp2_with (first | (go_at_call 117; refine(zBD _ _).mono ?_; rintro e w' ⟨rfl,rfl⟩; rw[HL.out]) | (go_at_call 118; refine(zEJ _ _).mono ?_; rintro e w' ⟨rfl,rfl⟩; rw[HD.out]))
      go_round
      case rel=>exact⟨k+1,by omega,by go_num,yD (AF.out HT.out)⟩
      case measure=>simp[intOf]; omega
     | false=>
      have HD:=yD hd
      cases hu:((s[k].toNat:Int)==95) with
      | true=>
       have HT:Hid (b=true):=yD (by rw[HC.out,if_neg AE]; unfold zBP YJ; rw[hl,hd,hu]; rfl)
       have AI:((s[k].toNat:Int) != 95)=false:=by rw[bne,hu]; rfl
       clear hl hd hu
       go_wp2_with (first | (go_at_call 117; refine(zBD _ _).mono ?_; rintro e w' ⟨rfl,rfl⟩; rw[HL.out]) | (go_at_call 118; refine(zEJ _ _).mono ?_; rintro e w' ⟨rfl,rfl⟩; rw[HD.out]))
       go_round
       case rel=>exact⟨k+1,by omega,by go_num,yD (AF.out HT.out)⟩
       case measure=>simp[intOf]; omega
      | false=>
       have HT:Hid (xX s.data.toList=false):=yD (AB.out (by rw[HC.out,if_neg AE]; unfold zBP YJ; rw[hl,hd,hu]; rfl))
       have AI:((s[k].toNat:Int) != 95)=true:=by rw[bne,hu]; rfl
       clear hl hd hu
       go_wp2_with (first | (go_at_call 117; refine(zBD _ _).mono ?_; rintro e w' ⟨rfl,rfl⟩; rw[HL.out]) | (go_at_call 118; refine(zEJ _ _).mono ?_; rintro e w' ⟨rfl,rfl⟩; rw[HD.out]))
       go_ret;exact⟨xE HT.out.symm,rfl⟩
  ·obtain rfl:k=s.size:=by omega
   have d0:decide ((s.size:Int)<(s.size:Int))=false:=by simp
   by_cases h0:s.size=0
   ·have HT:Hid (xX s.data.toList=decide (0<s.size)):=yD (by
     have:s.data.toList=[]:=List.eq_nil_of_length_eq_zero (by rw[←AC.out]; exact h0)
     rw[this,h0]; rfl)
    have d1:decide (0<s.size)=false:=by simp[h0]
    clear h0
    go_wp2_with fail
    go_ret;exact⟨xE (by rw[HT.out,d1]),rfl⟩
   ·have HT:Hid (xX s.data.toList=true):=yD (zN2 _ (fun h=>h0 (by rw[AC.out,h]; rfl)) (fun j hj=>HR.out j hj (by rw[AC.out]; exact hj)))
    have d1:decide (0<s.size)=true:=by simp; omega
    clear h0
    go_wp2_with fail
    go_ret;exact⟨xE HT.out.symm,rfl⟩
theorem JI (f:jK)(cs:List Value)(L:Option Addr)(ls:List Int)(n lc:Nat)(w:World)(hn:n=ls.length)(hf:zBW w f cs)(hl:Cells w L (xL ls))(hlen:ls.length≤9000)(b:Bool)(hb:f.fits ls=b) :
  Calls Tryz.prog 94 #[.agg (Array.mk cs),.slice L n lc] w fun e w'=>e=.returned (.bool b)∧Ext w w':=by
 subst hb;exact zN6 f cs L ls n lc w hn hf hl hlen
theorem zEt (s:ByteArray)(w:World)(hs:s.size≤9000)(b:Bool)(hb:xX s.data.toList=b):Calls Tryz.prog 95 #[.string s] w fun e w'=>e=.returned (.bool b)∧Ext w w':=by
 subst hb;exact zL1 s w hs
theorem zO1 (f:jK)(cs:List Value)(L:Option Addr)(ls:List Int)(n lc gk gn:Nat)(x:xB)(w:World)(hn:n=ls.length)(hf:zBW w f cs)(hl:Cells w L (xL ls))(hlen:ls.length≤9000)(hx:x.text.size≤9000)
  (hgk:Blk w gk 22 #[.slice L n lc]) (hgn:Blk w gn 48 (Array.mk x.cells)) :
  Calls Tryz.prog 93 #[.agg (Array.mk cs),.pointer (some ⟨gk,0,none⟩),.pointer (some ⟨gn,0,none⟩)] w fun e w'=>e=.returned (.bool (YL f x.num x.text.data.toList ls))∧Ext w w':=by
 subst hn;obtain⟨kind,pos,text,num,kA,kc,Aa⟩:=x;obtain⟨ks,mv,rfl,AX,AV⟩:=hf;have AS:zBW w f [ks,mv,.bool f.named,.int .i64 f.most]:=⟨ks,mv,rfl,AX,AV⟩;obtain⟨KA,AI,rfl,-⟩:=AX.open_
 have hmf:mv=.nilFunc∨∃fm lm,mv=.func (.func fm) #[] lm:=by
  cases hm:f.more with
  | none=>rw[hm] at AV; exact .inl AV
  | some q=>rw[hm] at AV; obtain⟨fm,lm,h3,_⟩:=zAC.form AV; exact .inr ⟨fm,lm,h3⟩
 simp only at hx
 unfold xB.cells at hgn
 simp only at hgn
 have HF:=yD AS;have HL:=yD hl;have AM:=yD hgk;have AN:=yD hgn;clear AX AV AS hl hgk hgn;obtain⟨nm,AY⟩:∃nm,Hid (f.named=nm):=⟨_,yD rfl⟩;obtain⟨mo,AZ⟩:∃mo,Hid (f.most=mo):=⟨_,yD rfl⟩;have AU:Hid (YL f num text.data.toList ls=(f.fits ls&&(decide (0≤num)&&(decide (num≤mo)&&((nm&&xX text.data.toList)||(!nm&&text.data.toList.isEmpty)))))):=yD (by rw[←AY.out,←AZ.out]; rfl)
 show Calls Tryz.prog 93 #[.agg #[.slice KA f.kids.length AI,mv,.bool f.named,.int .i64 f.most],.pointer (some ⟨gk,0,none⟩),.pointer (some ⟨gn,0,none⟩)] w fun e w'=>e=.returned (.bool (YL f num text.data.toList ls))∧Ext w w'
 rw[AY.out,AZ.out] at HF ⊢;have HT:Hid (text.toList=text.data.toList):=yD (ByteArray.toList_eq _)
 cases hF:f.fits ls
 case false=>
  have HR:Hid (YL f num text.data.toList ls=false):=yD (by rw[AU.out]; rw[hF]; rfl);have hF:=yD hF
  rcases hmf with rfl | ⟨fm,lm,rfl⟩
  ·have AH:=Blk.new w 147 #[.slice KA f.kids.length AI,.nilFunc,.bool nm,.int .i64 mo];have AE:=Ext.alloc w (.cells #[.slice KA f.kids.length AI,.nilFunc,.bool nm,.int .i64 mo] 147);have AJ:=yD AH;have AA:=yD AE;clear AH AE
   go_enter Tryz.func93,Tryz.ntmps93
   have c0:=(AM.out.ext AA.out).cell 0
   go_wp2_with fail
   refine(JI f _ L ls _ lc _ rfl (HF.out.kept (Kept.jY AA.out)) (HL.out.ext AA.out) hlen false hF.out).mono ?_;rintro e w1 ⟨rfl,AB⟩;have AF:=AJ.out.ext AB;have AG:=AN.out.ext (AA.out.trans AB);have AD:=yD AF;have AC:=yD AG;have AK:Hid (Ext w w1):=yD (AA.out.trans AB);clear AB AF AG c0;generalize w.heap.size=ga at *;have b2:=AD.out.cell 2;have b3:=AD.out.cell 3;have n2:=AC.out.cell 2;have n3:=AC.out.cell 3
   go_wp2_with fail
   go_ret;exact⟨xE HR.out.symm,AK.out⟩
  ·have AH:=Blk.new w 147 #[.slice KA f.kids.length AI,(.func (.func fm) #[] lm),.bool nm,.int .i64 mo];have AE:=Ext.alloc w (.cells #[.slice KA f.kids.length AI,(.func (.func fm) #[] lm),.bool nm,.int .i64 mo] 147);have AJ:=yD AH;have AA:=yD AE;clear AH AE
   go_enter Tryz.func93,Tryz.ntmps93
   have c0:=(AM.out.ext AA.out).cell 0
   go_wp2_with fail
   refine(JI f _ L ls _ lc _ rfl (HF.out.kept (Kept.jY AA.out)) (HL.out.ext AA.out) hlen false hF.out).mono ?_;rintro e w1 ⟨rfl,AB⟩;have AF:=AJ.out.ext AB;have AG:=AN.out.ext (AA.out.trans AB);have AD:=yD AF;have AC:=yD AG;have AK:Hid (Ext w w1):=yD (AA.out.trans AB);clear AB AF AG c0;generalize w.heap.size=ga at *;have b2:=AD.out.cell 2;have b3:=AD.out.cell 3;have n2:=AC.out.cell 2;have n3:=AC.out.cell 3
   go_wp2_with fail
   go_ret;exact⟨xE HR.out.symm,AK.out⟩
 case true=>
  by_cases h1:0≤num
  case neg=>
   have d1:decide (0≤num)=false:=yO h1;have HR:Hid (YL f num text.data.toList ls=false):=yD (by rw[AU.out]; rw[hF,d1]; rfl);have hF:=yD hF
   rcases hmf with rfl | ⟨fm,lm,rfl⟩
   ·have AH:=Blk.new w 147 #[.slice KA f.kids.length AI,.nilFunc,.bool nm,.int .i64 mo];have AE:=Ext.alloc w (.cells #[.slice KA f.kids.length AI,.nilFunc,.bool nm,.int .i64 mo] 147);have AJ:=yD AH;have AA:=yD AE;clear AH AE
    go_enter Tryz.func93,Tryz.ntmps93
    have c0:=(AM.out.ext AA.out).cell 0
    go_wp2_with fail
    refine(JI f _ L ls _ lc _ rfl (HF.out.kept (Kept.jY AA.out)) (HL.out.ext AA.out) hlen true hF.out).mono ?_;rintro e w1 ⟨rfl,AB⟩;have AF:=AJ.out.ext AB;have AG:=AN.out.ext (AA.out.trans AB);have AD:=yD AF;have AC:=yD AG;have AK:Hid (Ext w w1):=yD (AA.out.trans AB);clear AB AF AG c0;generalize w.heap.size=ga at *;have b2:=AD.out.cell 2;have b3:=AD.out.cell 3;have n2:=AC.out.cell 2;have n3:=AC.out.cell 3
    go_wp2_with fail
    go_ret;exact⟨xE HR.out.symm,AK.out⟩
   ·have AH:=Blk.new w 147 #[.slice KA f.kids.length AI,(.func (.func fm) #[] lm),.bool nm,.int .i64 mo];have AE:=Ext.alloc w (.cells #[.slice KA f.kids.length AI,(.func (.func fm) #[] lm),.bool nm,.int .i64 mo] 147);have AJ:=yD AH;have AA:=yD AE;clear AH AE
    go_enter Tryz.func93,Tryz.ntmps93
    have c0:=(AM.out.ext AA.out).cell 0
    go_wp2_with fail
    refine(JI f _ L ls _ lc _ rfl (HF.out.kept (Kept.jY AA.out)) (HL.out.ext AA.out) hlen true hF.out).mono ?_;rintro e w1 ⟨rfl,AB⟩;have AF:=AJ.out.ext AB;have AG:=AN.out.ext (AA.out.trans AB);have AD:=yD AF;have AC:=yD AG;have AK:Hid (Ext w w1):=yD (AA.out.trans AB);clear AB AF AG c0;generalize w.heap.size=ga at *;have b2:=AD.out.cell 2;have b3:=AD.out.cell 3;have n2:=AC.out.cell 2;have n3:=AC.out.cell 3
    go_wp2_with fail
    go_ret;exact⟨xE HR.out.symm,AK.out⟩
  case pos=>
   have d1:decide (0≤num)=true:=yP h1
   by_cases h2:num≤mo
   case neg=>
    have d2:decide (num≤mo)=false:=yO h2;have HR:Hid (YL f num text.data.toList ls=false):=yD (by rw[AU.out]; rw[hF,d1,d2]; rfl);have hF:=yD hF
    rcases hmf with rfl | ⟨fm,lm,rfl⟩
    ·have AH:=Blk.new w 147 #[.slice KA f.kids.length AI,.nilFunc,.bool nm,.int .i64 mo];have AE:=Ext.alloc w (.cells #[.slice KA f.kids.length AI,.nilFunc,.bool nm,.int .i64 mo] 147);have AJ:=yD AH;have AA:=yD AE;clear AH AE
     go_enter Tryz.func93,Tryz.ntmps93
     have c0:=(AM.out.ext AA.out).cell 0
     go_wp2_with fail
     refine(JI f _ L ls _ lc _ rfl (HF.out.kept (Kept.jY AA.out)) (HL.out.ext AA.out) hlen true hF.out).mono ?_;rintro e w1 ⟨rfl,AB⟩;have AF:=AJ.out.ext AB;have AG:=AN.out.ext (AA.out.trans AB);have AD:=yD AF;have AC:=yD AG;have AK:Hid (Ext w w1):=yD (AA.out.trans AB);clear AB AF AG c0;generalize w.heap.size=ga at *;have b2:=AD.out.cell 2;have b3:=AD.out.cell 3;have n2:=AC.out.cell 2;have n3:=AC.out.cell 3
     go_wp2_with fail
     go_ret;exact⟨xE HR.out.symm,AK.out⟩
    ·have AH:=Blk.new w 147 #[.slice KA f.kids.length AI,(.func (.func fm) #[] lm),.bool nm,.int .i64 mo];have AE:=Ext.alloc w (.cells #[.slice KA f.kids.length AI,(.func (.func fm) #[] lm),.bool nm,.int .i64 mo] 147);have AJ:=yD AH;have AA:=yD AE;clear AH AE
     go_enter Tryz.func93,Tryz.ntmps93
     have c0:=(AM.out.ext AA.out).cell 0
     go_wp2_with fail
     refine(JI f _ L ls _ lc _ rfl (HF.out.kept (Kept.jY AA.out)) (HL.out.ext AA.out) hlen true hF.out).mono ?_;rintro e w1 ⟨rfl,AB⟩;have AF:=AJ.out.ext AB;have AG:=AN.out.ext (AA.out.trans AB);have AD:=yD AF;have AC:=yD AG;have AK:Hid (Ext w w1):=yD (AA.out.trans AB);clear AB AF AG c0;generalize w.heap.size=ga at *;have b2:=AD.out.cell 2;have b3:=AD.out.cell 3;have n2:=AC.out.cell 2;have n3:=AC.out.cell 3
     go_wp2_with fail
     go_ret;exact⟨xE HR.out.symm,AK.out⟩
   case pos=>
    have d2:decide (num≤mo)=true:=yP h2
    cases nm with
    | true=>
     cases hI:xX text.data.toList with
     | true=>
      have HR:Hid (YL f num text.data.toList ls=true):=yD (by rw[AU.out]; rw[hF,d1,d2,hI]; rfl);have hF:=yD hF;have hI:=yD hI
      rcases hmf with rfl | ⟨fm,lm,rfl⟩
      ·have AH:=Blk.new w 147 #[.slice KA f.kids.length AI,.nilFunc,.bool true,.int .i64 mo];have AE:=Ext.alloc w (.cells #[.slice KA f.kids.length AI,.nilFunc,.bool true,.int .i64 mo] 147);have AJ:=yD AH;have AA:=yD AE;clear AH AE
       go_enter Tryz.func93,Tryz.ntmps93
       have c0:=(AM.out.ext AA.out).cell 0
       go_wp2_with fail
       refine(JI f _ L ls _ lc _ rfl (HF.out.kept (Kept.jY AA.out)) (HL.out.ext AA.out) hlen true hF.out).mono ?_;rintro e w1 ⟨rfl,AB⟩;have AF:=AJ.out.ext AB;have AG:=AN.out.ext (AA.out.trans AB);have AD:=yD AF;have AC:=yD AG;have AK:Hid (Ext w w1):=yD (AA.out.trans AB);clear AB AF AG c0;generalize w.heap.size=ga at *;have b2:=AD.out.cell 2;have b3:=AD.out.cell 3;have n2:=AC.out.cell 2;have n3:=AC.out.cell 3
       go_wp2_with fail
       refine(zEt text _ hx true hI.out).mono ?_;rintro e w2 ⟨rfl,AL⟩;have AT:Hid (Ext w w2):=yD (AK.out.trans AL);have AO:=AD.out.ext AL;have AR:=AC.out.ext AL;have AQ:=yD AO;have AP:=yD AR;clear AL AO AR b2 b3 n2 n3;have b2:=AQ.out.cell 2;have b3:=AQ.out.cell 3;have n2:=AP.out.cell 2;have n3:=AP.out.cell 3
       go_wp2_with fail
       go_ret;exact⟨xE HR.out.symm,AT.out⟩
      ·have AH:=Blk.new w 147 #[.slice KA f.kids.length AI,(.func (.func fm) #[] lm),.bool true,.int .i64 mo];have AE:=Ext.alloc w (.cells #[.slice KA f.kids.length AI,(.func (.func fm) #[] lm),.bool true,.int .i64 mo] 147);have AJ:=yD AH;have AA:=yD AE;clear AH AE
       go_enter Tryz.func93,Tryz.ntmps93
       have c0:=(AM.out.ext AA.out).cell 0
       go_wp2_with fail
       refine(JI f _ L ls _ lc _ rfl (HF.out.kept (Kept.jY AA.out)) (HL.out.ext AA.out) hlen true hF.out).mono ?_;rintro e w1 ⟨rfl,AB⟩;have AF:=AJ.out.ext AB;have AG:=AN.out.ext (AA.out.trans AB);have AD:=yD AF;have AC:=yD AG;have AK:Hid (Ext w w1):=yD (AA.out.trans AB);clear AB AF AG c0;generalize w.heap.size=ga at *;have b2:=AD.out.cell 2;have b3:=AD.out.cell 3;have n2:=AC.out.cell 2;have n3:=AC.out.cell 3
       go_wp2_with fail
       refine(zEt text _ hx true hI.out).mono ?_;rintro e w2 ⟨rfl,AL⟩;have AT:Hid (Ext w w2):=yD (AK.out.trans AL);have AO:=AD.out.ext AL;have AR:=AC.out.ext AL;have AQ:=yD AO;have AP:=yD AR;clear AL AO AR b2 b3 n2 n3;have b2:=AQ.out.cell 2;have b3:=AQ.out.cell 3;have n2:=AP.out.cell 2;have n3:=AP.out.cell 3
       go_wp2_with fail
       go_ret;exact⟨xE HR.out.symm,AT.out⟩
     | false=>
      have HR:Hid (YL f num text.data.toList ls=false):=yD (by rw[AU.out]; rw[hF,d1,d2,hI]; rfl);have hF:=yD hF;have hI:=yD hI
      rcases hmf with rfl | ⟨fm,lm,rfl⟩
      ·have AH:=Blk.new w 147 #[.slice KA f.kids.length AI,.nilFunc,.bool true,.int .i64 mo];have AE:=Ext.alloc w (.cells #[.slice KA f.kids.length AI,.nilFunc,.bool true,.int .i64 mo] 147);have AJ:=yD AH;have AA:=yD AE;clear AH AE
       go_enter Tryz.func93,Tryz.ntmps93
       have c0:=(AM.out.ext AA.out).cell 0
       go_wp2_with fail
       refine(JI f _ L ls _ lc _ rfl (HF.out.kept (Kept.jY AA.out)) (HL.out.ext AA.out) hlen true hF.out).mono ?_;rintro e w1 ⟨rfl,AB⟩;have AF:=AJ.out.ext AB;have AG:=AN.out.ext (AA.out.trans AB);have AD:=yD AF;have AC:=yD AG;have AK:Hid (Ext w w1):=yD (AA.out.trans AB);clear AB AF AG c0;generalize w.heap.size=ga at *;have b2:=AD.out.cell 2;have b3:=AD.out.cell 3;have n2:=AC.out.cell 2;have n3:=AC.out.cell 3
       go_wp2_with fail
       refine(zEt text _ hx false hI.out).mono ?_;rintro e w2 ⟨rfl,AL⟩;have AT:Hid (Ext w w2):=yD (AK.out.trans AL);have AO:=AD.out.ext AL;have AR:=AC.out.ext AL;have AQ:=yD AO;have AP:=yD AR;clear AL AO AR b2 b3 n2 n3;have b2:=AQ.out.cell 2;have b3:=AQ.out.cell 3;have n2:=AP.out.cell 2;have n3:=AP.out.cell 3
       go_wp2_with fail
       go_ret;exact⟨xE HR.out.symm,AT.out⟩
      ·have AH:=Blk.new w 147 #[.slice KA f.kids.length AI,(.func (.func fm) #[] lm),.bool true,.int .i64 mo];have AE:=Ext.alloc w (.cells #[.slice KA f.kids.length AI,(.func (.func fm) #[] lm),.bool true,.int .i64 mo] 147);have AJ:=yD AH;have AA:=yD AE;clear AH AE
       go_enter Tryz.func93,Tryz.ntmps93
       have c0:=(AM.out.ext AA.out).cell 0
       go_wp2_with fail
       refine(JI f _ L ls _ lc _ rfl (HF.out.kept (Kept.jY AA.out)) (HL.out.ext AA.out) hlen true hF.out).mono ?_;rintro e w1 ⟨rfl,AB⟩;have AF:=AJ.out.ext AB;have AG:=AN.out.ext (AA.out.trans AB);have AD:=yD AF;have AC:=yD AG;have AK:Hid (Ext w w1):=yD (AA.out.trans AB);clear AB AF AG c0;generalize w.heap.size=ga at *;have b2:=AD.out.cell 2;have b3:=AD.out.cell 3;have n2:=AC.out.cell 2;have n3:=AC.out.cell 3
       go_wp2_with fail
       refine(zEt text _ hx false hI.out).mono ?_;rintro e w2 ⟨rfl,AL⟩;have AT:Hid (Ext w w2):=yD (AK.out.trans AL);have AO:=AD.out.ext AL;have AR:=AC.out.ext AL;have AQ:=yD AO;have AP:=yD AR;clear AL AO AR b2 b3 n2 n3;have b2:=AQ.out.cell 2;have b3:=AQ.out.cell 3;have n2:=AP.out.cell 2;have n3:=AP.out.cell 3
       go_wp2_with fail
       go_ret;exact⟨xE HR.out.symm,AT.out⟩
    | false=>
     by_cases h3:text.data.toList=[]
     case pos=>
      have AW:text.data.toList.isEmpty=true:=by rw[h3]; rfl
      have e3:text.toList=[]:=by rw[HT.out]; exact h3
      have HR:Hid (YL f num text.data.toList ls=true):=yD (by rw[AU.out]; rw[hF,d1,d2,AW]; rfl);have hF:=yD hF;have H3:=yD h3;clear h3 AW
      rcases hmf with rfl | ⟨fm,lm,rfl⟩
      ·have AH:=Blk.new w 147 #[.slice KA f.kids.length AI,.nilFunc,.bool false,.int .i64 mo];have AE:=Ext.alloc w (.cells #[.slice KA f.kids.length AI,.nilFunc,.bool false,.int .i64 mo] 147);have AJ:=yD AH;have AA:=yD AE;clear AH AE
       go_enter Tryz.func93,Tryz.ntmps93
       have c0:=(AM.out.ext AA.out).cell 0
       go_wp2_with fail
       refine(JI f _ L ls _ lc _ rfl (HF.out.kept (Kept.jY AA.out)) (HL.out.ext AA.out) hlen true hF.out).mono ?_;rintro e w1 ⟨rfl,AB⟩;have AF:=AJ.out.ext AB;have AG:=AN.out.ext (AA.out.trans AB);have AD:=yD AF;have AC:=yD AG;have AK:Hid (Ext w w1):=yD (AA.out.trans AB);clear AB AF AG c0;generalize w.heap.size=ga at *;have b2:=AD.out.cell 2;have b3:=AD.out.cell 3;have n2:=AC.out.cell 2;have n3:=AC.out.cell 3
       go_wp2_with fail
       go_ret;exact⟨xE HR.out.symm,AK.out⟩
      ·have AH:=Blk.new w 147 #[.slice KA f.kids.length AI,(.func (.func fm) #[] lm),.bool false,.int .i64 mo];have AE:=Ext.alloc w (.cells #[.slice KA f.kids.length AI,(.func (.func fm) #[] lm),.bool false,.int .i64 mo] 147);have AJ:=yD AH;have AA:=yD AE;clear AH AE
       go_enter Tryz.func93,Tryz.ntmps93
       have c0:=(AM.out.ext AA.out).cell 0
       go_wp2_with fail
       refine(JI f _ L ls _ lc _ rfl (HF.out.kept (Kept.jY AA.out)) (HL.out.ext AA.out) hlen true hF.out).mono ?_;rintro e w1 ⟨rfl,AB⟩;have AF:=AJ.out.ext AB;have AG:=AN.out.ext (AA.out.trans AB);have AD:=yD AF;have AC:=yD AG;have AK:Hid (Ext w w1):=yD (AA.out.trans AB);clear AB AF AG c0;generalize w.heap.size=ga at *;have b2:=AD.out.cell 2;have b3:=AD.out.cell 3;have n2:=AC.out.cell 2;have n3:=AC.out.cell 3
       go_wp2_with fail
       go_ret;exact⟨xE HR.out.symm,AK.out⟩
     case neg=>
      have AW:text.data.toList.isEmpty=false:=by simpa using h3
      have e3:¬text.toList=[]:=by rw[HT.out]; exact h3
      have e4:text.toList.isEmpty=false:=by simpa using e3
      have HR:Hid (YL f num text.data.toList ls=false):=yD (by rw[AU.out]; rw[hF,d1,d2,AW]; rfl);have hF:=yD hF;have H3:=yD h3;clear h3 AW
      rcases hmf with rfl | ⟨fm,lm,rfl⟩
      ·have AH:=Blk.new w 147 #[.slice KA f.kids.length AI,.nilFunc,.bool false,.int .i64 mo];have AE:=Ext.alloc w (.cells #[.slice KA f.kids.length AI,.nilFunc,.bool false,.int .i64 mo] 147);have AJ:=yD AH;have AA:=yD AE;clear AH AE
       go_enter Tryz.func93,Tryz.ntmps93
       have c0:=(AM.out.ext AA.out).cell 0
       go_wp2_with fail
       refine(JI f _ L ls _ lc _ rfl (HF.out.kept (Kept.jY AA.out)) (HL.out.ext AA.out) hlen true hF.out).mono ?_;rintro e w1 ⟨rfl,AB⟩;have AF:=AJ.out.ext AB;have AG:=AN.out.ext (AA.out.trans AB);have AD:=yD AF;have AC:=yD AG;have AK:Hid (Ext w w1):=yD (AA.out.trans AB);clear AB AF AG c0;generalize w.heap.size=ga at *;have b2:=AD.out.cell 2;have b3:=AD.out.cell 3;have n2:=AC.out.cell 2;have n3:=AC.out.cell 3
       go_wp2_with fail
       go_ret;exact⟨xE HR.out.symm,AK.out⟩
      ·have AH:=Blk.new w 147 #[.slice KA f.kids.length AI,(.func (.func fm) #[] lm),.bool false,.int .i64 mo];have AE:=Ext.alloc w (.cells #[.slice KA f.kids.length AI,(.func (.func fm) #[] lm),.bool false,.int .i64 mo] 147);have AJ:=yD AH;have AA:=yD AE;clear AH AE
       go_enter Tryz.func93,Tryz.ntmps93
       have c0:=(AM.out.ext AA.out).cell 0
       go_wp2_with fail
       refine(JI f _ L ls _ lc _ rfl (HF.out.kept (Kept.jY AA.out)) (HL.out.ext AA.out) hlen true hF.out).mono ?_;rintro e w1 ⟨rfl,AB⟩;have AF:=AJ.out.ext AB;have AG:=AN.out.ext (AA.out.trans AB);have AD:=yD AF;have AC:=yD AG;have AK:Hid (Ext w w1):=yD (AA.out.trans AB);clear AB AF AG c0;generalize w.heap.size=ga at *;have b2:=AD.out.cell 2;have b3:=AD.out.cell 3;have n2:=AC.out.cell 2;have n3:=AC.out.cell 3
       go_wp2_with fail
       go_ret;exact⟨xE HR.out.symm,AK.out⟩
theorem zQx (css:List (List Value))(h:∀cs ∈ css,cs.length=4):∀(i j:Nat) (hi:i<css.length),j<4→css.flatten[i*4+j]?=(css[i])[j]?:=by
 induction css with
 | nil=>intro i j hi; simp at hi
 | cons a l ih=>
  intro i j hi hj;have ha:=h a (by simp);rw[List.flatten_cons]
  match i,hi with
  | 0,_=>rw[Nat.zero_mul,Nat.zero_add,List.getElem?_append_left (by omega)]; rfl
  | i+1,hi=>
   rw[List.getElem?_append_right (by omega),ha,show(i+1)*4+j-4=i*4+j from by omega];exact ih (fun cs hc=>h cs (by simp[hc])) i j (by simpa using hi) hj
theorem zET.mem {α β:Type}{R:α→β→Prop}:∀ {l:List α} {m:List β} (h:zET R l m),∀b ∈ m,∃a,R a b
 | [],[],_=>fun b hb=>by cases hb
 | a::l,c::m,⟨h1,h2⟩=>fun b hb=>by
  rcases List.mem_cons.1 hb with rfl | hb
  ·exact⟨a,h1⟩
  ·exact h2.mem b hb
 | [],_::_,h=>h.elim
 | _::_,[],h=>h.elim
theorem zAF.open_ {w:World}{fs:List jK}{v:Value}(h:zAF w fs v):∃A c,v=.slice A fs.length c∧∀i (hi:i<fs.length),∃g cs,A=some ⟨g,0,none⟩∧g<w.heap.size∧(∀j,j<4→w.cell? ⟨g,i*4+j,none⟩=cs[j]?)∧zBW w fs[i] cs:=by
 rcases h with ⟨h1,h2⟩ | ⟨g,AB,h1,h2,h3⟩
 ·subst h1; exact⟨none,0,h2,fun i hi=>by simp at hi⟩
 ·refine⟨_,_,h1,fun i hi=>?_⟩;obtain⟨cs,hc,hk⟩:=h3.get i hi
  have AA:i<AB.length:=by rw[←h3.len]; exact hi
  refine⟨g,cs,rfl,h2.lt,fun j hj=>?_,hk⟩;rw[h2.cell]
  have:=zQx AB (fun cs AC=>by obtain⟨a,ha⟩:=h3.mem cs AC; exact ha.len) i j AA hj
  rw[yG AA] at hc;injection hc with hc;rw[hc] at this
  simpa using this
theorem any_none {n:Nat}{q:Nat→Bool}(h:∀j,j<n→q j=false):(List.range n).any q=false:=by
 rw[List.any_eq_false];intro j hj;rw[h j (List.mem_range.1 hj)];exact Bool.false_ne_true
theorem any_some {n:Nat}{q:Nat→Bool}(j:Nat)(hj:j<n)(h:q j=true):(List.range n).any q=true:=List.any_eq_true.2 ⟨j,List.mem_range.2 hj,h⟩
theorem zIH {α:Type}(l:List α)(f:α→Bool)(d:α):((List.range l.length).any fun i=>f (l.getD i d))=l.any f:=by
 induction l with
 | nil=>rfl
 | cons x l ih=>
  rw[zJ,List.range_succ_eq_map,List.any_cons,List.any_map,List.any_cons]
  congr 1
def zC7:jK:=⟨[],none,false,0⟩
theorem zNq (b:Bool)(f:jK)(cs:List Value)(L:Option Addr)(ls:List Int)(lc gk gn:Nat)(x:xB)(w:World)(hf:zBW w f cs)(hl:Cells w L (xL ls))(hlen:ls.length≤9000)(hx:x.text.size≤9000)
  (hgk:Blk w gk 22 #[.slice L ls.length lc]) (hgn:Blk w gn 48 (Array.mk x.cells)) (hb:YL f x.num x.text.data.toList ls=b) :
  Calls Tryz.prog 93 #[.agg (Array.mk cs),.pointer (some ⟨gk,0,none⟩),.pointer (some ⟨gn,0,none⟩)] w fun e w'=>e=.returned (.bool b)∧Ext w w':=by
 subst hb;exact zO1 f cs L ls _ lc gk gn x w rfl hf hl hlen hx hgk hgn
theorem zLf (fs:List jK)(A:Option Addr)(n c:Nat)(L:Option Addr)(ls:List Int)(lc gk gn:Nat)(x:xB)(w:World)(hfs:zAF w fs (.slice A n c))(hfl:fs.length≤10)(hl:Cells w L (xL ls))(hlen:ls.length≤9000)(hx:x.text.size≤9000)
  (hgk:Blk w gk 22 #[.slice L ls.length lc]) (hgn:Blk w gn 48 (Array.mk x.cells)) :
  Calls Tryz.prog 139 #[.slice A n c,.func (.func 93) #[] #[.pointer (some ⟨gk,0,none⟩),.pointer (some ⟨gn,0,none⟩)]] w fun e w'=>∃r:Int,e=.returned (.int .i64 r)∧decide (0≤r)=(List.range fs.length).any (fun i=>YL (fs.getD i zC7) x.num x.text.data.toList ls)∧Ext w w':=by
 obtain⟨A',c',hv,AO⟩:=hfs.open_;injection hv with h1 h2 h3;subst h1 h2 h3;have AP:=yD AO;have HL:=yD hl;have AQ:=yD hgk;have AR:=yD hgn;clear AO hl hgk hgn hfs;obtain⟨q,HQ⟩:∃q:Nat→Bool,Hid ((fun i=>YL (fs.getD i zC7) x.num x.text.data.toList ls)=q):=⟨_,yD rfl⟩;rw[HQ.out]
 go_enter Tryz.func139,Tryz.ntmps139
 go_wp2_with fail
 go_loopw [8] (fun i wr=>∃k:Nat,k≤fs.length∧i=.int .i64 k∧Hid (Ext w wr)∧Hid (∀j,j<k→q j=false)) (fun i _=>fs.length-(intOf i).toNat)
 case atStart=>exact⟨0,zT _,rfl,yD (Ext.refl _),yD fun j hj=>by omega⟩
 case round=>
  obtain⟨k,hk,rfl,HX,HR⟩:=hrel;obtain⟨wa,rfl⟩:∃wa:World,wa=wr:=⟨_,rfl⟩
  by_cases AI:k<fs.length
  ·have d0:decide ((k:Int)<(fs.length:Int))=true:=yP (by omega);obtain⟨g,cs,rfl,hg,AC,AB⟩:=AP.out k AI;obtain⟨b,hb⟩:∃b,q k=b:=⟨_,rfl⟩;have HB:=yD hb
   have AN:fs.getD k zC7=fs[k]:=by simp[yE,AI]
   have AM:Hid (YL fs[k] x.num x.text.data.toList ls=b):=yD (by rw[←hb,←HQ.out,←AN]);have AA:=yD (AB.kept (Kept.jY HX.out));obtain⟨ks,mv,rfl,AJ,AF⟩:=AB;obtain⟨KA,AK,rfl,-⟩:=AJ.open_
   have hmf:mv=.nilFunc∨∃fm lm,mv=.func (.func fm) #[] lm:=by
    cases hm:fs[k].more with
    | none=>rw[hm] at AF; exact .inl AF
    | some q=>rw[hm] at AF; obtain⟨fm,lm,h3,_⟩:=zAC.form AF; exact .inr ⟨fm,lm,h3⟩
   clear AJ AF hb AN;generalize fs[k]=f at *;have HC:Hid (∀j,j<4→wa.cell? ⟨g,k*4+j,none⟩=([Value.slice KA f.kids.length AK,mv,.bool f.named,.int .i64 f.most])[j]?):=yD (fun j hj=>(HX.out.cell (p:=⟨g,k*4+j,none⟩) hg).trans (AC j hj));clear AC;have AL:=yD (HL.out.ext HX.out);have AD:=yD (AQ.out.ext HX.out);have AG:=yD (AR.out.ext HX.out)
   rcases hmf with rfl | ⟨fm,lm,rfl⟩
   all_goals
    have c0:wa.cell? ⟨g,k*4,none⟩=some (.slice KA f.kids.length AK):=HC.out 0 (by omega);have c1:=HC.out 1 (by omega);have c2:=HC.out 2 (by omega);have c3:=HC.out 3 (by omega)
    cases b with
    | true=>
     go_wp2_with (refine(zNq true f _ L ls lc gk gn x _ AA.out AL.out hlen hx AD.out AG.out AM.out).mono ?_; rintro e w2 ⟨rfl,AE⟩; have AH:Hid (Ext w w2):=yD (HX.out.trans AE); clear AE)
     go_ret;exact⟨_,rfl,by rw[yP (by omega)]; exact(any_some k AI HB.out).symm,AH.out⟩
    | false=>
     go_wp2_with (refine(zNq false f _ L ls lc gk gn x _ AA.out AL.out hlen hx AD.out AG.out AM.out).mono ?_; rintro e w2 ⟨rfl,AE⟩; have AH:Hid (Ext w w2):=yD (HX.out.trans AE); clear AE)
     go_roundw
     case rel=>exact⟨k+1,by omega,by go_num,AH,yD fun j hj=>by
      by_cases AS:j=k
      ·subst AS; exact HB.out
      ·exact HR.out j (by omega)⟩
     case measure=>simp[intOf]; omega
  ·obtain rfl:k=fs.length:=by omega
   have d0:decide ((fs.length:Int)<(fs.length:Int))=false:=by simp
   go_wp2_with fail
   go_ret;exact⟨_,rfl,by rw[any_none HR.out]; rfl,HX.out⟩
theorem zJu (fs:List jK)(v:Value)(L:Option Addr)(ls:List Int)(lc gk gn:Nat)(x:xB)(w:World)(hfs:zAF w fs v)(hfl:fs.length≤10)(hl:Cells w L (xL ls))(hlen:ls.length≤9000)(hx:x.text.size≤9000)
  (hgk:Blk w gk 22 #[.slice L ls.length lc]) (hgn:Blk w gn 48 (Array.mk x.cells)) :
  Calls Tryz.prog 91 #[v,.func (.func 93) #[] #[.pointer (some ⟨gk,0,none⟩),.pointer (some ⟨gn,0,none⟩)]] w fun e w'=>e=.returned (.bool (fs.any fun f=>YL f x.num x.text.data.toList ls))∧Ext w w':=by
 have AD:Hid ((List.range fs.length).any (fun i=>YL (fs.getD i zC7) x.num x.text.data.toList ls)=fs.any fun f=>YL f x.num x.text.data.toList ls):=yD (zIH fs (fun f=>YL f x.num x.text.data.toList ls) zC7);obtain⟨A,c,rfl,-⟩:=hfs.open_
 go_enter Tryz.func91,Tryz.ntmps91
 go_wp2_with fail
 refine(zLf fs A _ c L ls lc gk gn x w hfs hfl hl hlen hx hgk hgn).mono ?_;rintro e w2 ⟨r,rfl,hr,AA⟩;have AC:=yD hr;have AB:=yD AA;clear hr AA
 go_wp2_with fail
 go_ret;exact⟨xE (by rw[AC.out,AD.out]),AB.out⟩
end Go.Proofs.YtioffpjajhalaaaGreatDoor.TT
