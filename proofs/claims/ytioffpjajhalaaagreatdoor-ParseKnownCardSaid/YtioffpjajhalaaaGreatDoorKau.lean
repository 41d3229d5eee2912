/- interlocklaw05.ParseBegins, walked: always true. (and what follows of it). The conditions stand at each lemma. -/
import Derived.Test.YtioffpjajhalaaaGreatDoorKaa
import Derived.Test.YtioffpjajhalaaaGreatDoorKar
import Derived.Test.YtioffpjajhalaaaGreatDoorKat
import Derived.Deep.QuietTactic
import Derived.Test.YtioffpjajhalaaaGreatDoorKab
import Derived.Deep.Slices
import Derived.Deep.Fields
import Derived.ChangeSame
import Derived.OpenShut
import Derived.ShutString
import Derived.ChangeOld
import Derived.BigQuiet
import Derived.Deep.Cut
import Derived.Test.YtioffpjajhalaaaGreatDoorKac
set_option linter.unusedVariables false
set_option linter.unusedSimpArgs false
set_option maxRecDepth 100000
set_option maxHeartbeats 16000000
namespace Go.Proofs.YtioffpjajhalaaaGreatDoor
open Go Go.RowKit
theorem Cells.take {w:World}{A:Option Addr}{cs:List Value}(h:Cells w A cs)(n:Nat):Cells w A (cs.take n):=by
 rcases h with rfl | ⟨b,AA,hA,hb,hc⟩
 ·exact .inl (by simp)
 ·refine .inr ⟨b,AA,hA,hb,fun k hk=>?_⟩;rw[List.length_take] at hk;rw[hc k (by omega),List.getElem?_take_of_lt (by omega)]
theorem zD2 (l:List Tok)(k:Nat)(h:k<l.length):∀j,j<5→(vB l)[k*5+j]?=(xS l[k])[j]?:=by
 induction l generalizing k with
 | nil=>simp at h
 | cons t l ih=>
  intro j hj
  show(xS t++vB l)[k*5+j]?=_
  cases k with
  | zero=>rw[List.getElem?_append_left (by show 0*5+j<5; omega)]; simp
  | succ k=>
   rw[List.getElem?_append_right (by show 5≤_; omega)]
   have:=ih k (by simpa using h) j hj
   rw[show(k+1)*5+j-(xS t).length=k*5+j from by show _-5=_; omega]
   simpa using this
theorem zEO (l:Bs)(n:Nat):(xL l).take n=xL (l.take n):=by simp[xL,List.map_take]
theorem zSQ (i:Int)(n:Nat)(h0:0<n)(hn:n≤2000):∃k:Nat,k<n∧(wrap64 (i.tmod n+n)).tmod n=(k:Int):=by
 have h1:=Int.tmod_lt_of_pos i (show(0:Int)<n by omega);have h2:=Int.lt_tmod_of_pos i (show(0:Int)<n by omega)
 have hw:wrap64 (i.tmod n+n)=i.tmod n+n:=by
  generalize i.tmod n=x at *;unfold wrap64;omega
 rw[hw];have h3:=Int.tmod_lt_of_pos (i.tmod n+n) (show(0:Int)<n by omega);have h4:=Int.tmod_nonneg (n:Int) (show 0≤i.tmod n+n by omega);exact⟨((i.tmod n+n).tmod n).toNat,by omega,by omega⟩
theorem zR2 (i:Int)(n:Nat)(w:World)(h0:0<n)(hn:n≤2000):Calls Tryz.prog 35 #[.int .i64 i,.int .i64 (n:Int)] w fun e w'=>(∃k,k<n∧e=.returned (.int .i64 (k:Int)))∧w=w':=by
 have d0:decide ((n:Int)≤0)=false:=yP (by omega);obtain⟨k,hk,HK⟩:∃k,k<n∧Hid ((wrap64 (i.tmod n+n)).tmod n=(k:Int)):=let ⟨k,h1,h2⟩:=zSQ i n h0 hn; ⟨k,h1,yE h2⟩
 go_enter Tryz.func35,Tryz.ntmps35
 go_wp2_with fail
 rw[HK.out];go_ret;exact⟨⟨k,hk,rfl⟩,rfl⟩
theorem zRw (A:Option Addr)(l:Bs)(n c:Nat)(w:World)(hn:n=l.length)(hbig:l.length≤140737488355328)(hcap:l.length≤c)(hnil:A=none→c=0)(h:Cells w A (xL l)) :
  Calls Tryz.prog 9 #[.slice A n c] w fun e w'=>∃A' n' c' ev,e=.returned (.tuple #[.slice A' n' c',ev])∧Ext w w'∧(ev=.nilIface∨∃g,ev=.iface 107 (.pointer (some ⟨g,0,none⟩))):=by
 refine(zDV A l n c w hn hbig hcap hnil h).mono ?_;rintro e w' ⟨hx,h⟩
 cases hr:XS l with
 | ok ts=>
  rw[hr] at h;obtain⟨A',c',h1,_⟩:=h;exact⟨A',_,c',_,h1,hx,.inl rfl⟩
 | err a er=>
  rw[hr] at h;obtain⟨g,h1,_⟩:=h;exact⟨_,_,_,_,h1,hx,.inr ⟨g,rfl⟩⟩
theorem zIe (A:Option Addr)(l:Bs)(n c:Nat)(i:Int)(w:World)(hG:GT w)(hn:n=l.length)(hcap:l.length≤c)(hnil:A=none→c=0)(h:Cells w A (xL l)) :
  Calls Tryz.prog 11 #[.slice A n c,.int .i64 i] w fun e w'=>e=.returned (.bool true)∧Ext w w':=by
 subst hn;have HG:=yE hG;have HC:=yE h;clear hG h
 by_cases Al:1000<l.length
 ·have d0:decide ((1000:Int)<(l.length:Int))=true:=yQ (by omega)
  go_enter Tryz.func11,Tryz.ntmps11
  go_wp2_with fail
  refine(YM w HG.out).mono ?_;rintro e w' ⟨rfl,hx⟩
  go_wp2_with fail
  go_ret;exact⟨rfl,hx⟩
 ·have d0:decide ((1000:Int)<(l.length:Int))=false:=yP (by omega)
  cases hr:jU l with
  | err a er=>
   have AT:=yE hr;clear hr
   go_enter Tryz.func11,Tryz.ntmps11
   go_wp2_with fail
   refine(zBq A l l.length c w rfl (by omega) hcap hnil HC.out a er AT.out).mono ?_;rintro e AC ⟨g2,rfl,_,_,AK⟩;have AB:=yE AK;clear AK
   go_upto_region 4 with fail
   have AA:Ext AC (AC.alloc (.cells #[.slice none 0 0] 39)):=Ext.alloc _ _;have AJ:=yE (AB.out.trans AA);clear AA;generalize AC.alloc (.cells #[.slice none 0 0] 39)=w2 at *
   go_wp2_with fail
   refine(zRw A l l.length c w2 rfl (by omega) hcap hnil (HC.out.ext AJ.out)).mono ?_;rintro e w3 ⟨A3,n3,c3,As,rfl,AQ,Ar⟩;have AG:=yE (AJ.out.trans AQ);clear AQ
   go_wp2_with fail
   refine(YM w3 (HG.out.ext AG.out)).mono ?_;rintro e w8 ⟨rfl,AM⟩
   go_wp2_with fail
   go_ret;exact⟨rfl,AG.out.trans AM⟩
  | ok x=>
   obtain⟨ts,AP,Af,_⟩:=zLj hr;have AT:=yE hr
   have AW:XS l=.ok ts:=by rw[zPh (by omega)]; exact AP
   have Ao:=yE AW;have At:=(zFf ts 0 l AP).1;have Ap:0<ts.length:=List.length_pos_iff.2 (zMw AP);have Aq:Hid (∀k (hk:k<ts.length),ts[k].at_≤l.length∧((∃x,jU (l.take ts[k].at_)=.ok x)∨jU (l.take ts[k].at_)=.err ts[k].at_ 50)):=yE fun k hk=>zMd AP Af (by omega) k hk;clear hr AW AP Af
   go_enter Tryz.func11,Tryz.ntmps11
   go_wp2_with fail
   refine(zCQ A l l.length c w rfl (by omega) hcap hnil HC.out x AT.out).mono ?_;rintro e AC ⟨A2,c2,AY,rfl,_,_,AK⟩;have AB:=yE AK;clear AK
   go_upto_region 4 with fail
   have AA:Ext AC (AC.alloc (.cells #[.slice A2 AY.length c2] 39)):=Ext.alloc _ _;have AJ:=yE (AB.out.trans AA);clear AA;generalize AC.alloc (.cells #[.slice A2 AY.length c2] 39)=w2 at *
   go_wp2_with fail
   refine(zDV A l l.length c w2 rfl (by omega) hcap hnil (HC.out.ext AJ.out)).mono ?_;rw[Ao.out];rintro e w3 ⟨AQ,A3,c3,rfl,_,Ac⟩;have AG:=yE (AJ.out.trans AQ);have An:=yE (Cells.own Ac);clear AQ Ac
   have d1:((ts.length:Int)==0)=false:=by rw[yG]; omega
   go_wp2_with fail
   refine(zR2 i ts.length w3 Ap (by omega)).mono ?_;rintro e w4 ⟨⟨k,hk,rfl⟩,rfl⟩;obtain⟨b3,AL,Am,Ak,Ag⟩:=An.out.at_ (by rw[XO]; omega);subst Am
   have Ab:∀j,j<5→w3.cell? ⟨b3,AL+k*5+j,none⟩=(xS ts[k])[j]?:=fun j hj=>by
    rw[Nat.add_assoc,Ag _ (by rw[XO]; omega)];exact zD2 ts k hk j hj
   have Ai:=Aq.out k hk;obtain⟨Aj,AH⟩:=Ai;have AS:=yE AH;clear AH;obtain⟨at0,Ae⟩:∃a,Hid (ts[k].at_=a):=⟨_,yE rfl⟩
   have c1:w3.cell? ⟨b3,AL+k*5+1,none⟩=some (.int .i64 (at0:Int)):=by rw[←Ae.out]; exact Ab 1 (by omega)
   rw[Ae.out] at Aj AS;clear Ab Ag
   have q0:(k:Int)<(ts.length:Int):=by omega
   have q1:(at0:Int)≤(c:Int):=by omega
   have q2:at0≤c:=by omega
   have HP:Hid (Cells w3 A (xL (l.take at0))):=yE (by rw[←zEO]; exact(HC.out.ext AG.out).take _)
   have Aa:(l.take at0).length=at0:=by rw[List.length_take]; omega
   go_upto_region 11 with fail
   cases hp:jU (l.take at0) with
   | ok y=>
    have AU:=yE hp;clear hp AS
    go_wp2_with fail
    refine(zCQ A (l.take at0) at0 c w3 Aa.symm (by omega) (by omega) hnil HP.out y AU.out).mono ?_;rintro e AE ⟨A5,c5,Ad,rfl,_,_,AO⟩;have AD:=yE (AG.out.trans AO);clear AO
    go_upto_region 12 with fail
    have AA:Ext AE (AE.alloc (.cells #[.slice A5 Ad.length c5] 39)):=Ext.alloc _ _;have AR:=yE (AD.out.trans AA);clear AA;generalize AE.alloc (.cells #[.slice A5 Ad.length c5] 39)=w5 at *
    go_wp2_with fail
    refine(zLw w5).mono ?_;rintro e w6 ⟨rfl,AI⟩;have AN:=yE (AR.out.trans AI);clear AI;unfold zGB
    go_wp2_with fail
    refine(YM w6 (HG.out.ext AN.out)).mono ?_;rintro e w8 ⟨rfl,AM⟩
    go_wp2_with fail
    go_ret;exact⟨rfl,AN.out.trans AM⟩
   | err a er=>
    have AH:=AS.out;rw[hp] at AH
    have Ah:a=at0∧er=50:=by
     rcases AH with ⟨_,h⟩ | h
     ·cases h
     ·injection h with h1 h2;exact⟨h1,h2⟩
    obtain⟨rfl,rfl⟩:=Ah;have AU:=yE hp;clear hp AH AS
    go_wp2_with fail
    refine(zBq A (l.take a) a c w3 Aa.symm (by omega) (by omega) hnil HP.out a 50 AU.out).mono ?_;rintro e AE ⟨g5,rfl,_,AV,AO⟩;have AD:=yE (AG.out.trans AO);have AF:=yE AV;clear AO AV
    go_upto_region 12 with fail
    have AA:Ext AE (AE.alloc (.cells #[.slice none 0 0] 39)):=Ext.alloc _ _;have AR:=yE (AD.out.trans AA);have AF:=yE (AF.out.ext AA);clear AA;generalize AE.alloc (.cells #[.slice none 0 0] 39)=w5 at *
    go_wp2_with fail
    refine(zGz g5 (a:Int) _ _ 50 w5 (HG.out.ext AR.out) AF.out).mono ?_;rintro e w6 ⟨rfl,AI⟩;have AN:=yE (AR.out.trans AI);have AF:=yE (AF.out.ext AI);clear AI
    go_wp2_with fail
    refine(zFq g5 (a:Int) _ _ 50 w6 (HG.out.ext AN.out) AF.out).mono ?_;rintro e w7 ⟨rfl,AX⟩;have AZ:=yE (AN.out.trans AX);clear AX
    go_wp2_with fail
    refine(YM w7 (HG.out.ext AZ.out)).mono ?_;rintro e w8 ⟨rfl,AM⟩
    go_wp2_with fail
    go_ret;exact⟨rfl,AZ.out.trans AM⟩
end Go.Proofs.YtioffpjajhalaaaGreatDoor
namespace Go.Proofs.YtioffpjajhalaaaGreatDoor
open Go Go.RowKit Go.Deep Go.ChangeShapes Go.WideShapes
theorem zTp {α:Type}(f:α→List Value)(sz:Nat)(hf:∀x,(f x).length=sz)(l:List α):∀(i j:Nat) (hi:i<l.length),j<sz→(l.flatMap f)[i*sz+j]?=(f l[i])[j]?:=by
 induction l with
 | nil=>intro i j hi; simp at hi
 | cons x l ih=>
  intro i j hi hj;rw[List.flatMap_cons]
  match i,hi with
  | 0,_=>
   rw[Nat.zero_mul,Nat.zero_add,List.getElem?_append_left (by rw[hf]; exact hj)]
   rfl
  | i+1,hi=>
   rw[List.getElem?_append_right (by rw[hf,Nat.succ_mul]; omega),hf,show(i+1)*sz+j-sz=i*sz+j from by rw[Nat.succ_mul]; omega];exact ih i j (by simpa using hi) hj
theorem zRS {α:Type}(f:α→List Value)(sz:Nat)(hf:∀x,(f x).length=sz)(l:List α):(l.flatMap f).length=l.length*sz:=by
 induction l with
 | nil=>simp
 | cons x l ih=>rw[List.flatMap_cons,yN,hf,ih,zJ,Nat.succ_mul]; omega
theorem zNw (b off k:Nat):(⟨b,off,none⟩:Addr).add k=⟨b,off+k,none⟩:=by
 unfold Addr.add
 by_cases h:k=0
 ·subst h; rfl
 ·simp[h]
section
variable {H:Type} {enc:TypeId × Value→H} {P:Program} {w:World} {base:Nat} {spare:Nat→Bool} {held:Bool}
end
end Go.Proofs.YtioffpjajhalaaaGreatDoor
namespace Go.Proofs.YtioffpjajhalaaaGreatDoor.TT
def zC4 (len:Nat)(Z:List Nat):List Int→Nat→Option Nat
 | [],a=>some a
 | k::r,a=>if k=(a:Int)∧a<len then zC4 len Z r (Z.getD a 0) else none
def zAg (ks:List (List Int)):Nat→Option (List Nat)
 | 0=>some (List.replicate ks.length 0)
 | j+1=>match zAg ks j with
  | none=>none
  | some Z=>match zC4 ks.length Z (ks.getD (ks.length-1-j) []) (ks.length-1-j+1) with
   | none=>none
   | some a=>some (Z.set (ks.length-1-j) a)
def zDR (ks:List (List Int)):Option (List Nat):=
 match zAg ks ks.length with
 | none=>none
 | some Z=>if ks.length≠0∧Z.getD 0 0=ks.length then some Z else none
def zEX (g:Nat→Option Nat)(len:Nat):List Int→Option Nat→Option Nat
 | [],a=>a
 | _::_,none=>none
 | k::r,some a=>if a<len∧k=(a:Int) then zEX g len r (g a) else none
def zLV (ks:List (List Int)):Nat→Nat→Option Nat
 | 0,_=>none
 | f+1,i=>if i<ks.length then zEX (zLV ks f) ks.length (ks.getD i []) (some (i+1)) else none
theorem zD0 (g:Nat→Option Nat)(len:Nat)(l:List Int):zEX g len l none=none:=by cases l <;> rfl
theorem zCM (g:Nat→Option Nat)(len:Nat)(k:Int)(r:List Int)(a:Nat):zEX g len (k::r) (some a)=if a<len∧k=(a:Int) then zEX g len r (g a) else none:=rfl
theorem zSc {g:Nat→Option Nat}{len:Nat}(hg:∀a e,g a=some e→a<e∧e≤len):∀(l:List Int) (a0 e:Nat),a0≤len→zEX g len l (some a0)=some e→a0≤e∧e≤len:=by
 intro l
 induction l with
 | nil=>intro a0 e h0 h; injection h with h; omega
 | cons k r ih=>
  intro a0 e h0 h;rw[zCM] at h
  split at h
  ·rename_i hc
   cases ha:g a0 with
   | none=>rw[ha,zD0] at h; cases h
   | some a1=>
    rw[ha] at h;have h1:=hg a0 a1 ha;have h2:=ih a1 e h1.2 h;omega
  ·cases h
theorem zPC (ks:List (List Int)):∀f i e,zLV ks f i=some e→i<e∧e≤ks.length:=by
 intro f
 induction f with
 | zero=>intro i e h; cases h
 | succ f ih=>
  intro i e h;unfold zLV at h
  split at h
  ·rename_i hi
   have:=zSc ih _ _ _ (by omega) h
   omega
  ·cases h
theorem zNa {g g':Nat→Option Nat}{len i:Nat}(h:∀a,i<a→g a=g' a)(hg:∀a e,g a=some e→a<e):∀(l:List Int) (a0:Nat),i<a0→zEX g len l (some a0)=zEX g' len l (some a0):=by
 intro l
 induction l with
 | nil=>intro a0 _; rfl
 | cons k r ih=>
  intro a0 h0;rw[zCM,zCM,←h a0 h0]
  split
  ·cases ha:g a0 with
   | none=>rw[zD0,zD0]
   | some a1=>exact ih a1 (by have:=hg a0 a1 ha; omega)
  ·rfl
theorem zPS (ks:List (List Int)):∀f f' i,ks.length-i≤f→ks.length-i≤f'→zLV ks f i=zLV ks f' i:=by
 intro f
 induction f with
 | zero=>
  intro f' i h _
  cases f' with
  | zero=>rfl
  | succ f'=>unfold zLV; rw[if_neg (by omega)]
 | succ f ih=>
  intro f' i h h'
  cases f' with
  | zero=>unfold zLV; rw[if_neg (by omega)]
  | succ f'=>
   unfold zLV
   split
   ·exact zNa (i:=i) (fun a ha=>ih f' a (by omega) (by omega)) (fun a e he=>(zPC ks f a e he).1) _ _ (by omega)
   ·rfl
def zHn (ks:List (List Int))(i:Nat):Option Nat:=zLV ks ks.length i
theorem zPi (ks:List (List Int))(i:Nat):zHn ks i=if i<ks.length then zEX (zHn ks) ks.length (ks.getD i []) (some (i+1)) else none:=by
 unfold zHn;rw[zPS ks ks.length (ks.length+1) i (by omega) (by omega)]
 rfl
theorem zI6 {ks:List (List Int)}{i e:Nat}(h:zHn ks i=some e):i<e∧e≤ks.length:=zPC ks _ _ _ h
theorem zTT {ks:List (List Int)}{i e:Nat}(h:zHn ks i=some e):i<ks.length:=by have:=zI6 h; omega
theorem zQc {ks:List (List Int)}{Z:List Nat}{i:Nat}(hZ:∀a,i<a→a<ks.length→zHn ks a=some (Z.getD a 0)):∀(l:List Int) (a0:Nat),i<a0→zC4 ks.length Z l a0=zEX (zHn ks) ks.length l (some a0):=by
 intro l
 induction l with
 | nil=>intro a0 _; rfl
 | cons k r ih=>
  intro a0 h0;rw[zCM];unfold zC4
  by_cases hc:k=(a0:Int)∧a0<ks.length
  ·have hz:=hZ a0 h0 hc.2;rw[if_pos hc,if_pos ⟨hc.2,hc.1⟩,hz];exact ih _ (by have:=zI6 hz; omega)
  ·rw[if_neg hc,if_neg (fun h=>hc ⟨h.2,h.1⟩)]
theorem zJl (ks:List (List Int)):∀(j:Nat) (Z:List Nat),j≤ks.length→zAg ks j=some Z→Z.length=ks.length∧∀a,ks.length-j≤a→a<ks.length→zHn ks a=some (Z.getD a 0):=by
 intro j
 induction j with
 | zero=>
  intro Z _ h;injection h with h;subst h;exact⟨by simp,fun a h1 h2=>by omega⟩
 | succ j ih=>
  intro Z hj h;unfold zAg at h
  split at h
  ·cases h
  ·rename_i Z0 h0;obtain⟨hl,hz⟩:=ih Z0 (by omega) h0
   split at h
   ·cases h
   ·rename_i a ha;injection h with h;subst h;refine⟨by simpa using hl,fun b h1 h2=>?_⟩;rw[zQc (i:=ks.length-1-j) (fun a h1 h2=>hz a (by omega) h2) _ _ (by omega)] at ha
    by_cases hb:b=ks.length-1-j
    ·subst hb;rw[zPi,if_pos h2,ha];simp[yF,hl,h2]
    ·rw[hz b (by omega) h2];simp[yF,List.getElem?_set,Ne.symm hb]
theorem zKN {ks:List (List Int)}{Z:List Nat}(h:zDR ks=some Z):Z.length=ks.length∧ks.length≠0∧zHn ks 0=some ks.length∧∀a,a<ks.length→zHn ks a=some (Z.getD a 0):=by
 unfold zDR at h
 split at h
 ·cases h
 ·rename_i Z0 h0
  split at h
  ·rename_i hc;injection h with h;subst h;obtain⟨hl,hz⟩:=zJl ks ks.length Z0 (zU _) h0;refine⟨hl,hc.1,?_,fun a ha=>hz a (by omega) ha⟩;rw[hz 0 (by omega) (by omega),hc.2]
  ·cases h
theorem zNX {ks:List (List Int)}:∀(l:List Int) (a0 e:Nat),zEX (zHn ks) ks.length l (some a0)=some e→∀k ∈ l,∃a:Nat,k=(a:Int)∧a0≤a∧a<ks.length:=by
 intro l
 induction l with
 | nil=>intro a0 e _ k hk; cases hk
 | cons x r ih=>
  intro a0 e h k hk;rw[zCM] at h
  split at h
  ·rename_i hc
   rcases List.mem_cons.1 hk with rfl | hk
   ·exact⟨a0,hc.2,zU _,hc.1⟩
   ·cases ha:zHn ks a0 with
    | none=>rw[ha,zD0] at h; cases h
    | some a1=>
     rw[ha] at h;obtain⟨a,h1,h2,h3⟩:=ih a1 e h k hk
     have:=zI6 ha
     exact⟨a,h1,by omega,h3⟩
  ·cases h
theorem zOR {ks:List (List Int)}{i e:Nat}(h:zHn ks i=some e):∀k ∈ ks.getD i [],∃a:Nat,k=(a:Int)∧i<a∧a<ks.length:=by
 intro k hk;have hl:=zTT h;rw[zPi,if_pos hl] at h;obtain⟨a,h1,h2,h3⟩:=zNX _ _ _ h k hk;exact⟨a,h1,by omega,h3⟩
end Go.Proofs.YtioffpjajhalaaaGreatDoor.TT
namespace Go.Proofs.YtioffpjajhalaaaGreatDoor.TT
open Go Go.RowKit Go.Deep Go.ChangeShapes Go.WideShapes
structure vI where
 kind:Int
 pos:Int
 text:ByteArray
 num:Int
 kA:Option Addr
 kc:Nat
 kids:List Int
def vI.cells (x:vI):List Value:=[.int .u8 x.kind,.int .i64 x.pos,.string x.text,.int .i64 x.num,.slice x.kA x.kids.length x.kc]
def vB (l:List Int):List Value:=l.map (Value.int .i64)
structure zAm (w:World)(x:vI):Prop where
 kind:0≤x.kind∧x.kind<256
 num:-9223372036854775808≤x.num∧x.num≤9223372036854775807
 kids:Cells w x.kA (vB x.kids)
 nil:x.kA=none→x.kc=0
theorem zAm.ext {w w':World}{x:vI}(h:zAm w x)(hx:Ext w w'):zAm w' x:=⟨h.kind,h.num,h.kids.ext hx,h.nil⟩
def zA8 (l:List vI):List Value:=l.flatMap vI.cells
theorem zBP (l:List vI):(zA8 l).length=l.length*5:=zRS vI.cells 5 (fun _=>rfl) l
theorem zFL (l:List vI)(k j:Nat)(h:k<l.length)(hj:j<5):(zA8 l)[k*5+j]?=(l[k].cells)[j]?:=zTp vI.cells 5 (fun _=>rfl) l k j h hj
theorem XO (l:List Int):(vB l).length=l.length:=by simp[vB]
theorem zQH (l:List Int)(k:Nat)(h:k<l.length):(vB l)[k]?=some (.int .i64 l[k]):=by simp[vB,h]
structure VZ (w:World)(A:Option Addr)(l:List vI):Prop where
 cells:Cells w A (zA8 l)
 ok:∀x ∈ l,zAm w x
theorem VZ.ext {w w':World}{A:Option Addr}{l:List vI}(h:VZ w A l)(hx:Ext w w'):VZ w' A l:=⟨h.cells.ext hx,fun x hm=>(h.ok x hm).ext hx⟩
theorem VZ.at_ {w:World}{A:Option Addr}{l:List vI}(h:VZ w A l)(k:Nat)(hk:k<l.length) :
  ∃b AA,A=some ⟨b,AA,none⟩∧b<w.heap.size∧∀j,j<5→w.cell? ⟨b,AA+k*5+j,none⟩=(l[k].cells)[j]?:=by
 obtain⟨b,AA,hA,hb,AB⟩:=h.cells.at_ (by rw[zBP]; omega);refine⟨b,AA,hA,hb,fun j hj=>?_⟩;rw[Nat.add_assoc,AB _ (by rw[zBP]; omega)];exact zFL l k j hk hj
theorem zCw {w:World}{A:Option Addr}{l:List Int}(h:Cells w A (vB l))(k:Nat)(hk:k<l.length):∃b AA,A=some ⟨b,AA,none⟩∧b<w.heap.size∧w.cell? ⟨b,AA+k,none⟩=some (.int .i64 l[k]):=by
 obtain⟨b,AA,hA,hb,AB⟩:=h.at_ (by rw[XO]; omega);exact⟨b,AA,hA,hb,(AB k (by rw[XO]; exact hk)).trans (zQH l k hk)⟩
section
variable {H:Type} {enc:TypeId × Value→H} {w:World} {base:Nat} {spare:Nat→Bool} {held:Bool}
end
end Go.Proofs.YtioffpjajhalaaaGreatDoor.TT
namespace Go.Proofs.YtioffpjajhalaaaGreatDoor.TT
def zA3 (k:Int):Bool:=decide (21≤k)&&decide (k≤26)
def zDm (k:Int):Bool:=decide (7≤k)&&decide (k≤19)
def zEo (k:Int):Bool:=k==2||k==3
inductive XC where
 | zAl (k:Int)
 | expr
 | stmt
 | part
def XC.holds:XC→Int→Bool
 | .zAl j,k=>k==j
 | .expr,k=>zA3 k
 | .stmt,k=>zDm k
 | .part,k=>zEo k
structure JD where
 kids:List XC
 more:Option XC
 named:Bool
 most:Int
def zCZ (k:Int):List JD:=
 if k=1 then [⟨[],some .part,false,0⟩]
 else if k=2 then [⟨[.zAl 5],some (.zAl 5),true,0⟩]
 else if k=3 then [⟨[.zAl 4,.zAl 6],none,true,1⟩]
 else if k=4 then [⟨[],some (.zAl 5),false,0⟩]
 else if k=5 then [⟨[],none,true,0⟩]
 else if k=6 then [⟨[],some .stmt,false,0⟩]
 else if k=7 then [⟨[.zAl 20,.zAl 5],none,true,1⟩]
 else if k=8 then [⟨[.zAl 20,.zAl 5,.expr],none,false,0⟩]
 else if k=9 then [⟨[.zAl 20,.expr],some .expr,false,0⟩]
 else if k=10 then [⟨[.zAl 20],none,false,0⟩]
 else if k=11 then [⟨[.zAl 5,.zAl 5],none,true,0⟩]
 else if k=12 then [⟨[.zAl 5],none,false,1⟩]
 else if k=13 then [⟨[.zAl 5],none,false,0⟩,⟨[.zAl 20],none,false,0⟩]
 else if k=14 then [⟨[.expr,.expr,.zAl 6],none,false,1⟩,⟨[.expr,.expr,.zAl 6,.zAl 6],none,false,1⟩]
 else if k=15 then [⟨[.zAl 21,.zAl 21,.zAl 6],none,true,0⟩]
 else if k=16 then [⟨[.expr],none,true,0⟩]
 else if k=17 then [⟨[.expr],none,false,0⟩]
 else if k=18 then [⟨[],none,false,0⟩]
 else if k=19 then [⟨[],none,false,0⟩]
 else if k=20 then [⟨[.expr],none,true,0⟩]
 else if k=21 then [⟨[],none,false,2147483647⟩]
 else if k=22 then [⟨[],none,true,0⟩]
 else if k=23 then [⟨[.expr,.expr],none,false,0⟩]
 else if k=24 then [⟨[.expr,.expr],none,false,0⟩]
 else if k=25 then [⟨[.expr,.expr],none,false,0⟩]
 else if k=26 then [⟨[.expr],none,false,0⟩]
 else []
def JD.want (f:JD)(i:Nat):Option XC:=if i<f.kids.length then f.kids[i]? else f.more
def zC3 (p:Option XC)(k:Int):Bool:=match p with | none=>false | some p=>p.holds k
def JD.fits (f:JD)(l:List Int):Bool:=
 if l.length<f.kids.length∨(f.kids.length<l.length∧f.more.isNone=true) then false
 else (List.range l.length).all fun i=>zC3 (f.want i) (l.getD i 0)
def ZO (c:Int):Bool:=decide (97≤c)&&decide (c≤122)
def vN (c:Int):Bool:=decide (48≤c)&&decide (c≤57)
def JR (c:Int):Bool:=ZO c||(vN c||c==95)
def zBJ (l:List UInt8):Bool:=match l with
 | []=>false
 | c::r=>ZO (c.toNat:Int)&&r.all fun c=>JR (c.toNat:Int)
def JN (f:JD)(num:Int)(text:List UInt8)(l:List Int):Bool:=
 f.fits l&&(decide (0≤num)&&(decide (num≤f.most)&&((f.named&&zBJ text)||(!f.named&&text.isEmpty))))
def zJo (kind num:Int)(text:List UInt8)(l:List Int):Bool:=(zCZ kind).any fun f=>JN f num text l
end Go.Proofs.YtioffpjajhalaaaGreatDoor.TT
namespace Go.Proofs.YtioffpjajhalaaaGreatDoor.TT
open Go Go.RowKit
theorem jB {a b:Bool}(h:a=b):Ending.returned (.bool a)=.returned (.bool b):=by rw[h]
theorem zBa (k:Int)(w:World):Calls Tryz.prog 55 #[.int .u8 k] w fun e w'=>e=.returned (.bool (zA3 k))∧w=w':=by
 by_cases h:21≤k
 ·have H:Hid (zA3 k=decide (k≤26)):=yE (by unfold zA3; rw[yQ h,Bool.true_and]);have h1:decide (21≤k)=true:=yQ h
  go_enter Tryz.func55,Tryz.ntmps55
  go_wp2
  go_ret;exact⟨jB H.out.symm,rfl⟩
 ·have H:Hid (zA3 k=false):=yE (by unfold zA3; rw[yP h,Bool.false_and]);have h1:decide (21≤k)=false:=yP h
  go_enter Tryz.func55,Tryz.ntmps55
  go_wp2
  go_ret;exact⟨jB H.out.symm,rfl⟩
theorem zBW (k:Int)(w:World):Calls Tryz.prog 142 #[.int .u8 k] w fun e w'=>e=.returned (.bool (zDm k))∧w=w':=by
 by_cases h:7≤k
 ·have H:Hid (zDm k=decide (k≤19)):=yE (by unfold zDm; rw[yQ h,Bool.true_and]);have h1:decide (7≤k)=true:=yQ h
  go_enter Tryz.func142,Tryz.ntmps142
  go_wp2
  go_ret;exact⟨jB H.out.symm,rfl⟩
 ·have H:Hid (zDm k=false):=yE (by unfold zDm; rw[yP h,Bool.false_and]);have h1:decide (7≤k)=false:=yP h
  go_enter Tryz.func142,Tryz.ntmps142
  go_wp2
  go_ret;exact⟨jB H.out.symm,rfl⟩
theorem zBT (k:Int)(w:World):Calls Tryz.prog 140 #[.int .u8 k] w fun e w'=>e=.returned (.bool (zEo k))∧w=w':=by
 by_cases h:k=2
 ·subst h
  go_enter Tryz.func140,Tryz.ntmps140
  go_wp2
  go_ret;exact⟨rfl,rfl⟩
 ·have h1:(k==2)=false:=beq_eq_false_iff_ne.2 h;have H:Hid (zEo k=(k==3)):=yE (by unfold zEo; rw[h1,Bool.false_or])
  go_enter Tryz.func140,Tryz.ntmps140
  go_wp2
  go_ret;exact⟨jB H.out.symm,rfl⟩
theorem zAZ (k j:Int)(g:Nat)(w:World)(hg:Blk w g 5 #[.int .u8 j]):Calls Tryz.prog 168 #[.int .u8 k,.pointer (some ⟨g,0,none⟩)] w fun e w'=>e=.returned (.bool (k==j))∧w=w':=by
 have h0:=hg.cell 0;have hf:=hg.frozen 0;clear hg
 go_enter Tryz.func168,Tryz.ntmps168
 go_wp2
 go_ret;exact⟨rfl,rfl⟩
theorem zJe (k:Int)(w:World):Calls Tryz.prog 141 #[.int .u8 k] w fun e w'=>e=.returned (.func (.func 168) #[] #[.pointer (some ⟨w.heap.size,0,none⟩)])∧w'=w.alloc (.cells #[.int .u8 k] 5):=by
 go_enter Tryz.func141,Tryz.ntmps141
 go_wp2
 go_ret;exact⟨rfl,rfl⟩
def zBB (w:World):XC→Value→Prop
 | .zAl k,v=>∃g,v=.func (.func 168) #[] #[.pointer (some ⟨g,0,none⟩)]∧Blk w g 5 #[.int .u8 k]
 | .expr,v=>v=.func (.func 55) #[] #[]
 | .stmt,v=>v=.func (.func 142) #[] #[]
 | .part,v=>v=.func (.func 140) #[] #[]
theorem zBB.ext {w w':World}{p:XC}{v:Value}(h:zBB w p v)(hx:Ext w w'):zBB w' p v:=by
 cases p with
 | zAl k=>obtain⟨g,h1,h2⟩:=h; exact⟨g,h1,h2.ext hx⟩
 | expr=>exact h
 | stmt=>exact h
 | part=>exact h
theorem zBB.form {w:World}{p:XC}{v:Value}(h:zBB w p v):∃f lb,v=.func (.func f) #[] lb∧v.oneCell'=true:=by
 cases p with
 | zAl k=>obtain⟨g,h1,h2⟩:=h; subst h1; exact⟨_,_,rfl,rfl⟩
 | expr=>subst h; exact⟨_,_,rfl,rfl⟩
 | stmt=>subst h; exact⟨_,_,rfl,rfl⟩
 | part=>subst h; exact⟨_,_,rfl,rfl⟩
def Kept (w w':World):Prop:=∀g t cs,Blk w g t cs→Blk w' g t cs
theorem Kept.ZN {w w':World}(h:Ext w w'):Kept w w':=fun _ _ _ hb=>hb.ext h
theorem Kept.zGi {w w':World}{r clock:Nat}{es:Array MapEntry}(hm:YH w r es clock)(h:Touch r w w'):Kept w w':=fun g t cs hb=>h.blk hb (by
 rintro rfl;unfold Blk at hb;unfold YH at hm;rw[hb] at hm
 cases hm)
def zHc {α β:Type}(R:α→β→Prop):List α→List β→Prop
 | [],[]=>True
 | a::l,b::m=>R a b∧zHc R l m
 | _,_=>False
theorem zHc.mono {α β:Type}{R S:α→β→Prop}(h:∀a b,R a b→S a b):∀ {l:List α} {m:List β},zHc R l m→zHc S l m
 | [],[],_=>trivial
 | a::l,b::m,⟨h1,h2⟩=>⟨h a b h1,zHc.mono h h2⟩
 | [],_::_,h=>h.elim
 | _::_,[],h=>h.elim
theorem zHc.len {α β:Type}{R:α→β→Prop}:∀ {l:List α} {m:List β},zHc R l m→l.length=m.length
 | [],[],_=>rfl
 | a::l,b::m,⟨_,h2⟩=>by rw[zJ,zJ,h2.len]
 | [],_::_,h=>h.elim
 | _::_,[],h=>h.elim
theorem zHc.get {α β:Type}{R:α→β→Prop}:∀ {l:List α} {m:List β} (h:zHc R l m) (i:Nat) (hi:i<l.length),∃b,m[i]?=some b∧R l[i] b
 | a::l,b::m,⟨h1,_⟩,0,_=>⟨b,rfl,h1⟩
 | a::l,b::m,⟨_,h2⟩,i+1,hi=>by
  obtain⟨c,hc,hr⟩:=h2.get i (by simpa using hi);exact⟨c,by simpa using hc,hr⟩
 | [],[],_,i,hi=>by simp at hi
 | [],_::_,h,_,_=>h.elim
 | _::_,[],h,_,_=>h.elim
theorem zBB.kept {w w':World}{p:XC}{v:Value}(h:zBB w p v)(hx:Kept w w'):zBB w' p v:=by
 cases p with
 | zAl k=>obtain⟨g,h1,h2⟩:=h; exact⟨g,h1,hx _ _ _ h2⟩
 | expr=>exact h
 | stmt=>exact h
 | part=>exact h
def zFz (w:World):Option XC→Value→Prop
 | none,v=>v=.nilFunc
 | some p,v=>zBB w p v
theorem zFz.kept {w w':World}{p:Option XC}{v:Value}(h:zFz w p v)(hx:Kept w w'):zFz w' p v:=by
 cases p with
 | none=>exact h
 | some p=>exact zBB.kept h hx
def zDa (w:World)(ps:List XC)(v:Value):Prop:=(ps=[]∧v=.slice none 0 0)∨∃g vs,v=.slice (some ⟨g,0,none⟩) ps.length ps.length∧Blk w g 145 (Array.mk vs)∧zHc (zBB w) ps vs
theorem zDa.kept {w w':World}{ps:List XC}{v:Value}(h:zDa w ps v)(hx:Kept w w'):zDa w' ps v:=by
 rcases h with h | ⟨g,vs,h1,h2,h3⟩
 ·exact .inl h
 ·exact .inr ⟨g,vs,h1,hx _ _ _ h2,h3.mono fun a b h=>zBB.kept h hx⟩
def zDv (w:World)(f:JD)(cs:List Value):Prop:=∃ks mv,cs=[ks,mv,.bool f.named,.int .i64 f.most]∧zDa w f.kids ks∧zFz w f.more mv
theorem zDv.kept {w w':World}{f:JD}{cs:List Value}(h:zDv w f cs)(hx:Kept w w'):zDv w' f cs:=by
 obtain⟨ks,mv,h1,h2,h3⟩:=h;exact⟨ks,mv,h1,h2.kept hx,h3.kept hx⟩
theorem zDv.len {w:World}{f:JD}{cs:List Value}(h:zDv w f cs):cs.length=4:=by
 obtain⟨ks,mv,h1,_⟩:=h;rw[h1]; rfl
def zBF (w:World)(fs:List JD)(v:Value):Prop:=(fs=[]∧v=.slice none 0 0)∨∃g css,v=.slice (some ⟨g,0,none⟩) fs.length fs.length∧Blk w g 147 (Array.mk css.flatten)∧zHc (zDv w) fs css
theorem zBF.kept {w w':World}{fs:List JD}{v:Value}(h:zBF w fs v)(hx:Kept w w'):zBF w' fs v:=by
 rcases h with h | ⟨g,vs,h1,h2,h3⟩
 ·exact .inl h
 ·exact .inr ⟨g,vs,h1,hx _ _ _ h2,h3.mono fun a b h=>zDv.kept h hx⟩
def zEx:List (Int × Value)→Nat→List MapEntry
 | [],_=>[]
 | x::l,c=>{ key:=.int .u8 x.1,val:=x.2,born:=c } :: zEx l (c+1)
theorem zO2 (l:List (Int × Value))(x:Int × Value):∀c,zEx (l++[x]) c=zEx l c++[{ key:=.int .u8 x.1,val:=x.2,born:=c+l.length }]:=by
 induction l with
 | nil=>intro c; rfl
 | cons y l ih=>intro c; simp only[zZ,zEx,ih,zJ]; rw[show c+1+l.length=c+(l.length+1) from by omega]
theorem zLC (a b:Int):Instr.sameNow (.int .u8) (.int .u8 a) (.int .u8 b)=some (a==b):=by simp[Instr.sameNow]
theorem zKS (l:List (Int × Value))(n:Int)(h:∀x ∈ l,x.1≠n):∀c j,Instr.findNow (.int .u8) (.int .u8 n) (zEx l c) j=some none:=by
 induction l with
 | nil=>intro c j; rfl
 | cons x l ih=>
  intro c j;have hx:(n==x.1)=false:=beq_eq_false_iff_ne.2 (Ne.symm (h x (by simp)));unfold zEx Instr.findNow;simp only[zLC,hx];exact ih (fun y hy=>h y (by simp[hy])) _ _
theorem zP8 (l:List (Int × Value))(n:Int):∀(i:Nat) (v:Value) (c j:Nat),l[i]?=some (n,v)→(∀j x,j<i→l[j]?=some x→x.1≠n)→Instr.findNow (.int .u8) (.int .u8 n) (zEx l c) j=some (some (j+i,v)):=by
 induction l with
 | nil=>intro i v c j h; simp at h
 | cons y l ih=>
  intro i v c j hi h;unfold zEx Instr.findNow
  match i with
  | 0=>
   simp at hi
   subst hi;simp only[zLC,beq_self_eq_true]
   rfl
  | i+1=>
   have hx:(n==y.1)=false:=beq_eq_false_iff_ne.2 (Ne.symm (h 0 y (by omega) rfl));simp only[zLC,hx];rw[ih i v (c+1) (j+1) (by simpa using hi) (fun j x hj hx=>h (j+1) x (by omega) (by simpa using hx))]
   congr 3
   omega
structure FSt (w0 w:World)(r:Nat)(ks:List Int)(l:List (Int × Value))(g4 g5 g6 g7:Nat):Prop where
 map:YH w r (Array.mk (zEx l 0)) l.length
 keys:l.map Prod.fst=ks
 zNS:∀x ∈ l,zBF w (zCZ x.1) x.2
 ext:Ext w0 w
 low:w0.heap.size≤r
 k4:Blk w g4 5 #[.int .u8 20]
 k5:Blk w g5 5 #[.int .u8 5]
 k6:Blk w g6 5 #[.int .u8 6]
 k7:Blk w g7 5 #[.int .u8 21]
theorem FSt.mono {w0 w w':World}{r:Nat}{ks:List Int}{l:List (Int × Value)}{g4 g5 g6 g7:Nat}(h:FSt w0 w r ks l g4 g5 g6 g7)(hx:Ext w w'):FSt w0 w' r ks l g4 g5 g6 g7:=
 ⟨h.map.ext hx,h.keys,fun x hm=>(h.zNS x hm).kept (Kept.ZN hx),h.ext.trans hx,h.low,h.k4.ext hx,h.k5.ext hx,h.k6.ext hx,h.k7.ext hx⟩
theorem zB3 {w0 w:World}{ops:Array Oper}{rest:List Oper}{o:Oper}{a:Act}{Q:Exit→Act→World→Prop}{r:Nat}{ks:List Int}{l:List (Int × Value)}{g4 g5 g6 g7:Nat}(hgd:o.guard=none)(m k x:Operand)(n:Int)(v:Value)(ho:o.op=.insert 177 m k x)
  (em:a.eval m=.map (some r)) (ek:a.eval k=.int .u8 n) (ex:a.eval x=v) (hst:FSt w0 w r ks l g4 g5 g6 g7) (hv:zBF w (zCZ n) v) (hn:ks.contains n=false)
  (h:∀w' l',FSt w0 w' r (ks++[n]) l' g4 g5 g6 g7→wpList Tryz.prog ops Q rest (a.put o.dst undef) w'):wpList Tryz.prog ops Q (o::rest) a w:=by
 have AA:∀y ∈ l,y.1≠n:=by
  rintro y hy rfl
  have:y.1 ∈ ks:=by rw[←hst.keys]; exact List.mem_map_of_mem hy
  simp at hn
  exact hn this
 refine zBL hgd 177 m k x ho Tryz.underlying177 Tryz.underlying5 r l.length _ n v em ek ex hst.map (zKS l n AA 0 0) fun w' ht hm=>h w' (l++[(n,v)]) ?_;have hk:=Kept.zGi hst.map ht;refine⟨?_,by rw[List.map_append,hst.keys]; rfl,fun y hy=>?_,ht.ext hst.ext hst.low,hst.low,hk _ _ _ hst.k4,hk _ _ _ hst.k5,hk _ _ _ hst.k6,hk _ _ _ hst.k7⟩
 ·have:(Array.mk (zEx l 0)).push { key:=.int .u8 n,val:=v,born:=l.length } = Array.mk (zEx (l++[(n,v)]) 0):=by
   rw[zO2,Nat.zero_add]
   simp
  rw[this] at hm;rw[yN];exact hm
 ·rcases List.mem_append.1 hy with hy | hy
  ·exact(hst.zNS y hy).kept hk
  ·rw[List.mem_singleton.1 hy];exact hv.kept hk
theorem zIR {P:Program}{w:World}{t kt et:TypeId}{kk:IntKind}{r clock:Nat}{es:Array MapEntry}{n:Int}{z:Value}(hm:P.underlying t=some (.map kt et))(hk:P.underlying kt=some (.int kk))
  (hb:YH w r es clock) (hz:(zeroValue et).run P w=.ok z w) (hf:Instr.findNow (.int kk) (.int kk n) es.toList 0=some none):(Instr.lookup t (.map (some r)) (.int kk n) false).run P w=.ok z w:=by
 have hc:(Instr.checkKey es.isEmpty 10000 kt (.int kk n)).run P w=.ok () w:=MapKept.run_checkKey (k:=.int kk n) hk (by simp[MapKept.IsKey]) _ 9999;simp[Instr.lookup,run_underlying hm,MapKept.run_getObj_map hb,hc,MapKept.run_findKey hk hf,hz,Result.andThen]
theorem zFE {P:Program}{w:World}{ops:Array Oper}{rest:List Oper}{o:Oper}{a:Act}{Q:Exit→Act→World→Prop}(hgd:o.guard=none)(t:TypeId)(m k:Operand)(ho:o.op=.lookup t m k false){kt et:TypeId}{kk:IntKind}
  (hm:P.underlying t=some (.map kt et)) (hk:P.underlying kt=some (.int kk)) (r clock:Nat) (es:Array MapEntry) (n:Int) (z:Value) (hz:∀w,(zeroValue et).run P w=.ok z w)
  (em:a.eval m=.map (some r)) (ek:a.eval k=.int kk n) (hb:YH w r es clock) (hf:Instr.findNow (.int kk) (.int kk n) es.toList 0=some none)
  (h:wpList P ops Q rest (a.put o.dst z) w):wpList P ops Q (o::rest) a w:=by
 refine wpList_plain hgd fun K hK=>?_;have AA:=zIR (P:=P) hm hk hb (hz w) hf;unfold Oper.wp execOp;simp only[ho,em,ek,Sem.run_bind,Sem.run_pure,AA,Result.andThen_ok];exact hK _ _ h
theorem zOK {l:List (Int × Value)}{ks:List Int}(hk:l.map Prod.fst=ks)(n:Int)(i:Nat)(hi:ks[i]?=some n)(hd:(ks.take i).contains n=false):∃v,l[i]?=some (n,v)∧∀j x,j<i→l[j]?=some x→x.1≠n:=by
 subst hk;rw[zM] at hi;obtain⟨x,hx,rfl⟩:=Option.map_eq_some_iff.1 hi;refine⟨x.2,hx,?_⟩;rintro j y hj hy he
 have:y.1 ∈ (l.map Prod.fst).take i:=by
  rw[←List.map_take];exact List.mem_map_of_mem (zY (i:=j) (by rw[List.getElem?_take,if_pos hj]; exact hy))
 rw[he] at this
 simp at hd
 exact hd (by simpa using this)
theorem zUV {w0 w:World}{ops:Array Oper}{rest:List Oper}{o:Oper}{a:Act}{Q:Exit→Act→World→Prop}{r:Nat}{l:List (Int × Value)}{g4 g5 g6 g7:Nat}(hgd:o.guard=none)(m k:Operand)(n:Int)(ho:o.op=.lookup 177 m k false)
  (em:a.eval m=.map (some r)) (ek:a.eval k=.int .u8 n) (hst:FSt w0 w r [1,2,3,4,5,6,7,8,9,10,11,12,13,14,15,16,17,18,19,20,21,22,23,24,25,26] l g4 g5 g6 g7) (hz:∀w,(zeroValue 143).run Tryz.prog w=.ok (.slice none 0 0) w)
  (h:∀v,zBF w (zCZ n) v→wpList Tryz.prog ops Q rest (a.put o.dst v) w):wpList Tryz.prog ops Q (o::rest) a w:=by
 by_cases hk:1≤n∧n≤26
 ·have hi:([1,2,3,4,5,6,7,8,9,10,11,12,13,14,15,16,17,18,19,20,21,22,23,24,25,26]:List Int)[(n-1).toNat]?=some n∧(([1,2,3,4,5,6,7,8,9,10,11,12,13,14,15,16,17,18,19,20,21,22,23,24,25,26]:List Int).take (n-1).toNat).contains n=false:=by
   have hc:n=1∨n=2∨n=3∨n=4∨n=5∨n=6∨n=7∨n=8∨n=9∨n=10∨n=11∨n=12∨n=13∨n=14∨n=15∨n=16∨n=17∨n=18∨n=19∨n=20∨n=21∨n=22∨n=23∨n=24∨n=25∨n=26:=by omega
   rcases hc with rfl | rfl | rfl | rfl | rfl | rfl | rfl | rfl | rfl | rfl | rfl | rfl | rfl | rfl | rfl | rfl | rfl | rfl | rfl | rfl | rfl | rfl | rfl | rfl | rfl | rfl <;> exact⟨rfl,rfl⟩
  obtain⟨v,hv,hd⟩:=zOK hst.keys n _ hi.1 hi.2;exact zF3 hgd 177 m k ho Tryz.underlying177 Tryz.underlying5 r l.length _ _ n v em ek hst.map (zP8 l n _ v 0 0 hv hd) (h v (hst.zNS _ (zY hv)))
 ·have hn:∀y ∈ l,y.1≠n:=by
   rintro y hy rfl
   have:y.1 ∈ ([1,2,3,4,5,6,7,8,9,10,11,12,13,14,15,16,17,18,19,20,21,22,23,24,25,26]:List Int):=by rw[←hst.keys]; exact List.mem_map_of_mem hy
   simp only[zR,List.not_mem_nil,or_false] at this;omega
  have h0:zCZ n=[]:=by
   unfold zCZ
   repeat (rw[if_neg (by omega)])
  exact zFE hgd 177 m k ho Tryz.underlying177 Tryz.underlying5 r l.length _ n _ hz em ek hst.map (zKS l n hn 0 0) (h _ (.inl ⟨h0,rfl⟩))
theorem Blk.newAt {W:World}{t:TypeId}{cs:Array Value}{n:Nat}(h:n=W.heap.size):Blk (W.alloc (.cells cs t)) n t cs:=by subst h; exact Blk.new W t cs
theorem vX {W:World}{f:JD}{g:Nat}{ks mv:Value}{b:Bool}{n:Int}(hn:b=f.named)(hm:n=f.most)(hb:Blk W g 147 #[ks,mv,.bool b,.int .i64 n])(hk:zDa W f.kids ks)(hmv:zFz W f.more mv):zBF W [f] (.slice (some ⟨g,0,none⟩) 1 1):=by
 subst hn hm;exact .inr ⟨g,[[ks,mv,.bool f.named,.int .i64 f.most]],rfl,hb,⟨⟨ks,mv,rfl,hk,hmv⟩,trivial⟩⟩
theorem zKj {W:World}{f f':JD}{g:Nat}{ks mv ks' mv':Value}{b b':Bool}{n n':Int}(hn:b=f.named)(hm:n=f.most)(hn':b'=f'.named)(hm':n'=f'.most)(hb:Blk W g 147 #[ks,mv,.bool b,.int .i64 n,ks',mv',.bool b',.int .i64 n'])(hk:zDa W f.kids ks)(hmv:zFz W f.more mv)(hk':zDa W f'.kids ks')(hmv':zFz W f'.more mv'):zBF W [f,f'] (.slice (some ⟨g,0,none⟩) 2 2):=by
 subst hn hm hn' hm';exact .inr ⟨g,[[ks,mv,.bool f.named,.int .i64 f.most],[ks',mv',.bool f'.named,.int .i64 f'.most]],rfl,hb,⟨⟨ks,mv,rfl,hk,hmv⟩,⟨ks',mv',rfl,hk',hmv'⟩,trivial⟩⟩
theorem zAt {W:World}:zDa W [] (.slice none 0 0):=.inl ⟨rfl,rfl⟩
theorem zCv {W:World}{p1:XC}{v1:Value}{g:Nat}(hb:Blk W g 145 #[v1])(h1:zBB W p1 v1):zDa W [p1] (.slice (some ⟨g,0,none⟩) 1 1):=.inr ⟨g,[v1],rfl,hb,h1,trivial⟩
theorem zEb {W:World}{p1 p2:XC}{v1 v2:Value}{g:Nat}(hb:Blk W g 145 #[v1,v2])(h1:zBB W p1 v1)(h2:zBB W p2 v2):zDa W [p1,p2] (.slice (some ⟨g,0,none⟩) 2 2):=.inr ⟨g,[v1,v2],rfl,hb,h1,h2,trivial⟩
theorem zLT {W:World}{p1 p2 p3:XC}{v1 v2 v3:Value}{g:Nat}(hb:Blk W g 145 #[v1,v2,v3])(h1:zBB W p1 v1)(h2:zBB W p2 v2)(h3:zBB W p3 v3):zDa W [p1,p2,p3] (.slice (some ⟨g,0,none⟩) 3 3):=.inr ⟨g,[v1,v2,v3],rfl,hb,h1,h2,h3,trivial⟩
theorem zTb {W:World}{p1 p2 p3 p4:XC}{v1 v2 v3 v4:Value}{g:Nat}(hb:Blk W g 145 #[v1,v2,v3,v4])(h1:zBB W p1 v1)(h2:zBB W p2 v2)(h3:zBB W p3 v3)(h4:zBB W p4 v4):zDa W [p1,p2,p3,p4] (.slice (some ⟨g,0,none⟩) 4 4):=.inr ⟨g,[v1,v2,v3,v4],rfl,hb,h1,h2,h3,h4,trivial⟩
end Go.Proofs.YtioffpjajhalaaaGreatDoor.TT
