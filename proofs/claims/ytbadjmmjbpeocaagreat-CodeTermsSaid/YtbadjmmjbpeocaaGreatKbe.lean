/- tree.ends, walked. (and what follows of it). The conditions stand at each lemma. -/
import Derived.Test.YtbadjmmjbpeocaaGreatKaa
import Derived.Test.YtbadjmmjbpeocaaGreatKbd
import Derived.Test.YtbadjmmjbpeocaaGreatKba
import Derived.Deep.OwnRows
import Derived.Test.YtbadjmmjbpeocaaGreatKaz
import Derived.Laws.MakeOwn
import Derived.Test.YtbadjmmjbpeocaaGreatKal
set_option linter.unusedVariables false
set_option linter.unusedSimpArgs false
set_option maxRecDepth 100000
set_option maxHeartbeats 16000000
namespace Go.Proofs.YtbadjmmjbpeocaaGreat.TT
open Go Go.RowKit
theorem zHA:(Tryz.prog.info? 3).map (fun i=>(i.zero,i.size,i.bytes))=some (some (.int .i64 0),1,8):=by kernel_rfl
def zCt (Z:List Nat):Array Value:=(Z.map fun a:Nat=>Value.int .i64 (a:Int)).toArray
theorem zN8 (Z:List Nat)(i a:Nat):(zCt Z).setIfInBounds i (.int .i64 (a:Int))=zCt (Z.set i a):=by
 unfold zCt;rw[yD,List.map_set]
theorem zGx (Z:List Nat)(i:Nat)(h:i<Z.length):(zCt Z)[i]?=some (.int .i64 (Z.getD i 0:Int)):=by
 unfold zCt;simp[yH,h]
theorem zNB (n:Nat):madeCells #[.int .i64 0] n=zCt (List.replicate n 0):=by
 apply Array.toList_inj.1;rw[toList_madeCells_one];simp[zCt]
def zUP (w:World)(o:Option (List Nat))(v:Value):Prop:=match o with
 | none=>v=.slice none 0 0
 | some Z=>∃g,v=.slice (some ⟨g,0,none⟩) Z.length Z.length∧Blk w g 3 (zCt Z)
theorem zMo (len:Nat)(Z:List Nat)(k:Int)(r:List Int)(a:Nat):zBX len Z (k::r) a=if k=(a:Int)∧a<len then zBX len Z r (Z.getD a 0) else none:=rfl
theorem zH6 {ks:List (List Int)}:∀(j:Nat) (Z:List Nat),JH ks j=some Z→Z.length=ks.length:=by
 intro j
 induction j with
 | zero=>intro Z h; injection h with h; subst h; simp
 | succ j ih=>
  intro Z h;unfold JH at h
  split at h
  ·cases h
  ·rename_i Z0 h0
   split at h
   ·cases h
   ·injection h with h;subst h
    simpa using ih Z0 h0
theorem zQi {ks:List (List Int)}:∀(j:Nat) (Z:List Nat),j≤ks.length→JH ks j=some Z→∀a,Z.getD a 0≤ks.length:=by
 intro j Z hj h a
 by_cases ha:ks.length-j≤a∧a<ks.length
 ·obtain⟨_,hz⟩:=zDx ks j Z hj h;exact(zBu (hz a ha.1 ha.2)).2
 ·by_cases hal:a<ks.length
  ·have:∀(j:Nat) (Z:List Nat),JH ks j=some Z→∀a,a<ks.length-j→Z.getD a 0=0:=by
    intro j
    induction j with
    | zero=>
     intro Z h a ha;injection h with h;subst h;simp[yH,List.getElem?_replicate]
     split <;> rfl
    | succ j ih=>
     intro Z h a ha;unfold JH at h
     split at h
     ·cases h
     ·rename_i Z0 h0
      split at h
      ·cases h
      ·injection h with h;subst h
       have:=ih Z0 h0 a (by omega)
       simp only[yH,List.getElem?_set];rw[if_neg (by omega)]
       simpa [yH] using this
   rw[this j Z h a (by omega)];omega
  ·have hl:=zH6 j Z h;simp[yH,zM (show Z.length≤a by omega)]
theorem zSm (l:List xQ)(A:Option Addr)(n c:Nat)(w:World)(hn:n=l.length)(ht:zA3 w A l)(hlen:l.length≤9000)(hkl:∀x ∈ l,x.kids.length≤9000)(o:Option (List Nat))(ho:Hid (zB3 (zCv l)=o)) :
  Calls Tryz.prog 77 #[.agg #[.slice A n c]] w fun e w'=>∃v,e=.returned v∧zUP w' o v∧Ext w w':=by
 subst hn;have HT:=yG ht;have HKL:=yG hkl;clear ht hkl;have hmk:=run_make_row' (P:=Tryz.prog) 30 3 (.int .i64 0) 8 Tryz.underlying30 zHA rfl .i64 .i64 l.length (by omega) (by omega)
 go_enter Tryz.func77,Tryz.ntmps77
 go_upto_region 2 with fail
 have HB0:Hid (Blk ((w.alloc (.cells #[.slice A l.length c] 27)).alloc (.cells (madeCells #[.int .i64 0] l.length) 3)) (w.heap.size+1) 3 (zCt (List.replicate l.length 0))):=yG (by
  rw[zNB]
  exact Blk.newAt (by simp))
 have HG0:Hid (Blk ((w.alloc (.cells #[.slice A l.length c] 27)).alloc (.cells (madeCells #[.int .i64 0] l.length) 3)) w.heap.size 27 #[.slice A l.length c]):=yG ((Blk.new _ _ _).alloc _);have HX0:Hid (Ext w ((w.alloc (.cells #[.slice A l.length c] 27)).alloc (.cells (madeCells #[.int .i64 0] l.length) 3))):=(Ext.alloc _ _).trans (Ext.alloc _ _)
 try simp only[yT]
 generalize (w.alloc (.cells #[.slice A l.length c] 27)).alloc (.cells (madeCells #[.int .i64 0] l.length) 3)=w1 at *;obtain⟨g,hg⟩:∃g,w.heap.size+1=g:=⟨_,rfl⟩;obtain⟨gt,hgt⟩:∃gt,w.heap.size=gt:=⟨_,rfl⟩;rw[hg] at HB0 ⊢;rw[hgt] at HG0 ⊢;have HGG:Hid (w.heap.size≤g∧gt≠g):=yG ⟨by omega,by omega⟩;clear hg hgt hmk;have y0:=HG0.out.cell 0
 go_wp2_with fail
 clear y0
 go_loopw [4] (fun i wr=>∃(m:Nat) (Z:List Nat),m≤l.length∧i=.int .i64 ((m:Int)-1)∧Hid (JH (zCv l) (l.length-m)=some Z)∧Hid (Blk wr g 3 (zCt Z))∧Hid (Blk wr gt 27 #[.slice A l.length c])∧Hid (Ext w wr)) (fun i _=>(intOf i+1).toNat)
 case atStart=>exact⟨l.length,List.replicate l.length 0,zX _,rfl,yG (by rw[Nat.sub_self]; unfold JH; rw[XP]),HB0,HG0,HX0⟩
 case round=>
  clear HB0 HG0 HX0;obtain⟨m,Z,hm,rfl,HZ,HB,HG,HX⟩:=hrel;obtain⟨wa,rfl⟩:∃wa:World,wa=wr:=⟨_,rfl⟩
  have hzl:Z.length=l.length:=by rw[zH6 _ _ HZ.out,XP]
  have HZL:Hid (∀a,Z.getD a 0≤l.length):=yG (by have:=zQi _ Z (by rw[XP]; omega) HZ.out; rw[XP] at this; exact this)
  cases m with
  | zero=>
   have HON:Hid (o=if l.length≠0∧Z.getD 0 0=l.length then some Z else none):=yG (by
    rw[←ho.out];unfold zB3
    have:=HZ.out
    rw[Nat.sub_zero] at this
    rw[XP,this])
   by_cases h0:l.length=0
   ·have e0:((l.length:Int)==0)=true:=by rw[h0]; rfl
    have HO:Hid (o=none):=yG (by rw[HON.out,if_neg (by omega)])
    go_wp2_with fail
    go_ret;exact⟨_,rfl,(by rw[HO.out]; rfl),HX.out⟩
   ·have e0:((l.length:Int)==0)=false:=by rw[yI]; omega
    have z0:wa.cell? ⟨g,0,none⟩=some (.int .i64 (Z.getD 0 0:Int)):=(HB.out.cell 0).trans (zGx Z 0 (by omega))
    have q0:(0:Int)<(l.length:Int):=by omega
    obtain⟨z,HZ0⟩:∃z,Hid (Z.getD 0 0=z):=⟨_,yG rfl⟩;rw[HZ0.out] at z0 HON
    by_cases hz:z=l.length
    ·have e1:((z:Int)==(l.length:Int))=true:=by simp[hz]
     have HO:Hid (o=some Z):=yG (by rw[HON.out,if_pos ⟨h0,hz⟩]);clear hz
     go_wp2_with fail
     go_ret;exact⟨_,rfl,(by rw[HO.out]; exact⟨g,by rw[hzl]; rfl,HB.out⟩),HX.out⟩
    ·have e1:((z:Int)==(l.length:Int))=false:=by rw[yI]; omega
     have HO:Hid (o=none):=yG (by rw[HON.out,if_neg (fun h=>hz h.2)])
     go_wp2_with fail
     go_ret;exact⟨_,rfl,(by rw[HO.out]; rfl),HX.out⟩
  | succ m=>
   have em:(((m+1:Nat):Int)-1)=(m:Int):=by omega
   rw[em]
   have hml:m<l.length:=by omega
   obtain⟨b,off,rfl,hb,hcell⟩:=(HT.out.ext HX.out).at_ m hml;have HNO:Hid (zDH wa l[m]):=yG ((HT.out.ext HX.out).ok _ (yO hml));have HKN:Hid (l[m].kids.length≤9000):=yG (HKL.out _ (yO hml))
   have HST:Hid (∀r,zBX l.length Z l[m].kids (m+1)=r→JH (zCv l) (l.length-m)=match r with | none=>none | some a=>some (Z.set m a)):=yG (by
    intro r hr;rw[show l.length-m=(l.length-(m+1))+1 from by omega];unfold JH;rw[HZ.out];simp only[XP];rw[show l.length-1-(l.length-(m+1))=m from by omega,zDm l m hml,hr]
    cases r <;> rfl)
   generalize l[m]=x at *;obtain⟨kind,pos,text,num,kA,kc,kids⟩:=x;have hkn:kids.length≤9000:=HKN.out;have c4:wa.cell? ⟨b,off+m*5+4,none⟩=some (.slice kA kids.length kc):=hcell 4 (by omega);clear hcell em
   have hd0:decide ((m:Int) ≥ 0)=true:=by simp
   have hd1:decide (0≤(m:Int))=true:=by simp
   have hml':(m:Int)<(l.length:Int):=by omega
   have y0:=HG.out.cell 0
   go_wp2_with fail
   go_loopw [5,29] (fun at_ i w2=>w2=wa∧∃(k a:Nat),k≤kids.length∧i=.int .i64 k∧at_=.int .i64 (a:Int)∧a≤l.length∧Hid (zBX l.length Z kids (m+1)=zBX l.length Z (kids.drop k) a)) (fun _ i _=>kids.length-(intOf i).toNat)
   case atStart=>exact⟨rfl,0,m+1,zW _,rfl,by go_num,by omega,yG rfl⟩
   case round=>
    obtain⟨hwr,k,a,hk,rfl,rfl,hal,HK⟩:=hrel;subst hwr
    by_cases hlt:k<kids.length
    ·have d0:decide ((k:Int)<(kids.length:Int))=true:=yS (by omega);obtain⟨b2,off2,rfl,hb2,hk2⟩:=zPG HNO.out.kids k hlt;have hdr:=List.drop_eq_getElem_cons hlt
     simp only at hk2
     generalize kids[k]=kv at *;rw[hdr,zMo] at HK;clear hdr
     by_cases hkv:kv=(a:Int)
     ·subst hkv
      by_cases hal2:a<l.length
      ·have d1:decide ((l.length:Int)≤(a:Int))=false:=yR (by omega);have d2:decide ((a:Int) ≥ (l.length:Int))=false:=yR (by omega)
       have q1:(a:Int)<(l.length:Int):=by omega
       have z0:wr.cell? ⟨g,a,none⟩=some (.int .i64 (Z.getD a 0:Int)):=(HB.out.cell a).trans (zGx Z a (by omega));have HK2:Hid (zBX l.length Z kids (m+1)=zBX l.length Z (kids.drop (k+1)) (Z.getD a 0)):=yG (by rw[HK.out,if_pos ⟨rfl,hal2⟩]);have hzb:=HZL.out a;generalize Z.getD a 0=z at *
       go_wp2_with fail
       go_roundw
       case rel=>exact⟨trivial,k+1,z,by omega,by go_num,rfl,hzb,HK2⟩
       case measure=>simp[intOf]; omega
      ·have d1:decide ((l.length:Int)≤(a:Int))=true:=yS (by omega);have d2:decide ((a:Int) ≥ (l.length:Int))=true:=yS (by omega)
       have HO:Hid (o=none):=yG (by
        rw[←ho.out];have h1:=HK.out;rw[if_neg (fun h=>hal2 h.2)] at h1
        exact zIw (j:=l.length-m) (by rw[XP]; omega) (HST.out none h1))
       go_wp2_with fail
       go_ret;exact⟨_,rfl,(by rw[HO.out]; rfl),HX.out⟩
     ·have e1:(kv==(a:Int))=false:=beq_eq_false_iff_ne.2 hkv
      have HO:Hid (o=none):=yG (by
       rw[←ho.out];have h1:=HK.out;rw[if_neg (fun h=>hkv h.1)] at h1
       exact zIw (j:=l.length-m) (by rw[XP]; omega) (HST.out none h1))
      go_wp2_with fail
      go_ret;exact⟨_,rfl,(by rw[HO.out]; rfl),HX.out⟩
    ·obtain rfl:k=kids.length:=by omega
     have d0:decide ((kids.length:Int)<(kids.length:Int))=false:=by simp
     have HZS:Hid (JH (zCv l) (l.length-m)=some (Z.set m a)):=yG (by
      have h1:=HK.out;rw[List.drop_length] at h1
      exact HST.out (some a) h1)
     have f0:wr.frozen? ⟨g,m,none⟩=false:=HB.out.frozen m;have hz1:wr.cell? ⟨g,m,none⟩=some (.int .i64 (Z.getD m 0:Int)):=(HB.out.cell m).trans (zGx Z m (by omega));have HB2:Hid (Blk (wr.setCell ⟨g,m,none⟩ (.int .i64 (a:Int))) g 3 (zCt (Z.set m a))):=yG (by rw[←zN8]; exact HB.out.put m _);have HG2:Hid (Blk (wr.setCell ⟨g,m,none⟩ (.int .i64 (a:Int))) gt 27 #[.slice (some ⟨b,off,none⟩) l.length c]):=yG (HG.out.far HGG.out.2 _);have HX2:Hid (Ext w (wr.setCell ⟨g,m,none⟩ (.int .i64 (a:Int)))):=yG (HX.out.setCell (p:=⟨g,m,none⟩) HGG.out.1 _)
     go_wp2_with fail
     go_roundw
     case rel=>exact⟨m,Z.set m a,by omega,rfl,HZS,HB2,HG2,HX2⟩
     case measure=>simp[intOf]
structure zEF (x:xQ):Prop where
 text:x.text.size≤9000
 kids:x.kids.length≤9000
theorem zMW {l:List xQ}(h:zB3 (zCv l)=none):VR l=false:=by unfold VR; rw[h]; rfl
theorem zMV {l:List xQ}{Z:List Nat}(h:zB3 (zCv l)=some Z):VR l=(zEh l 0==1&&l.all (zCw l)):=by unfold VR; rw[h]; rfl
theorem zNV (w:World):(binOp .eql 30 (.slice none 0 0) (.slice none 0 0)).run Tryz.prog w=.ok (.bool true) w:=by kernel_rfl
theorem zMc (w:World)(a:Addr)(n c:Nat):(binOp .eql 30 (.slice (some a) n c) (.slice none 0 0)).run Tryz.prog w=.ok (.bool false) w:=by kernel_rfl
theorem zKO (l:List xQ)(A:Option Addr)(n c:Nat)(w:World)(hn:n=l.length)(ht:zA3 w A l)(hlen:l.length≤9000)(hsm:∀x ∈ l,zEF x)(b:Bool)(hb:Hid (VR l=b)) :
  Calls Tryz.prog 45 #[.agg #[.slice A n c]] w fun e w'=>e=.returned (.bool b)∧Ext w w':=by
 subst hn;have HT:=yG ht;have HSM:=yG hsm;clear ht hsm;have s1:=zNV;have s2:=zMc;obtain⟨o,HO⟩:∃o,Hid (zB3 (zCv l)=o):=⟨_,yG rfl⟩;have HB0:Hid (Blk (w.alloc (.cells #[.slice A l.length c] 27)) w.heap.size 27 #[.slice A l.length c]):=yG (Blk.new _ _ _);have HX0:Hid (Ext w (w.alloc (.cells #[.slice A l.length c] 27))):=yG (Ext.alloc _ _)
 go_enter Tryz.func45,Tryz.ntmps45
 have y0:=HB0.out.cell 0
 go_wp2_with fail
 refine(zSm l A l.length c _ rfl (HT.out.ext HX0.out) hlen (fun x hx=>(HSM.out x hx).kids) o HO).mono ?_;rintro e w1 ⟨v,rfl,hv,hx1⟩;have HB1:=yG (HB0.out.ext hx1);have HX1:Hid (Ext w w1):=yG (HX0.out.trans hx1);clear hx1 y0
 cases o with
 | none=>
  have hv':v=.slice none 0 0:=hv;subst hv';have HB:Hid (b=false):=yG (by rw[←hb.out]; exact zMW HO.out)
  go_wp2_with fail
  go_ret;exact⟨jM HB.out.symm,HX1.out⟩
 | some Z=>
  obtain⟨g,rfl,-⟩:=hv;have hes:=zGw HO.out
  have hp:0<l.length:=by have:=hes.2.1; rw[XP] at this; omega
  have HIN:=yG (zJ3 HO.out);have HRN:=yG (zMV HO.out);clear hes
  have q0:(0:Int)<(l.length:Int):=by omega
  obtain⟨bb,off,rfl,hbb,hcell⟩:=(HT.out.ext HX1.out).at_ 0 hp;rw[Nat.zero_mul,Nat.add_zero] at hcell;have k0:w1.cell? ⟨bb,off,none⟩=some (.int .u8 l[0].kind):=hcell 0 (by omega);have HK0:Hid (zEh l 0=l[0].kind):=yG (zCc (a:=0) hp);clear hcell;generalize l[0].kind=kz at *;have y0:=HB1.out.cell 0;generalize w.heap.size=gt at *
  cases hz:(kz==1) with
  | false=>
   have hz':(kz != 1)=true:=by rw[bne,hz]; rfl
   have HB:Hid (b=false):=yG (by rw[←hb.out,HRN.out,HK0.out,hz]; rfl)
   go_wp2_with fail
   go_ret;exact⟨jM HB.out.symm,HX1.out⟩
  | true=>
   obtain rfl:kz=1:=by simpa using hz
   clear hz;obtain⟨d,HD⟩:∃d,Hid ((!l.all (zCw l))=d):=⟨_,yG rfl⟩;have HB:Hid ((!d)=b):=yG (by rw[←hb.out,HRN.out,HK0.out,←HD.out,Bool.not_not]; rfl)
   go_wp2_with fail
   refine(zL6 l _ l.length c gt w1 rfl (HT.out.ext HX1.out) hlen (fun x hx=>⟨(HSM.out x hx).text,(HSM.out x hx).kids,HIN.out x hx⟩) HB1.out d HD).mono ?_;rintro e w2 ⟨rfl,hx2⟩;have HX2:Hid (Ext w w2):=yG (HX1.out.trans hx2);clear hx2 k0 y0
   go_wp2_with fail
   go_ret;exact⟨jM HB.out,HX2.out⟩
end Go.Proofs.YtbadjmmjbpeocaaGreat.TT
namespace Go.Proofs.YtbadjmmjbpeocaaGreat
open Go Go.RowKit TT
theorem zDw.low {N N':Nat}{w:World}{g c k:Nat}{l l':List xQ}(h:zDw N w g c l l' k)(hN:N'≤N):zDw N' w g c l l' k:=⟨h.len,zHE h.row hN,h.same,fun i h' hk=>zHE (h.done i h' hk) hN,h.todo⟩
def zHi (n:Nat):Array Value:=(List.replicate n (Value.int .i64 0)).toArray
def zSV (H:Nat)(L:List xQ)(v:Value)(w:World):Prop:=∃g c l',v=.agg #[.slice (some ⟨g,0,none⟩) L.length c]∧zDw H w g c L l' L.length
def OfF (H n:Nat)(v:Value)(w:World):Prop:=∃bo,v=.slice (some ⟨bo,0,none⟩) n n∧H≤bo∧Blk w bo 3 (zHi n)
structure zNf (H:Nat)(L:List xQ)(w:World)(g c bo:Nat)(l':List xQ):Prop where
 own:zDw H w g c L l' L.length
 of:Blk w bo 3 (zHi L.length)
 lo:H≤bo
def prg (L:List xQ)(g c bo:Nat):Array Value:=#[.slice (some ⟨g,0,none⟩) L.length c,.slice none 0 0,.slice none 0 0,.slice (some ⟨bo,0,none⟩) L.length L.length]
def PgF (H:Nat)(L:List xQ)(v:Value)(w:World):Prop:=∃g c bo l',v=.agg (prg L g c bo)∧zNf H L w g c bo l'
def PbF (H:Nat)(L:List xQ)(v:Value)(w:World):Prop:=∃p g c bo l',v=.pointer (some ⟨p,0,none⟩)∧H≤p∧Blk w p 32 (prg L g c bo)∧zNf H L w g c bo l'
def MpF (H:Nat)(v:Value)(w:World):Prop:=∃mt,v=.map (some mt)∧H≤mt∧MF Tryz.prog 9 w mt 0 fun _=>none
def rdc (p mt:Nat):Array Value:=#[.pointer (some ⟨p,0,none⟩),.map (some mt),.slice none 0 0,.pointer none,.slice none 0 0]
def RdF (H:Nat)(L:List xQ)(v:Value)(w:World):Prop:=∃p mt g c bo l',v=.agg (rdc p mt)∧H≤p∧Blk w p 32 (prg L g c bo)∧zNf H L w g c bo l'∧H≤mt∧MF Tryz.prog 9 w mt 0 fun _=>none
def RbF (H:Nat)(L:List xQ)(v:Value)(w:World):Prop:=∃a p mt g c bo l',v=.pointer (some ⟨a,0,none⟩)∧H≤a∧Blk w a 115 (rdc p mt)∧H≤p∧Blk w p 32 (prg L g c bo)∧zNf H L w g c bo l'∧H≤mt∧MF Tryz.prog 9 w mt 0 fun _=>none
section
variable {H n:Nat} {L:List xQ} {v:Value} {w w':World}
theorem zNf.ext {g c bo:Nat}{l':List xQ}(h:zNf H L w g c bo l')(hx:Ext w w'):zNf H L w' g c bo l':=⟨h.own.ext hx,h.of.ext hx,h.lo⟩
theorem zSV.ext (h:zSV H L v w)(hx:Ext w w'):zSV H L v w':=let ⟨g,c,l',a,b⟩:=h; ⟨g,c,l',a,b.ext hx⟩
theorem OfF.ext (h:OfF H n v w)(hx:Ext w w'):OfF H n v w':=let ⟨g,a,b,c⟩:=h; ⟨g,a,b,c.ext hx⟩
theorem PgF.ext (h:PgF H L v w)(hx:Ext w w'):PgF H L v w':=let ⟨g,c,bo,l',a,b⟩:=h; ⟨g,c,bo,l',a,b.ext hx⟩
theorem PbF.ext (h:PbF H L v w)(hx:Ext w w'):PbF H L v w':=let ⟨p,g,c,bo,l',a,b,d,e⟩:=h; ⟨p,g,c,bo,l',a,b,d.ext hx,e.ext hx⟩
theorem MpF.ext (h:MpF H v w)(hx:Ext w w'):MpF H v w':=let ⟨mt,a,b,c⟩:=h; ⟨mt,a,b,c.ext hx⟩
theorem RdF.ext (h:RdF H L v w)(hx:Ext w w'):RdF H L v w':=let ⟨p,mt,g,c,bo,l',a,b,d,e,f,i⟩:=h; ⟨p,mt,g,c,bo,l',a,b,d.ext hx,e.ext hx,f,i.ext hx⟩
theorem RbF.ext (h:RbF H L v w)(hx:Ext w w'):RbF H L v w':=let ⟨q,p,mt,g,c,bo,l',a,b,k,d,e,f,i,j⟩:=h; ⟨q,p,mt,g,c,bo,l',a,b,k.ext hx,d,e.ext hx,f.ext hx,i,j.ext hx⟩
end
def stH (a p mt g c bo H:Nat)(l':List xQ):StH:=⟨a,p,bo,l'.length,some ⟨g,0,none⟩,c,txM l',mt,H⟩
def zFy:DyH:=⟨none,0,[],none,0,[],none,0⟩
theorem zRy {H a p mt g c bo:Nat}{L l':List xQ}{w:World}(hl:0<L.length)(hn:∀x ∈ L,zG0 x)(ha:Blk w a 115 (rdc p mt))(hp:Blk w p 32 (prg L g c bo))(hb:zNf H L w g c bo l')(hm:MF Tryz.prog 9 w mt 0 fun _=>none)(hH:H≤w.heap.size) :
  NH w (stH a p mt g c bo H l') ⟨[],[],List.replicate L.length 0,[],[]⟩ zFy:=by
 have hlen:=hb.own.len
 have hn':∀x ∈ l',zG0 x:=fun x hx=>by
  obtain⟨i,hi,rfl⟩:=List.getElem_of_mem hx;obtain⟨e1,e2,e3,e4,e5⟩:=hb.own.same i (by omega) hi
  have:=hn L[i] (yO (by omega))
  exact⟨by rw[e1]; exact this.kind,by rw[e5]; exact this.kids,by rw[e3]; exact this.text⟩
 have hM:∀b,jB (stH a p mt g c bo H l') zFy b→b=a∨b=p∨b=bo∨b=mt:=fun b hb=>by
  rcases hb with e | e | e | e | e | e | e
  ·exact .inl e
  ·exact .inr (.inl e)
  ·exact .inr (.inr (.inl e))
  ·exact .inr (.inr (.inr e))
  ·cases e
  ·cases e
  ·cases e
 refine⟨ha,by rw[show(stH a p mt g c bo H l').l.length=L.length by show(txM l').length=_; rw[JG,hlen]]; show Blk w p 32 #[.slice (some ⟨g,0,none⟩) L.length c,.slice none 0 0,.slice none 0 0,.slice (some ⟨bo,0,none⟩) L.length l'.length]; rw[hlen]; exact hp,?_,?_,hb.own.tree hl hn' ?_ ?_,zR _ _ _ _,rfl,fun k x h0 e1=>(by cases e1),zR _ _ _ _,rfl,fun k b x e1=>(by cases e1),hm,zR _ _ _ _,zW _,zW _,fun _=>rfl,fun _=>rfl,fun _=>rfl,hH⟩
 ·show Blk w bo 3 (ofc (List.replicate L.length 0)).toArray
  rw[show ofc (List.replicate L.length 0)=List.replicate L.length (Value.int .i64 0) by simp[ofc]];exact hb.of
 ·show(List.replicate L.length (0:Int)).length=(txM l').length
  rw[JG,hlen,zD]
 ·intro b cur hmb hblk
  rcases hM b hmb with rfl | rfl | rfl | rfl
  ·exact Blk.differ hblk ha (by decide) rfl
  ·exact Blk.differ hblk hp (by decide) rfl
  ·exact Blk.differ hblk hb.of (by decide) rfl
  ·exact hm.ne hblk rfl
 ·intro b cur hmb hblk j v hv
  rcases hM b hmb with rfl | rfl | rfl | rfl
  ·exact(Blk.differ hblk ha (by decide) rfl).elim
  ·exact(Blk.differ hblk hp (by decide) rfl).elim
  ·have e:cur=zHi L.length:=by
    have:=hblk.symm.trans hb.of
    injection this with this;injection this
   rw[e] at hv;unfold zHi at hv;rw[yL] at hv;exact List.eq_of_mem_replicate (yB hv)
  ·exact(hm.ne hblk rfl).elim
theorem zUM (n:Nat)(hn:n≤1000000)(w:World):(Instr.makeSlice 30 (.int .i64 (n:Int)) (.int .i64 (n:Int))).run Tryz.prog w=.ok (.slice (some ⟨w.heap.size,0,none⟩) n n) (w.alloc (.cells (zHi n) 3)):=by
 obtain⟨i,hi,hz,h1,h2⟩:=info_parts zML
 have:=run_makeSlice (P:=Tryz.prog) w 30 3 i _ Tryz.underlying30 hi hz .i64 .i64 (n:Int) (n:Int) (by omega) (Int.le_refl _) (by rw[h1]; simp; omega) (by rw[h2]; omega) (by omega)
 have e:madeCells (Value.int .i64 0).cells n=zHi n:=by
  apply Array.ext
  ·rw[size_madeCells]; simp[zHi]
  ·intro k a b;rw[size_madeCells] at a;simp[madeCells,zHi,Nat.mod_one,Value.cells]
 rw[this,h1,zI,Nat.mul_one,e]
end Go.Proofs.YtbadjmmjbpeocaaGreat
namespace Go.Proofs.YtbadjmmjbpeocaaGreat
open Go Go.RowKit
structure zD5 (S:StN):Prop where
 R:XK (tN S.l)
 kl:∀i,(xB (tN S.l) i).kids.length≤100000
 ll:S.l.length≤40000
theorem zD5.up {S:StN}(h:zD5 S){i k:Nat}(hk:k ∈ (xB (tN S.l) i).kids):i<k∧k<S.l.length:=by
 have:=h.R.up i k hk
 rwa [jF] at this
def zIh (t:List Nd)(i:Nat)(s:Nr):YU Nr:=if (xB t i).kind=22 then (match VE s (xB t i).text with | none=>.err i 70 | some v=>.ok (s.set i v.n)) else if (xB t i).kind=20 then ofN t i s else .ok s
theorem zON (t:List Nd)(f i:Nat)(s:Nr):xW t (f+1) i s=(zIh t i s).bind (vE (xW t f) (xB t i).kids):=rfl
theorem NB.fresh {w:World}{S:StN}{s:Nr}{R:DyN}(h:NB w S s R)(t:TypeId)(cs:Array Value):Safe (w.alloc (.cells cs t)) (xL S R) w.heap.size t cs:=⟨Blk.new _ _ _,fun hm=>by have:=h.ZX hm; omega⟩
theorem zBc:∀(f:Nat) (w:World) (S:StN) (s:Nr) (R:DyN) (i:Nat),zD5 S→NB w S s R→i<S.l.length→S.l.length≤f+i→s.blocks.length≤100000→s.blocks≠[] →
  Calls Tryz.prog 150 #[.pointer (some ⟨S.a,0,none⟩),.int .i64 (i:Int)] w (jS w S R (xW (tN S.l) f i s) vU)
 | 0,w,S,s,R,i,hT,h,hi,hf,hb,hne=>absurd hf (by omega)
 | f+1,w,S,s,R,i,hT,h,hi,hf,hb,hne=>by
  have HIH:Hid (∀(w:World) (s:Nr) (R:DyN) (i:Nat),NB w S s R→i<S.l.length→S.l.length≤f+i→s.blocks.length≤100000→s.blocks≠[]→Calls Tryz.prog 150 #[.pointer (some ⟨S.a,0,none⟩),.int .i64 (i:Int)] w (jS w S R (xW (tN S.l) f i s) vU)):=yG fun w s R i=>zBc f w S s R i hT;have HT:=yG hT;have HNB:=yG h;have HRD:=yG h.rds;have HIL:=yG hi;have HFI:=yG hf;have HBF:=yG hb;have HBN:=yG hne;have HTX:Hid ((xB (tN S.l) i).text.length≤maxLen):=yG (h.st.tree.txt i);have HEX:Hid (xW (tN S.l) (f+1) i s=(zIh (tN S.l) i s).bind (vE (xW (tN S.l) f) (xB (tN S.l) i).kids)):=yG rfl;have HKB:Hid ((xB (tN S.l) i).kids.length≤100000):=yG (hT.kl i);have HUP:Hid (∀k,k ∈ (xB (tN S.l) i).kids→i<k∧k<S.l.length):=yG fun k hk=>hT.up hk;have HKS:Hid (∀(wr:World) (sk:Nr) (Rk:DyN),NB wr S sk Rk→Cells wr (hdN S.l i).1 (ints (xB (tN S.l) i).kids)):=yG fun wr sk Rk hn=>(hn.st.tree.kid i hi).cells
  have HKEEP:Hid (∀c,c ∈ (xB (tN S.l) i).kids→∀sk s5:Nr,sk.blocks.length≤100000∧sk.blocks≠[]→xW (tN S.l) f c sk=.ok s5→s5.blocks.length≤100000∧s5.blocks≠[]):=yG fun c _ sk s5 hb hq=>by
   rw[(YI hT.R f c sk s5 hq).blocks];exact hb
  have HHD:Hid (zIh (tN S.l) i s=zIh (tN S.l) i s):=yG rfl;clear hT h hi hf hb hne
  go_enter Tryz.func150,Tryz.ntmps150
  go_wp2_with fail
  refine(vW w S.a S.p S.A S.ct S.l i HRD.out HIL.out).mono ?_;rintro e w1 ⟨rfl,hx1⟩;have HX1:=yG hx1;have HN1:=yG (HNB.out.ext hx1);have HFR:=yG (HN1.out.fresh 38 (vT S.l i));have HN2:=yG (HN1.out.ext (Ext.alloc w1 (.cells (vT S.l i) 38)));have HX2:=yG (hx1.trans (Ext.alloc w1 (.cells (vT S.l i) 38)));obtain⟨W2,HW2⟩:∃W2,Hid (w1.alloc (.cells (vT S.l i) 38)=W2):=⟨_,yG rfl⟩;rw[HW2.out] at HFR HN2 HX2;obtain⟨g,HG⟩:∃g,Hid (w1.heap.size=g):=⟨_,yG rfl⟩;rw[HG.out] at HFR;clear hx1;unfold vT at *;obtain⟨kids,HKD⟩:∃kids,Hid ((xB (tN S.l) i).kids=kids):=⟨_,yG rfl⟩;rw[HKD.out] at HKS HKEEP HKB HUP HEX HFR HW2 ⊢
  have HHC:Hid (∀x,(xB (tN S.l) i).kind=x→zIh (tN S.l) i s=if x=22 then (match VE s (xB (tN S.l) i).text with | none=>.err i 70 | some v=>.ok (s.set i v.n)) else if x=20 then ofN (tN S.l) i s else .ok s):=yG fun x hx=>by rw[←hx]; rfl
  obtain⟨nk,HNK0⟩:∃nk,Hid ((xB (tN S.l) i).kind=nk):=⟨_,yG rfl⟩;have HHE:=yG (HHC.out nk HNK0.out);rw[HNK0.out] at HFR HW2 ⊢;generalize (xB (tN S.l) i).num=nn at *;obtain⟨nt,HNT⟩:∃nt,Hid ((xB (tN S.l) i).text=nt):=⟨_,yG rfl⟩;rw[HNT.out] at HFR HW2 HHE HTX ⊢;generalize (hdN S.l i).1=kA at *;generalize (hdN S.l i).2=kc at *;generalize YQ S.l i=np at *;have c0:W2.cell? ⟨g,0,none⟩=some (.int .u8 (nk:Int)):=HFR.out.1.cell 0;have c2:W2.cell? ⟨g,2,none⟩=some (.string (xH nt)):=HFR.out.1.cell 2;have c4:W2.cell? ⟨g,4,none⟩=some (.slice kA kids.length kc):=HFR.out.1.cell 4;clear HHC HHD
  go_upto_region 1 with fail
  rw[HW2.out,HG.out];have hkb:=HKB.out;clear HW2
  by_cases h22:nk=22
  ·subst h22;rw[if_pos rfl] at HHE
   go_wp2_with fail
   refine(HN2.out.zED HBF.out nt HTX.out).mono ?_;rintro e w3 ⟨rfl,hx3⟩;have HX3:=yG (HX2.out.trans hx3);have HN3:=yG (HN2.out.ext hx3);have HF3:=yG (HFR.out.xE (xC.ext (M:=xL S R) hx3));clear hx3 c0 c2 c4
   cases hfd:VE s nt with
   | none=>
    have HR:Hid (xW (tN S.l) (f+1) i s=.err i 70):=yG (by rw[HEX.out,HHE.out,hfd]; rfl);simp only[zF4,Option.isSome_none];clear hfd
    go_wp2_with fail
    refine(JS _ S.a S.p S.A S.ct S.l i 70 (HN3.out.ext (Ext.alloc _ _)).rds HIL.out).mono ?_;rintro e w4 ⟨rfl,rfl⟩;exact xJ (P:=Tryz.prog) (fn:=Tryz.f150) rfl (jS.err HR.out HIL.out (HX3.out.trans (Ext.alloc _ _)))
   | some v=>
    have HR:Hid (zIh (tN S.l) i s=.ok (s.set i v.n)):=yG (by rw[HHE.out,hfd]);simp only[zF4,Option.isSome_some];clear hfd
    go_wp2_with fail
    refine(XG _ (.pointer (some ⟨S.a,0,none⟩)) (i:Int) 70).mono ?_;rintro e w4 ⟨rfl,rfl⟩;obtain⟨W4,HW4⟩:∃W4,Hid (w3.alloc (.cells #[.int .i64 (v.n:Int),.bool v.loop] 169)=W4):=⟨_,yG rfl⟩;have HX4:Hid (Ext w3 W4):=yG (by rw[←HW4.out]; exact Ext.alloc _ _);have HB4:Hid (Blk W4 w3.heap.size 169 #[.int .i64 (v.n:Int),.bool v.loop]):=yG (by rw[←HW4.out]; exact Blk.new _ _ _);have HN4:=yG (HN3.out.ext HX4.out);have HF4:=yG (HF3.out.xE (xC.ext (M:=xL S R) HX4.out));rw[HW4.out];have r0:=HN4.out.rds.r0;have al:=HN4.out.rds.al;have pl:=HN4.out.rds.pl;have p3:=HN4.out.p3;have v0:W4.cell? ⟨w3.heap.size,0,none⟩=some (.int .i64 (v.n:Int)):=HB4.out.cell 0;have gl:=HB4.out.lt
    have q0:(i:Int)<(S.l.length:Int):=by have:=HIL.out; omega
    clear HW4
    go_upto_region 5 with fail
    apply xS 11 (by kernel_rfl) (by kernel_rfl) (by kernel_rfl);dsimp only[List.take_succ_cons,List.take_zero,List.drop_succ_cons,List.drop_zero];apply yZ (.pointer (some ⟨S.a,0,none⟩)) rfl rfl rfl
    ·intro w' hw' hH;clear hH;simp[xA,go_sem];exact Ext.refl _
    simp only[Act.put,yD,yE,yF];apply yZ (.pointer (some ⟨S.a,0,none⟩)) rfl rfl rfl
    ·intro w' hw' hH;clear hH;simp[xA,go_sem];exact Ext.refl _
    simp only[Act.put,yD,yE,yF];apply yZ (.pointer (some ⟨S.a,0,none⟩)) rfl rfl rfl
    ·intro w' hw' hH;clear hH;simp[xA,go_sem];exact Ext.refl _
    simp only[Act.put,yD,yE,yF];apply yZ (.pointer (some ⟨S.p,0,none⟩)) rfl rfl rfl
    ·intro w' hw' hH;have cc:=(hw'.cell (p:=⟨S.a,0,none⟩) al).trans r0;clear hH;simp[xA,go_sem,cc];exact Ext.refl _
    simp only[Act.put,yD,yE,yF];apply yZ (.pointer (some ⟨S.p,0,none⟩)) rfl rfl rfl
    ·intro w' hw' hH;clear hH;simp[xA,go_sem];exact Ext.refl _
    simp only[Act.put,yD,yE,yF];apply yZ (.pointer (some ⟨S.p,3,none⟩)) rfl rfl rfl
    ·intro w' hw' hH;clear hH;simp[xA,go_sem];exact Ext.refl _
    simp only[Act.put,yD,yE,yF];apply yZ (.slice (some ⟨S.bo,0,none⟩) S.l.length S.co) rfl rfl rfl
    ·intro w' hw' hH;have cc:=(hw'.cell (p:=⟨S.p,3,none⟩) pl).trans p3;clear hH;simp[xA,go_sem,cc];exact Ext.refl _
    simp only[Act.put,yD,yE,yF];apply yZ (.int .i64 (i:Int)) rfl rfl rfl
    ·intro w' hw' hH;clear hH;simp[xA,go_sem];exact Ext.refl _
    simp only[Act.put,yD,yE,yF];apply yZ (.pointer (some ⟨w3.heap.size,0,none⟩)) rfl rfl rfl
    ·intro w' hw' hH;clear hH;simp[xA,go_sem];exact Ext.refl _
    simp only[Act.put,yD,yE,yF];apply yZ (.int .i64 (v.n:Int)) rfl rfl rfl
    ·intro w' hw' hH;have cc:=(hw'.cell (p:=⟨w3.heap.size,0,none⟩) gl).trans v0;clear hH;simp[xA,go_sem,cc];exact Ext.refl _
    simp only[Act.put,yD,yE,yF];apply yZ (.pointer (some ⟨S.bo,i,none⟩)) rfl rfl rfl
    ·intro w' hw' hH;clear hH;simp[xA,go_sem,q0];exact Ext.refl _
    simp only[Act.put,yD,yE,yF];apply xX;intro w5 hx5 hH;clear hH;simp only[Act.put,yD,yE,yF,List.drop_succ_cons,List.drop_zero];have HN5:=yG (HN4.out.ext hx5);have HF5:=yG (HF4.out.xE (xC.ext (M:=xL S R) hx5));have HX5:=yG ((HX3.out.trans HX4.out).trans hx5);have co:=HN5.out.zBR i HIL.out;have cz:=HN5.out.ofz i;have r0:=HN5.out.rds.r0;have p3:=HN5.out.p3;clear hx5 r0 al pl p3 v0 gl q0
    go_upto_region 8 with fail
    have HSET:=yG (HN5.out.setOf i (v.n:Int));generalize w5.setCell ⟨S.bo,i,none⟩ (.int .i64 (v.n:Int))=W6 at *;have HNC:=yG HSET.out.1;have HMC:=yG ((xC.ext (M:=xL S R) HX5.out).trans HSET.out.2);have HST:=yG (ZQ.refl R);have HBC:Hid ((s.set i (v.n:Int)).blocks.length≤100000∧(s.set i (v.n:Int)).blocks≠[]):=yG ⟨HBF.out,HBN.out⟩;have HWH:Hid (xW (tN S.l) (f+1) i s=vE (xW (tN S.l) f) (kids.drop 0) (s.set i (v.n:Int))):=yG (by rw[HEX.out,HR.out]; rfl);have c4:W6.cell? ⟨g,4,none⟩=some (.slice kA kids.length kc):=(HF5.out.xE HSET.out.2).1.cell 4;clear co cz
    go_upto_region 9 with fail
    clear c4
    go_loopw [46] (fun i' wr=>∃(k:Nat) (sk:Nr) (Rk:DyN),k≤kids.length∧i'=.int .i64 k∧Hid (NB wr S sk Rk)∧Hid (xC w (xL S R) wr (xL S Rk))∧Hid (ZQ R Rk)∧Hid (sk.blocks.length≤100000∧sk.blocks≠[])∧Hid (xW (tN S.l) (f+1) i s=vE (xW (tN S.l) f) (kids.drop k) sk)) (fun i' _=>kids.length-(intOf i').toNat)
    case atStart=>exact⟨0,(s.set i (v.n:Int)),R,zW _,rfl,HNC,HMC,HST,HBC,HWH⟩
    case round=>
     obtain⟨k,sk,Rk,hk,rfl,HNK,HMK,HSK,HBK,HWK⟩:=hrel;obtain⟨wa,rfl⟩:∃wa:World,wa=wr:=⟨_,rfl⟩
     by_cases hlt:k<kids.length
     ·have d0:decide ((k:Int)<(kids.length:Int))=true:=yS (by omega)
      have q1:(k:Int)<(kids.length:Int):=by omega
      obtain⟨b,off,rfl,hb,hcc⟩:=(HKS.out wa sk Rk HNK.out).at_ (by rw[vR]; omega)
      have e0:wa.cell? ⟨b,off+k,none⟩=some (.int .i64 ((kids[k]:Nat):Int)):=by rw[hcc k (by rw[vR]; exact hlt)]; simp[ints,hlt]
      have HMEM:Hid (kids[k] ∈ kids):=yG (yO hlt);have HSN:Hid (vE (xW (tN S.l) f) (kids.drop k) sk=((xW (tN S.l) f) kids[k] sk).bind (vE (xW (tN S.l) f) (kids.drop (k+1)))):=yG (by rw[List.drop_eq_getElem_cons hlt]; rfl);clear hcc;generalize kids[k]=c at *
      go_wp2_with fail
      refine(HIH.out wa sk Rk c HNK.out (HUP.out c HMEM.out).2 (by have:=(HUP.out c HMEM.out).1; have:=HFI.out; omega) HBK.out.1 HBK.out.2).mono ?_;intro e w5 hpost
      cases hq:(xW (tN S.l) f) c sk with
      | err j er=>
       rw[hq] at hpost;obtain⟨rfl,hj,M',hm⟩:=hpost
       have HF:Hid (jS w S R (xW (tN S.l) (f+1) i s) vU (XJ (YQ S.l j) er) w5):=yG (by
        rw[HWK.out,HSN.out,hq]
        exact⟨rfl,hj,M',HMK.out.trans hm⟩)
       exact xJ (P:=Tryz.prog) (fn:=Tryz.f150) rfl HF.out
      | ok s5=>
       rw[hq] at hpost;obtain⟨rfl,R5,hst5,hn5,hm5⟩:=hpost;have HN5:=yG hn5;have HM5:=yG (HMK.out.trans hm5);have HS5:=yG (HSK.out.trans hst5);have HB5:Hid (s5.blocks.length≤100000∧s5.blocks≠[]):=yG (HKEEP.out c HMEM.out sk s5 HBK.out hq);have HW5:Hid (xW (tN S.l) (f+1) i s=vE (xW (tN S.l) f) (kids.drop (k+1)) s5):=yG (by rw[HWK.out,HSN.out,hq]; rfl);clear hn5 hm5 hst5 hq e0;unfold vU
       go_wp2_with fail
       go_roundw
       case rel=>exact⟨k+1,s5,R5,by omega,by go_num,HN5,HM5,HS5,HB5,HW5⟩
       case measure=>simp[intOf]; omega
     ·obtain rfl:k=kids.length:=by omega
      have d0:decide ((kids.length:Int)<(kids.length:Int))=false:=by simp
      have d1:decide (kids.length<kids.length)=false:=by simp
      have HFE:Hid (xW (tN S.l) (f+1) i s=.ok sk):=yG (by rw[HWK.out,List.drop_length]; rfl)
      go_wp2_with fail
      go_end0;rw[HFE.out];exact⟨rfl,Rk,HSK.out,HNK.out,HMK.out⟩
  ·by_cases h20:nk=20
   ·subst h20;rw[if_neg (by decide),if_pos rfl] at HHE
    go_wp2_with fail
    refine(zFS W2 S s R i HN2.out HIL.out).mono ?_;intro e w3 hpost
    cases hq:ofN (tN S.l) i s with
    | err j er=>
     rw[hq] at hpost;obtain⟨rfl,hj,M',hm⟩:=hpost
     have HF:Hid (jS w S R (xW (tN S.l) (f+1) i s) vU (XJ (YQ S.l j) er) w3):=yG (by
      rw[HEX.out,HHE.out,hq]
      exact⟨rfl,hj,M',(xC.ext HX2.out).trans hm⟩)
     exact xJ (P:=Tryz.prog) (fn:=Tryz.f150) rfl HF.out
    | ok s3=>
     rw[hq] at hpost;obtain⟨rfl,R3,hst3,hn3,hm3⟩:=hpost;have HNC:=yG hn3;have HMC:=yG ((xC.ext (M:=xL S R) HX2.out).trans hm3);have HST:=yG hst3
     have HBC:Hid (s3.blocks.length≤100000∧s3.blocks≠[]):=yG (by
      unfold ofN at hq
      split at hq
      ·cases hq
      ·injection hq with hq;rw[←hq]
       exact⟨HBF.out,HBN.out⟩)
     have HWH:Hid (xW (tN S.l) (f+1) i s=vE (xW (tN S.l) f) (kids.drop 0) s3):=yG (by rw[HEX.out,HHE.out,hq]; rfl);have c4':w3.cell? ⟨g,4,none⟩=some (.slice kA kids.length kc):=(HFR.out.xE hm3).1.cell 4;clear hn3 hm3 hst3 hq c0 c2 c4
     go_upto_region 9 with fail
     clear c4'
     go_loopw [46] (fun i' wr=>∃(k:Nat) (sk:Nr) (Rk:DyN),k≤kids.length∧i'=.int .i64 k∧Hid (NB wr S sk Rk)∧Hid (xC w (xL S R) wr (xL S Rk))∧Hid (ZQ R Rk)∧Hid (sk.blocks.length≤100000∧sk.blocks≠[])∧Hid (xW (tN S.l) (f+1) i s=vE (xW (tN S.l) f) (kids.drop k) sk)) (fun i' _=>kids.length-(intOf i').toNat)
     case atStart=>exact⟨0,s3,R3,zW _,rfl,HNC,HMC,HST,HBC,HWH⟩
     case round=>
      obtain⟨k,sk,Rk,hk,rfl,HNK,HMK,HSK,HBK,HWK⟩:=hrel;obtain⟨wa,rfl⟩:∃wa:World,wa=wr:=⟨_,rfl⟩
      by_cases hlt:k<kids.length
      ·have d0:decide ((k:Int)<(kids.length:Int))=true:=yS (by omega)
       have q1:(k:Int)<(kids.length:Int):=by omega
       obtain⟨b,off,rfl,hb,hcc⟩:=(HKS.out wa sk Rk HNK.out).at_ (by rw[vR]; omega)
       have e0:wa.cell? ⟨b,off+k,none⟩=some (.int .i64 ((kids[k]:Nat):Int)):=by rw[hcc k (by rw[vR]; exact hlt)]; simp[ints,hlt]
       have HMEM:Hid (kids[k] ∈ kids):=yG (yO hlt);have HSN:Hid (vE (xW (tN S.l) f) (kids.drop k) sk=((xW (tN S.l) f) kids[k] sk).bind (vE (xW (tN S.l) f) (kids.drop (k+1)))):=yG (by rw[List.drop_eq_getElem_cons hlt]; rfl);clear hcc;generalize kids[k]=c at *
       go_wp2_with fail
       refine(HIH.out wa sk Rk c HNK.out (HUP.out c HMEM.out).2 (by have:=(HUP.out c HMEM.out).1; have:=HFI.out; omega) HBK.out.1 HBK.out.2).mono ?_;intro e w5 hpost
       cases hq:(xW (tN S.l) f) c sk with
       | err j er=>
        rw[hq] at hpost;obtain⟨rfl,hj,M',hm⟩:=hpost
        have HF:Hid (jS w S R (xW (tN S.l) (f+1) i s) vU (XJ (YQ S.l j) er) w5):=yG (by
         rw[HWK.out,HSN.out,hq]
         exact⟨rfl,hj,M',HMK.out.trans hm⟩)
        exact xJ (P:=Tryz.prog) (fn:=Tryz.f150) rfl HF.out
       | ok s5=>
        rw[hq] at hpost;obtain⟨rfl,R5,hst5,hn5,hm5⟩:=hpost;have HN5:=yG hn5;have HM5:=yG (HMK.out.trans hm5);have HS5:=yG (HSK.out.trans hst5);have HB5:Hid (s5.blocks.length≤100000∧s5.blocks≠[]):=yG (HKEEP.out c HMEM.out sk s5 HBK.out hq);have HW5:Hid (xW (tN S.l) (f+1) i s=vE (xW (tN S.l) f) (kids.drop (k+1)) s5):=yG (by rw[HWK.out,HSN.out,hq]; rfl);clear hn5 hm5 hst5 hq e0;unfold vU
        go_wp2_with fail
        go_roundw
        case rel=>exact⟨k+1,s5,R5,by omega,by go_num,HN5,HM5,HS5,HB5,HW5⟩
        case measure=>simp[intOf]; omega
      ·obtain rfl:k=kids.length:=by omega
       have d0:decide ((kids.length:Int)<(kids.length:Int))=false:=by simp
       have d1:decide (kids.length<kids.length)=false:=by simp
       have HFE:Hid (xW (tN S.l) (f+1) i s=.ok sk):=yG (by rw[HWK.out,List.drop_length]; rfl)
       go_wp2_with fail
       go_end0;rw[HFE.out];exact⟨rfl,Rk,HSK.out,HNK.out,HMK.out⟩
   ·have n22:((nk:Int)==22)=false:=by rw[yI]; omega
    have n20:((nk:Int)==20)=false:=by rw[yI]; omega
    rw[if_neg h22,if_neg h20] at HHE;have HNC:=HN2;have HMC:=yG (xC.ext (M:=xL S R) HX2.out);have HST:=yG (ZQ.refl R);have HBC:Hid (s.blocks.length≤100000∧s.blocks≠[]):=yG ⟨HBF.out,HBN.out⟩;have HWH:Hid (xW (tN S.l) (f+1) i s=vE (xW (tN S.l) f) (kids.drop 0) s):=yG (by rw[HEX.out,HHE.out]; rfl);clear h22 h20
    go_upto_region 9 with fail
    clear c0 c2 c4 n22 n20
    go_loopw [46] (fun i' wr=>∃(k:Nat) (sk:Nr) (Rk:DyN),k≤kids.length∧i'=.int .i64 k∧Hid (NB wr S sk Rk)∧Hid (xC w (xL S R) wr (xL S Rk))∧Hid (ZQ R Rk)∧Hid (sk.blocks.length≤100000∧sk.blocks≠[])∧Hid (xW (tN S.l) (f+1) i s=vE (xW (tN S.l) f) (kids.drop k) sk)) (fun i' _=>kids.length-(intOf i').toNat)
    case atStart=>exact⟨0,s,R,zW _,rfl,HNC,HMC,HST,HBC,HWH⟩
    case round=>
     obtain⟨k,sk,Rk,hk,rfl,HNK,HMK,HSK,HBK,HWK⟩:=hrel;obtain⟨wa,rfl⟩:∃wa:World,wa=wr:=⟨_,rfl⟩
     by_cases hlt:k<kids.length
     ·have d0:decide ((k:Int)<(kids.length:Int))=true:=yS (by omega)
      have q1:(k:Int)<(kids.length:Int):=by omega
      obtain⟨b,off,rfl,hb,hcc⟩:=(HKS.out wa sk Rk HNK.out).at_ (by rw[vR]; omega)
      have e0:wa.cell? ⟨b,off+k,none⟩=some (.int .i64 ((kids[k]:Nat):Int)):=by rw[hcc k (by rw[vR]; exact hlt)]; simp[ints,hlt]
      have HMEM:Hid (kids[k] ∈ kids):=yG (yO hlt);have HSN:Hid (vE (xW (tN S.l) f) (kids.drop k) sk=((xW (tN S.l) f) kids[k] sk).bind (vE (xW (tN S.l) f) (kids.drop (k+1)))):=yG (by rw[List.drop_eq_getElem_cons hlt]; rfl);clear hcc;generalize kids[k]=c at *
      go_wp2_with fail
      refine(HIH.out wa sk Rk c HNK.out (HUP.out c HMEM.out).2 (by have:=(HUP.out c HMEM.out).1; have:=HFI.out; omega) HBK.out.1 HBK.out.2).mono ?_;intro e w5 hpost
      cases hq:(xW (tN S.l) f) c sk with
      | err j er=>
       rw[hq] at hpost;obtain⟨rfl,hj,M',hm⟩:=hpost
       have HF:Hid (jS w S R (xW (tN S.l) (f+1) i s) vU (XJ (YQ S.l j) er) w5):=yG (by
        rw[HWK.out,HSN.out,hq]
        exact⟨rfl,hj,M',HMK.out.trans hm⟩)
       exact xJ (P:=Tryz.prog) (fn:=Tryz.f150) rfl HF.out
      | ok s5=>
       rw[hq] at hpost;obtain⟨rfl,R5,hst5,hn5,hm5⟩:=hpost;have HN5:=yG hn5;have HM5:=yG (HMK.out.trans hm5);have HS5:=yG (HSK.out.trans hst5);have HB5:Hid (s5.blocks.length≤100000∧s5.blocks≠[]):=yG (HKEEP.out c HMEM.out sk s5 HBK.out hq);have HW5:Hid (xW (tN S.l) (f+1) i s=vE (xW (tN S.l) f) (kids.drop (k+1)) s5):=yG (by rw[HWK.out,HSN.out,hq]; rfl);clear hn5 hm5 hst5 hq e0;unfold vU
       go_wp2_with fail
       go_roundw
       case rel=>exact⟨k+1,s5,R5,by omega,by go_num,HN5,HM5,HS5,HB5,HW5⟩
       case measure=>simp[intOf]; omega
     ·obtain rfl:k=kids.length:=by omega
      have d0:decide ((kids.length:Int)<(kids.length:Int))=false:=by simp
      have d1:decide (kids.length<kids.length)=false:=by simp
      have HFE:Hid (xW (tN S.l) (f+1) i s=.ok sk):=yG (by rw[HWK.out,List.drop_length]; rfl)
      go_wp2_with fail
      go_end0;rw[HFE.out];exact⟨rfl,Rk,HSK.out,HNK.out,HMK.out⟩
end Go.Proofs.YtbadjmmjbpeocaaGreat
