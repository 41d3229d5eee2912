/- slices.ContainsFunc over nodes, with tree.Right's closure, walked. (and what follows of it). The conditions stand at each lemma. -/
import Derived.Test.YtbadjmmjbpeocaaGreatJaa
import Derived.Test.YtbadjmmjbpeocaaGreatJav
import Derived.Test.YtbadjmmjbpeocaaGreatJau
import Derived.Deep.OwnRows
import Derived.Test.YtbadjmmjbpeocaaGreatJat
import Derived.Laws.MakeOwn
import Derived.Test.YtbadjmmjbpeocaaGreatJaj
set_option linter.unusedVariables false
set_option linter.unusedSimpArgs false
set_option maxRecDepth 100000
set_option maxHeartbeats 16000000
namespace Go.Proofs.YtbadjmmjbpeocaaGreat.TT
open Go Go.RowKit
structure zFQ (l:List xU)(x:xU):Prop where
 text:x.text.size≤9000
 kids:x.kids.length≤9000
 range:zLu l x.kids
theorem zTw (l:List xU)(A:Option Addr)(n c:Nat)(x:xU)(w:World)(hn:n=l.length)(ht:zA2 w A l)(hlen:l.length≤9000)(hf:zFQ l x)(hxo:zDM w x)(b:Bool)(hb:zBu l x=b) :
  Calls Tryz.prog 80 #[.agg #[.slice A n c],.agg (Array.mk x.cells)] w fun e w'=>e=.returned (.bool b)∧Ext w w':=by
 subst hb;exact zQ2 l A n c x w hn ht hlen hf.text hf.kids hxo hf.range
theorem zH2 (l:List xU)(A:Option Addr)(n c gt:Nat)(x:xU)(w:World)(hn:n=l.length)(ht:zA2 w A l)(hlen:l.length≤9000)(hf:zFQ l x)(hxo:zDM w x)(hg:Blk w gt 27 #[.slice A n c])(b:Bool)(hb:(!zBu l x)=b) :
  Calls Tryz.prog 79 #[.agg (Array.mk x.cells),.pointer (some ⟨gt,0,none⟩)] w fun e w'=>e=.returned (.bool b)∧Ext w w':=by
 subst hn;obtain⟨d,hd⟩:∃d,zBu l x=d:=⟨_,rfl⟩;have HD:=yG hd;rw[hd] at hb;have HB:=yG hb;have HT:=yG ht;have AD:=yG hxo;have HF:=yG hf;have HG:=yG hg;clear hb hd ht hxo hf hg;obtain⟨kind,pos,text,num,kA,kc,AA⟩:=x;have AB:Hid (Ext w (w.alloc (.cells #[.int .u8 kind,.int .i64 pos,.string text,.int .i64 num,.slice kA AA.length kc] 38))):=yG (Ext.alloc _ _);have y0:=(HG.out.ext AB.out).cell 0
 show Calls Tryz.prog 79 #[.agg #[.int .u8 kind,.int .i64 pos,.string text,.int .i64 num,.slice kA AA.length kc],.pointer (some ⟨gt,0,none⟩)] w fun e w'=>e=.returned (.bool b)∧Ext w w'
 go_enter Tryz.func79,Tryz.ntmps79
 go_wp2_with fail
 refine(zTw l A l.length c ⟨kind,pos,text,num,kA,kc,AA⟩ _ rfl (HT.out.ext AB.out) hlen HF.out (AD.out.ext AB.out) d HD.out).mono ?_;rintro e w2 ⟨rfl,AC⟩;have AE:Hid (Ext w w2):=yG (AB.out.trans AC);clear AC y0
 go_wp2_with fail
 go_ret;exact⟨jN HB.out,AE.out⟩
def zEG:xU:=⟨0,0,⟨#[]⟩,0,none,0,[]⟩
theorem zMU (l:List xU)(A:Option Addr)(n c gt:Nat)(w:World)(hn:n=l.length)(ht:zA2 w A l)(hlen:l.length≤9000)(hf:∀x ∈ l,zFQ l x)(hg:Blk w gt 27 #[.slice A n c]) :
  Calls Tryz.prog 113 #[.slice A n c,.func (.func 79) #[] #[.pointer (some ⟨gt,0,none⟩)]] w fun e w'=>∃r:Int,e=.returned (.int .i64 r)∧decide (0≤r)=(List.range l.length).any (fun i=>!zBu l (l.getD i zEG))∧Ext w w':=by
 subst hn;have HT:=yG ht;have HG:=yG hg;have HF:=yG hf;clear ht hg hf;obtain⟨q,HQ⟩:∃q:Nat→Bool,Hid ((fun i=>!zBu l (l.getD i zEG))=q):=⟨_,yG rfl⟩;rw[HQ.out]
 go_enter Tryz.func113,Tryz.ntmps113
 go_wp2_with fail
 go_loopw [8] (fun i wr=>∃k:Nat,k≤l.length∧i=.int .i64 k∧Hid (Ext w wr)∧Hid (∀j,j<k→q j=false)) (fun i _=>l.length-(intOf i).toNat)
 case atStart=>exact⟨0,zW _,rfl,yG (Ext.refl _),yG fun j hj=>by omega⟩
 case round=>
  obtain⟨k,hk,rfl,HX,HR⟩:=hrel;obtain⟨wa,rfl⟩:∃wa:World,wa=wr:=⟨_,rfl⟩
  by_cases AC:k<l.length
  ·have d0:decide ((k:Int)<(l.length:Int))=true:=yS (by omega);obtain⟨b,hb⟩:∃b,q k=b:=⟨_,rfl⟩;have HB:=yG hb
   have AI:l.getD k zEG=l[k]:=by simp[yH,AC]
   have AJ:Hid ((!zBu l l[k])=b):=yG (by rw[←hb,←HQ.out,←AI]);have AF:=yG (HT.out.ext HX.out);have AL:=yG (HG.out.ext HX.out);have AH:Hid (zDM wa l[k]):=yG (AF.out.ok _ (yO AC));have AK:Hid (zFQ l l[k]):=yG (HF.out _ (yO AC));obtain⟨g,AE,rfl,AN,AA⟩:=AF.out.at_ k AC;clear hb AI;generalize l[k]=x at *;obtain⟨kind,pos,text,num,kA,kc,AB⟩:=x;have c0:wa.cell? ⟨g,AE+k*5,none⟩=some (.int .u8 kind):=AA 0 (by omega);have c1:wa.cell? ⟨g,AE+k*5+1,none⟩=some (.int .i64 pos):=AA 1 (by omega);have c2:wa.cell? ⟨g,AE+k*5+2,none⟩=some (.string text):=AA 2 (by omega);have c3:wa.cell? ⟨g,AE+k*5+3,none⟩=some (.int .i64 num):=AA 3 (by omega);have c4:wa.cell? ⟨g,AE+k*5+4,none⟩=some (.slice kA AB.length kc):=AA 4 (by omega);clear AA
   cases b with
   | true=>
    go_wp2_with (refine(zH2 l _ l.length c gt ⟨kind,pos,text,num,kA,kc,AB⟩ _ rfl AF.out hlen AK.out AH.out AL.out true AJ.out).mono ?_; rintro e w2 ⟨rfl,AD⟩; have AG:Hid (Ext w w2):=yG (HX.out.trans AD); clear AD)
    go_ret;exact⟨_,rfl,by rw[yS (by omega)]; exact(any_some k AC HB.out).symm,AG.out⟩
   | false=>
    go_wp2_with (refine(zH2 l _ l.length c gt ⟨kind,pos,text,num,kA,kc,AB⟩ _ rfl AF.out hlen AK.out AH.out AL.out false AJ.out).mono ?_; rintro e w2 ⟨rfl,AD⟩; have AG:Hid (Ext w w2):=yG (HX.out.trans AD); clear AD)
    go_roundw
    case rel=>exact⟨k+1,by omega,by go_num,AG,yG fun j hj=>by
     by_cases AM:j=k
     ·subst AM; exact HB.out
     ·exact HR.out j (by omega)⟩
    case measure=>simp[intOf]; omega
  ·obtain rfl:k=l.length:=by omega
   have d0:decide ((l.length:Int)<(l.length:Int))=false:=by simp
   go_wp2_with fail
   go_ret;exact⟨_,rfl,by rw[any_none HR.out]; rfl,HX.out⟩
theorem zS8 (l:List xU)(p:xU→Bool):(!(l.any fun x=>!p x))=l.all p:=by
 induction l with
 | nil=>rfl
 | cons x l ih=>rw[List.any_cons,List.all_cons,←ih]; cases p x <;> simp
theorem zLT (l:List xU)(A:Option Addr)(n c gt:Nat)(w:World)(hn:n=l.length)(ht:zA2 w A l)(hlen:l.length≤9000)(hf:∀x ∈ l,zFQ l x)(hg:Blk w gt 27 #[.slice A n c])(b:Bool)(hb:Hid ((!l.all (zBu l))=b)) :
  Calls Tryz.prog 78 #[.slice A n c,.func (.func 79) #[] #[.pointer (some ⟨gt,0,none⟩)]] w fun e w'=>e=.returned (.bool b)∧Ext w w':=by
 subst hn;have AD:Hid ((List.range l.length).any (fun i=>!zBu l (l.getD i zEG))=b):=yG (by rw[←hb.out,←zS8,Bool.not_not]; exact zKZ l (fun x=>!zBu l x) zEG)
 go_enter Tryz.func78,Tryz.ntmps78
 go_wp2_with fail
 refine(zMU l A l.length c gt w rfl ht hlen hf hg).mono ?_;rintro e w2 ⟨r,rfl,hr,AA⟩;have AB:=yG hr;have AC:=yG AA;clear hr AA
 go_wp2_with fail
 go_ret;exact⟨jN (by rw[AB.out,AD.out]),AC.out⟩
theorem zHo:(Tryz.prog.info? 3).map (fun i=>(i.zero,i.size,i.bytes))=some (some (.int .i64 0),1,8):=by kernel_rfl
def zCq (Z:List Nat):Array Value:=(Z.map fun a:Nat=>Value.int .i64 (a:Int)).toArray
theorem zNY (Z:List Nat)(i a:Nat):(zCq Z).setIfInBounds i (.int .i64 (a:Int))=zCq (Z.set i a):=by
 unfold zCq;rw[yD,List.map_set]
theorem zGp (Z:List Nat)(i:Nat)(h:i<Z.length):(zCq Z)[i]?=some (.int .i64 (Z.getD i 0:Int)):=by
 unfold zCq;simp[yH,h]
theorem zNq (n:Nat):madeCells #[.int .i64 0] n=zCq (List.replicate n 0):=by
 apply Array.toList_inj.1;rw[toList_madeCells_one];simp[zCq]
def zUY (w:World)(o:Option (List Nat))(v:Value):Prop:=match o with
 | none=>v=.slice none 0 0
 | some Z=>∃g,v=.slice (some ⟨g,0,none⟩) Z.length Z.length∧Blk w g 3 (zCq Z)
theorem zMe (len:Nat)(Z:List Nat)(k:Int)(r:List Int)(a:Nat):zBV len Z (k::r) a=if k=(a:Int)∧a<len then zBV len Z r (Z.getD a 0) else none:=rfl
theorem zHW {ks:List (List Int)}:∀(j:Nat) (Z:List Nat),JJ ks j=some Z→Z.length=ks.length:=by
 intro j
 induction j with
 | zero=>intro Z h; injection h with h; subst h; simp
 | succ j ih=>
  intro Z h;unfold JJ at h
  split at h
  ·cases h
  ·rename_i Z0 h0
   split at h
   ·cases h
   ·injection h with h;subst h
    simpa using ih Z0 h0
theorem zP8 {ks:List (List Int)}:∀(j:Nat) (Z:List Nat),j≤ks.length→JJ ks j=some Z→∀a,Z.getD a 0≤ks.length:=by
 intro j Z hj h a
 by_cases ha:ks.length-j≤a∧a<ks.length
 ·obtain⟨_,hz⟩:=zDD ks j Z hj h;exact(zBs (hz a ha.1 ha.2)).2
 ·by_cases AA:a<ks.length
  ·have:∀(j:Nat) (Z:List Nat),JJ ks j=some Z→∀a,a<ks.length-j→Z.getD a 0=0:=by
    intro j
    induction j with
    | zero=>
     intro Z h a ha;injection h with h;subst h;simp[yH,List.getElem?_replicate]
     split <;> rfl
    | succ j ih=>
     intro Z h a ha;unfold JJ at h
     split at h
     ·cases h
     ·rename_i Z0 h0
      split at h
      ·cases h
      ·injection h with h;subst h
       have:=ih Z0 h0 a (by omega)
       simp only[yH,List.getElem?_set];rw[if_neg (by omega)]
       simpa [yH] using this
   rw[this j Z h a (by omega)];omega
  ·have hl:=zHW j Z h;simp[yH,zM (show Z.length≤a by omega)]
theorem zSj (l:List xU)(A:Option Addr)(n c:Nat)(w:World)(hn:n=l.length)(ht:zA2 w A l)(hlen:l.length≤9000)(hkl:∀x ∈ l,x.kids.length≤9000)(o:Option (List Nat))(ho:Hid (zB0 (zBL l)=o)) :
  Calls Tryz.prog 77 #[.agg #[.slice A n c]] w fun e w'=>∃v,e=.returned v∧zUY w' o v∧Ext w w':=by
 subst hn;have HT:=yG ht;have Ad:=yG hkl;clear ht hkl;have AR:=run_make_row' (P:=Tryz.prog) 30 3 (.int .i64 0) 8 Tryz.underlying30 zHo rfl .i64 .i64 l.length (by omega) (by omega)
 go_enter Tryz.func77,Tryz.ntmps77
 go_upto_region 2 with fail
 have AG:Hid (Blk ((w.alloc (.cells #[.slice A l.length c] 27)).alloc (.cells (madeCells #[.int .i64 0] l.length) 3)) (w.heap.size+1) 3 (zCq (List.replicate l.length 0))):=yG (by
  rw[zNq]
  exact Blk.newAt (by simp))
 have AF:Hid (Blk ((w.alloc (.cells #[.slice A l.length c] 27)).alloc (.cells (madeCells #[.int .i64 0] l.length) 3)) w.heap.size 27 #[.slice A l.length c]):=yG ((Blk.new _ _ _).alloc _);have AJ:Hid (Ext w ((w.alloc (.cells #[.slice A l.length c] 27)).alloc (.cells (madeCells #[.int .i64 0] l.length) 3))):=(Ext.alloc _ _).trans (Ext.alloc _ _)
 try simp only[yT]
 generalize (w.alloc (.cells #[.slice A l.length c] 27)).alloc (.cells (madeCells #[.int .i64 0] l.length) 3)=w1 at *;obtain⟨g,hg⟩:∃g,w.heap.size+1=g:=⟨_,rfl⟩;obtain⟨gt,AM⟩:∃gt,w.heap.size=gt:=⟨_,rfl⟩;rw[hg] at AG ⊢;rw[AM] at AF ⊢;have AL:Hid (w.heap.size≤g∧gt≠g):=yG ⟨by omega,by omega⟩;clear hg AM AR;have y0:=AF.out.cell 0
 go_wp2_with fail
 clear y0
 go_loopw [4] (fun i wr=>∃(m:Nat) (Z:List Nat),m≤l.length∧i=.int .i64 ((m:Int)-1)∧Hid (JJ (zBL l) (l.length-m)=some Z)∧Hid (Blk wr g 3 (zCq Z))∧Hid (Blk wr gt 27 #[.slice A l.length c])∧Hid (Ext w wr)) (fun i _=>(intOf i+1).toNat)
 case atStart=>exact⟨l.length,List.replicate l.length 0,zX _,rfl,yG (by rw[Nat.sub_self]; unfold JJ; rw[XN]),AG,AF,AJ⟩
 case round=>
  clear AG AF AJ;obtain⟨m,Z,hm,rfl,HZ,HB,HG,HX⟩:=hrel;obtain⟨wa,rfl⟩:∃wa:World,wa=wr:=⟨_,rfl⟩
  have AY:Z.length=l.length:=by rw[zHW _ _ HZ.out,XN]
  have Aa:Hid (∀a,Z.getD a 0≤l.length):=yG (by have:=zP8 _ Z (by rw[XN]; omega) HZ.out; rw[XN] at this; exact this)
  cases m with
  | zero=>
   have AE:Hid (o=if l.length≠0∧Z.getD 0 0=l.length then some Z else none):=yG (by
    rw[←ho.out];unfold zB0
    have:=HZ.out
    rw[Nat.sub_zero] at this
    rw[XN,this])
   by_cases h0:l.length=0
   ·have e0:((l.length:Int)==0)=true:=by rw[h0]; rfl
    have HO:Hid (o=none):=yG (by rw[AE.out,if_neg (by omega)])
    go_wp2_with fail
    go_ret;exact⟨_,rfl,(by rw[HO.out]; rfl),HX.out⟩
   ·have e0:((l.length:Int)==0)=false:=by rw[yI]; omega
    have z0:wa.cell? ⟨g,0,none⟩=some (.int .i64 (Z.getD 0 0:Int)):=(HB.out.cell 0).trans (zGp Z 0 (by omega))
    have q0:(0:Int)<(l.length:Int):=by omega
    obtain⟨z,AZ⟩:∃z,Hid (Z.getD 0 0=z):=⟨_,yG rfl⟩;rw[AZ.out] at z0 AE
    by_cases hz:z=l.length
    ·have e1:((z:Int)==(l.length:Int))=true:=by simp[hz]
     have HO:Hid (o=some Z):=yG (by rw[AE.out,if_pos ⟨h0,hz⟩]);clear hz
     go_wp2_with fail
     go_ret;exact⟨_,rfl,(by rw[HO.out]; exact⟨g,by rw[AY]; rfl,HB.out⟩),HX.out⟩
    ·have e1:((z:Int)==(l.length:Int))=false:=by rw[yI]; omega
     have HO:Hid (o=none):=yG (by rw[AE.out,if_neg (fun h=>hz h.2)])
     go_wp2_with fail
     go_ret;exact⟨_,rfl,(by rw[HO.out]; rfl),HX.out⟩
  | succ m=>
   have em:(((m+1:Nat):Int)-1)=(m:Int):=by omega
   rw[em]
   have AD:m<l.length:=by omega
   obtain⟨b,AO,rfl,hb,AB⟩:=(HT.out.ext HX.out).at_ m AD;have AQ:Hid (zDM wa l[m]):=yG ((HT.out.ext HX.out).ok _ (yO AD));have AP:Hid (l[m].kids.length≤9000):=yG (Ad.out _ (yO AD))
   have AH:Hid (∀r,zBV l.length Z l[m].kids (m+1)=r→JJ (zBL l) (l.length-m)=match r with | none=>none | some a=>some (Z.set m a)):=yG (by
    intro r hr;rw[show l.length-m=(l.length-(m+1))+1 from by omega];unfold JJ;rw[HZ.out];simp only[XN];rw[show l.length-1-(l.length-(m+1))=m from by omega,zDq l m AD,hr]
    cases r <;> rfl)
   generalize l[m]=x at *;obtain⟨kind,pos,text,num,kA,kc,AA⟩:=x;have Ag:AA.length≤9000:=AP.out;have c4:wa.cell? ⟨b,AO+m*5+4,none⟩=some (.slice kA AA.length kc):=AB 4 (by omega);clear AB em
   have Ak:decide ((m:Int) ≥ 0)=true:=by simp
   have Aj:decide (0≤(m:Int))=true:=by simp
   have AU:(m:Int)<(l.length:Int):=by omega
   have y0:=HG.out.cell 0
   go_wp2_with fail
   go_loopw [5,29] (fun at_ i w2=>w2=wa∧∃(k a:Nat),k≤AA.length∧i=.int .i64 k∧at_=.int .i64 (a:Int)∧a≤l.length∧Hid (zBV l.length Z AA (m+1)=zBV l.length Z (AA.drop k) a)) (fun _ i _=>AA.length-(intOf i).toNat)
   case atStart=>exact⟨rfl,0,m+1,zW _,rfl,by go_num,by omega,yG rfl⟩
   case round=>
    obtain⟨Ae,k,a,hk,rfl,rfl,Al,HK⟩:=hrel;subst Ae
    by_cases AK:k<AA.length
    ·have d0:decide ((k:Int)<(AA.length:Int))=true:=yS (by omega);obtain⟨b2,Ab,rfl,Ai,AT⟩:=zPs AQ.out.kids k AK;have AN:=List.drop_eq_getElem_cons AK
     simp only at AT
     generalize AA[k]=kv at *;rw[AN,zMe] at HK;clear AN
     by_cases AI:kv=(a:Int)
     ·subst AI
      by_cases AC:a<l.length
      ·have d1:decide ((l.length:Int)≤(a:Int))=false:=yR (by omega);have d2:decide ((a:Int) ≥ (l.length:Int))=false:=yR (by omega)
       have q1:(a:Int)<(l.length:Int):=by omega
       have z0:wr.cell? ⟨g,a,none⟩=some (.int .i64 (Z.getD a 0:Int)):=(HB.out.cell a).trans (zGp Z a (by omega));have AW:Hid (zBV l.length Z AA (m+1)=zBV l.length Z (AA.drop (k+1)) (Z.getD a 0)):=yG (by rw[HK.out,if_pos ⟨rfl,AC⟩]);have AS:=Aa.out a;generalize Z.getD a 0=z at *
       go_wp2_with fail
       go_roundw
       case rel=>exact⟨trivial,k+1,z,by omega,by go_num,rfl,AS,AW⟩
       case measure=>simp[intOf]; omega
      ·have d1:decide ((l.length:Int)≤(a:Int))=true:=yS (by omega);have d2:decide ((a:Int) ≥ (l.length:Int))=true:=yS (by omega)
       have HO:Hid (o=none):=yG (by
        rw[←ho.out];have h1:=HK.out;rw[if_neg (fun h=>AC h.2)] at h1
        exact zIl (j:=l.length-m) (by rw[XN]; omega) (AH.out none h1))
       go_wp2_with fail
       go_ret;exact⟨_,rfl,(by rw[HO.out]; rfl),HX.out⟩
     ·have e1:(kv==(a:Int))=false:=beq_eq_false_iff_ne.2 AI
      have HO:Hid (o=none):=yG (by
       rw[←ho.out];have h1:=HK.out;rw[if_neg (fun h=>AI h.1)] at h1
       exact zIl (j:=l.length-m) (by rw[XN]; omega) (AH.out none h1))
      go_wp2_with fail
      go_ret;exact⟨_,rfl,(by rw[HO.out]; rfl),HX.out⟩
    ·obtain rfl:k=AA.length:=by omega
     have d0:decide ((AA.length:Int)<(AA.length:Int))=false:=by simp
     have AX:Hid (JJ (zBL l) (l.length-m)=some (Z.set m a)):=yG (by
      have h1:=HK.out;rw[List.drop_length] at h1
      exact AH.out (some a) h1)
     have f0:wr.frozen? ⟨g,m,none⟩=false:=HB.out.frozen m;have Ah:wr.cell? ⟨g,m,none⟩=some (.int .i64 (Z.getD m 0:Int)):=(HB.out.cell m).trans (zGp Z m (by omega));have AV:Hid (Blk (wr.setCell ⟨g,m,none⟩ (.int .i64 (a:Int))) g 3 (zCq (Z.set m a))):=yG (by rw[←zNY]; exact HB.out.put m _);have Ac:Hid (Blk (wr.setCell ⟨g,m,none⟩ (.int .i64 (a:Int))) gt 27 #[.slice (some ⟨b,AO,none⟩) l.length c]):=yG (HG.out.far AL.out.2 _);have Af:Hid (Ext w (wr.setCell ⟨g,m,none⟩ (.int .i64 (a:Int)))):=yG (HX.out.setCell (p:=⟨g,m,none⟩) AL.out.1 _)
     go_wp2_with fail
     go_roundw
     case rel=>exact⟨m,Z.set m a,by omega,rfl,AX,AV,Ac,Af⟩
     case measure=>simp[intOf]
structure zEF (x:xU):Prop where
 text:x.text.size≤9000
 kids:x.kids.length≤9000
theorem zMK {l:List xU}(h:zB0 (zBL l)=none):XJ l=false:=by unfold XJ; rw[h]; rfl
theorem zMH {l:List xU}{Z:List Nat}(h:zB0 (zBL l)=some Z):XJ l=(zCf l 0==1&&l.all (zBu l)):=by unfold XJ; rw[h]; rfl
theorem zNL (w:World):(binOp .eql 30 (.slice none 0 0) (.slice none 0 0)).run Tryz.prog w=.ok (.bool true) w:=by kernel_rfl
theorem zLZ (w:World)(a:Addr)(n c:Nat):(binOp .eql 30 (.slice (some a) n c) (.slice none 0 0)).run Tryz.prog w=.ok (.bool false) w:=by kernel_rfl
theorem zKw (l:List xU)(A:Option Addr)(n c:Nat)(w:World)(hn:n=l.length)(ht:zA2 w A l)(hlen:l.length≤9000)(hsm:∀x ∈ l,zEF x)(b:Bool)(hb:Hid (XJ l=b)) :
  Calls Tryz.prog 45 #[.agg #[.slice A n c]] w fun e w'=>e=.returned (.bool b)∧Ext w w':=by
 subst hn;have HT:=yG ht;have AD:=yG hsm;clear ht hsm;have s1:=zNL;have s2:=zLZ;obtain⟨o,HO⟩:∃o,Hid (zB0 (zBL l)=o):=⟨_,yG rfl⟩;have AE:Hid (Blk (w.alloc (.cells #[.slice A l.length c] 27)) w.heap.size 27 #[.slice A l.length c]):=yG (Blk.new _ _ _);have AF:Hid (Ext w (w.alloc (.cells #[.slice A l.length c] 27))):=yG (Ext.alloc _ _)
 go_enter Tryz.func45,Tryz.ntmps45
 have y0:=AE.out.cell 0
 go_wp2_with fail
 refine(zSj l A l.length c _ rfl (HT.out.ext AF.out) hlen (fun x hx=>(AD.out x hx).kids) o HO).mono ?_;rintro e w1 ⟨v,rfl,hv,AC⟩;have AI:=yG (AE.out.ext AC);have AB:Hid (Ext w w1):=yG (AF.out.trans AC);clear AC y0
 cases o with
 | none=>
  have AL:v=.slice none 0 0:=hv;subst AL;have HB:Hid (b=false):=yG (by rw[←hb.out]; exact zMK HO.out)
  go_wp2_with fail
  go_ret;exact⟨jN HB.out.symm,AB.out⟩
 | some Z=>
  obtain⟨g,rfl,-⟩:=hv;have AG:=zGo HO.out
  have hp:0<l.length:=by have:=AG.2.1; rw[XN] at this; omega
  have AM:=yG (zJQ HO.out);have AJ:=yG (zMH HO.out);clear AG
  have q0:(0:Int)<(l.length:Int):=by omega
  obtain⟨bb,AN,rfl,AP,AA⟩:=(HT.out.ext AB.out).at_ 0 hp;rw[Nat.zero_mul,Nat.add_zero] at AA;have k0:w1.cell? ⟨bb,AN,none⟩=some (.int .u8 l[0].kind):=AA 0 (by omega);have AK:Hid (zCf l 0=l[0].kind):=yG (zB9 (a:=0) hp);clear AA;generalize l[0].kind=kz at *;have y0:=AI.out.cell 0;generalize w.heap.size=gt at *
  cases hz:(kz==1) with
  | false=>
   have AQ:(kz != 1)=true:=by rw[bne,hz]; rfl
   have HB:Hid (b=false):=yG (by rw[←hb.out,AJ.out,AK.out,hz]; rfl)
   go_wp2_with fail
   go_ret;exact⟨jN HB.out.symm,AB.out⟩
  | true=>
   obtain rfl:kz=1:=by simpa using hz
   clear hz;obtain⟨d,HD⟩:∃d,Hid ((!l.all (zBu l))=d):=⟨_,yG rfl⟩;have HB:Hid ((!d)=b):=yG (by rw[←hb.out,AJ.out,AK.out,←HD.out,Bool.not_not]; rfl)
   go_wp2_with fail
   refine(zLT l _ l.length c gt w1 rfl (HT.out.ext AB.out) hlen (fun x hx=>⟨(AD.out x hx).text,(AD.out x hx).kids,AM.out x hx⟩) AI.out d HD).mono ?_;rintro e w2 ⟨rfl,AH⟩;have AO:Hid (Ext w w2):=yG (AB.out.trans AH);clear AH k0 y0
   go_wp2_with fail
   go_ret;exact⟨jN HB.out,AO.out⟩
end Go.Proofs.YtbadjmmjbpeocaaGreat.TT
namespace Go.Proofs.YtbadjmmjbpeocaaGreat
open Go Go.RowKit TT
theorem zDB.low {N N':Nat}{w:World}{g c k:Nat}{l l':List xU}(h:zDB N w g c l l' k)(hN:N'≤N):zDB N' w g c l l' k:=⟨h.len,zHt h.row hN,h.same,fun i h' hk=>zHt (h.done i h' hk) hN,h.todo⟩
def zG9 (n:Nat):Array Value:=(List.replicate n (Value.int .i64 0)).toArray
def zSP (H:Nat)(L:List xU)(v:Value)(w:World):Prop:=∃g c l',v=.agg #[.slice (some ⟨g,0,none⟩) L.length c]∧zDB H w g c L l' L.length
def OfF (H n:Nat)(v:Value)(w:World):Prop:=∃bo,v=.slice (some ⟨bo,0,none⟩) n n∧H≤bo∧Blk w bo 3 (zG9 n)
structure zM3 (H:Nat)(L:List xU)(w:World)(g c bo:Nat)(l':List xU):Prop where
 own:zDB H w g c L l' L.length
 of:Blk w bo 3 (zG9 L.length)
 lo:H≤bo
def prg (L:List xU)(g c bo:Nat):Array Value:=#[.slice (some ⟨g,0,none⟩) L.length c,.slice none 0 0,.slice none 0 0,.slice (some ⟨bo,0,none⟩) L.length L.length]
def PgF (H:Nat)(L:List xU)(v:Value)(w:World):Prop:=∃g c bo l',v=.agg (prg L g c bo)∧zM3 H L w g c bo l'
def PbF (H:Nat)(L:List xU)(v:Value)(w:World):Prop:=∃p g c bo l',v=.pointer (some ⟨p,0,none⟩)∧H≤p∧Blk w p 32 (prg L g c bo)∧zM3 H L w g c bo l'
def MpF (H:Nat)(v:Value)(w:World):Prop:=∃mt,v=.map (some mt)∧H≤mt∧MF Tryz.prog 9 w mt 0 fun _=>none
def rdc (p mt:Nat):Array Value:=#[.pointer (some ⟨p,0,none⟩),.map (some mt),.slice none 0 0,.pointer none,.slice none 0 0]
def RdF (H:Nat)(L:List xU)(v:Value)(w:World):Prop:=∃p mt g c bo l',v=.agg (rdc p mt)∧H≤p∧Blk w p 32 (prg L g c bo)∧zM3 H L w g c bo l'∧H≤mt∧MF Tryz.prog 9 w mt 0 fun _=>none
def RbF (H:Nat)(L:List xU)(v:Value)(w:World):Prop:=∃a p mt g c bo l',v=.pointer (some ⟨a,0,none⟩)∧H≤a∧Blk w a 115 (rdc p mt)∧H≤p∧Blk w p 32 (prg L g c bo)∧zM3 H L w g c bo l'∧H≤mt∧MF Tryz.prog 9 w mt 0 fun _=>none
section
variable {H n:Nat} {L:List xU} {v:Value} {w w':World}
theorem zM3.ext {g c bo:Nat}{l':List xU}(h:zM3 H L w g c bo l')(hx:Ext w w'):zM3 H L w' g c bo l':=⟨h.own.ext hx,h.of.ext hx,h.lo⟩
theorem zSP.ext (h:zSP H L v w)(hx:Ext w w'):zSP H L v w':=let ⟨g,c,l',a,b⟩:=h; ⟨g,c,l',a,b.ext hx⟩
theorem OfF.ext (h:OfF H n v w)(hx:Ext w w'):OfF H n v w':=let ⟨g,a,b,c⟩:=h; ⟨g,a,b,c.ext hx⟩
theorem PgF.ext (h:PgF H L v w)(hx:Ext w w'):PgF H L v w':=let ⟨g,c,bo,l',a,b⟩:=h; ⟨g,c,bo,l',a,b.ext hx⟩
theorem PbF.ext (h:PbF H L v w)(hx:Ext w w'):PbF H L v w':=let ⟨p,g,c,bo,l',a,b,d,e⟩:=h; ⟨p,g,c,bo,l',a,b,d.ext hx,e.ext hx⟩
theorem MpF.ext (h:MpF H v w)(hx:Ext w w'):MpF H v w':=let ⟨mt,a,b,c⟩:=h; ⟨mt,a,b,c.ext hx⟩
theorem RdF.ext (h:RdF H L v w)(hx:Ext w w'):RdF H L v w':=let ⟨p,mt,g,c,bo,l',a,b,d,e,f,i⟩:=h; ⟨p,mt,g,c,bo,l',a,b,d.ext hx,e.ext hx,f,i.ext hx⟩
theorem RbF.ext (h:RbF H L v w)(hx:Ext w w'):RbF H L v w':=let ⟨q,p,mt,g,c,bo,l',a,b,k,d,e,f,i,j⟩:=h; ⟨q,p,mt,g,c,bo,l',a,b,k.ext hx,d,e.ext hx,f.ext hx,i,j.ext hx⟩
end
def stH (a p mt g c bo H:Nat)(l':List xU):StH:=⟨a,p,bo,l'.length,some ⟨g,0,none⟩,c,txM l',mt,H⟩
def zFz:DyH:=⟨none,0,[],none,0,[],none,0⟩
theorem zRx {H a p mt g c bo:Nat}{L l':List xU}{w:World}(hl:0<L.length)(hn:∀x ∈ L,zGU x)(ha:Blk w a 115 (rdc p mt))(hp:Blk w p 32 (prg L g c bo))(hb:zM3 H L w g c bo l')(hm:MF Tryz.prog 9 w mt 0 fun _=>none)(hH:H≤w.heap.size) :
  NH w (stH a p mt g c bo H l') ⟨[],[],List.replicate L.length 0,[],[]⟩ zFz:=by
 have AB:=hb.own.len
 have AE:∀x ∈ l',zGU x:=fun x hx=>by
  obtain⟨i,hi,rfl⟩:=List.getElem_of_mem hx;obtain⟨e1,e2,e3,e4,e5⟩:=hb.own.same i (by omega) hi
  have:=hn L[i] (yO (by omega))
  exact⟨by rw[e1]; exact this.kind,by rw[e5]; exact this.kids,by rw[e3]; exact this.text⟩
 have hM:∀b,jB (stH a p mt g c bo H l') zFz b→b=a∨b=p∨b=bo∨b=mt:=fun b hb=>by
  rcases hb with e | e | e | e | e | e | e
  ·exact .inl e
  ·exact .inr (.inl e)
  ·exact .inr (.inr (.inl e))
  ·exact .inr (.inr (.inr e))
  ·cases e
  ·cases e
  ·cases e
 refine⟨ha,by rw[show(stH a p mt g c bo H l').l.length=L.length by show(txM l').length=_; rw[JF,AB]]; show Blk w p 32 #[.slice (some ⟨g,0,none⟩) L.length c,.slice none 0 0,.slice none 0 0,.slice (some ⟨bo,0,none⟩) L.length l'.length]; rw[AB]; exact hp,?_,?_,hb.own.tree hl AE ?_ ?_,zR _ _ _ _,rfl,fun k x h0 e1=>(by cases e1),zR _ _ _ _,rfl,fun k b x e1=>(by cases e1),hm,zR _ _ _ _,zW _,zW _,fun _=>rfl,fun _=>rfl,fun _=>rfl,hH⟩
 ·show Blk w bo 3 (ofc (List.replicate L.length 0)).toArray
  rw[show ofc (List.replicate L.length 0)=List.replicate L.length (Value.int .i64 0) by simp[ofc]];exact hb.of
 ·show(List.replicate L.length (0:Int)).length=(txM l').length
  rw[JF,AB,zD]
 ·intro b AD AC AA
  rcases hM b AC with rfl | rfl | rfl | rfl
  ·exact Blk.differ AA ha (by decide) rfl
  ·exact Blk.differ AA hp (by decide) rfl
  ·exact Blk.differ AA hb.of (by decide) rfl
  ·exact hm.ne AA rfl
 ·intro b AD AC AA j v hv
  rcases hM b AC with rfl | rfl | rfl | rfl
  ·exact(Blk.differ AA ha (by decide) rfl).elim
  ·exact(Blk.differ AA hp (by decide) rfl).elim
  ·have e:AD=zG9 L.length:=by
    have:=AA.symm.trans hb.of
    injection this with this;injection this
   rw[e] at hv;unfold zG9 at hv;rw[yL] at hv;exact List.eq_of_mem_replicate (yB hv)
  ·exact(hm.ne AA rfl).elim
theorem zUT (n:Nat)(hn:n≤1000000)(w:World):(Instr.makeSlice 30 (.int .i64 (n:Int)) (.int .i64 (n:Int))).run Tryz.prog w=.ok (.slice (some ⟨w.heap.size,0,none⟩) n n) (w.alloc (.cells (zG9 n) 3)):=by
 obtain⟨i,hi,hz,h1,h2⟩:=info_parts zMA
 have:=run_makeSlice (P:=Tryz.prog) w 30 3 i _ Tryz.underlying30 hi hz .i64 .i64 (n:Int) (n:Int) (by omega) (Int.le_refl _) (by rw[h1]; simp; omega) (by rw[h2]; omega) (by omega)
 have e:madeCells (Value.int .i64 0).cells n=zG9 n:=by
  apply Array.ext
  ·rw[size_madeCells]; simp[zG9]
  ·intro k a b;rw[size_madeCells] at a;simp[madeCells,zG9,Nat.mod_one,Value.cells]
 rw[this,h1,zI,Nat.mul_one,e]
end Go.Proofs.YtbadjmmjbpeocaaGreat
namespace Go.Proofs.YtbadjmmjbpeocaaGreat
open Go Go.RowKit
structure zEb (S:StN):Prop where
 R:zBU (tN S.l)
 kl:∀i,(yZ (tN S.l) i).kids.length≤100000
 ll:S.l.length≤40000
theorem zEb.up {S:StN}(h:zEb S){i k:Nat}(hk:k ∈ (yZ (tN S.l) i).kids):i<k∧k<S.l.length:=by
 have:=h.R.up i k hk
 rwa [JO] at this
def zH5 (t:List Nd)(i:Nat)(s:Nr):XH Nr:=if (yZ t i).kind=22 then (match zA3 s (yZ t i).text with | none=>.err i 70 | some v=>.ok (s.set i v.n)) else if (yZ t i).kind=20 then ofN t i s else .ok s
theorem zOC (t:List Nd)(f i:Nat)(s:Nr):vD t (f+1) i s=(zH5 t i s).bind (vJ (vD t f) (yZ t i).kids):=rfl
theorem NB.fresh {w:World}{S:StN}{s:Nr}{R:DyN}(h:NB w S s R)(t:TypeId)(cs:Array Value):Safe (w.alloc (.cells cs t)) (xL S R) w.heap.size t cs:=⟨Blk.new _ _ _,fun hm=>by have:=h.ZW hm; omega⟩
theorem zBd:∀(f:Nat) (w:World) (S:StN) (s:Nr) (R:DyN) (i:Nat),zEb S→NB w S s R→i<S.l.length→S.l.length≤f+i→s.blocks.length≤100000→s.blocks≠[] →
  Calls Tryz.prog 150 #[.pointer (some ⟨S.a,0,none⟩),.int .i64 (i:Int)] w (jR w S R (vD (tN S.l) f i s) vU)
 | 0,w,S,s,R,i,hT,h,hi,hf,hb,hne=>absurd hf (by omega)
 | f+1,w,S,s,R,i,hT,h,hi,hf,hb,hne=>by
  have Az:Hid (∀(w:World) (s:Nr) (R:DyN) (i:Nat),NB w S s R→i<S.l.length→S.l.length≤f+i→s.blocks.length≤100000→s.blocks≠[]→Calls Tryz.prog 150 #[.pointer (some ⟨S.a,0,none⟩),.int .i64 (i:Int)] w (jR w S R (vD (tN S.l) f i s) vU)):=yG fun w s R i=>zBd f w S s R i hT;have HT:=yG hT;have BJ:=yG h;have BF:=yG h.rds;have AV:=yG hi;have Ay:=yG hf;have As:=yG hb;have Au:=yG hne;have A7:Hid ((yZ (tN S.l) i).text.length≤maxLen):=yG (h.st.tree.txt i);have AU:Hid (vD (tN S.l) (f+1) i s=(zH5 (tN S.l) i s).bind (vJ (vD (tN S.l) f) (yZ (tN S.l) i).kids)):=yG rfl;have A4:Hid ((yZ (tN S.l) i).kids.length≤100000):=yG (hT.kl i);have AS:Hid (∀k,k ∈ (yZ (tN S.l) i).kids→i<k∧k<S.l.length):=yG fun k hk=>hT.up hk;have Ap:Hid (∀(wr:World) (sk:Nr) (Rk:DyN),NB wr S sk Rk→Cells wr (hdN S.l i).1 (ints (yZ (tN S.l) i).kids)):=yG fun wr sk Rk hn=>(hn.st.tree.kid i hi).cells
  have AF:Hid (∀c,c ∈ (yZ (tN S.l) i).kids→∀sk s5:Nr,sk.blocks.length≤100000∧sk.blocks≠[]→vD (tN S.l) f c sk=.ok s5→s5.blocks.length≤100000∧s5.blocks≠[]):=yG fun c _ sk s5 hb hq=>by
   rw[(YF hT.R f c sk s5 hq).blocks];exact hb
  have BG:Hid (zH5 (tN S.l) i s=zH5 (tN S.l) i s):=yG rfl;clear hT h hi hf hb hne
  go_enter Tryz.func150,Tryz.ntmps150
  go_wp2_with fail
  refine(vW w S.a S.p S.A S.ct S.l i BF.out AV.out).mono ?_;rintro e w1 ⟨rfl,Aq⟩;have BL:=yG Aq;have A0:=yG (BJ.out.ext Aq);have AL:=yG (A0.out.fresh 38 (vT S.l i));have Ah:=yG (A0.out.ext (Ext.alloc w1 (.cells (vT S.l i) 38)));have Am:=yG (Aq.trans (Ext.alloc w1 (.cells (vT S.l i) 38)));obtain⟨W2,AW⟩:∃W2,Hid (w1.alloc (.cells (vT S.l i) 38)=W2):=⟨_,yG rfl⟩;rw[AW.out] at AL Ah Am;obtain⟨g,HG⟩:∃g,Hid (w1.heap.size=g):=⟨_,yG rfl⟩;rw[HG.out] at AL;clear Aq;unfold vT at *;obtain⟨AA,BD⟩:∃AA,Hid ((yZ (tN S.l) i).kids=AA):=⟨_,yG rfl⟩;rw[BD.out] at Ap AF A4 AS AU AL AW ⊢
  have A3:Hid (∀x,(yZ (tN S.l) i).kind=x→zH5 (tN S.l) i s=if x=22 then (match zA3 s (yZ (tN S.l) i).text with | none=>.err i 70 | some v=>.ok (s.set i v.n)) else if x=20 then ofN (tN S.l) i s else .ok s):=yG fun x hx=>by rw[←hx]; rfl
  obtain⟨nk,AX⟩:∃nk,Hid ((yZ (tN S.l) i).kind=nk):=⟨_,yG rfl⟩;have AM:=yG (A3.out nk AX.out);rw[AX.out] at AL AW ⊢;generalize (yZ (tN S.l) i).num=nn at *;obtain⟨nt,BE⟩:∃nt,Hid ((yZ (tN S.l) i).text=nt):=⟨_,yG rfl⟩;rw[BE.out] at AL AW AM A7 ⊢;generalize (hdN S.l i).1=kA at *;generalize (hdN S.l i).2=kc at *;generalize YT S.l i=np at *;have c0:W2.cell? ⟨g,0,none⟩=some (.int .u8 (nk:Int)):=AL.out.1.cell 0;have c2:W2.cell? ⟨g,2,none⟩=some (.string (xG nt)):=AL.out.1.cell 2;have c4:W2.cell? ⟨g,4,none⟩=some (.slice kA AA.length kc):=AL.out.1.cell 4;clear A3 BG
  go_upto_region 1 with fail
  rw[AW.out,HG.out];have BM:=A4.out;clear AW
  by_cases Av:nk=22
  ·subst Av;rw[if_pos rfl] at AM
   go_wp2_with fail
   refine(Ah.out.zED As.out nt A7.out).mono ?_;rintro e w3 ⟨rfl,Ao⟩;have A2:=yG (Am.out.trans Ao);have A6:=yG (Ah.out.ext Ao);have BC:=yG (AL.out.xE (xC.ext (M:=xL S R) Ao));clear Ao c0 c2 c4
   cases hfd:zA3 s nt with
   | none=>
    have HR:Hid (vD (tN S.l) (f+1) i s=.err i 70):=yG (by rw[AU.out,AM.out,hfd]; rfl);simp only[zFY,Option.isSome_none];clear hfd
    go_wp2_with fail
    refine(JW _ S.a S.p S.A S.ct S.l i 70 (A6.out.ext (Ext.alloc _ _)).rds AV.out).mono ?_;rintro e w4 ⟨rfl,rfl⟩;exact xJ (P:=Tryz.prog) (fn:=Tryz.f150) rfl (jR.err HR.out AV.out (A2.out.trans (Ext.alloc _ _)))
   | some v=>
    have HR:Hid (zH5 (tN S.l) i s=.ok (s.set i v.n)):=yG (by rw[AM.out,hfd]);simp only[zFY,Option.isSome_some];clear hfd
    go_wp2_with fail
    refine(XC _ (.pointer (some ⟨S.a,0,none⟩)) (i:Int) 70).mono ?_;rintro e w4 ⟨rfl,rfl⟩;obtain⟨W4,Ar⟩:∃W4,Hid (w3.alloc (.cells #[.int .i64 (v.n:Int),.bool v.loop] 169)=W4):=⟨_,yG rfl⟩;have At:Hid (Ext w3 W4):=yG (by rw[←Ar.out]; exact Ext.alloc _ _);have A1:Hid (Blk W4 w3.heap.size 169 #[.int .i64 (v.n:Int),.bool v.loop]):=yG (by rw[←Ar.out]; exact Blk.new _ _ _);have Aj:=yG (A6.out.ext At.out);have BH:=yG (BC.out.xE (xC.ext (M:=xL S R) At.out));rw[Ar.out];have r0:=Aj.out.rds.r0;have al:=Aj.out.rds.al;have pl:=Aj.out.rds.pl;have p3:=Aj.out.p3;have v0:W4.cell? ⟨w3.heap.size,0,none⟩=some (.int .i64 (v.n:Int)):=A1.out.cell 0;have gl:=A1.out.lt
    have q0:(i:Int)<(S.l.length:Int):=by have:=AV.out; omega
    clear Ar
    go_upto_region 5 with fail
    apply xN 11 (by kernel_rfl) (by kernel_rfl) (by kernel_rfl);dsimp only[List.take_succ_cons,List.take_zero,List.drop_succ_cons,List.drop_zero];apply sQ (.pointer (some ⟨S.a,0,none⟩));apply sQ (.pointer (some ⟨S.a,0,none⟩));apply sQ (.pointer (some ⟨S.a,0,none⟩));apply sL r0 al (.pointer (some ⟨S.p,0,none⟩));apply sQ (.pointer (some ⟨S.p,0,none⟩));apply sQ (.pointer (some ⟨S.p,3,none⟩));apply sL p3 pl (.slice (some ⟨S.bo,0,none⟩) S.l.length S.co);apply sQ (.int .i64 (i:Int));apply sQ (.pointer (some ⟨w3.heap.size,0,none⟩));apply sL v0 gl (.int .i64 (v.n:Int));apply sP q0 (.pointer (some ⟨S.bo,i,none⟩));apply xR;intro w5 An hH;clear hH;(try simp only[Act.put,yD,yE,yF,List.drop_succ_cons,List.drop_zero]);have AJ:=yG (Aj.out.ext An);have A8:=yG (BH.out.xE (xC.ext (M:=xL S R) An));have BA:=yG ((A2.out.trans At.out).trans An);have co:=AJ.out.zBP i AV.out;have cz:=AJ.out.ofz i;have r0:=AJ.out.rds.r0;have p3:=AJ.out.p3;clear An r0 al pl p3 v0 gl q0
    go_upto_region 8 with fail
    have AT:=yG (AJ.out.setOf i (v.n:Int));generalize w5.setCell ⟨S.bo,i,none⟩ (.int .i64 (v.n:Int))=W6 at *;have Aa:=yG AT.out.1;have Ag:=yG ((xC.ext (M:=xL S R) BA.out).trans AT.out.2);have Ad:=yG (ZQ.refl R);have Ac:Hid ((s.set i (v.n:Int)).blocks.length≤100000∧(s.set i (v.n:Int)).blocks≠[]):=yG ⟨As.out,Au.out⟩;have AY:Hid (vD (tN S.l) (f+1) i s=vJ (vD (tN S.l) f) (AA.drop 0) (s.set i (v.n:Int))):=yG (by rw[AU.out,HR.out]; rfl);have c4:W6.cell? ⟨g,4,none⟩=some (.slice kA AA.length kc):=(A8.out.xE AT.out.2).1.cell 4;clear co cz
    go_upto_region 9 with fail
    clear c4
    go_loopw [46] (fun i' wr=>∃(k:Nat) (sk:Nr) (Rk:DyN),k≤AA.length∧i'=.int .i64 k∧Hid (NB wr S sk Rk)∧Hid (xC w (xL S R) wr (xL S Rk))∧Hid (ZQ R Rk)∧Hid (sk.blocks.length≤100000∧sk.blocks≠[])∧Hid (vD (tN S.l) (f+1) i s=vJ (vD (tN S.l) f) (AA.drop k) sk)) (fun i' _=>AA.length-(intOf i').toNat)
    case atStart=>exact⟨0,(s.set i (v.n:Int)),R,zW _,rfl,Aa,Ag,Ad,Ac,AY⟩
    case round=>
     obtain⟨k,sk,Rk,hk,rfl,AI,AH,AQ,AG,AK⟩:=hrel;obtain⟨wa,rfl⟩:∃wa:World,wa=wr:=⟨_,rfl⟩
     by_cases AE:k<AA.length
     ·have d0:decide ((k:Int)<(AA.length:Int))=true:=yS (by omega)
      have q1:(k:Int)<(AA.length:Int):=by omega
      obtain⟨b,Al,rfl,hb,AR⟩:=(Ap.out wa sk Rk AI.out).at_ (by rw[vK]; omega)
      have e0:wa.cell? ⟨b,Al+k,none⟩=some (.int .i64 ((AA[k]:Nat):Int)):=by rw[AR k (by rw[vK]; exact AE)]; simp[ints,AE]
      have AC:Hid (AA[k] ∈ AA):=yG (yO AE);have AO:Hid (vJ (vD (tN S.l) f) (AA.drop k) sk=((vD (tN S.l) f) AA[k] sk).bind (vJ (vD (tN S.l) f) (AA.drop (k+1)))):=yG (by rw[List.drop_eq_getElem_cons AE]; rfl);clear AR;generalize AA[k]=c at *
      go_wp2_with fail
      refine(Az.out wa sk Rk c AI.out (AS.out c AC.out).2 (by have:=(AS.out c AC.out).1; have:=Ay.out; omega) AG.out.1 AG.out.2).mono ?_;intro e w5 AB
      cases hq:(vD (tN S.l) f) c sk with
      | err j er=>
       rw[hq] at AB;obtain⟨rfl,hj,M',hm⟩:=AB
       have HF:Hid (jR w S R (vD (tN S.l) (f+1) i s) vU (XI (YT S.l j) er) w5):=yG (by
        rw[AK.out,AO.out,hq]
        exact⟨rfl,hj,M',AH.out.trans hm⟩)
       exact xJ (P:=Tryz.prog) (fn:=Tryz.f150) rfl HF.out
      | ok s5=>
       rw[hq] at AB;obtain⟨rfl,R5,AD,AN,AP⟩:=AB;have AJ:=yG AN;have Ab:=yG (AH.out.trans AP);have Ai:=yG (AQ.out.trans AD);have Af:Hid (s5.blocks.length≤100000∧s5.blocks≠[]):=yG (AF.out c AC.out sk s5 AG.out hq);have Ak:Hid (vD (tN S.l) (f+1) i s=vJ (vD (tN S.l) f) (AA.drop (k+1)) s5):=yG (by rw[AK.out,AO.out,hq]; rfl);clear AN AP AD hq e0;unfold vU
       go_wp2_with fail
       go_roundw
       case rel=>exact⟨k+1,s5,R5,by omega,by go_num,AJ,Ab,Ai,Af,Ak⟩
       case measure=>simp[intOf]; omega
     ·obtain rfl:k=AA.length:=by omega
      have d0:decide ((AA.length:Int)<(AA.length:Int))=false:=by simp
      have d1:decide (AA.length<AA.length)=false:=by simp
      have AZ:Hid (vD (tN S.l) (f+1) i s=.ok sk):=yG (by rw[AK.out,List.drop_length]; rfl)
      go_wp2_with fail
      go_end0;rw[AZ.out];exact⟨rfl,Rk,AQ.out,AI.out,AH.out⟩
  ·by_cases Aw:nk=20
   ·subst Aw;rw[if_neg (by decide),if_pos rfl] at AM
    go_wp2_with fail
    refine(zFP W2 S s R i Ah.out AV.out).mono ?_;intro e w3 AB
    cases hq:ofN (tN S.l) i s with
    | err j er=>
     rw[hq] at AB;obtain⟨rfl,hj,M',hm⟩:=AB
     have HF:Hid (jR w S R (vD (tN S.l) (f+1) i s) vU (XI (YT S.l j) er) w3):=yG (by
      rw[AU.out,AM.out,hq]
      exact⟨rfl,hj,M',(xC.ext Am.out).trans hm⟩)
     exact xJ (P:=Tryz.prog) (fn:=Tryz.f150) rfl HF.out
    | ok s3=>
     rw[hq] at AB;obtain⟨rfl,R3,Ae,A5,Ax⟩:=AB;have Aa:=yG A5;have Ag:=yG ((xC.ext (M:=xL S R) Am.out).trans Ax);have Ad:=yG Ae
     have Ac:Hid (s3.blocks.length≤100000∧s3.blocks≠[]):=yG (by
      unfold ofN at hq
      split at hq
      ·cases hq
      ·injection hq with hq;rw[←hq]
       exact⟨As.out,Au.out⟩)
     have AY:Hid (vD (tN S.l) (f+1) i s=vJ (vD (tN S.l) f) (AA.drop 0) s3):=yG (by rw[AU.out,AM.out,hq]; rfl);have A9:w3.cell? ⟨g,4,none⟩=some (.slice kA AA.length kc):=(AL.out.xE Ax).1.cell 4;clear A5 Ax Ae hq c0 c2 c4
     go_upto_region 9 with fail
     clear A9
     go_loopw [46] (fun i' wr=>∃(k:Nat) (sk:Nr) (Rk:DyN),k≤AA.length∧i'=.int .i64 k∧Hid (NB wr S sk Rk)∧Hid (xC w (xL S R) wr (xL S Rk))∧Hid (ZQ R Rk)∧Hid (sk.blocks.length≤100000∧sk.blocks≠[])∧Hid (vD (tN S.l) (f+1) i s=vJ (vD (tN S.l) f) (AA.drop k) sk)) (fun i' _=>AA.length-(intOf i').toNat)
     case atStart=>exact⟨0,s3,R3,zW _,rfl,Aa,Ag,Ad,Ac,AY⟩
     case round=>
      obtain⟨k,sk,Rk,hk,rfl,AI,AH,AQ,AG,AK⟩:=hrel;obtain⟨wa,rfl⟩:∃wa:World,wa=wr:=⟨_,rfl⟩
      by_cases AE:k<AA.length
      ·have d0:decide ((k:Int)<(AA.length:Int))=true:=yS (by omega)
       have q1:(k:Int)<(AA.length:Int):=by omega
       obtain⟨b,Al,rfl,hb,AR⟩:=(Ap.out wa sk Rk AI.out).at_ (by rw[vK]; omega)
       have e0:wa.cell? ⟨b,Al+k,none⟩=some (.int .i64 ((AA[k]:Nat):Int)):=by rw[AR k (by rw[vK]; exact AE)]; simp[ints,AE]
       have AC:Hid (AA[k] ∈ AA):=yG (yO AE);have AO:Hid (vJ (vD (tN S.l) f) (AA.drop k) sk=((vD (tN S.l) f) AA[k] sk).bind (vJ (vD (tN S.l) f) (AA.drop (k+1)))):=yG (by rw[List.drop_eq_getElem_cons AE]; rfl);clear AR;generalize AA[k]=c at *
       go_wp2_with fail
       refine(Az.out wa sk Rk c AI.out (AS.out c AC.out).2 (by have:=(AS.out c AC.out).1; have:=Ay.out; omega) AG.out.1 AG.out.2).mono ?_;intro e w5 AB
       cases hq:(vD (tN S.l) f) c sk with
       | err j er=>
        rw[hq] at AB;obtain⟨rfl,hj,M',hm⟩:=AB
        have HF:Hid (jR w S R (vD (tN S.l) (f+1) i s) vU (XI (YT S.l j) er) w5):=yG (by
         rw[AK.out,AO.out,hq]
         exact⟨rfl,hj,M',AH.out.trans hm⟩)
        exact xJ (P:=Tryz.prog) (fn:=Tryz.f150) rfl HF.out
       | ok s5=>
        rw[hq] at AB;obtain⟨rfl,R5,AD,AN,AP⟩:=AB;have AJ:=yG AN;have Ab:=yG (AH.out.trans AP);have Ai:=yG (AQ.out.trans AD);have Af:Hid (s5.blocks.length≤100000∧s5.blocks≠[]):=yG (AF.out c AC.out sk s5 AG.out hq);have Ak:Hid (vD (tN S.l) (f+1) i s=vJ (vD (tN S.l) f) (AA.drop (k+1)) s5):=yG (by rw[AK.out,AO.out,hq]; rfl);clear AN AP AD hq e0;unfold vU
        go_wp2_with fail
        go_roundw
        case rel=>exact⟨k+1,s5,R5,by omega,by go_num,AJ,Ab,Ai,Af,Ak⟩
        case measure=>simp[intOf]; omega
      ·obtain rfl:k=AA.length:=by omega
       have d0:decide ((AA.length:Int)<(AA.length:Int))=false:=by simp
       have d1:decide (AA.length<AA.length)=false:=by simp
       have AZ:Hid (vD (tN S.l) (f+1) i s=.ok sk):=yG (by rw[AK.out,List.drop_length]; rfl)
       go_wp2_with fail
       go_end0;rw[AZ.out];exact⟨rfl,Rk,AQ.out,AI.out,AH.out⟩
   ·have BB:((nk:Int)==22)=false:=by rw[yI]; omega
    have BK:((nk:Int)==20)=false:=by rw[yI]; omega
    rw[if_neg Av,if_neg Aw] at AM;have Aa:=Ah;have Ag:=yG (xC.ext (M:=xL S R) Am.out);have Ad:=yG (ZQ.refl R);have Ac:Hid (s.blocks.length≤100000∧s.blocks≠[]):=yG ⟨As.out,Au.out⟩;have AY:Hid (vD (tN S.l) (f+1) i s=vJ (vD (tN S.l) f) (AA.drop 0) s):=yG (by rw[AU.out,AM.out]; rfl);clear Av Aw
    go_upto_region 9 with fail
    clear c0 c2 c4 BB BK
    go_loopw [46] (fun i' wr=>∃(k:Nat) (sk:Nr) (Rk:DyN),k≤AA.length∧i'=.int .i64 k∧Hid (NB wr S sk Rk)∧Hid (xC w (xL S R) wr (xL S Rk))∧Hid (ZQ R Rk)∧Hid (sk.blocks.length≤100000∧sk.blocks≠[])∧Hid (vD (tN S.l) (f+1) i s=vJ (vD (tN S.l) f) (AA.drop k) sk)) (fun i' _=>AA.length-(intOf i').toNat)
    case atStart=>exact⟨0,s,R,zW _,rfl,Aa,Ag,Ad,Ac,AY⟩
    case round=>
     obtain⟨k,sk,Rk,hk,rfl,AI,AH,AQ,AG,AK⟩:=hrel;obtain⟨wa,rfl⟩:∃wa:World,wa=wr:=⟨_,rfl⟩
     by_cases AE:k<AA.length
     ·have d0:decide ((k:Int)<(AA.length:Int))=true:=yS (by omega)
      have q1:(k:Int)<(AA.length:Int):=by omega
      obtain⟨b,Al,rfl,hb,AR⟩:=(Ap.out wa sk Rk AI.out).at_ (by rw[vK]; omega)
      have e0:wa.cell? ⟨b,Al+k,none⟩=some (.int .i64 ((AA[k]:Nat):Int)):=by rw[AR k (by rw[vK]; exact AE)]; simp[ints,AE]
      have AC:Hid (AA[k] ∈ AA):=yG (yO AE);have AO:Hid (vJ (vD (tN S.l) f) (AA.drop k) sk=((vD (tN S.l) f) AA[k] sk).bind (vJ (vD (tN S.l) f) (AA.drop (k+1)))):=yG (by rw[List.drop_eq_getElem_cons AE]; rfl);clear AR;generalize AA[k]=c at *
      go_wp2_with fail
      refine(Az.out wa sk Rk c AI.out (AS.out c AC.out).2 (by have:=(AS.out c AC.out).1; have:=Ay.out; omega) AG.out.1 AG.out.2).mono ?_;intro e w5 AB
      cases hq:(vD (tN S.l) f) c sk with
      | err j er=>
       rw[hq] at AB;obtain⟨rfl,hj,M',hm⟩:=AB
       have HF:Hid (jR w S R (vD (tN S.l) (f+1) i s) vU (XI (YT S.l j) er) w5):=yG (by
        rw[AK.out,AO.out,hq]
        exact⟨rfl,hj,M',AH.out.trans hm⟩)
       exact xJ (P:=Tryz.prog) (fn:=Tryz.f150) rfl HF.out
      | ok s5=>
       rw[hq] at AB;obtain⟨rfl,R5,AD,AN,AP⟩:=AB;have AJ:=yG AN;have Ab:=yG (AH.out.trans AP);have Ai:=yG (AQ.out.trans AD);have Af:Hid (s5.blocks.length≤100000∧s5.blocks≠[]):=yG (AF.out c AC.out sk s5 AG.out hq);have Ak:Hid (vD (tN S.l) (f+1) i s=vJ (vD (tN S.l) f) (AA.drop (k+1)) s5):=yG (by rw[AK.out,AO.out,hq]; rfl);clear AN AP AD hq e0;unfold vU
       go_wp2_with fail
       go_roundw
       case rel=>exact⟨k+1,s5,R5,by omega,by go_num,AJ,Ab,Ai,Af,Ak⟩
       case measure=>simp[intOf]; omega
     ·obtain rfl:k=AA.length:=by omega
      have d0:decide ((AA.length:Int)<(AA.length:Int))=false:=by simp
      have d1:decide (AA.length<AA.length)=false:=by simp
      have AZ:Hid (vD (tN S.l) (f+1) i s=.ok sk):=yG (by rw[AK.out,List.drop_length]; rfl)
      go_wp2_with fail
      go_end0;rw[AZ.out];exact⟨rfl,Rk,AQ.out,AI.out,AH.out⟩
end Go.Proofs.YtbadjmmjbpeocaaGreat
