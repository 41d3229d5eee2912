/- tree.ends, walked. (and what follows of it). The conditions stand at each lemma. -/
import Derived.Test.YtioffpjajhalaaaGreatDoorKaa
import Derived.Test.YtioffpjajhalaaaGreatDoorKax
import Derived.Test.YtioffpjajhalaaaGreatDoorKau
import Derived.Deep.OwnRows
set_option linter.unusedVariables false
set_option linter.unusedSimpArgs false
set_option maxRecDepth 100000
set_option maxHeartbeats 16000000
namespace Go.Proofs.YtioffpjajhalaaaGreatDoor.TT
open Go Go.RowKit
theorem zE3:(Tryz.prog.info? 3).map (fun i=>(i.zero,i.size,i.bytes))=some (some (.int .i64 0),1,8):=by kernel_rfl
def zCW (Z:List Nat):Array Value:=(Z.map fun a:Nat=>Value.int .i64 (a:Int)).toArray
theorem zN7 (Z:List Nat)(i a:Nat):(zCW Z).setIfInBounds i (.int .i64 (a:Int))=zCW (Z.set i a):=by
 unfold zCW;rw[yB,List.map_set]
theorem zGZ (Z:List Nat)(i:Nat)(h:i<Z.length):(zCW Z)[i]?=some (.int .i64 (Z.getD i 0:Int)):=by
 unfold zCW;simp[yF,h]
theorem zNM (n:Nat):madeCells #[.int .i64 0] n=zCW (List.replicate n 0):=by
 apply Array.toList_inj.1;rw[toList_madeCells_one];simp[zCW]
def zUU (w:World)(o:Option (List Nat))(v:Value):Prop:=match o with
 | none=>v=.slice none 0 0
 | some Z=>∃g,v=.slice (some ⟨g,0,none⟩) Z.length Z.length∧Blk w g 3 (zCW Z)
theorem zMA (len:Nat)(Z:List Nat)(k:Int)(r:List Int)(a:Nat):zC4 len Z (k::r) a=if k=(a:Int)∧a<len then zC4 len Z r (Z.getD a 0) else none:=rfl
theorem zJq {ks:List (List Int)}:∀(j:Nat) (Z:List Nat),zAg ks j=some Z→Z.length=ks.length:=by
 intro j
 induction j with
 | zero=>intro Z h; injection h with h; subst h; simp
 | succ j ih=>
  intro Z h;unfold zAg at h
  split at h
  ·cases h
  ·rename_i Z0 h0
   split at h
   ·cases h
   ·injection h with h;subst h
    simpa using ih Z0 h0
theorem zQs {ks:List (List Int)}:∀(j:Nat) (Z:List Nat),j≤ks.length→zAg ks j=some Z→∀a,Z.getD a 0≤ks.length:=by
 intro j Z hj h a
 by_cases ha:ks.length-j≤a∧a<ks.length
 ·obtain⟨_,hz⟩:=zJl ks j Z hj h;exact(zI6 (hz a ha.1 ha.2)).2
 ·by_cases AA:a<ks.length
  ·have:∀(j:Nat) (Z:List Nat),zAg ks j=some Z→∀a,a<ks.length-j→Z.getD a 0=0:=by
    intro j
    induction j with
    | zero=>
     intro Z h a ha;injection h with h;subst h;simp[yF,List.getElem?_replicate]
     split <;> rfl
    | succ j ih=>
     intro Z h a ha;unfold zAg at h
     split at h
     ·cases h
     ·rename_i Z0 h0
      split at h
      ·cases h
      ·injection h with h;subst h
       have:=ih Z0 h0 a (by omega)
       simp only[yF,List.getElem?_set];rw[if_neg (by omega)]
       simpa [yF] using this
   rw[this j Z h a (by omega)];omega
  ·have hl:=zJq j Z h;simp[yF,zL (show Z.length≤a by omega)]
theorem zSx (l:List vI)(A:Option Addr)(n c:Nat)(w:World)(hn:n=l.length)(ht:VZ w A l)(hlen:l.length≤9000)(hkl:∀x ∈ l,x.kids.length≤9000)(o:Option (List Nat))(ho:Hid (zDR (zBG l)=o)) :
  Calls Tryz.prog 51 #[.agg #[.slice A n c]] w fun e w'=>∃v,e=.returned v∧zUU w' o v∧Ext w w':=by
 subst hn;have HT:=yE ht;have AU:=yE hkl;clear ht hkl;have AX:=run_make_row' (P:=Tryz.prog) 32 3 (.int .i64 0) 8 Tryz.underlying32 zE3 rfl .i64 .i64 l.length (by omega) (by omega)
 go_enter Tryz.func51,Tryz.ntmps51
 go_upto_region 2 with fail
 have AH:Hid (Blk ((w.alloc (.cells #[.slice A l.length c] 39)).alloc (.cells (madeCells #[.int .i64 0] l.length) 3)) (w.heap.size+1) 3 (zCW (List.replicate l.length 0))):=yE (by
  rw[zNM]
  exact Blk.newAt (by simp))
 have AE:Hid (Blk ((w.alloc (.cells #[.slice A l.length c] 39)).alloc (.cells (madeCells #[.int .i64 0] l.length) 3)) w.heap.size 39 #[.slice A l.length c]):=yE ((Blk.new _ _ _).alloc _);have AJ:Hid (Ext w ((w.alloc (.cells #[.slice A l.length c] 39)).alloc (.cells (madeCells #[.int .i64 0] l.length) 3))):=(Ext.alloc _ _).trans (Ext.alloc _ _)
 try simp only[yR]
 generalize (w.alloc (.cells #[.slice A l.length c] 39)).alloc (.cells (madeCells #[.int .i64 0] l.length) 3)=w1 at *;obtain⟨g,hg⟩:∃g,w.heap.size+1=g:=⟨_,rfl⟩;obtain⟨gt,AK⟩:∃gt,w.heap.size=gt:=⟨_,rfl⟩;rw[hg] at AH ⊢;rw[AK] at AE ⊢;have AN:Hid (w.heap.size≤g∧gt≠g):=yE ⟨by omega,by omega⟩;clear hg AK AX;have y0:=AE.out.cell 0
 go_wp2_with fail
 clear y0
 go_loopw [4] (fun i wr=>∃(m:Nat) (Z:List Nat),m≤l.length∧i=.int .i64 ((m:Int)-1)∧Hid (zAg (zBG l) (l.length-m)=some Z)∧Hid (Blk wr g 3 (zCW Z))∧Hid (Blk wr gt 39 #[.slice A l.length c])∧Hid (Ext w wr)) (fun i _=>(intOf i+1).toNat)
 case atStart=>exact⟨l.length,List.replicate l.length 0,zU _,rfl,yE (by rw[Nat.sub_self]; unfold zAg; rw[JG]),AH,AE,AJ⟩
 case round=>
  clear AH AE AJ;obtain⟨m,Z,hm,rfl,HZ,HB,HG,HX⟩:=hrel;obtain⟨wa,rfl⟩:∃wa:World,wa=wr:=⟨_,rfl⟩
  have AY:Z.length=l.length:=by rw[zJq _ _ HZ.out,JG]
  have Ae:Hid (∀a,Z.getD a 0≤l.length):=yE (by have:=zQs _ Z (by rw[JG]; omega) HZ.out; rw[JG] at this; exact this)
  cases m with
  | zero=>
   have AD:Hid (o=if l.length≠0∧Z.getD 0 0=l.length then some Z else none):=yE (by
    rw[←ho.out];unfold zDR
    have:=HZ.out
    rw[Nat.sub_zero] at this
    rw[JG,this])
   by_cases h0:l.length=0
   ·have e0:((l.length:Int)==0)=true:=by rw[h0]; rfl
    have HO:Hid (o=none):=yE (by rw[AD.out,if_neg (by omega)])
    go_wp2_with fail
    go_ret;exact⟨_,rfl,(by rw[HO.out]; rfl),HX.out⟩
   ·have e0:((l.length:Int)==0)=false:=by rw[yG]; omega
    have z0:wa.cell? ⟨g,0,none⟩=some (.int .i64 (Z.getD 0 0:Int)):=(HB.out.cell 0).trans (zGZ Z 0 (by omega))
    have q0:(0:Int)<(l.length:Int):=by omega
    obtain⟨z,Ab⟩:∃z,Hid (Z.getD 0 0=z):=⟨_,yE rfl⟩;rw[Ab.out] at z0 AD
    by_cases hz:z=l.length
    ·have e1:((z:Int)==(l.length:Int))=true:=by simp[hz]
     have HO:Hid (o=some Z):=yE (by rw[AD.out,if_pos ⟨h0,hz⟩]);clear hz
     go_wp2_with fail
     go_ret;exact⟨_,rfl,(by rw[HO.out]; exact⟨g,by rw[AY]; rfl,HB.out⟩),HX.out⟩
    ·have e1:((z:Int)==(l.length:Int))=false:=by rw[yG]; omega
     have HO:Hid (o=none):=yE (by rw[AD.out,if_neg (fun h=>hz h.2)])
     go_wp2_with fail
     go_ret;exact⟨_,rfl,(by rw[HO.out]; rfl),HX.out⟩
  | succ m=>
   have em:(((m+1:Nat):Int)-1)=(m:Int):=by omega
   rw[em]
   have AF:m<l.length:=by omega
   obtain⟨b,AL,rfl,hb,AB⟩:=(HT.out.ext HX.out).at_ m AF;have Ac:Hid (zAm wa l[m]):=yE ((HT.out.ext HX.out).ok _ (yM AF));have Af:Hid (l[m].kids.length≤9000):=yE (AU.out _ (yM AF))
   have AG:Hid (∀r,zC4 l.length Z l[m].kids (m+1)=r→zAg (zBG l) (l.length-m)=match r with | none=>none | some a=>some (Z.set m a)):=yE (by
    intro r hr;rw[show l.length-m=(l.length-(m+1))+1 from by omega];unfold zAg;rw[HZ.out];simp only[JG];rw[show l.length-1-(l.length-(m+1))=m from by omega,zFl l m AF,hr]
    cases r <;> rfl)
   generalize l[m]=x at *;obtain⟨kind,pos,text,num,kA,kc,AA⟩:=x;have Ag:AA.length≤9000:=Af.out;have c4:wa.cell? ⟨b,AL+m*5+4,none⟩=some (.slice kA AA.length kc):=AB 4 (by omega);clear AB em
   have Aj:decide ((m:Int) ≥ 0)=true:=by simp
   have Ah:decide (0≤(m:Int))=true:=by simp
   have AZ:(m:Int)<(l.length:Int):=by omega
   have y0:=HG.out.cell 0
   go_wp2_with fail
   go_loopw [5,29] (fun at_ i w2=>w2=wa∧∃(k a:Nat),k≤AA.length∧i=.int .i64 k∧at_=.int .i64 (a:Int)∧a≤l.length∧Hid (zC4 l.length Z AA (m+1)=zC4 l.length Z (AA.drop k) a)) (fun _ i _=>AA.length-(intOf i).toNat)
   case atStart=>exact⟨rfl,0,m+1,zT _,rfl,by go_num,by omega,yE rfl⟩
   case round=>
    obtain⟨Aa,k,a,hk,rfl,rfl,Ai,HK⟩:=hrel;subst Aa
    by_cases AM:k<AA.length
    ·have d0:decide ((k:Int)<(AA.length:Int))=true:=yQ (by omega);obtain⟨b2,AP,rfl,Al,AS⟩:=zCw Ac.out.kids k AM;have AO:=List.drop_eq_getElem_cons AM
     simp only at AS
     generalize AA[k]=kv at *;rw[AO,zMA] at HK;clear AO
     by_cases AI:kv=(a:Int)
     ·subst AI
      by_cases AC:a<l.length
      ·have d1:decide ((l.length:Int)≤(a:Int))=false:=yP (by omega);have d2:decide ((a:Int) ≥ (l.length:Int))=false:=yP (by omega)
       have q1:(a:Int)<(l.length:Int):=by omega
       have z0:wr.cell? ⟨g,a,none⟩=some (.int .i64 (Z.getD a 0:Int)):=(HB.out.cell a).trans (zGZ Z a (by omega));have AV:Hid (zC4 l.length Z AA (m+1)=zC4 l.length Z (AA.drop (k+1)) (Z.getD a 0)):=yE (by rw[HK.out,if_pos ⟨rfl,AC⟩]);have AW:=Ae.out a;generalize Z.getD a 0=z at *
       go_wp2_with fail
       go_roundw
       case rel=>exact⟨trivial,k+1,z,by omega,by go_num,rfl,AW,AV⟩
       case measure=>simp[intOf]; omega
      ·have d1:decide ((l.length:Int)≤(a:Int))=true:=yQ (by omega);have d2:decide ((a:Int) ≥ (l.length:Int))=true:=yQ (by omega)
       have HO:Hid (o=none):=yE (by
        rw[←ho.out];have h1:=HK.out;rw[if_neg (fun h=>AC h.2)] at h1
        exact zJV (j:=l.length-m) (by rw[JG]; omega) (AG.out none h1))
       go_wp2_with fail
       go_ret;exact⟨_,rfl,(by rw[HO.out]; rfl),HX.out⟩
     ·have e1:(kv==(a:Int))=false:=beq_eq_false_iff_ne.2 AI
      have HO:Hid (o=none):=yE (by
       rw[←ho.out];have h1:=HK.out;rw[if_neg (fun h=>AI h.1)] at h1
       exact zJV (j:=l.length-m) (by rw[JG]; omega) (AG.out none h1))
      go_wp2_with fail
      go_ret;exact⟨_,rfl,(by rw[HO.out]; rfl),HX.out⟩
    ·obtain rfl:k=AA.length:=by omega
     have d0:decide ((AA.length:Int)<(AA.length:Int))=false:=by simp
     have AR:Hid (zAg (zBG l) (l.length-m)=some (Z.set m a)):=yE (by
      have h1:=HK.out;rw[List.drop_length] at h1
      exact AG.out (some a) h1)
     have f0:wr.frozen? ⟨g,m,none⟩=false:=HB.out.frozen m;have Ak:wr.cell? ⟨g,m,none⟩=some (.int .i64 (Z.getD m 0:Int)):=(HB.out.cell m).trans (zGZ Z m (by omega));have AT:Hid (Blk (wr.setCell ⟨g,m,none⟩ (.int .i64 (a:Int))) g 3 (zCW (Z.set m a))):=yE (by rw[←zN7]; exact HB.out.put m _);have Ad:Hid (Blk (wr.setCell ⟨g,m,none⟩ (.int .i64 (a:Int))) gt 39 #[.slice (some ⟨b,AL,none⟩) l.length c]):=yE (HG.out.far AN.out.2 _);have AQ:Hid (Ext w (wr.setCell ⟨g,m,none⟩ (.int .i64 (a:Int)))):=yE (HX.out.setCell (p:=⟨g,m,none⟩) AN.out.1 _)
     go_wp2_with fail
     go_roundw
     case rel=>exact⟨m,Z.set m a,by omega,rfl,AR,AT,Ad,AQ⟩
     case measure=>simp[intOf]
structure zOT (x:vI):Prop where
 text:x.text.size≤9000
 kids:x.kids.length≤9000
theorem zM7 {l:List vI}(h:zDR (zBG l)=none):zA9 l=false:=by unfold zA9; rw[h]; rfl
theorem zM4 {l:List vI}{Z:List Nat}(h:zDR (zBG l)=some Z):zA9 l=(zDZ l 0==1&&l.all (zCF l)):=by unfold zA9; rw[h]; rfl
theorem zNY (w:World):(binOp .eql 32 (.slice none 0 0) (.slice none 0 0)).run Tryz.prog w=.ok (.bool true) w:=by kernel_rfl
theorem zMg (w:World)(a:Addr)(n c:Nat):(binOp .eql 32 (.slice (some a) n c) (.slice none 0 0)).run Tryz.prog w=.ok (.bool false) w:=by kernel_rfl
theorem zK0 (l:List vI)(A:Option Addr)(n c:Nat)(w:World)(hn:n=l.length)(ht:VZ w A l)(hlen:l.length≤9000)(hsm:∀x ∈ l,zOT x)(b:Bool)(hb:Hid (zA9 l=b)) :
  Calls Tryz.prog 21 #[.agg #[.slice A n c]] w fun e w'=>e=.returned (.bool b)∧Ext w w':=by
 subst hn;have HT:=yE ht;have AD:=yE hsm;clear ht hsm;have s1:=zNY;have s2:=zMg;obtain⟨o,HO⟩:∃o,Hid (zDR (zBG l)=o):=⟨_,yE rfl⟩;have AE:Hid (Blk (w.alloc (.cells #[.slice A l.length c] 39)) w.heap.size 39 #[.slice A l.length c]):=yE (Blk.new _ _ _);have AG:Hid (Ext w (w.alloc (.cells #[.slice A l.length c] 39))):=yE (Ext.alloc _ _)
 go_enter Tryz.func21,Tryz.ntmps21
 have y0:=AE.out.cell 0
 go_wp2_with fail
 refine(zSx l A l.length c _ rfl (HT.out.ext AG.out) hlen (fun x hx=>(AD.out x hx).kids) o HO).mono ?_;rintro e w1 ⟨v,rfl,hv,AC⟩;have AI:=yE (AE.out.ext AC);have AB:Hid (Ext w w1):=yE (AG.out.trans AC);clear AC y0
 cases o with
 | none=>
  have AO:v=.slice none 0 0:=hv;subst AO;have HB:Hid (b=false):=yE (by rw[←hb.out]; exact zM7 HO.out)
  go_wp2_with fail
  go_ret;exact⟨jB HB.out.symm,AB.out⟩
 | some Z=>
  obtain⟨g,rfl,-⟩:=hv;have AH:=zKN HO.out
  have hp:0<l.length:=by have:=AH.2.1; rw[JG] at this; omega
  have AL:=yE (zFA HO.out);have AJ:=yE (zM4 HO.out);clear AH
  have q0:(0:Int)<(l.length:Int):=by omega
  obtain⟨bb,AN,rfl,AP,AA⟩:=(HT.out.ext AB.out).at_ 0 hp;rw[Nat.zero_mul,Nat.add_zero] at AA;have k0:w1.cell? ⟨bb,AN,none⟩=some (.int .u8 l[0].kind):=AA 0 (by omega);have AK:Hid (zDZ l 0=l[0].kind):=yE (zLh (a:=0) hp);clear AA;generalize l[0].kind=kz at *;have y0:=AI.out.cell 0;generalize w.heap.size=gt at *
  cases hz:(kz==1) with
  | false=>
   have AQ:(kz != 1)=true:=by rw[bne,hz]; rfl
   have HB:Hid (b=false):=yE (by rw[←hb.out,AJ.out,AK.out,hz]; rfl)
   go_wp2_with fail
   go_ret;exact⟨jB HB.out.symm,AB.out⟩
  | true=>
   obtain rfl:kz=1:=by simpa using hz
   clear hz;obtain⟨d,HD⟩:∃d,Hid ((!l.all (zCF l))=d):=⟨_,yE rfl⟩;have HB:Hid ((!d)=b):=yE (by rw[←hb.out,AJ.out,AK.out,←HD.out,Bool.not_not]; rfl)
   go_wp2_with fail
   refine(zL8 l _ l.length c gt w1 rfl (HT.out.ext AB.out) hlen (fun x hx=>⟨(AD.out x hx).text,(AD.out x hx).kids,AL.out x hx⟩) AI.out d HD).mono ?_;rintro e w2 ⟨rfl,AF⟩;have AM:Hid (Ext w w2):=yE (AB.out.trans AF);clear AF k0 y0
   go_wp2_with fail
   go_ret;exact⟨jB HB.out,AM.out⟩
theorem zMk (D:List Int)(i:Nat)(v:Int):(vB D).toArray.setIfInBounds i (.int .i64 v)=(vB (D.set i v)).toArray:=by
 unfold vB;rw[yB,List.map_set]
theorem zIk (D:List Int)(i:Nat)(h:i<D.length):(vB D).toArray[i]?=some (.int .i64 (D.getD i 0)):=by
 unfold vB;simp[yF,h]
theorem zUQ (n:Nat):madeCells #[.int .i64 0] n=(vB (List.replicate n 0)).toArray:=by
 apply Array.toList_inj.1;rw[toList_madeCells_one];simp[vB]
theorem zRO {c:Int}(v:Int)(h0:0≤v)(hv:v≤c):∀(l D:List Int),(∀j,0≤D.getD j 0∧D.getD j 0≤c)→∀j,0≤(vV v l D).getD j 0∧(vV v l D).getD j 0≤c:=by
 intro l
 induction l with
 | nil=>intro D h; exact h
 | cons k r ih=>
  intro D h;refine ih _ (fun j=>?_);rw[zDN]
  split
  ·exact⟨h0,hv⟩
  ·exact h j
theorem zUN (k:Int):0≤zB7 k∧zB7 k≤1:=by unfold zB7; split <;> omega
theorem zU3 (k:Int):0≤exD k∧exD k≤1:=by unfold exD; split <;> omega
theorem zT1 (kd:List Int)(ks:List (List Int)):∀(k:Nat),(∀j,0≤(zDT kd ks k).1.getD j 0∧(zDT kd ks k).1.getD j 0≤2*(k:Int))∧(0≤(zDT kd ks k).2∧(zDT kd ks k).2≤2*(k:Int)):=by
 intro k
 induction k with
 | zero=>
  refine⟨fun j=>?_,?_⟩
  ·show 0≤(List.replicate ks.length (0:Int)).getD j 0∧(List.replicate ks.length (0:Int)).getD j 0≤_
   simp[yF,List.getElem?_replicate]
   split <;> simp
  ·exact⟨Int.le_refl _,Int.le_refl _⟩
 | succ k ih=>
  rw[zJ5];obtain⟨h1,h2⟩:=ih;have ho:=zUN (kd.getD k 0);have he:=zU3 (kd.getD k 0);have hk:=h1 k;unfold zEu;refine⟨zRO _ (by omega) (by omega) _ _ (fun j=>?_),by simp only; omega⟩;rw[zDN]
  split
  ·omega
  ·have:=h1 j; omega
theorem zQy (kd:List Int)(ks:List (List Int))(k:Nat):(zDT kd ks k).1.length=ks.length:=by
 unfold zDT;rw[zRW]
 simp
theorem zMN (D:List Int)(i:Nat):D.set i (D.getD i 0+0)=D:=by
 rw[Int.add_zero];apply List.ext_getElem?;intro j;rw[List.getElem?_set]
 split
 ·rename_i h;subst h
  split
  ·rename_i h; rw[yH h]; simp[yF,h]
  ·rename_i h; rw[zL (by omega)]
 ·rfl
theorem zIY (k:Int)(b:Bool)(h:Hid (zA3 k=b))(w:World):Calls Tryz.prog 55 #[.int .u8 k] w fun e w'=>e=.returned (.bool b)∧w=w':=by
 rw[←h.out]; exact zBa k w
theorem zRk (l:List vI)(A:Option Addr)(n c:Nat)(w:World)(hn:n=l.length)(ht:VZ w A l)(hlen:l.length≤9000)(hsm:∀x ∈ l,zOT x)(r:Int)(hr:Hid (zGt l=r)) :
  Calls Tryz.prog 22 #[.agg #[.slice A n c]] w fun e w'=>e=.returned (.int .i64 r)∧Ext w w':=by
 subst hn;have HT:=yE ht;have BB:=yE hsm;clear ht hsm;obtain⟨d,HD⟩:∃d,Hid (zA9 l=d):=⟨_,yE rfl⟩;have Az:Hid (Blk (w.alloc (.cells #[.slice A l.length c] 39)) w.heap.size 39 #[.slice A l.length c]):=yE (Blk.new _ _ _);have Au:Hid (Ext w (w.alloc (.cells #[.slice A l.length c] 39))):=yE (Ext.alloc _ _)
 go_enter Tryz.func22,Tryz.ntmps22
 have y0:=Az.out.cell 0
 go_wp2_with fail
 refine(zK0 l A l.length c _ rfl (HT.out.ext Au.out) hlen BB.out d HD).mono ?_;rintro e w1 ⟨rfl,A1⟩;have Aq:=yE (Az.out.ext A1);have A2:Hid (Ext w w1):=yE (Au.out.trans A1);clear A1 y0 Az Au;obtain⟨gt,A8⟩:∃gt,gt=w.heap.size:=⟨_,rfl⟩;rw[←A8] at Aq ⊢;clear A8;have y0:=Aq.out.cell 0
 cases d with
 | false=>
  have HZ:Hid (r=0):=yE (by rw[←hr.out]; unfold zGt; rw[HD.out]; rfl)
  go_wp2_with fail
  go_ret;exact⟨by rw[HZ.out]; rfl,A2.out⟩
 | true=>
  have BD:Hid (r=zR5 (zJZ l) (zBG l)):=yE (by rw[←hr.out]; unfold zGt; rw[HD.out]; rfl);have BK:Hid (∀x ∈ l,zI0 l x.kids):=yE (by obtain⟨Z,hZ⟩:=zJ0 HD.out; exact zFA hZ);have BG:Hid (∀i,i<l.length→∀k ∈ (zBG l).getD i [],(i:Int)<k∧k<(l.length:Int)):=yE (by obtain⟨Z,hZ⟩:=zJ0 HD.out; exact(zFT l).1 (zJY hZ));have BF:=run_make_row' (P:=Tryz.prog) 32 3 (.int .i64 0) 8 Tryz.underlying32 zE3 rfl .i64 .i64 l.length (by omega) (by omega)
  go_upto_region 5 with fail
  have A4:Hid (Blk (w1.alloc (.cells (madeCells #[.int .i64 0] l.length) 3)) w1.heap.size 3 (vB (List.replicate l.length 0)).toArray):=yE (by
   rw[zUQ]
   exact Blk.new _ _ _)
  have Ai:Hid (Ext w1 (w1.alloc (.cells (madeCells #[.int .i64 0] l.length) 3))):=yE (Ext.alloc _ _);have BA:=yE (Aq.out.ext Ai.out);have A3:=yE (A2.out.trans Ai.out);have BJ:Hid (gt≠w1.heap.size):=yE (by have:=Aq.out.lt; omega);have AM:Hid (w.heap.size≤w1.heap.size):=yE A2.out.size;clear y0 Ai;generalize w1.alloc (.cells (madeCells #[.int .i64 0] l.length) 3)=w2 at *;generalize w1.heap.size=g at *;have y0:=BA.out.cell 0;clear BF
  go_wp2_with fail
  clear y0
  go_loopw [3,19] (fun mo i wr=>∃(k:Nat) (D:List Int) (m:Int),k≤l.length∧i=.int .i64 k∧mo=.int .i64 m∧Hid (zDT (zJZ l) (zBG l) k=(D,m))∧Hid (Blk wr g 3 (vB D).toArray)∧Hid (Ext w wr)) (fun _ i _=>l.length-(intOf i).toNat)
  case atStart=>exact⟨0,List.replicate l.length 0,0,zT _,rfl,rfl,yE (by unfold zDT; rw[JG]; rfl),A4,A3⟩
  case round=>
   clear A4 BA A3;obtain⟨k,D,m,hk,rfl,rfl,Aw,HB,HX⟩:=hrel;obtain⟨wa,rfl⟩:∃wa:World,wa=wr:=⟨_,rfl⟩;have An:=zT1 (zJZ l) (zBG l) k;have At:=zQy (zJZ l) (zBG l) k;rw[Aw.out] at An At;rw[JG] at At
   simp only at An At
   by_cases AY:k<l.length
   ·have d0:decide ((k:Int)<(l.length:Int))=true:=yQ (by omega)
    have q1:(k:Int)<(l.length:Int):=by omega
    have BI:=An.1 k;have BL:=An.2;have AT:=yE At;clear An;have A0:=yE (HT.out.ext HX.out);have Ao:Hid (Cells w l[k].kA (vB l[k].kids)):=yE (HT.out.ok _ (yM AY)).kids;obtain⟨b1,AO,rfl,BM,Am⟩:=A0.out.at_ k AY;have A7:Hid (zAm wa l[k]):=yE (A0.out.ok _ (yM AY));have BH:l[k].kids.length≤9000:=(BB.out _ (yM AY)).kids;have AU:Hid (∀y ∈ l[k].kids,(k:Int)<y∧y<(l.length:Int)):=yE (by have:=BG.out k AY; rw[zFl l k AY] at this; exact this)
    have Al:Hid (zDT (zJZ l) (zBG l) (k+1)=(vV (D.getD k 0+zB7 l[k].kind+exD l[k].kind) l[k].kids (D.set k (D.getD k 0+zB7 l[k].kind)),max m (D.getD k 0+zB7 l[k].kind))):=yE (by
     rw[zJ5,Aw.out];unfold zEu
     rw[zQl l k AY,zFl l k AY])
    generalize l[k]=x at *;obtain⟨kind,pos,text,num,kA,kc,AA⟩:=x;have BE:Hid (Cells w kA (vB AA)):=Ao;clear Ao
    simp only at BH AU Al
    have x0:wa.cell? ⟨b1,AO+k*5,none⟩=some (.int .u8 kind):=Am 0 (by omega);have x1:wa.cell? ⟨b1,AO+k*5+1,none⟩=some (.int .i64 pos):=Am 1 (by omega);have x2:wa.cell? ⟨b1,AO+k*5+2,none⟩=some (.string text):=Am 2 (by omega);have x3:wa.cell? ⟨b1,AO+k*5+3,none⟩=some (.int .i64 num):=Am 3 (by omega);have x4:wa.cell? ⟨b1,AO+k*5+4,none⟩=some (.slice kA AA.length kc):=Am 4 (by omega);clear Am
    go_upto_region 8 with fail
    have As:Hid (Ext wa (wa.alloc (.cells #[.int .u8 kind,.int .i64 pos,.string text,.int .i64 num,.slice kA AA.length kc] 48))):=yE (Ext.alloc _ _);have Ae:Hid (Blk (wa.alloc (.cells #[.int .u8 kind,.int .i64 pos,.string text,.int .i64 num,.slice kA AA.length kc] 48)) wa.heap.size 48 #[.int .u8 kind,.int .i64 pos,.string text,.int .i64 num,.slice kA AA.length kc]):=yE (Blk.new _ _ _);have AW:=yE (HB.out.ext As.out);have Ap:=yE (HX.out.trans As.out);have A9:Hid (Cells (wa.alloc (.cells #[.int .u8 kind,.int .i64 pos,.string text,.int .i64 num,.slice kA AA.length kc] 48)) kA (vB AA)):=yE (A7.out.kids.ext As.out);have AV:Hid (wa.heap.size≠g):=yE (by have:=HB.out.lt; omega);clear x0 x1 x2 x3 x4 HB HX A0 A7 As;generalize wa.alloc (.cells #[.int .u8 kind,.int .i64 pos,.string text,.int .i64 num,.slice kA AA.length kc] 48)=wb at *;obtain⟨gx,A6⟩:∃gx,gx=wa.heap.size:=⟨_,rfl⟩;rw[←A6] at Ae AV ⊢;clear A6;have z0:wb.cell? ⟨g,k,none⟩=some (.int .i64 (D.getD k 0)):=(AW.out.cell k).trans (zIk D k (by have:=AT.out; omega));have zf:wb.frozen? ⟨g,k,none⟩=false:=AW.out.frozen k;obtain⟨a,ha⟩:∃a,D.getD k 0=a:=⟨_,rfl⟩;rw[ha] at z0 BI Al;have HA:=yE ha;clear ha;have x0:wb.cell? ⟨gx,0,none⟩=some (.int .u8 kind):=Ae.out.cell 0;have x4:wb.cell? ⟨gx,4,none⟩=some (.slice kA AA.length kc):=Ae.out.cell 4;have Aj:Hid (∀w',Ext w w'→Cells w' kA (vB AA)):=yE (fun w' h=>BE.out.ext h)
    by_cases h6:kind=6
    ·have AZ:Hid (zA3 kind=false):=yE (by rw[h6]; rfl);have Ak:Hid (zB7 kind=1):=yE (by rw[h6]; rfl);have AG:Hid (exD kind=0):=yE (by rw[h6]; rfl)
     have e6:(kind==6)=true:=by rw[h6]; rfl
     clear h6;have AK:Hid (Blk (wb.setCell ⟨g,k,none⟩ (.int .i64 (a+1))) g 3 (vB (vV (a+1) (AA.take 0) (D.set k (a+1)))).toArray):=yE (by rw[List.take_zero]; show Blk _ g 3 (vB (D.set k (a+1))).toArray; rw[←zMk]; exact AW.out.put k _);have AB:=yE (Ae.out.far AV.out (p:=⟨g,k,none⟩) (.int .i64 (a+1)));have AL:Hid (Ext w (wb.setCell ⟨g,k,none⟩ (.int .i64 (a+1)))):=yE (Ap.out.setCell (p:=⟨g,k,none⟩) AM.out _);have AC:Hid (Cells (wb.setCell ⟨g,k,none⟩ (.int .i64 (a+1))) kA (vB AA)):=yE (Aj.out _ AL.out);have AP:Hid ((D.set k (a+1)).getD k 0=a+1):=yE (by rw[zDN,if_pos ⟨rfl,by have:=AT.out; omega⟩]);have AS:Hid ((D.set k (a+1)).length=l.length):=yE (by rw[zB]; exact AT.out);have AR:Hid ((vV (a+zB7 kind+exD kind) AA (D.set k (a+zB7 kind)),max m (a+zB7 kind))=(vV (a+1) AA (D.set k (a+1)),max m (a+1))):=yE (by rw[Ak.out,AG.out]; simp)
     have xz:(wb.setCell ⟨g,k,none⟩ (.int .i64 (a+1))).cell? ⟨g,k,none⟩=some (.int .i64 (a+1)):=by have h:=(AW.out.put k (.int .i64 (a+1))).cell k; rw[zMk] at h; rw[h,zIk _ k (by rw[zB]; have:=AT.out; omega),AP.out]
     have xy:(wb.setCell ⟨g,k,none⟩ (.int .i64 (a+1))).cell? ⟨gx,4,none⟩=some (.slice kA AA.length kc):=AB.out.cell 4;generalize hE:D.set k (a+1)=E at AK AP AS AR
     go_wp2_with fail
     all_goals
      clear xz xy;clear x0 x4 z0 zf
      go_loopw [47] (fun i w4=>∃j:Nat,j≤AA.length∧i=.int .i64 j∧Hid (Blk w4 g 3 (vB (vV (a+1) (AA.take j) E)).toArray)∧Hid (Blk w4 gx 48 #[.int .u8 kind,.int .i64 pos,.string text,.int .i64 num,.slice kA AA.length kc])∧Hid (Cells w4 kA (vB AA))∧Hid (Ext w w4)) (fun i _=>AA.length-(intOf i).toNat)
      case atStart=>exact⟨0,zT _,rfl,AK,AB,AC,AL⟩
      case round=>
       clear AK AB AC AL;obtain⟨j,hj,rfl,AD,AF,Ad,AJ⟩:=hrel;obtain⟨wd,rfl⟩:∃wd:World,wd=wr:=⟨_,rfl⟩;have x0:wd.cell? ⟨gx,0,none⟩=some (.int .u8 kind):=AF.out.cell 0;have x4:wd.cell? ⟨gx,4,none⟩=some (.slice kA AA.length kc):=AF.out.cell 4
       by_cases AH:j<AA.length
       ·have d1:decide ((j:Int)<(AA.length:Int))=true:=yQ (by omega);obtain⟨b3,AE,rfl,Ax,Ay⟩:=zCw Ad.out j AH;have hy:=AU.out AA[j] (yM AH);have AN:Hid (vV (a+1) (AA.take (j+1)) E=(vV (a+1) (AA.take j) E).set (AA[j]).toNat (a+1)):=yE (by rw[zW AH,zDo]);have Af:Hid ((vV (a+1) (AA.take j) E).getD k 0=(a+1)):=yE (by rw[zEd _ _ _ _ (fun y hy=>by have:=AU.out y (List.mem_of_mem_take hy); omega)]; exact AP.out);have Ac:Hid ((vV (a+1) (AA.take j) E).length=l.length):=yE (by rw[zCE]; exact AS.out);generalize vV (a+1) (AA.take j) E=F at *;generalize AA[j]=y at *;obtain⟨q,rfl⟩:∃q:Nat,y=(q:Int):=⟨y.toNat,by omega⟩;rw[zH] at AN;have Av:=Ac.out;have z1:wd.cell? ⟨g,k,none⟩=some (.int .i64 (a+1)):=(AD.out.cell k).trans (by rw[zIk F k (by omega),Af.out]);have z2:wd.cell? ⟨g,q,none⟩=some (.int .i64 (F.getD q 0)):=(AD.out.cell q).trans (zIk F q (by omega));have zf:wd.frozen? ⟨g,q,none⟩=false:=AD.out.frozen q
        have q3:(q:Int)<(l.length:Int):=by omega
        have Ag:Hid (Blk (wd.setCell ⟨g,q,none⟩ (.int .i64 (a+1))) g 3 (vB (F.set q (a+1))).toArray):=yE (by rw[←zMk]; exact AD.out.put q _);have AQ:Hid (Blk (wd.setCell ⟨g,q,none⟩ (.int .i64 (a+1))) gx 48 #[.int .u8 kind,.int .i64 pos,.string text,.int .i64 num,.slice (some ⟨b3,AE,none⟩) AA.length kc]):=yE (AF.out.far AV.out _);have Ah:Hid (Cells (wd.setCell ⟨g,q,none⟩ (.int .i64 (a+1))) (some ⟨b3,AE,none⟩) (vB AA)):=yE (Aj.out _ (AJ.out.setCell (p:=⟨g,q,none⟩) AM.out _));have Aa:Hid (Ext w (wd.setCell ⟨g,q,none⟩ (.int .i64 (a+1)))):=yE (AJ.out.setCell (p:=⟨g,q,none⟩) AM.out _);have xn:(wd.setCell ⟨g,q,none⟩ (.int .i64 (a+1))).cell? ⟨gx,0,none⟩=some (.int .u8 kind):=AQ.out.cell 0
        go_wp2_with (go_at_call 55; refine(zIY kind _ AZ _).mono ?_; rintro e w3 ⟨rfl,rfl⟩)
        go_roundw
        case rel=>exact⟨j+1,by omega,by go_num,yE (by rw[AN.out]; exact Ag.out),AQ,Ah,Aa⟩
        case measure=>simp[intOf]; omega
       ·obtain rfl:j=AA.length:=by omega
        have d1:decide ((AA.length:Int)<(AA.length:Int))=false:=by simp
        have AI:=AD.out;rw[List.take_length] at AI;have Ab:=yE AI;clear AI
        go_wp2_with fail
        go_roundw
        case rel=>exact⟨k+1,vV (a+1) AA E,max m (a+1),by omega,by go_num,by first | rfl | (congr 1; omega) | (split <;> (congr 1; omega)),yE (by rw[Al.out,AR.out]),Ab,AJ⟩
        case measure=>simp[intOf]; omega
    ·have e6:(kind==6)=false:=beq_eq_false_iff_ne.2 h6
     by_cases AX:kind=20
     ·have AZ:Hid (zA3 kind=false):=yE (by rw[AX]; rfl);have Ak:Hid (zB7 kind=1):=yE (by rw[AX]; rfl);have AG:Hid (exD kind=0):=yE (by rw[AX]; rfl)
      have BC:(kind==20)=true:=by rw[AX]; rfl
      clear AX h6;have AK:Hid (Blk (wb.setCell ⟨g,k,none⟩ (.int .i64 (a+1))) g 3 (vB (vV (a+1) (AA.take 0) (D.set k (a+1)))).toArray):=yE (by rw[List.take_zero]; show Blk _ g 3 (vB (D.set k (a+1))).toArray; rw[←zMk]; exact AW.out.put k _);have AB:=yE (Ae.out.far AV.out (p:=⟨g,k,none⟩) (.int .i64 (a+1)));have AL:Hid (Ext w (wb.setCell ⟨g,k,none⟩ (.int .i64 (a+1)))):=yE (Ap.out.setCell (p:=⟨g,k,none⟩) AM.out _);have AC:Hid (Cells (wb.setCell ⟨g,k,none⟩ (.int .i64 (a+1))) kA (vB AA)):=yE (Aj.out _ AL.out);have AP:Hid ((D.set k (a+1)).getD k 0=a+1):=yE (by rw[zDN,if_pos ⟨rfl,by have:=AT.out; omega⟩]);have AS:Hid ((D.set k (a+1)).length=l.length):=yE (by rw[zB]; exact AT.out);have AR:Hid ((vV (a+zB7 kind+exD kind) AA (D.set k (a+zB7 kind)),max m (a+zB7 kind))=(vV (a+1) AA (D.set k (a+1)),max m (a+1))):=yE (by rw[Ak.out,AG.out]; simp)
      have xz:(wb.setCell ⟨g,k,none⟩ (.int .i64 (a+1))).cell? ⟨g,k,none⟩=some (.int .i64 (a+1)):=by have h:=(AW.out.put k (.int .i64 (a+1))).cell k; rw[zMk] at h; rw[h,zIk _ k (by rw[zB]; have:=AT.out; omega),AP.out]
      have xy:(wb.setCell ⟨g,k,none⟩ (.int .i64 (a+1))).cell? ⟨gx,4,none⟩=some (.slice kA AA.length kc):=AB.out.cell 4;generalize hE:D.set k (a+1)=E at AK AP AS AR
      go_wp2_with fail
      all_goals
       clear xz xy;clear x0 x4 z0 zf
       go_loopw [47] (fun i w4=>∃j:Nat,j≤AA.length∧i=.int .i64 j∧Hid (Blk w4 g 3 (vB (vV (a+1) (AA.take j) E)).toArray)∧Hid (Blk w4 gx 48 #[.int .u8 kind,.int .i64 pos,.string text,.int .i64 num,.slice kA AA.length kc])∧Hid (Cells w4 kA (vB AA))∧Hid (Ext w w4)) (fun i _=>AA.length-(intOf i).toNat)
       case atStart=>exact⟨0,zT _,rfl,AK,AB,AC,AL⟩
       case round=>
        clear AK AB AC AL;obtain⟨j,hj,rfl,AD,AF,Ad,AJ⟩:=hrel;obtain⟨wd,rfl⟩:∃wd:World,wd=wr:=⟨_,rfl⟩;have x0:wd.cell? ⟨gx,0,none⟩=some (.int .u8 kind):=AF.out.cell 0;have x4:wd.cell? ⟨gx,4,none⟩=some (.slice kA AA.length kc):=AF.out.cell 4
        by_cases AH:j<AA.length
        ·have d1:decide ((j:Int)<(AA.length:Int))=true:=yQ (by omega);obtain⟨b3,AE,rfl,Ax,Ay⟩:=zCw Ad.out j AH;have hy:=AU.out AA[j] (yM AH);have AN:Hid (vV (a+1) (AA.take (j+1)) E=(vV (a+1) (AA.take j) E).set (AA[j]).toNat (a+1)):=yE (by rw[zW AH,zDo]);have Af:Hid ((vV (a+1) (AA.take j) E).getD k 0=(a+1)):=yE (by rw[zEd _ _ _ _ (fun y hy=>by have:=AU.out y (List.mem_of_mem_take hy); omega)]; exact AP.out);have Ac:Hid ((vV (a+1) (AA.take j) E).length=l.length):=yE (by rw[zCE]; exact AS.out);generalize vV (a+1) (AA.take j) E=F at *;generalize AA[j]=y at *;obtain⟨q,rfl⟩:∃q:Nat,y=(q:Int):=⟨y.toNat,by omega⟩;rw[zH] at AN;have Av:=Ac.out;have z1:wd.cell? ⟨g,k,none⟩=some (.int .i64 (a+1)):=(AD.out.cell k).trans (by rw[zIk F k (by omega),Af.out]);have z2:wd.cell? ⟨g,q,none⟩=some (.int .i64 (F.getD q 0)):=(AD.out.cell q).trans (zIk F q (by omega));have zf:wd.frozen? ⟨g,q,none⟩=false:=AD.out.frozen q
         have q3:(q:Int)<(l.length:Int):=by omega
         have Ag:Hid (Blk (wd.setCell ⟨g,q,none⟩ (.int .i64 (a+1))) g 3 (vB (F.set q (a+1))).toArray):=yE (by rw[←zMk]; exact AD.out.put q _);have AQ:Hid (Blk (wd.setCell ⟨g,q,none⟩ (.int .i64 (a+1))) gx 48 #[.int .u8 kind,.int .i64 pos,.string text,.int .i64 num,.slice (some ⟨b3,AE,none⟩) AA.length kc]):=yE (AF.out.far AV.out _);have Ah:Hid (Cells (wd.setCell ⟨g,q,none⟩ (.int .i64 (a+1))) (some ⟨b3,AE,none⟩) (vB AA)):=yE (Aj.out _ (AJ.out.setCell (p:=⟨g,q,none⟩) AM.out _));have Aa:Hid (Ext w (wd.setCell ⟨g,q,none⟩ (.int .i64 (a+1)))):=yE (AJ.out.setCell (p:=⟨g,q,none⟩) AM.out _);have xn:(wd.setCell ⟨g,q,none⟩ (.int .i64 (a+1))).cell? ⟨gx,0,none⟩=some (.int .u8 kind):=AQ.out.cell 0
         go_wp2_with (go_at_call 55; refine(zIY kind _ AZ _).mono ?_; rintro e w3 ⟨rfl,rfl⟩)
         go_roundw
         case rel=>exact⟨j+1,by omega,by go_num,yE (by rw[AN.out]; exact Ag.out),AQ,Ah,Aa⟩
         case measure=>simp[intOf]; omega
        ·obtain rfl:j=AA.length:=by omega
         have d1:decide ((AA.length:Int)<(AA.length:Int))=false:=by simp
         have AI:=AD.out;rw[List.take_length] at AI;have Ab:=yE AI;clear AI
         go_wp2_with fail
         go_roundw
         case rel=>exact⟨k+1,vV (a+1) AA E,max m (a+1),by omega,by go_num,by first | rfl | (congr 1; omega) | (split <;> (congr 1; omega)),yE (by rw[Al.out,AR.out]),Ab,AJ⟩
         case measure=>simp[intOf]; omega
     ·have BC:(kind==20)=false:=beq_eq_false_iff_ne.2 AX;have Ak:Hid (zB7 kind=0):=yE (by unfold zB7; rw[if_neg (fun h=>h.elim h6 AX)]);clear AX h6;obtain⟨t,AZ⟩:∃t,Hid (zA3 kind=t):=⟨_,yE rfl⟩
      cases t with
      | false=>
       have AG:Hid (exD kind=0):=yE (by unfold exD; rw[AZ.out]; rfl);obtain⟨E,hE⟩:∃E,E=D:=⟨_,rfl⟩;have AK:Hid (Blk wb g 3 (vB (vV a (AA.take 0) E)).toArray):=yE (by rw[List.take_zero,hE]; exact AW.out);have AB:=Ae;have AL:=Ap;have AC:=A9;have AP:Hid (E.getD k 0=a):=yE (by rw[hE]; exact HA.out);have AS:Hid (E.length=l.length):=yE (by rw[hE]; exact AT.out);have AR:Hid ((vV (a+zB7 kind+exD kind) AA (D.set k (a+zB7 kind)),max m (a+zB7 kind))=(vV a AA E,max m a)):=yE (by rw[Ak.out,AG.out]; rw[show D.set k (a+0)=D from by rw[←HA.out]; exact zMN D k,hE]; simp);clear hE
       go_wp2_with fail
       all_goals
        clear x0 x4 z0 zf
        go_loopw [47] (fun i w4=>∃j:Nat,j≤AA.length∧i=.int .i64 j∧Hid (Blk w4 g 3 (vB (vV a (AA.take j) E)).toArray)∧Hid (Blk w4 gx 48 #[.int .u8 kind,.int .i64 pos,.string text,.int .i64 num,.slice kA AA.length kc])∧Hid (Cells w4 kA (vB AA))∧Hid (Ext w w4)) (fun i _=>AA.length-(intOf i).toNat)
        case atStart=>exact⟨0,zT _,rfl,AK,AB,AC,AL⟩
        case round=>
         clear AK AB AC AL;obtain⟨j,hj,rfl,AD,AF,Ad,AJ⟩:=hrel;obtain⟨wd,rfl⟩:∃wd:World,wd=wr:=⟨_,rfl⟩;have x0:wd.cell? ⟨gx,0,none⟩=some (.int .u8 kind):=AF.out.cell 0;have x4:wd.cell? ⟨gx,4,none⟩=some (.slice kA AA.length kc):=AF.out.cell 4
         by_cases AH:j<AA.length
         ·have d1:decide ((j:Int)<(AA.length:Int))=true:=yQ (by omega);obtain⟨b3,AE,rfl,Ax,Ay⟩:=zCw Ad.out j AH;have hy:=AU.out AA[j] (yM AH);have AN:Hid (vV a (AA.take (j+1)) E=(vV a (AA.take j) E).set (AA[j]).toNat a):=yE (by rw[zW AH,zDo]);have Af:Hid ((vV a (AA.take j) E).getD k 0=a):=yE (by rw[zEd _ _ _ _ (fun y hy=>by have:=AU.out y (List.mem_of_mem_take hy); omega)]; exact AP.out);have Ac:Hid ((vV a (AA.take j) E).length=l.length):=yE (by rw[zCE]; exact AS.out);generalize vV a (AA.take j) E=F at *;generalize AA[j]=y at *;obtain⟨q,rfl⟩:∃q:Nat,y=(q:Int):=⟨y.toNat,by omega⟩;rw[zH] at AN;have Av:=Ac.out;have z1:wd.cell? ⟨g,k,none⟩=some (.int .i64 a):=(AD.out.cell k).trans (by rw[zIk F k (by omega),Af.out]);have z2:wd.cell? ⟨g,q,none⟩=some (.int .i64 (F.getD q 0)):=(AD.out.cell q).trans (zIk F q (by omega));have zf:wd.frozen? ⟨g,q,none⟩=false:=AD.out.frozen q
          have q3:(q:Int)<(l.length:Int):=by omega
          have Ag:Hid (Blk (wd.setCell ⟨g,q,none⟩ (.int .i64 a)) g 3 (vB (F.set q a)).toArray):=yE (by rw[←zMk]; exact AD.out.put q _);have AQ:Hid (Blk (wd.setCell ⟨g,q,none⟩ (.int .i64 a)) gx 48 #[.int .u8 kind,.int .i64 pos,.string text,.int .i64 num,.slice (some ⟨b3,AE,none⟩) AA.length kc]):=yE (AF.out.far AV.out _);have Ah:Hid (Cells (wd.setCell ⟨g,q,none⟩ (.int .i64 a)) (some ⟨b3,AE,none⟩) (vB AA)):=yE (Aj.out _ (AJ.out.setCell (p:=⟨g,q,none⟩) AM.out _));have Aa:Hid (Ext w (wd.setCell ⟨g,q,none⟩ (.int .i64 a))):=yE (AJ.out.setCell (p:=⟨g,q,none⟩) AM.out _);have xn:(wd.setCell ⟨g,q,none⟩ (.int .i64 a)).cell? ⟨gx,0,none⟩=some (.int .u8 kind):=AQ.out.cell 0
          go_wp2_with (go_at_call 55; refine(zIY kind _ AZ _).mono ?_; rintro e w3 ⟨rfl,rfl⟩)
          go_roundw
          case rel=>exact⟨j+1,by omega,by go_num,yE (by rw[AN.out]; exact Ag.out),AQ,Ah,Aa⟩
          case measure=>simp[intOf]; omega
         ·obtain rfl:j=AA.length:=by omega
          have d1:decide ((AA.length:Int)<(AA.length:Int))=false:=by simp
          have AI:=AD.out;rw[List.take_length] at AI;have Ab:=yE AI;clear AI
          go_wp2_with fail
          go_roundw
          case rel=>exact⟨k+1,vV a AA E,max m a,by omega,by go_num,by first | rfl | (congr 1; omega) | (split <;> (congr 1; omega)),yE (by rw[Al.out,AR.out]),Ab,AJ⟩
          case measure=>simp[intOf]; omega
      | true=>
       have AG:Hid (exD kind=1):=yE (by unfold exD; rw[AZ.out]; rfl);obtain⟨E,hE⟩:∃E,E=D:=⟨_,rfl⟩;have AK:Hid (Blk wb g 3 (vB (vV (a+1) (AA.take 0) E)).toArray):=yE (by rw[List.take_zero,hE]; exact AW.out);have AB:=Ae;have AL:=Ap;have AC:=A9;have AP:Hid (E.getD k 0=a):=yE (by rw[hE]; exact HA.out);have AS:Hid (E.length=l.length):=yE (by rw[hE]; exact AT.out);have AR:Hid ((vV (a+zB7 kind+exD kind) AA (D.set k (a+zB7 kind)),max m (a+zB7 kind))=(vV (a+1) AA E,max m a)):=yE (by rw[Ak.out,AG.out]; rw[show D.set k (a+0)=D from by rw[←HA.out]; exact zMN D k,hE]; simp);clear hE
       go_wp2_with fail
       all_goals
        clear x0 x4 z0 zf
        go_loopw [47] (fun i w4=>∃j:Nat,j≤AA.length∧i=.int .i64 j∧Hid (Blk w4 g 3 (vB (vV (a+1) (AA.take j) E)).toArray)∧Hid (Blk w4 gx 48 #[.int .u8 kind,.int .i64 pos,.string text,.int .i64 num,.slice kA AA.length kc])∧Hid (Cells w4 kA (vB AA))∧Hid (Ext w w4)) (fun i _=>AA.length-(intOf i).toNat)
        case atStart=>exact⟨0,zT _,rfl,AK,AB,AC,AL⟩
        case round=>
         clear AK AB AC AL;obtain⟨j,hj,rfl,AD,AF,Ad,AJ⟩:=hrel;obtain⟨wd,rfl⟩:∃wd:World,wd=wr:=⟨_,rfl⟩;have x0:wd.cell? ⟨gx,0,none⟩=some (.int .u8 kind):=AF.out.cell 0;have x4:wd.cell? ⟨gx,4,none⟩=some (.slice kA AA.length kc):=AF.out.cell 4
         by_cases AH:j<AA.length
         ·have d1:decide ((j:Int)<(AA.length:Int))=true:=yQ (by omega);obtain⟨b3,AE,rfl,Ax,Ay⟩:=zCw Ad.out j AH;have hy:=AU.out AA[j] (yM AH);have AN:Hid (vV (a+1) (AA.take (j+1)) E=(vV (a+1) (AA.take j) E).set (AA[j]).toNat (a+1)):=yE (by rw[zW AH,zDo]);have Af:Hid ((vV (a+1) (AA.take j) E).getD k 0=a):=yE (by rw[zEd _ _ _ _ (fun y hy=>by have:=AU.out y (List.mem_of_mem_take hy); omega)]; exact AP.out);have Ac:Hid ((vV (a+1) (AA.take j) E).length=l.length):=yE (by rw[zCE]; exact AS.out);generalize vV (a+1) (AA.take j) E=F at *;generalize AA[j]=y at *;obtain⟨q,rfl⟩:∃q:Nat,y=(q:Int):=⟨y.toNat,by omega⟩;rw[zH] at AN;have Av:=Ac.out;have z1:wd.cell? ⟨g,k,none⟩=some (.int .i64 a):=(AD.out.cell k).trans (by rw[zIk F k (by omega),Af.out]);have z2:wd.cell? ⟨g,q,none⟩=some (.int .i64 (F.getD q 0)):=(AD.out.cell q).trans (zIk F q (by omega));have zf:wd.frozen? ⟨g,q,none⟩=false:=AD.out.frozen q
          have q3:(q:Int)<(l.length:Int):=by omega
          have Ar:=yE (AD.out.put q (.int .i64 a));have Ai:=yE (AF.out.far AV.out (p:=⟨g,q,none⟩) (.int .i64 a));have A5:=yE (AJ.out.setCell (p:=⟨g,q,none⟩) AM.out (.int .i64 a));have xn:(wd.setCell ⟨g,q,none⟩ (.int .i64 a)).cell? ⟨gx,0,none⟩=some (.int .u8 kind):=Ai.out.cell 0
          go_upto_region 15 with fail
          clear z1 z2 zf x0 x4;rw[zMk] at Ar;generalize wd.setCell ⟨g,q,none⟩ (.int .i64 a)=we at *;have z2:we.cell? ⟨g,q,none⟩=some (.int .i64 a):=(Ar.out.cell q).trans (by rw[zIk (F.set q a) q (by rw[zB]; omega),zDN,if_pos ⟨rfl,by omega⟩]);have zf:we.frozen? ⟨g,q,none⟩=false:=Ar.out.frozen q;have Ag:Hid (Blk (we.setCell ⟨g,q,none⟩ (.int .i64 (a+1))) g 3 (vB (F.set q (a+1))).toArray):=yE (by have:=Ar.out.put q (.int .i64 (a+1)); rw[zMk,List.set_set] at this; exact this);have AQ:=yE (Ai.out.far AV.out (p:=⟨g,q,none⟩) (.int .i64 (a+1)));have Ah:Hid (Cells (we.setCell ⟨g,q,none⟩ (.int .i64 (a+1))) (some ⟨b3,AE,none⟩) (vB AA)):=yE (Aj.out _ (A5.out.setCell (p:=⟨g,q,none⟩) AM.out _));have Aa:Hid (Ext w (we.setCell ⟨g,q,none⟩ (.int .i64 (a+1)))):=yE (A5.out.setCell (p:=⟨g,q,none⟩) AM.out _)
          go_wp2_with (go_at_call 55; refine(zIY kind _ AZ _).mono ?_; rintro e w3 ⟨rfl,rfl⟩)
          go_roundw
          case rel=>exact⟨j+1,by omega,by go_num,yE (by rw[AN.out]; exact Ag.out),AQ,Ah,Aa⟩
          case measure=>simp[intOf]; omega
         ·obtain rfl:j=AA.length:=by omega
          have d1:decide ((AA.length:Int)<(AA.length:Int))=false:=by simp
          have AI:=AD.out;rw[List.take_length] at AI;have Ab:=yE AI;clear AI
          go_wp2_with fail
          go_roundw
          case rel=>exact⟨k+1,vV (a+1) AA E,max m a,by omega,by go_num,by first | rfl | (congr 1; omega) | (split <;> (congr 1; omega)),yE (by rw[Al.out,AR.out]),Ab,AJ⟩
          case measure=>simp[intOf]; omega
   ·obtain rfl:k=l.length:=by omega
    have d0:decide ((l.length:Int)<(l.length:Int))=false:=by simp
    have HZ:Hid (r=m):=yE (by
     rw[BD.out];unfold zR5
     rw[JG,Aw.out])
    go_wp2_with fail
    go_ret;exact⟨by rw[HZ.out]; rfl,HX.out⟩
end Go.Proofs.YtioffpjajhalaaaGreatDoor.TT
