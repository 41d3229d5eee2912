/- tree.ends, walked. (and what follows of it). The conditions stand at each lemma. -/
import Derived.Test.YtioffpjajhalaaaGreatDoorLaa
import Derived.Test.YtioffpjajhalaaaGreatDoorLak
import Derived.Test.YtioffpjajhalaaaGreatDoorLah
import Derived.Deep.OwnRows
import Derived.Test.YtioffpjajhalaaaGreatDoorLab
set_option linter.unusedVariables false
set_option linter.unusedSimpArgs false
set_option maxRecDepth 100000
set_option maxHeartbeats 16000000
namespace Go.Proofs.YtioffpjajhalaaaGreatDoor.TT
open Go Go.RowKit
theorem zGD:(Tryz.prog.info? 3).map (fun i=>(i.zero,i.size,i.bytes))=some (some (.int .i64 0),1,8):=by kernel_rfl
def zBx (Z:List Nat):Array Value:=(Z.map fun a:Nat=>Value.int .i64 (a:Int)).toArray
theorem zLy (Z:List Nat)(i a:Nat):(zBx Z).setIfInBounds i (.int .i64 (a:Int))=zBx (Z.set i a):=by
 unfold zBx;rw[yA,List.map_set]
theorem zEF (Z:List Nat)(i:Nat)(h:i<Z.length):(zBx Z)[i]?=some (.int .i64 (Z.getD i 0:Int)):=by
 unfold zBx;simp[yE,h]
theorem zK5 (n:Nat):madeCells #[.int .i64 0] n=zBx (List.replicate n 0):=by
 apply Array.toList_inj.1;rw[toList_madeCells_one];simp[zBx]
def zSV (w:World)(o:Option (List Nat))(v:Value):Prop:=match o with
 | none=>v=.slice none 0 0
 | some Z=>∃g,v=.slice (some ⟨g,0,none⟩) Z.length Z.length∧Blk w g 3 (zBx Z)
theorem zJG (len:Nat)(Z:List Nat)(k:Int)(r:List Int)(a:Nat):zA9 len Z (k::r) a=if k=(a:Int)∧a<len then zA9 len Z r (Z.getD a 0) else none:=rfl
theorem zG4 {ks:List (List Int)}:∀(j:Nat) (Z:List Nat),XK ks j=some Z→Z.length=ks.length:=by
 intro j
 induction j with
 | zero=>intro Z h; injection h with h; subst h; simp
 | succ j ih=>
  intro Z h;unfold XK at h
  split at h
  ·cases h
  ·rename_i Z0 h0
   split at h
   ·cases h
   ·injection h with h;subst h
    simpa using ih Z0 h0
theorem zOk {ks:List (List Int)}:∀(j:Nat) (Z:List Nat),j≤ks.length→XK ks j=some Z→∀a,Z.getD a 0≤ks.length:=by
 intro j Z hj h a
 by_cases ha:ks.length-j≤a∧a<ks.length
 ·obtain⟨_,hz⟩:=zCl ks j Z hj h;exact(JJ (hz a ha.1 ha.2)).2
 ·by_cases AA:a<ks.length
  ·have:∀(j:Nat) (Z:List Nat),XK ks j=some Z→∀a,a<ks.length-j→Z.getD a 0=0:=by
    intro j
    induction j with
    | zero=>
     intro Z h a ha;injection h with h;subst h;simp[yE,List.getElem?_replicate]
     split <;> rfl
    | succ j ih=>
     intro Z h a ha;unfold XK at h
     split at h
     ·cases h
     ·rename_i Z0 h0
      split at h
      ·cases h
      ·injection h with h;subst h
       have:=ih Z0 h0 a (by omega)
       simp only[yE,List.getElem?_set];rw[if_neg (by omega)]
       simpa [yE] using this
   rw[this j Z h a (by omega)];omega
  ·have hl:=zG4 j Z h;simp[yE,zL (show Z.length≤a by omega)]
theorem zQz (l:List xB)(A:Option Addr)(n c:Nat)(w:World)(hn:n=l.length)(ht:vV w A l)(hlen:l.length≤9000)(hkl:∀x ∈ l,x.kids.length≤9000)(o:Option (List Nat))(ho:Hid (zBf (XE l)=o)) :
  Calls Tryz.prog 51 #[.agg #[.slice A n c]] w fun e w'=>∃v,e=.returned v∧zSV w' o v∧Ext w w':=by
 subst hn;have HT:=yD ht;have AP:=yD hkl;clear ht hkl;have AQ:=run_make_row' (P:=Tryz.prog) 32 3 (.int .i64 0) 8 Tryz.underlying32 zGD rfl .i64 .i64 l.length (by omega) (by omega)
 go_enter Tryz.func51,Tryz.ntmps51
 go_upto_region 2 with fail
 have AH:Hid (Blk ((w.alloc (.cells #[.slice A l.length c] 39)).alloc (.cells (madeCells #[.int .i64 0] l.length) 3)) (w.heap.size+1) 3 (zBx (List.replicate l.length 0))):=yD (by
  rw[zK5]
  exact Blk.newAt (by simp))
 have AD:Hid (Blk ((w.alloc (.cells #[.slice A l.length c] 39)).alloc (.cells (madeCells #[.int .i64 0] l.length) 3)) w.heap.size 39 #[.slice A l.length c]):=yD ((Blk.new _ _ _).alloc _);have AM:Hid (Ext w ((w.alloc (.cells #[.slice A l.length c] 39)).alloc (.cells (madeCells #[.int .i64 0] l.length) 3))):=(Ext.alloc _ _).trans (Ext.alloc _ _)
 try simp only[yQ]
 generalize (w.alloc (.cells #[.slice A l.length c] 39)).alloc (.cells (madeCells #[.int .i64 0] l.length) 3)=w1 at *;obtain⟨g,hg⟩:∃g,w.heap.size+1=g:=⟨_,rfl⟩;obtain⟨gt,AK⟩:∃gt,w.heap.size=gt:=⟨_,rfl⟩;rw[hg] at AH ⊢;rw[AK] at AD ⊢;have AO:Hid (w.heap.size≤g∧gt≠g):=yD ⟨by omega,by omega⟩;clear hg AK AQ;have y0:=AD.out.cell 0
 go_wp2_with fail
 clear y0
 go_loopw [4] (fun i wr=>∃(m:Nat) (Z:List Nat),m≤l.length∧i=.int .i64 ((m:Int)-1)∧Hid (XK (XE l) (l.length-m)=some Z)∧Hid (Blk wr g 3 (zBx Z))∧Hid (Blk wr gt 39 #[.slice A l.length c])∧Hid (Ext w wr)) (fun i _=>(intOf i+1).toNat)
 case atStart=>exact⟨l.length,List.replicate l.length 0,zU _,rfl,yD (by rw[Nat.sub_self]; unfold XK; rw[ZH]),AH,AD,AM⟩
 case round=>
  clear AH AD AM;obtain⟨m,Z,hm,rfl,HZ,HB,HG,HX⟩:=hrel;obtain⟨wa,rfl⟩:∃wa:World,wa=wr:=⟨_,rfl⟩
  have AU:Z.length=l.length:=by rw[zG4 _ _ HZ.out,ZH]
  have AZ:Hid (∀a,Z.getD a 0≤l.length):=yD (by have:=zOk _ Z (by rw[ZH]; omega) HZ.out; rw[ZH] at this; exact this)
  cases m with
  | zero=>
   have AF:Hid (o=if l.length≠0∧Z.getD 0 0=l.length then some Z else none):=yD (by
    rw[←ho.out];unfold zBf
    have:=HZ.out
    rw[Nat.sub_zero] at this
    rw[ZH,this])
   by_cases h0:l.length=0
   ·have e0:((l.length:Int)==0)=true:=by rw[h0]; rfl
    have HO:Hid (o=none):=yD (by rw[AF.out,if_neg (by omega)])
    go_wp2_with fail
    go_ret;exact⟨_,rfl,(by rw[HO.out]; rfl),HX.out⟩
   ·have e0:((l.length:Int)==0)=false:=by rw[yF]; omega
    have z0:wa.cell? ⟨g,0,none⟩=some (.int .i64 (Z.getD 0 0:Int)):=(HB.out.cell 0).trans (zEF Z 0 (by omega))
    have q0:(0:Int)<(l.length:Int):=by omega
    obtain⟨z,Ae⟩:∃z,Hid (Z.getD 0 0=z):=⟨_,yD rfl⟩;rw[Ae.out] at z0 AF
    by_cases hz:z=l.length
    ·have e1:((z:Int)==(l.length:Int))=true:=by simp[hz]
     have HO:Hid (o=some Z):=yD (by rw[AF.out,if_pos ⟨h0,hz⟩]);clear hz
     go_wp2_with fail
     go_ret;exact⟨_,rfl,(by rw[HO.out]; exact⟨g,by rw[AU]; rfl,HB.out⟩),HX.out⟩
    ·have e1:((z:Int)==(l.length:Int))=false:=by rw[yF]; omega
     have HO:Hid (o=none):=yD (by rw[AF.out,if_neg (fun h=>hz h.2)])
     go_wp2_with fail
     go_ret;exact⟨_,rfl,(by rw[HO.out]; rfl),HX.out⟩
  | succ m=>
   have em:(((m+1:Nat):Int)-1)=(m:Int):=by omega
   rw[em]
   have AE:m<l.length:=by omega
   obtain⟨b,AL,rfl,hb,AB⟩:=(HT.out.ext HX.out).at_ m AE;have Ad:Hid (VQ wa l[m]):=yD ((HT.out.ext HX.out).ok _ (yL AE));have AV:Hid (l[m].kids.length≤9000):=yD (AP.out _ (yL AE))
   have AG:Hid (∀r,zA9 l.length Z l[m].kids (m+1)=r→XK (XE l) (l.length-m)=match r with | none=>none | some a=>some (Z.set m a)):=yD (by
    intro r hr;rw[show l.length-m=(l.length-(m+1))+1 from by omega];unfold XK;rw[HZ.out];simp only[ZH];rw[show l.length-1-(l.length-(m+1))=m from by omega,zAA l m AE,hr]
    cases r <;> rfl)
   generalize l[m]=x at *;obtain⟨kind,pos,text,num,kA,kc,AA⟩:=x;have Ai:AA.length≤9000:=AV.out;have c4:wa.cell? ⟨b,AL+m*5+4,none⟩=some (.slice kA AA.length kc):=AB 4 (by omega);clear AB em
   have Ak:decide ((m:Int) ≥ 0)=true:=by simp
   have Al:decide (0≤(m:Int))=true:=by simp
   have AW:(m:Int)<(l.length:Int):=by omega
   have y0:=HG.out.cell 0
   go_wp2_with fail
   go_loopw [5,29] (fun at_ i w2=>w2=wa∧∃(k a:Nat),k≤AA.length∧i=.int .i64 k∧at_=.int .i64 (a:Int)∧a≤l.length∧Hid (zA9 l.length Z AA (m+1)=zA9 l.length Z (AA.drop k) a)) (fun _ i _=>AA.length-(intOf i).toNat)
   case atStart=>exact⟨rfl,0,m+1,zT _,rfl,by go_num,by omega,yD rfl⟩
   case round=>
    obtain⟨AR,k,a,hk,rfl,rfl,Ag,HK⟩:=hrel;subst AR
    by_cases AN:k<AA.length
    ·have d0:decide ((k:Int)<(AA.length:Int))=true:=yP (by omega);obtain⟨b2,AT,rfl,Ah,Af⟩:=zCC Ad.out.kids k AN;have AJ:=List.drop_eq_getElem_cons AN
     simp only at Af
     generalize AA[k]=kv at *;rw[AJ,zJG] at HK;clear AJ
     by_cases AI:kv=(a:Int)
     ·subst AI
      by_cases AC:a<l.length
      ·have d1:decide ((l.length:Int)≤(a:Int))=false:=yO (by omega);have d2:decide ((a:Int) ≥ (l.length:Int))=false:=yO (by omega)
       have q1:(a:Int)<(l.length:Int):=by omega
       have z0:wr.cell? ⟨g,a,none⟩=some (.int .i64 (Z.getD a 0:Int)):=(HB.out.cell a).trans (zEF Z a (by omega));have Ac:Hid (zA9 l.length Z AA (m+1)=zA9 l.length Z (AA.drop (k+1)) (Z.getD a 0)):=yD (by rw[HK.out,if_pos ⟨rfl,AC⟩]);have AX:=AZ.out a;generalize Z.getD a 0=z at *
       go_wp2_with fail
       go_roundw
       case rel=>exact⟨trivial,k+1,z,by omega,by go_num,rfl,AX,Ac⟩
       case measure=>simp[intOf]; omega
      ·have d1:decide ((l.length:Int)≤(a:Int))=true:=yP (by omega);have d2:decide ((a:Int) ≥ (l.length:Int))=true:=yP (by omega)
       have HO:Hid (o=none):=yD (by
        rw[←ho.out];have h1:=HK.out;rw[if_neg (fun h=>AC h.2)] at h1
        exact zHy (j:=l.length-m) (by rw[ZH]; omega) (AG.out none h1))
       go_wp2_with fail
       go_ret;exact⟨_,rfl,(by rw[HO.out]; rfl),HX.out⟩
     ·have e1:(kv==(a:Int))=false:=beq_eq_false_iff_ne.2 AI
      have HO:Hid (o=none):=yD (by
       rw[←ho.out];have h1:=HK.out;rw[if_neg (fun h=>AI h.1)] at h1
       exact zHy (j:=l.length-m) (by rw[ZH]; omega) (AG.out none h1))
      go_wp2_with fail
      go_ret;exact⟨_,rfl,(by rw[HO.out]; rfl),HX.out⟩
    ·obtain rfl:k=AA.length:=by omega
     have d0:decide ((AA.length:Int)<(AA.length:Int))=false:=by simp
     have Aa:Hid (XK (XE l) (l.length-m)=some (Z.set m a)):=yD (by
      have h1:=HK.out;rw[List.drop_length] at h1
      exact AG.out (some a) h1)
     have f0:wr.frozen? ⟨g,m,none⟩=false:=HB.out.frozen m;have Aj:wr.cell? ⟨g,m,none⟩=some (.int .i64 (Z.getD m 0:Int)):=(HB.out.cell m).trans (zEF Z m (by omega));have Ab:Hid (Blk (wr.setCell ⟨g,m,none⟩ (.int .i64 (a:Int))) g 3 (zBx (Z.set m a))):=yD (by rw[←zLy]; exact HB.out.put m _);have AS:Hid (Blk (wr.setCell ⟨g,m,none⟩ (.int .i64 (a:Int))) gt 39 #[.slice (some ⟨b,AL,none⟩) l.length c]):=yD (HG.out.far AO.out.2 _);have AY:Hid (Ext w (wr.setCell ⟨g,m,none⟩ (.int .i64 (a:Int)))):=yD (HX.out.setCell (p:=⟨g,m,none⟩) AO.out.1 _)
     go_wp2_with fail
     go_roundw
     case rel=>exact⟨m,Z.set m a,by omega,rfl,Aa,Ab,AS,AY⟩
     case measure=>simp[intOf]
structure zBz (x:xB):Prop where
 text:x.text.size≤9000
 kids:x.kids.length≤9000
theorem zKk {l:List xB}(h:zBf (XE l)=none):XL l=false:=by unfold XL; rw[h]; rfl
theorem zKj {l:List xB}{Z:List Nat}(h:zBf (XE l)=some Z):XL l=(JH l 0==1&&l.all (zAM l)):=by unfold XL; rw[h]; rfl
theorem zLk (w:World):(binOp .eql 32 (.slice none 0 0) (.slice none 0 0)).run Tryz.prog w=.ok (.bool true) w:=by kernel_rfl
theorem zJs (w:World)(a:Addr)(n c:Nat):(binOp .eql 32 (.slice (some a) n c) (.slice none 0 0)).run Tryz.prog w=.ok (.bool false) w:=by kernel_rfl
theorem zDg (l:List xB)(A:Option Addr)(n c:Nat)(w:World)(hn:n=l.length)(ht:vV w A l)(hlen:l.length≤9000)(hsm:∀x ∈ l,zBz x)(b:Bool)(hb:Hid (XL l=b)) :
  Calls Tryz.prog 21 #[.agg #[.slice A n c]] w fun e w'=>e=.returned (.bool b)∧Ext w w':=by
 subst hn;have HT:=yD ht;have AD:=yD hsm;clear ht hsm;have s1:=zLk;have s2:=zJs;obtain⟨o,HO⟩:∃o,Hid (zBf (XE l)=o):=⟨_,yD rfl⟩;have AG:Hid (Blk (w.alloc (.cells #[.slice A l.length c] 39)) w.heap.size 39 #[.slice A l.length c]):=yD (Blk.new _ _ _);have AK:Hid (Ext w (w.alloc (.cells #[.slice A l.length c] 39))):=yD (Ext.alloc _ _)
 go_enter Tryz.func21,Tryz.ntmps21
 have y0:=AG.out.cell 0
 go_wp2_with fail
 refine(zQz l A l.length c _ rfl (HT.out.ext AK.out) hlen (fun x hx=>(AD.out x hx).kids) o HO).mono ?_;rintro e w1 ⟨v,rfl,hv,AC⟩;have AJ:=yD (AG.out.ext AC);have AB:Hid (Ext w w1):=yD (AK.out.trans AC);clear AC y0
 cases o with
 | none=>
  have AL:v=.slice none 0 0:=hv;subst AL;have HB:Hid (b=false):=yD (by rw[←hb.out]; exact zKk HO.out)
  go_wp2_with fail
  go_ret;exact⟨xE HB.out.symm,AB.out⟩
 | some Z=>
  obtain⟨g,rfl,-⟩:=hv;have AE:=zEE HO.out
  have hp:0<l.length:=by have:=AE.2.1; rw[ZH] at this; omega
  have AO:=yD (zH0 HO.out);have AF:=yD (zKj HO.out);clear AE
  have q0:(0:Int)<(l.length:Int):=by omega
  obtain⟨bb,AN,rfl,AP,AA⟩:=(HT.out.ext AB.out).at_ 0 hp;rw[Nat.zero_mul,Nat.add_zero] at AA;have k0:w1.cell? ⟨bb,AN,none⟩=some (.int .u8 l[0].kind):=AA 0 (by omega);have AI:Hid (JH l 0=l[0].kind):=yD (zDl (a:=0) hp);clear AA;generalize l[0].kind=kz at *;have y0:=AJ.out.cell 0;generalize w.heap.size=gt at *
  cases hz:(kz==1) with
  | false=>
   have AQ:(kz != 1)=true:=by rw[bne,hz]; rfl
   have HB:Hid (b=false):=yD (by rw[←hb.out,AF.out,AI.out,hz]; rfl)
   go_wp2_with fail
   go_ret;exact⟨xE HB.out.symm,AB.out⟩
  | true=>
   obtain rfl:kz=1:=by simpa using hz
   clear hz;obtain⟨d,HD⟩:∃d,Hid ((!l.all (zAM l))=d):=⟨_,yD rfl⟩;have HB:Hid ((!d)=b):=yD (by rw[←hb.out,AF.out,AI.out,←HD.out,Bool.not_not]; rfl)
   go_wp2_with fail
   refine(zJk l _ l.length c gt w1 rfl (HT.out.ext AB.out) hlen (fun x hx=>⟨(AD.out x hx).text,(AD.out x hx).kids,AO.out x hx⟩) AJ.out d HD).mono ?_;rintro e w2 ⟨rfl,AH⟩;have AM:Hid (Ext w w2):=yD (AB.out.trans AH);clear AH k0 y0
   go_wp2_with fail
   go_ret;exact⟨xE HB.out,AM.out⟩
end Go.Proofs.YtioffpjajhalaaaGreatDoor.TT
namespace Go.Proofs.YtioffpjajhalaaaGreatDoor
structure Nd where
 kind:Nat
 pos:Nat
 text:Bs
 num:Int
 kids:List Nat
 deriving DecidableEq
structure Ps where
 ts:List Tok
 nd:List Nd
 deep:Nat
 deriving DecidableEq
inductive Res (α:Type) where
 | ok (a:α) (s:Ps)
 | err (e:Int) (at_:Nat)
 deriving DecidableEq
def Res.bind {α β:Type}:Res α→(α→Ps→Res β)→Res β
 | .ok a s,f=>f a s
 | .err e p,_=>.err e p
theorem JK {α β:Type}(a:α)(s:Ps)(f:α→Ps→Res β):(Res.ok a s).bind f=f a s:=rfl
abbrev Pm (α:Type):=Ps→Res α
def zSK:Tok:=⟨4,0,0,[],0⟩
def Ps.hd (s:Ps):Tok:=s.ts.headD zSK
def Ps.adv (s:Ps):Ps:={ s with ts:=s.ts.tail }
def isP (t:Bs)(s:Ps):Bool:=(s.hd.kind != 4&&s.hd.kind != 2)&&s.hd.text==t
def vJ (t:Bs):Pm Unit:=fun s=>if isP t s=true then .ok () s.adv else .err 50 s.hd.at_
def ofP (k:Nat):Pm Tok:=fun s=>if s.hd.kind=k then .ok s.hd s.adv else .err 50 s.hd.at_
def Ps.add (s:Ps)(n:Nd):Ps:={ s with nd:=s.nd++[n] }
def Ps.on (s:Ps)(i:Nat)(f:Nd→Nd):Ps:={ s with nd:=s.nd.modify i f }
def Ps.kid (s:Ps)(i:Nat):Ps:=s.on i fun n=>{ n with kids:=n.kids++[s.nd.length] }
def Ps.node (s:Ps)(k:Nat):Ps:=s.add ⟨k,s.hd.at_,[],0,[]⟩
def Ps.text (s:Ps)(i:Nat)(t:Bs):Ps:=s.on i fun n=>{ n with text:=t }
def Ps.num (s:Ps)(i:Nat)(x:Int):Ps:=s.on i fun n=>{ n with num:=x }
def Ps.kind (s:Ps)(i:Nat)(k:Nat):Ps:=s.on i fun n=>{ n with kind:=k }
def Ps.xH (s:Ps)(i k:Nat):Ps:=(s.kid i).node k
def jI (i:Nat):Pm Unit:=fun s=>(ofP 1 s).bind fun t s=>.ok () (s.text i t.text)
def zAm (i:Nat):Pm Unit:=fun s=>jI s.nd.length (s.xH i 5)
def zCu (i:Nat):Pm Unit:=fun s=>(ofP 2 s).bind fun t s=>.ok () (s.num i t.n)
def zCm (i:Nat):Pm Unit:=fun s=>zCu s.nd.length (s.xH i 21)
def vX {α:Type}(a z:Bs)(body:Pm α):Pm α:=fun s=>
 if isP a s=true then
  if s.deep=64 then .err 51 s.hd.at_
  else (body { s.adv with deep:=s.deep+1 }).bind fun x s=>
   if z=[] then .ok x { s with deep:=s.deep-1 }
   else (vJ z s).bind fun _ s=>.ok x { s with deep:=s.deep-1 }
 else .err 50 s.hd.at_
inductive Ex where
 | leaf (kind pos:Nat) (text:Bs) (num:Int)
 | neg (pos:Nat) (a:Ex)
 | bin (kind pos:Nat) (a b:Ex)
 deriving DecidableEq
def Ex.pos:Ex→Nat
 | .leaf _ p _ _=>p
 | .neg p _=>p
 | .bin _ p _ _=>p
def zIA:List (Bs × Nat):=[([42],25)]
def zIa:List (Bs × Nat):=[([43],23),([45],24)]
def zDt (ms:List (Bs × Nat))(s:Ps):Option Nat:=(ms.find? fun m=>isP m.1 s).map Prod.snd
def VW (ms:List (Bs × Nat))(part:Pm Ex):Nat→Ex→Pm Ex
 | 0,_,_=>.err 0 0
 | f+1,e,s=>match zDt ms s with
  | none=>.ok e s
  | some k=>(part s.adv).bind fun r s=>VW ms part f (.bin k e.pos e r) s
def YP (ms:List (Bs × Nat))(part:Pm Ex):Pm Ex:=fun s=>(part s).bind fun e s=>VW ms part (s.ts.length+1) e s
def zQc (part:Pm Ex):Pm Ex:=YP zIA part
def sumOf (part:Pm Ex):Pm Ex:=YP zIa (zQc part)
def vE:Nat→Pm Ex
 | 0,_=>.err 0 0
 | f+1,s=>
  if s.hd.kind=1 then .ok (.leaf 22 s.hd.at_ s.hd.text 0) s.adv
  else if s.hd.kind=2 then .ok (.leaf 21 s.hd.at_ [] s.hd.n) s.adv
  else if isP [45] s=true then (vX [45] [] (vE f) s).bind fun a t=>.ok (.neg s.hd.at_ a) t
  else vX [40] [41] (sumOf (vE f)) s
def zN1:Pm Ex:=fun s=>sumOf (vE s.ts.length) s
def zBg (i:Nat):Ex→Ps→Ps
 | .leaf k p t n,s=>(s.kid i).add ⟨k,p,t,n,[]⟩
 | .neg p a,s=>zBg s.nd.length a ((s.kid i).add ⟨26,p,[],0,[]⟩)
 | .bin k p a b,s=>zBg s.nd.length b (zBg s.nd.length a ((s.kid i).add ⟨k,p,[],0,[]⟩))
def zAi (i:Nat):Pm Unit:=fun s=>(zN1 s).bind fun e s=>.ok () (zBg i e s)
def zBu (one:Pm Unit):Nat→Pm Unit
 | 0,_=>.err 0 0
 | f+1,s=>if isP [44] s=true then (one s.adv).bind fun _ s=>zBu one f s else .ok () s
def VH (one:Pm Unit):Pm Unit:=fun s=>(one s).bind fun _ s=>zBu one (s.ts.length+1) s
def zFB (i:Nat):Pm Unit:=vX [91] [93] (zAi i)
def zJd (i:Nat):Pm Unit:=fun s=>(jI s.nd.length (s.xH i 20)).bind fun _ t=>zFB s.nd.length t
def zIJ (i:Nat):Pm Unit:=fun s=>(zJd i s).bind fun _ s=>(vJ [46] s).bind fun _ s=>zAm i s
def YZ (st:Nat→Pm Unit)(i:Nat):Nat→Pm Unit
 | 0,_=>.err 0 0
 | f+1,s=>if isP [125] s=true then .ok () s else (st i s).bind fun _ s=>YZ st i f s
def zAK (st:Nat→Pm Unit)(i:Nat):Pm Unit:=fun s=>vX [123] [125] (fun t=>YZ st s.nd.length (t.ts.length+1) t) (s.xH i 6)
def zKV (i:Nat):Pm Unit:=fun s=>(jI i s).bind fun _ s=>(vJ [61] s).bind fun _ s=>(zIJ i s).bind fun _ s=>
 if isP [102,111,114] s=true then (vJ [117,112,100,97,116,101] s.adv).bind fun _ s=>.ok () (s.num i 1) else .ok () s
def zQs (i:Nat):Pm Unit:=fun s=>(zIJ i s).bind fun _ s=>(vJ [61] s).bind fun _ s=>zAi i s
def zEq (i:Nat):Pm Unit:=fun s=>(zJd i s).bind fun _ s=>(vJ [40] s).bind fun _ s=>(VH (zAi i) s).bind fun _ s=>vJ [41] s
def zJI (i:Nat):Pm Unit:=fun s=>(jI i s).bind fun _ s=>(vJ [61] s).bind fun _ s=>(zAm i s).bind fun _ s=>(vJ [46] s).bind fun _ s=>zAm i s
def zJ3 (i:Nat):Pm Unit:=fun s=>(zAm i s).bind fun _ s=>if isP [97,108,108] s=true then .ok () (s.adv.num i 1) else vJ [115,104,97,114,101,100] s
def zCY (i:Nat):Pm Unit:=fun s=>(jI s.nd.length (s.xH i 5)).bind fun _ t=>if isP [91] t=true then zFB s.nd.length (t.kind s.nd.length 20) else .ok () t
def zEc (i:Nat):Pm Unit:=fun s=>if isP [61,61] s=true then .ok () (s.adv.num i 1) else vJ [60] s
def zHO (st:Nat→Pm Unit)(i:Nat):Pm Unit:=fun s=>if isP [101,108,115,101] s=true then zAK st i s.adv else .ok () s
def zC0 (st:Nat→Pm Unit)(i:Nat):Pm Unit:=fun s=>(zAi i s).bind fun _ s=>(zEc i s).bind fun _ s=>(zAi i s).bind fun _ s=>(zAK st i s).bind fun _ s=>zHO st i s
def zHf (st:Nat→Pm Unit)(i:Nat):Pm Unit:=fun s=>(jI i s).bind fun _ s=>(vJ [61] s).bind fun _ s=>(zCm i s).bind fun _ s=>(vJ [116,111] s).bind fun _ s=>(zCm i s).bind fun _ s=>zAK st i s
def zPE (i:Nat):Pm Unit:=fun s=>(jI i s).bind fun _ s=>(vJ [61] s).bind fun _ s=>zAi i s
def zSg:Pm Unit:=fun s=>.ok () s
def zI7:List (Bs × Nat):=[([114,101,97,100],7),([115,101,116],8),([112,117,116],9),([100,101,108,101,116,101],10),([115,99,97,110],11),([108,111,99,107],12),([114,101,108,101,97,115,101],13),([105,102],14),([102,111,114],15),([108,101,116],16),([101,109,105,116],17),([114,111,108,108,98,97,99,107],18),([99,104,111,112],19)]
def ZO (t:Bs):Option Nat:=(zI7.find? fun m=>m.1==t).map Prod.snd
def VL (st:Nat→Pm Unit)(k i:Nat):Pm Unit:=
 if k=7 then zKV i else if k=8 then zQs i else if k=9 then zEq i else if k=10 then zJd i else if k=11 then zJI i
 else if k=12 then zJ3 i else if k=13 then zCY i else if k=14 then zC0 st i else if k=15 then zHf st i else if k=16 then zPE i
 else if k=17 then zAi i else zSg
def YG:Nat→Nat→Pm Unit
 | 0,_,_=>.err 0 0
 | f+1,i,s=>match (if s.hd.kind=1 then ZO s.hd.text else none) with
  | none=>.err 50 s.hd.at_
  | some k=>(VL (YG f) k s.nd.length (s.xH i k).adv).bind fun _ s=>if k=14∨k=15 then .ok () s else vJ [59] s
def zDz (i:Nat):Pm Unit:=fun s=>zAK (YG s.ts.length) i s
def zCt (i:Nat):Pm Unit:=fun s=>(vJ [116,97,98,108,101] (s.xH i 2)).bind fun _ t=>(jI s.nd.length t).bind fun _ t=>(vJ [40] t).bind fun _ t=>(VH (zAm s.nd.length) t).bind fun _ t=>(vJ [41] t).bind fun _ t=>vJ [59] t
def zBy (i:Nat):Pm Unit:=fun s=>let n:=s.nd.length; let t:=s.xH i 4; if isP [41] t=true then .ok () t else VH (zAm n) t
def VN (i:Nat):Pm Unit:=fun s=>if isP [115,105,110,103,108,101] s=true then .ok () (s.adv.num i 1) else .ok () s
def zDv (i:Nat):Pm Unit:=fun s=>(vJ [112,114,111,99] (s.xH i 3)).bind fun _ t=>(jI s.nd.length t).bind fun _ t=>(vJ [40] t).bind fun _ t=>(zBy s.nd.length t).bind fun _ t=>(vJ [41] t).bind fun _ t=>
 (VN s.nd.length t).bind fun _ t=>zDz s.nd.length t
def YY:Nat→Pm Unit
 | 0,_=>.err 0 0
 | f+1,s=>if s.hd.kind=4 then .ok () s
  else if isP [116,97,98,108,101] s=true then (zCt 0 s).bind fun _ s=>YY f s
  else if isP [112,114,111,99] s=true then (zDv 0 s).bind fun _ s=>YY f s
  else .err 50 s.hd.at_
def zCW:Pm Unit:=fun s=>YY (s.ts.length+1) (s.node 1)
inductive zLr where
 | ok (l:List Nd)
 | err (at_:Nat) (e:Int)
 deriving DecidableEq
def zEV (ts:List Tok):zLr:=match zCW ⟨ts,[],0⟩ with
 | .ok _ s=>.ok s.nd
 | .err e p=>.err p e
structure zCV (s:Ps):Prop where
 last:∃l e,s.ts=l++[e]∧e.kind=4
 deep:s.deep≤64
structure Good (s:Ps):Prop where
 last:∃l e,s.ts=l++[e]∧e.kind=4
 deep:s.deep≤64
 few:∀n ∈ s.nd,n.kids.length≤s.nd.length
theorem Good.base {s:Ps}(h:Good s):zCV s:=⟨h.last,h.deep⟩
theorem zCV.ne {s:Ps}(h:zCV s):s.ts≠[]:=by
 obtain⟨l,e,h,_⟩:=h.last;rw[h]
 simp
theorem zCV.pos {s:Ps}(h:zCV s):0<s.ts.length:=List.length_pos_iff.2 h.ne
theorem zCV.hd {s:Ps}(h:zCV s):∃t r,s.ts=t::r∧s.hd=t:=by
 cases hs:s.ts with
 | nil=>exact absurd hs h.ne
 | cons t r=>exact⟨t,r,rfl,by unfold Ps.hd; rw[hs]; rfl⟩
theorem zCV.adv {s:Ps}(h:zCV s)(hk:s.hd.kind≠4):zCV s.adv:=by
 refine⟨?_,h.deep⟩;obtain⟨l,e,hl,he⟩:=h.last
 cases l with
 | nil=>
  exfalso
  apply hk;unfold Ps.hd;rw[hl];exact he
 | cons t r=>
  refine⟨r,e,?_,he⟩
  show s.ts.tail=_
  rw[hl]
  rfl
def Ps.phi (s:Ps):Nat:=s.nd.length+2*s.ts.length
structure ZE (s s':Ps):Prop where
 xU:Good s'
 phi:s'.phi≤s.phi
 ts:s'.ts.length≤s.ts.length
 nd:s.nd.length≤s'.nd.length
 deep:s'.deep=s.deep
theorem ZE.refl {s:Ps}(h:Good s):ZE s s:=⟨h,zU _,zU _,zU _,rfl⟩
theorem ZE.trans {a b c:Ps}(h:ZE a b)(k:ZE b c):ZE a c:=⟨k.xU,Nat.le_trans k.phi h.phi,Nat.le_trans k.ts h.ts,Nat.le_trans h.nd k.nd,k.deep.trans h.deep⟩
def jC {α:Type}(s:Ps):Res α→Prop
 | .ok _ s'=>ZE s s'
 | .err _ _=>True
def zAO {α:Type}(m:Pm α):Prop:=∀s,Good s→jC s (m s)
theorem Good.pos {s:Ps}(h:Good s):0<s.ts.length:=h.base.pos
theorem Good.adv {s:Ps}(h:Good s)(hk:s.hd.kind≠4):Good s.adv:=⟨(h.base.adv hk).last,h.deep,h.few⟩
theorem jN {s:Ps}:s.adv.ts.length=s.ts.length-1:=by show s.ts.tail.length=_; simp
theorem JF {s:Ps}(h:Good s)(hk:s.hd.kind≠4):ZE s s.adv:=by
 have:=h.pos
 have ht:=jN (s:=s);exact⟨h.adv hk,by unfold Ps.phi; rw[ht]; show s.nd.length+_≤_; omega,by omega,zU _,rfl⟩
theorem vD {t:Bs}{s:Ps}(h:isP t s=true):s.hd.kind≠4∧s.hd.kind≠2∧s.hd.text=t:=by
 unfold isP at h;simp only[zF,zD,zN] at h;exact⟨h.1.1,h.1.2,h.2⟩
theorem zCA {s:Ps}{i:Nat}{f:Nd→Nd}:(s.on i f).nd.length=s.nd.length:=by unfold Ps.on; simp
theorem zQW {s:Ps}{i:Nat}{f:Nd→Nd}(m:Nat)(hk:∀n ∈ s.nd,(f n).kids.length≤m)(h:∀n ∈ s.nd,n.kids.length≤m):∀n ∈ (s.on i f).nd,n.kids.length≤m:=by
 intro n hn;have AB:n ∈ s.nd.modify i f:=hn;obtain⟨a,ha,rfl⟩:=List.mem_iff_getElem.1 AB
 have AA:a<s.nd.length:=by rw[List.length_modify] at ha; exact ha
 rw[List.getElem_modify]
 split
 ·exact hk _ (yL AA)
 ·exact h _ (yL AA)
theorem VK {s:Ps}{i:Nat}{f:Nd→Nd}(h:Good s)(hk:∀n,(f n).kids=n.kids):ZE s (s.on i f):=⟨⟨h.last,h.deep,by rw[zCA]; exact zQW _ (fun n hn=>by rw[hk]; exact h.few n hn) h.few⟩,by unfold Ps.phi; rw[zCA]; exact zU _,zU _,by rw[zCA]; exact zU _,rfl⟩
theorem jC.trans {α:Type}{a b:Ps}{r:Res α}(h:ZE a b)(k:jC b r):jC a r:=by
 cases r with
 | ok x s=>exact h.trans k
 | err _ _=>trivial
theorem jC.bind {α β:Type}{s:Ps}{r:Res α}{f:α→Ps→Res β}(h:jC s r)(k:∀a s',r=.ok a s'→Good s'→jC s' (f a s')):jC s (r.bind f):=by
 cases r with
 | ok a s'=>exact jC.trans h (k a s' rfl h.xU)
 | err e p=>trivial
theorem xS (t:Bs):zAO (vJ t):=by
 intro s h;unfold vJ
 split
 ·rename_i hi;exact JF h (vD hi).1
 ·trivial
theorem zR2 (k:Nat)(hk:k≠4):zAO (ofP k):=by
 intro s h;unfold ofP
 split
 ·rename_i hi;exact JF h (by rw[hi]; exact hk)
 ·trivial
theorem ZI (i:Nat):zAO (jI i):=fun s h=>(zR2 1 (by decide) s h).bind fun t s' _ h'=>VK h' (fun _=>rfl)
def XR {α:Type}(s:Ps):Res α→Prop
 | .ok _ s'=>Good s'∧s'.phi+2≤s.phi∧s'.ts.length+1≤s.ts.length∧s.nd.length≤s'.nd.length∧s'.deep=s.deep
 | .err _ _=>True
theorem jH (s:Ps)(i k:Nat):(s.xH i k).nd.length=s.nd.length+1:=by
 show((s.kid i).nd++[_]).length=_
 rw[yM]
 show(s.on i _).nd.length+1=_
 rw[zCA]
theorem zAN {s:Ps}(h:∀n ∈ s.nd,n.kids.length≤s.nd.length)(i:Nat)(x:Nd)(hx:x.kids=[]):∀n ∈ ((s.kid i).add x).nd,n.kids.length≤((s.kid i).add x).nd.length:=by
 have hl:((s.kid i).add x).nd.length=s.nd.length+1:=by
  show((s.kid i).nd++[_]).length=_
  rw[yM]
  show(s.on i _).nd.length+1=_
  rw[zCA]
 intro n hn;rw[hl]
 rcases List.mem_append.1 hn with hn | hn
 ·exact zQW (s.nd.length+1) (fun n hn=>by have:=h n hn; simp; omega) (fun n hn=>by have:=h n hn; omega) n hn
 ·rw[List.mem_singleton.1 hn,hx]
  simp
theorem vC {s:Ps}(h:Good s)(i k:Nat):Good (s.xH i k):=⟨h.last,h.deep,zAN h.few i _ rfl⟩
theorem YB (s:Ps)(i k:Nat):(s.xH i k).ts=s.ts:=rfl
theorem zI6 (s:Ps)(i k:Nat):(s.xH i k).deep=s.deep:=rfl
theorem XR.at {α:Type}{s:Ps}{i k:Nat}{r:Res α}(h:XR (s.xH i k) r):jC s r:=by
 cases r with
 | ok a s'=>
  obtain⟨h1,h2,h3,h4,h5⟩:=h;have hl:=jH s i k;unfold Ps.phi at h2;rw[hl,YB] at h2;rw[YB] at h3;rw[hl] at h4;rw[zI6] at h5;exact⟨h1,by unfold Ps.phi; omega,by omega,by omega,h5⟩
 | err _ _=>trivial
theorem XR.bind {α β:Type}{s:Ps}{r:Res α}{f:α→Ps→Res β}(h:XR s r)(k:∀a s',r=.ok a s'→Good s'→jC s' (f a s')):XR s (r.bind f):=by
 cases r with
 | ok a s'=>
  have hk:=k a s' rfl h.1
  show XR s (f a s')
  obtain⟨h1,h2,h3,h4,h5⟩:=h
  cases hr:f a s' with
  | ok b s2=>
   rw[hr] at hk
   have:=hk.phi
   have:=hk.ts
   have:=hk.nd
   exact⟨hk.xU,by omega,by omega,by omega,hk.deep.trans h5⟩
  | err _ _=>trivial
 | err e p=>trivial
theorem zBY {s:Ps}(h:Good s)(hk:s.hd.kind≠4):XR s (.ok () s.adv:Res Unit):=by
 have:=h.pos
 have ht:=jN (s:=s);exact⟨h.adv hk,by unfold Ps.phi; rw[ht]; show s.nd.length+_+2≤_; omega,by omega,zU _,rfl⟩
theorem zK0 {s:Ps}(k:Nat)(hk:k≠4)(h:Good s):XR s (ofP k s):=by
 unfold ofP
 split
 ·rename_i hi
  have h0:s.hd.kind≠4:=by rw[hi]; exact hk
  exact zBY h h0
 ·trivial
theorem zDX {s:Ps}(t:Bs)(h:Good s):XR s (vJ t s):=by
 unfold vJ
 split
 ·rename_i hi;exact zBY h (vD hi).1
 ·trivial
theorem zAa {s:Ps}(i:Nat)(h:Good s):XR s (jI i s):=(zK0 1 (by decide) h).bind fun t s' _ h'=>VK h' (fun _=>rfl)
theorem ZT (i:Nat):zAO (zAm i):=fun s h=>XR.at (zAa _ (vC h i 5))
theorem zBR (i:Nat):zAO (zCm i):=fun s h=>XR.at ((zK0 2 (by decide) (vC h i 21)).bind fun t s' _ h'=>VK h' (fun _=>rfl))
theorem zEk {α:Type}{s:Ps}(a z:Bs){body:Pm α}(hb:∀t,Good t→t.ts.length<s.ts.length→jC t (body t))(h:Good s):XR s (vX a z body s):=by
 unfold vX
 split
 ·rename_i hi
  split
  ·trivial
  ·rename_i hd;have hk:=(vD hi).1;have AD:=h.deep;have hp:=h.pos;have g:Good { s.adv with deep:=s.deep+1 }:=⟨(h.adv hk).last,by show s.deep+1≤64; omega,h.few⟩;have AA:=hb _ g (by show s.adv.ts.length<_; rw[jN]; omega)
   cases hr:body { s.adv with deep:=s.deep+1 } with
   | err e p=>trivial
   | ok x t=>
    rw[hr] at AA;have hl:t.ts.length≤s.adv.ts.length:=AA.ts;have hn:s.nd.length≤t.nd.length:=AA.nd;have AC:t.deep=s.deep+1:=AA.deep;have AB:t.phi≤s.nd.length+2*s.adv.ts.length:=AA.phi;have AE:=jN (s:=s);have g2:∀u:Ps,Good u→u.deep=s.deep+1→Good { u with deep:=u.deep-1 }:=fun u gu hu=>⟨gu.last,by show u.deep-1≤64; omega,gu.few⟩
    show XR s (if z=[] then Res.ok x { t with deep:=t.deep-1 } else (vJ z t).bind fun _ s=>.ok x { s with deep:=s.deep-1 })
    split
    ·exact⟨g2 t AA.xU AC,by show t.phi+2≤s.phi; unfold Ps.phi at AB ⊢; omega,by show t.ts.length+1≤_; omega,hn,by show t.deep-1=s.deep; omega⟩
    ·have ht:=xS z t AA.xU
     cases hq:vJ z t with
     | err e p=>trivial
     | ok y u=>
      rw[hq] at ht;have h1:u.ts.length≤t.ts.length:=ht.ts;have h2:t.nd.length≤u.nd.length:=ht.nd;have h3:u.deep=t.deep:=ht.deep;have h4:u.phi≤t.phi:=ht.phi;exact⟨g2 u ht.xU (by omega),by show u.phi+2≤s.phi; unfold Ps.phi at AB h4 ⊢; omega,by show u.ts.length+1≤_; omega,by show s.nd.length≤u.nd.length; omega,by show u.deep-1=s.deep; omega⟩
 ·trivial
theorem XR.zS2 {α:Type}{s:Ps}{r:Res α}(h:XR s r):jC s r:=by
 cases r with
 | ok a s'=>
  obtain⟨h1,h2,h3,h4,h5⟩:=h;exact⟨h1,by omega,by omega,h4,h5⟩
 | err _ _=>trivial
def Ex.size:Ex→Nat
 | .leaf ..=>1
 | .neg _ a=>a.size+1
 | .bin _ _ a b=>a.size+b.size+1
def zB5 (s:Ps):Res Ex→Prop
 | .ok e s'=>Good s'∧s'.ts.length+e.size≤s.ts.length∧s'.nd=s.nd∧s'.deep=s.deep
 | .err _ _=>True
theorem zGW {ms:List (Bs × Nat)}{s:Ps}{k:Nat}(h:zDt ms s=some k):s.hd.kind≠4:=by
 unfold zDt at h
 cases hf:ms.find? fun m=>isP m.1 s with
 | none=>rw[hf] at h; cases h
 | some m=>exact(vD (t:=m.1) (List.find?_some (p:=fun m:Bs × Nat=>isP m.1 s) hf)).1
theorem zGV {ms:List (Bs × Nat)}{part:Pm Ex}(n:Nat)(hp:∀t,Good t→t.ts.length≤n→zB5 t (part t))(s:Ps):∀(f:Nat) (e:Ex) (t:Ps),Good t→t.ts.length≤n→t.ts.length+e.size≤s.ts.length→t.nd=s.nd→t.deep=s.deep→zB5 s (VW ms part f e t)
 | 0,_,_,_,_,_,_,_=>trivial
 | f+1,e,t,g,hl,hs,hn,hd=>by
  unfold VW
  split
  ·exact⟨g,hs,hn,hd⟩
  ·rename_i k hk;have h4:=zGW hk;have AB:=g.pos;have AC:=jN (s:=t);have AA:=hp t.adv (g.adv h4) (by omega)
   cases hr:part t.adv with
   | err e p=>trivial
   | ok r u=>
    rw[hr] at AA;obtain⟨h1,h2,h3,h5⟩:=AA;exact zGV n hp s f (.bin k e.pos e r) u h1 (by omega) (by show u.ts.length+(e.size+r.size+1)≤_; omega) (h3.trans hn) (h5.trans hd)
theorem zCT {ms:List (Bs × Nat)}{part:Pm Ex}(n:Nat)(hp:∀t,Good t→t.ts.length≤n→zB5 t (part t)):∀s,Good s→s.ts.length≤n→zB5 s (YP ms part s):=by
 intro s g hl;have AA:=hp s g hl;unfold YP
 cases hr:part s with
 | err e p=>trivial
 | ok e u=>
  rw[hr] at AA;obtain⟨h1,h2,h3,h5⟩:=AA;exact zGV n hp s _ e u h1 (by omega) h2 h3 h5
theorem zEK {part:Pm Ex}(n:Nat)(hp:∀t,Good t→t.ts.length≤n→zB5 t (part t)):∀s,Good s→s.ts.length≤n→zB5 s (sumOf part s):=zCT n (zCT n hp)
def zSA (s:Ps):Res Ex→Prop
 | .ok e s'=>Good s'∧s'.ts.length+e.size+1≤s.ts.length∧s'.nd=s.nd∧s'.deep=s.deep
 | .err _ _=>True
theorem zEm {s:Ps}(a z:Bs){body:Pm Ex}(hb:∀t,Good t→t.ts.length<s.ts.length→zB5 t (body t))(h:Good s):zSA s (vX a z body s):=by
 unfold vX
 split
 ·rename_i hi
  split
  ·trivial
  ·rename_i hd;have hk:=(vD hi).1;have AD:=h.deep;have hp:=h.pos;have g:Good { s.adv with deep:=s.deep+1 }:=⟨(h.adv hk).last,by show s.deep+1≤64; omega,h.few⟩;have AG:=jN (s:=s);have AA:=hb _ g (by show s.adv.ts.length<_; omega)
   cases hr:body { s.adv with deep:=s.deep+1 } with
   | err e p=>trivial
   | ok x t=>
    rw[hr] at AA;obtain⟨h1,h2,h3,h4⟩:=AA;have AH:t.ts.length+x.size≤s.adv.ts.length:=h2;have AC:t.deep=s.deep+1:=h4;have g2:∀u:Ps,Good u→u.deep=s.deep+1→Good { u with deep:=u.deep-1 }:=fun u gu hu=>⟨gu.last,by show u.deep-1≤64; omega,gu.few⟩;simp only[JK]
    split
    ·exact⟨g2 t h1 AC,by show t.ts.length+_+1≤_; omega,h3,by show t.deep-1=s.deep; omega⟩
    ·have ht:=xS z t h1
     cases hq:vJ z t with
     | err e p=>trivial
     | ok y u=>
      rw[hq] at ht;have AF:u.ts.length≤t.ts.length:=ht.ts;have AE:u.deep=t.deep:=ht.deep
      have AB:u.nd=t.nd:=by
       unfold vJ at hq
       split at hq
       ·injection hq with _ e2;rw[←e2]; rfl
       ·cases hq
      exact⟨g2 u ht.xU (by omega),by show u.ts.length+_+1≤_; omega,AB.trans h3,by show u.deep-1=s.deep; omega⟩
 ·trivial
theorem XS:∀(f:Nat) (s:Ps),Good s→s.ts.length≤f→zB5 s (vE f s)
 | 0,s,g,hl=>absurd g.pos (by omega)
 | f+1,s,g,hl=>by
  have hp:=g.pos;have AA:=jN (s:=s);unfold vE
  split
  ·rename_i hk;exact⟨g.adv (by omega),by show s.adv.ts.length+1≤_; omega,rfl,rfl⟩
  ·split
   ·rename_i hk;exact⟨g.adv (by omega),by show s.adv.ts.length+1≤_; omega,rfl,rfl⟩
   ·split
    ·have h:=zEm [45] [] (body:=vE f) (fun t gt ht=>XS f t gt (by omega)) g
     cases hr:vX [45] [] (vE f) s with
     | err e p=>trivial
     | ok a t=>
      rw[hr] at h;obtain⟨h1,h2,h3,h4⟩:=h;exact⟨h1,by show t.ts.length+(a.size+1)≤_; omega,h3,h4⟩
    ·have h:=zEm [40] [41] (body:=sumOf (vE f)) (fun t gt ht=>zEK f (fun t gt ht=>XS f t gt ht) t gt (by omega)) g
     cases hr:vX [40] [41] (sumOf (vE f)) s with
     | err e p=>trivial
     | ok a t=>
      rw[hr] at h;obtain⟨h1,h2,h3,h4⟩:=h;exact⟨h1,by omega,h3,h4⟩
theorem zGT (s:Ps)(g:Good s):zB5 s (zN1 s):=zEK _ (fun t gt ht=>XS _ t gt ht) s g (zU _)
theorem zAV (s:Ps)(i:Nat)(n:Nd):((s.kid i).add n).nd.length=s.nd.length+1:=by
 show((s.kid i).nd++[_]).length=_
 rw[yM]
 show(s.on i _).nd.length+1=_
 rw[zCA]
theorem zBI:∀(e:Ex) (i:Nat) (s:Ps),(zBg i e s).nd.length=s.nd.length+e.size∧(zBg i e s).ts=s.ts∧(zBg i e s).deep=s.deep
 | .leaf k p t n,i,s=>⟨zAV s i _,rfl,rfl⟩
 | .neg p a,i,s=>by
  obtain⟨h1,h2,h3⟩:=zBI a s.nd.length ((s.kid i).add ⟨26,p,[],0,[]⟩);refine⟨?_,h2,h3⟩
  show(zBg s.nd.length a _).nd.length=s.nd.length+(a.size+1)
  rw[h1,zAV];omega
 | .bin k p a b,i,s=>by
  obtain⟨h1,h2,h3⟩:=zBI a s.nd.length ((s.kid i).add ⟨k,p,[],0,[]⟩);obtain⟨h4,h5,h6⟩:=zBI b s.nd.length (zBg s.nd.length a ((s.kid i).add ⟨k,p,[],0,[]⟩));refine⟨?_,h5.trans h2,h6.trans h3⟩
  show(zBg s.nd.length b _).nd.length=s.nd.length+(a.size+b.size+1)
  rw[h4,h1,zAV];omega
theorem zD5:∀(e:Ex) (i:Nat) (s:Ps),(∀n ∈ s.nd,n.kids.length≤s.nd.length)→∀n ∈ (zBg i e s).nd,n.kids.length≤(zBg i e s).nd.length
 | .leaf k p t n,i,s,h=>zAN h i _ rfl
 | .neg p a,i,s,h=>zD5 a _ _ (zAN h i _ rfl)
 | .bin k p a b,i,s,h=>zD5 b _ _ (zD5 a _ _ (zAN h i _ rfl))
theorem ZL (i:Nat):zAO (zAi i):=by
 intro s g;unfold zAi;have h:=zGT s g
 cases hr:zN1 s with
 | err e p=>trivial
 | ok e t=>
  rw[hr] at h;obtain⟨h1,h2,h3,h4⟩:=h;obtain⟨p1,p2,p3⟩:=zBI e i t;refine⟨⟨by rw[p2]; exact h1.last,by rw[p3]; exact h1.deep,zD5 e i t h1.few⟩,?_,by rw[p2]; omega,by rw[p1,h3]; omega,by rw[p3,h4]⟩;unfold Ps.phi;rw[p1,p2,h3];omega
theorem zIm {one:Pm Unit}(h:zAO one):∀f,zAO (zBu one f)
 | 0=>fun _ _=>trivial
 | f+1=>fun s g=>by
  unfold zBu
  split
  ·rename_i hi;have hk:=(vD hi).1;exact jC.trans (JF g hk) ((h _ (g.adv hk)).bind fun _ t _ gt=>zIm h f t gt)
  ·exact ZE.refl g
theorem zAG {one:Pm Unit}(h:zAO one):zAO (VH one):=fun s g=>(h s g).bind fun _ t _ gt=>zIm h _ t gt
theorem zGQ (i:Nat):zAO (zFB i):=fun s g=>(zEk [91] [93] (fun t gt _=>ZL i t gt) g).zS2
theorem zC4 (i:Nat):zAO (zJd i):=fun s g=>XR.at ((zAa _ (vC g i 20)).bind fun _ t _ gt=>zGQ _ t gt)
theorem zDo (i:Nat):zAO (zIJ i):=fun s g=>(zC4 i s g).bind fun _ t _ gt=>(xS _ t gt).bind fun _ t _ gt=>ZT i t gt
theorem zOA (i:Nat):zAO (zKV i):=fun s g=>(ZI i s g).bind fun _ t _ gt=>(xS _ t gt).bind fun _ t _ gt=>(zDo i t gt).bind fun _ t _ gt=>by
 split
 ·rename_i hi;exact jC.trans (JF gt (vD hi).1) ((xS _ _ (gt.adv (vD hi).1)).bind fun _ t _ gt=>VK gt (fun _=>rfl))
 ·exact ZE.refl gt
theorem zQ1 (i:Nat):zAO (zQs i):=fun s g=>(zDo i s g).bind fun _ t _ gt=>(xS _ t gt).bind fun _ t _ gt=>ZL i t gt
theorem zLi (i:Nat):zAO (zEq i):=fun s g=>(zC4 i s g).bind fun _ t _ gt=>(xS _ t gt).bind fun _ t _ gt=>(zAG (ZL i) t gt).bind fun _ t _ gt=>xS _ t gt
theorem zPl (i:Nat):zAO (zJI i):=fun s g=>(ZI i s g).bind fun _ t _ gt=>(xS _ t gt).bind fun _ t _ gt=>(ZT i t gt).bind fun _ t _ gt=>(xS _ t gt).bind fun _ t _ gt=>ZT i t gt
theorem zN3 (i:Nat):zAO (zJ3 i):=fun s g=>(ZT i s g).bind fun _ t _ gt=>by
 split
 ·rename_i hi;exact(JF gt (vD hi).1).trans (VK (gt.adv (vD hi).1) (fun _=>rfl))
 ·exact xS _ t gt
theorem zIP (i:Nat):zAO (zCY i):=fun s g=>XR.at ((zAa _ (vC g i 5)).bind fun _ t _ gt=>by
 split
 ·have l1:ZE t (t.kind s.nd.length 20):=VK gt (fun _=>rfl);exact jC.trans l1 (zGQ _ _ l1.xU)
 ·exact ZE.refl gt)
theorem zPY (i:Nat):zAO (zPE i):=fun s g=>(ZI i s g).bind fun _ t _ gt=>(xS _ t gt).bind fun _ t _ gt=>ZL i t gt
theorem zOG (i:Nat):zAO (zEc i):=fun s g=>by
 unfold zEc
 split
 ·rename_i hi;exact(JF g (vD hi).1).trans (VK (g.adv (vD hi).1) (fun _=>rfl))
 ·exact xS _ s g
def zCi (n:Nat)(st:Nat→Pm Unit):Prop:=∀i s,Good s→s.ts.length≤n→jC s (st i s)
theorem zDR {n:Nat}{st:Nat→Pm Unit}(h:zCi n st)(i:Nat):∀f s,Good s→s.ts.length≤n→jC s (YZ st i f s)
 | 0,_,_,_=>trivial
 | f+1,s,g,hl=>by
  unfold YZ
  split
  ·exact ZE.refl g
  ·have h1:=h i s g hl
   cases hr:st i s with
   | err e p=>trivial
   | ok a t=>
    rw[hr] at h1
    have:=h1.ts
    exact jC.trans h1 (zDR h i f t h1.xU (by omega))
theorem XV {n:Nat}{st:Nat→Pm Unit}(h:zCi n st)(i:Nat)(s:Ps)(g:Good s)(hl:s.ts.length≤n+1):jC s (zAK st i s):=
 XR.at (zEk [123] [125] (fun t gt ht=>zDR h _ _ t gt (by rw[YB] at ht; omega)) (vC g i 6))
theorem zOi {n:Nat}{st:Nat→Pm Unit}(h:zCi n st)(i:Nat)(s:Ps)(g:Good s)(hl:s.ts.length≤n+1):jC s (zHO st i s):=by
 unfold zHO
 split
 ·rename_i hi;have hk:=(vD hi).1;have AA:=jN (s:=s);exact jC.trans (JF g hk) (XV h i _ (g.adv hk) (by omega))
 ·exact ZE.refl g
theorem jC.zEj {α β:Type}{s:Ps}{r:Res α}{f:α→Ps→Res β}(h:jC s r)(k:∀a s',Good s'→s'.ts.length≤s.ts.length→jC s' (f a s')):jC s (r.bind f):=by
 cases r with
 | ok a s'=>exact jC.trans h (k a s' h.xU h.ts)
 | err e p=>trivial
theorem zKI {n:Nat}{st:Nat→Pm Unit}(h:zCi n st)(i:Nat)(s:Ps)(g:Good s)(hl:s.ts.length≤n+1):jC s (zC0 st i s):=
 (ZL i s g).zEj fun _ t gt l1=>(zOG i t gt).zEj fun _ t gt l2=>(ZL i t gt).zEj fun _ t gt l3=>(XV h i t gt (by omega)).zEj fun _ t gt l4=>zOi h i t gt (by omega)
theorem zPe {n:Nat}{st:Nat→Pm Unit}(h:zCi n st)(i:Nat)(s:Ps)(g:Good s)(hl:s.ts.length≤n+1):jC s (zHf st i s):=
 (ZI i s g).zEj fun _ t gt l1=>(xS _ t gt).zEj fun _ t gt l2=>(zBR i t gt).zEj fun _ t gt l3=>(xS _ t gt).zEj fun _ t gt l4=>(zBR i t gt).zEj fun _ t gt l5=>XV h i t gt (by omega)
theorem zCn {n:Nat}{st:Nat→Pm Unit}(h:zCi n st)(k i:Nat)(s:Ps)(g:Good s)(hl:s.ts.length≤n+1):jC s (VL st k i s):=by
 unfold VL
 split
 ·exact zOA i s g
 split
 ·exact zQ1 i s g
 split
 ·exact zLi i s g
 split
 ·exact zC4 i s g
 split
 ·exact zPl i s g
 split
 ·exact zN3 i s g
 split
 ·exact zIP i s g
 split
 ·exact zKI h i s g hl
 split
 ·exact zPe h i s g hl
 split
 ·exact zPY i s g
 split
 ·exact ZL i s g
 ·exact ZE.refl g
theorem zAb:∀f,zCi f (YG f)
 | 0,_,_,_,_=>trivial
 | f+1,i,s,g,hl=>by
  unfold YG
  split
  ·trivial
  ·rename_i k hk
   have h1:s.hd.kind=1:=by
    split at hk
    ·assumption
    ·cases hk
   have h4:(s.xH i k).hd.kind≠4:=by show s.hd.kind≠4; omega
   refine XR.at (i:=i) (k:=k) ?_;refine XR.bind (r:=.ok () (s.xH i k).adv) (zBY (vC g i k) h4) (f:=fun _ t=>(VL (YG f) k s.nd.length t).bind fun _ s=>if k=14∨k=15 then .ok () s else vJ [59] s) ?_;intro _ t ht gt;injection ht with _ ht;have AA:=jN (s:=s.xH i k);rw[YB] at AA
   have:=g.pos
   refine(zCn (zAb f) k _ t gt (by rw[←ht,AA]; omega)).bind fun _ u _ gu=>?_
   split
   ·exact ZE.refl gu
   ·exact xS _ u gu
theorem zBT (i:Nat):zAO (zDz i):=fun s g=>XV (zAb s.ts.length) i s g (by omega)
theorem zMI (i:Nat):zAO (zCt i):=fun s g=>XR.at ((zDX _ (vC g i 2)).bind fun _ t _ gt=>(ZI _ t gt).bind fun _ t _ gt=>(xS _ t gt).bind fun _ t _ gt=>(zAG (ZT _) t gt).bind fun _ t _ gt=>(xS _ t gt).bind fun _ t _ gt=>xS _ t gt)
theorem zE7 (i:Nat):zAO (VN i):=fun s g=>by
 unfold VN
 split
 ·rename_i hi;exact(JF g (vD hi).1).trans (VK (g.adv (vD hi).1) (fun _=>rfl))
 ·exact ZE.refl g
end Go.Proofs.YtioffpjajhalaaaGreatDoor
