/- bytes.Count at one byte, bytes.LastIndexByte, diag.New, walked. (and what follows of it). The conditions stand at each lemma. -/
import Derived.Test.YtbadjmmjbpeocaaGreatDoorKaa
import Derived.Test.YtbadjmmjbpeocaaGreatDoorKac
import Derived.Shelf.Bytes.SlCountOne
import Derived.IntWalk
import Derived.Test.YtbadjmmjbpeocaaGreatDoorKad
import Derived.LaidEql
import Derived.Stop.Asserts
import Derived.RowKitTokens
import Derived.Test.YtbadjmmjbpeocaaGreatDoorRows
import Derived.ChangeSame
import Derived.ChangeVars
import Derived.JoinedOf
import Derived.RowKit
import Derived.LaidLaws
import Derived.LaidHandle
import Derived.Stop.Joined
set_option linter.unusedVariables false
set_option linter.unusedSimpArgs false
set_option maxRecDepth 100000
set_option maxHeartbeats 16000000
namespace Go.Proofs.YtbadjmmjbpeocaaGreatDoor
open Go Go.RowKit
theorem zQw {w:World}{a:Addr}{l:Bs}(h:Cells w (some a) (vB l)):∀i,i<l.length→w.cell? (a.add i)=some (.int .u8 ((zDa l).getD i 0)):=by
 intro i hi;obtain⟨b,off,e,hb,hc⟩:=h.at_ (by rw[jV]; omega);injection e with e;subst e
 rw[zIL l i hi,show(⟨b,off,none⟩:Addr).add i=⟨b,off+i,none⟩ from by unfold Addr.add; split <;> simp_all,hc i (by rw[jV]; exact hi),zAa l i hi]
theorem zQK {w:World}{A:Option Addr}{l:Bs}{n c:Nat}(hn:n=l.length)(h:Cells w A (vB l)) :
  (Extern.BytealgCount.count #[.slice A n c,.int .u8 10]).run Tryz.prog w=.ok (.int .i64 ((l.count 10:Nat):Int)) w:=by
 subst hn
 cases A with
 | none=>
  have h0:l=[]:=by
   rcases h with h | ⟨b,off,e,_⟩
   ·have:(vB l).length=0:=by rw[h]; rfl
    rw[jV] at this;exact List.eq_nil_of_length_eq_zero this
   ·cases e
  subst h0;exact Lib.run_countNil w _ c 10
 | some a=>
  have h1:=Lib.run_countAt (P:=Tryz.prog) w a l.length c (zDa l) (zGA l) (zQw h) 10;rw[zBz] at h1;exact h1
theorem zQk (A:Option Addr)(l:Bs)(n c g d:Nat)(w:World)(hn:n=l.length)(h:Cells w A (vB l))(hg:w.cell? ⟨g,0,none⟩=some (.int .u8 10)) :
  Calls Tryz.prog 44 #[.slice A n c,.slice (some ⟨g,0,none⟩) 1 d] w fun e w'=>e=.returned (.int .i64 ((l.count 10:Nat):Int))∧w'=w:=by
 have hr:=zQK (n:=n) (c:=c) hn h;clear h hn;generalize ((l.count 10:Nat):Int)=z at *
 go_enter Tryz.func44,Tryz.ntmps44
 go_wp2
 rw[run_callFunc_extern Tryz.func85 (by kernel_rfl) (by kernel_rfl) (by kernel_rfl) (e:=Extern.BytealgCount.count) (by kernel_rfl),hr];simp only[Result.andThen];rw[Oper.upon_value]
 go_wp2
 go_ret;exact⟨rfl,rfl⟩
def zB4 (l:Bs):Nat→Int
 | 0=>-1
 | k+1=>if l.getD k 0==10 then (k:Int) else zB4 l k
theorem zKt (l:Bs):∀k:Nat,-1≤zB4 l k∧zB4 l k<k
 | 0=>by simp[zB4]
 | k+1=>by
  unfold zB4
  have:=zKt l k
  split <;> omega
theorem zOK (A:Option Addr)(l:Bs)(n c:Nat)(w:World)(hn:n=l.length)(hbig:l.length≤140737488355328)(h:Cells w A (vB l))(z:Int)(hz:Hid (zB4 l l.length=z)) :
  Calls Tryz.prog 87 #[.slice A n c,.int .u8 10] w fun e w'=>e=.returned (.int .i64 z)∧w'=w:=by
 subst hn;have HC:=yG h;clear h
 go_enter Tryz.func87,Tryz.ntmps87
 go_wp2_with fail
 go_loop [5] (fun i=>∃k:Nat,k≤l.length∧i=.int .i64 ((k:Int)-1)∧Hid (zB4 l k=z)) (fun i=>(intOf i+1).toNat)
 case atStart=>exact⟨l.length,zX _,rfl,hz⟩
 case round=>
  obtain⟨k,hk,rfl,HZ⟩:=hrel
  cases k with
  | zero=>
   have HE:Hid (z=-1):=yG (by rw[←HZ.out]; rfl)
   go_wp2_with fail
   go_ret;exact⟨zFN HE.out.symm,rfl⟩
  | succ k=>
   rw[show(((k+1:Nat):Int)-1)=(k:Int) from by omega]
   have hkl:k<l.length:=by omega
   obtain⟨b,off,hA,hb,hcc⟩:=HC.out.at_ (by rw[jV]; omega);subst hA
   have e0:w.cell? ⟨b,off+k,none⟩=some (.int .u8 (l[k].toNat:Int)):=by rw[hcc k (by rw[jV]; omega),zAa l k hkl]
   have hzz:=HZ.out;unfold zB4 at hzz;rw[show l.getD k 0=l[k] from by simp[hkl]] at hzz;have HZZ:=yG hzz;clear hcc hzz HZ
   have q0:(k:Int)<(l.length:Int):=by omega
   generalize l[k]=x at *
   by_cases hx:x=10
   ·subst hx;have e0':w.cell? ⟨b,off+k,none⟩=some (.int .u8 10):=e0;clear e0;have HE:Hid (z=(k:Int)):=yG (by rw[←HZZ.out]; rfl)
    go_wp2_with fail
    go_ret;exact⟨zFN HE.out.symm,rfl⟩
   ·have d1:((x.toNat:Int)==10)=false:=by
     rw[yI];intro h;apply hx
     have:x.toNat=10:=by omega
     exact UInt8.toNat_inj.1 this
    have HE:Hid (zB4 l k=z):=yG (by rw[←HZZ.out,if_neg (by simpa using hx)])
    go_wp2_with fail
    go_round
    case rel=>exact⟨k,by omega,rfl,HE⟩
    case measure=>simp[intOf]
theorem zR7 (A:Option Addr)(l:Bs)(n c:Nat)(w:World)(hn:n=l.length)(hbig:l.length≤140737488355328)(h:Cells w A (vB l))(z:Int)(hz:Hid (zB4 l l.length=z)) :
  Calls Tryz.prog 45 #[.slice A n c,.int .u8 10] w fun e w'=>e=.returned (.int .i64 z)∧w'=w:=by
 have H:=yG (zOK A l n c w hn hbig h z hz);clear h hn hz
 go_enter Tryz.func45,Tryz.ntmps45
 go_wp2_with fail
 refine H.out.mono ?_;rintro e w' ⟨rfl,rfl⟩
 go_wp2_with fail
 go_ret;exact⟨rfl,rfl⟩
theorem Blk.zUX {w:World}{t:TypeId}{cs:Array Value}{g:Nat}(hg:w.heap.size=g):Blk (w.alloc (.cells cs t)) g t cs:=by subst hg; exact Blk.new _ _ _
def atN (at_:Int)(n:Nat):Nat:=(max 0 (min at_ (n:Int))).toNat
theorem zUv (at_:Int)(n:Nat):atN at_ n≤n:=by unfold atN; omega
def zE5 (l:Bs)(k:Nat):Int:=((l.take k).count 10:Nat)+1
def zJG (l:Bs)(k:Nat):Int:=(k:Int)-zB4 (l.take k) k
theorem zIC (A:Option Addr)(l:Bs)(n c:Nat)(at_ er:Int)(w:World)(hn:n=l.length)(hbig:l.length≤140737488355328)(hcap:l.length≤c)(hat1:-9223372036854775808≤at_)(hat2:at_≤9223372036854775807)(h:Cells w A (vB l))(her:er≠0) :
  Calls Tryz.prog 22 #[.slice A n c,.int .i64 at_,.int .i64 er] w fun e w'=>∃g,e=.returned (.iface 98 (.pointer (some ⟨g,0,none⟩)))∧w.heap.size≤g∧Blk w' g 102 #[.int .i64 (atN at_ l.length:Int),.int .i64 (zE5 l (atN at_ l.length)),.int .i64 (zJG l (atN at_ l.length)),.int .i64 er]∧Ext w w':=by
 subst hn;have HC:=yG h;clear h
 have d0:(er==0)=false:=by rw[yI]; exact her
 go_enter Tryz.func22,Tryz.ntmps22
 go_wp2_with fail
 have hq:max 0 (min at_ (l.length:Int))=((atN at_ l.length:Nat):Int):=by unfold atN; omega
 have hql:=zUv at_ l.length;rw[hq,zI];clear hq;generalize hqe:atN at_ l.length=q at *;have HQE:=yG hqe;clear hqe
 have hcs:Cells w A (vB (l.take q)):=by
  have h:=zC9 HC.out hcap 0 q;rw[List.drop_zero] at h;unfold zDI at h
  split at h
  ·exact h
  ·cases A with
   | none=>exact h
   | some x=>exact h
 have htl:(l.take q).length=q:=by simp; omega
 have HTL:=yG htl;have HCS:=yG (hcs.ext (Ext.alloc w (.cells #[.int .u8 10] 5)));obtain⟨cn,HCN⟩:∃cn:Nat,Hid ((l.take q).count 10=cn):=⟨_,yG rfl⟩
 have hcn:cn≤140737488355328:=by
  have:=List.count_le_length (a:=(10:UInt8)) (l:=l.take q)
  rw[HCN.out] at this;omega
 obtain⟨z,HZ⟩:∃z,Hid (zB4 (l.take q) q=z):=⟨_,yG rfl⟩;have hz:=zKt (l.take q) q;rw[HZ.out] at hz;obtain⟨hz1,hz2⟩:=hz;clear hcs htl;refine(zQk A (l.take q) q c w.heap.size 1 _ (by rw[HTL.out]) HCS.out (by simp)).mono ?_;rintro e w' ⟨rfl,rfl⟩;rw[HCN.out]
 go_wp2_with fail
 refine(zR7 A (l.take q) q c _ (by rw[HTL.out]) (by rw[HTL.out]; omega) HCS.out z (by rw[HTL.out]; exact HZ)).mono ?_;rintro e w' ⟨rfl,rfl⟩
 go_wp2_with fail
 go_ret
 have h1:zE5 l q=(cn:Int)+1:=by unfold zE5; rw[HCN.out]
 have h2:zJG l q=(q:Int)-z:=by unfold zJG; rw[HZ.out]
 rw[HQE.out,h1,h2];exact⟨_,rfl,by simp,Blk.zUX (by simp),(Ext.alloc _ _).trans (Ext.alloc _ _)⟩
def ZW (t:Tok):List Value:=[.int .u8 (t.kind:Int),.int .i64 (t.at_:Int),.int .i64 (t.en:Int),.string (xI t.text),.int .i64 t.n]
def jP (l:List Tok):List Value:=l.flatMap ZW
theorem zBt (l:List Tok):(jP l).length=l.length*5:=by
 unfold jP
 induction l with
 | nil=>rfl
 | cons t l ih=>rw[List.flatMap_cons,yP,ih,zK]; show 5+_=_; omega
theorem zHd (l:List Tok)(t:Tok):jP (l++[t])=jP l++ZW t:=by simp[jP]
def zFs (l:Bs):zB7:=if 65536<l.length then .err 0 3 else zA4 0 l
def zLE (l:Bs)(w:World)(r:zB7)(e:Ending)(w':World):Prop:=Ext w w'∧match r with
 | .ok ts=>∃A' c',e=.returned (.tuple #[.slice A' ts.length c',.nilIface])∧(A'=none→c'=0)∧w'.ownsRow w.heap.size 75 5 (.slice A' ts.length c') ts.length (jP ts)
 | .err a er=>∃g,e=.returned (.tuple #[.slice none 0 0,.iface 98 (.pointer (some ⟨g,0,none⟩))])∧w.heap.size≤g∧Blk w' g 102 #[.int .i64 (a:Int),.int .i64 (zE5 l a),.int .i64 (zJG l a),.int .i64 er]
theorem zQS:(Tryz.prog.info? 75).map (fun i=>(i.zero,i.size,i.bytes))=some (some (.agg #[.int .u8 0,.int .i64 0,.int .i64 0,.string ⟨#[]⟩,.int .i64 0]),5,48):=by kernel_rfl
theorem zNo {w:World}{A:Option Addr}{cs:List Value}(h:Cells w A cs)(h0:0<cs.length)(b off:Nat)(e:A=some ⟨b,off,none⟩):b<w.heap.size:=by
 obtain⟨b',off',e',hb,_⟩:=h.at_ h0;rw[e] at e';injection e' with e';injection e' with e';subst e';exact hb
theorem zUl {t:Tok}:∀u ∈ ZW t,u.oneCell'=true:=by
 intro u hu;simp only[ZW,zU,List.not_mem_nil,or_false] at hu
 rcases hu with rfl | rfl | rfl | rfl | rfl <;> rfl
theorem Cells.newAt {w:World}{t:TypeId}{cs:Array Value}{g:Nat}{l:List Value}(hg:w.heap.size=g)(hl:cs.toList=l:=by rfl):Cells (w.alloc (.cells cs t)) (some ⟨g,0,none⟩) l:=by subst hg hl; exact Cells.new _ _ _
theorem zT7 (k n:Nat)(h:k≤n):atN (k:Int) n=k:=by unfold atN; omega
theorem zPJ (A:Option Addr)(l:Bs)(n c:Nat)(w:World)(hn:n=l.length)(hbig:l.length≤140737488355328)(hcap:l.length≤c)(h:Cells w A (vB l))(hlim:65536<l.length) :
  Calls Tryz.prog 20 #[.slice A n c] w (zLE l w (zFs l)):=by
 subst hn;have HC:=yG h;clear h;have HS:Hid (zFs l=.err 0 3):=yG (by unfold zFs; rw[if_pos hlim])
 go_enter Tryz.func20,Tryz.ntmps20
 go_wp2_with fail
 refine(zIC A l l.length c 0 3 w rfl hbig hcap (by omega) (by omega) HC.out (by decide)).mono ?_;rintro e w' ⟨g,rfl,hg,hb,hx⟩;rw[show atN 0 l.length=0 from by unfold atN; omega] at hb
 go_wp2_with fail
 go_ret2;rw[HS.out];exact⟨hx,g,rfl,hg,hb⟩
theorem zUK (A:Option Addr)(l:Bs)(n c:Nat)(w:World)(hn:n=l.length)(hcap:l.length≤c)(hnil:A=none→c=0)(h:Cells w A (vB l))(hlim:l.length≤65536) :
  Calls Tryz.prog 20 #[.slice A n c] w (zLE l w (zFs l)):=by
 subst hn;obtain⟨i0,hi,hz0,hz1,hz2⟩:=info_parts zQS;have HC:=yG h;have HN:=yG hnil;have HS:Hid (zFs l=zA4 0 l):=yG (by unfold zFs; rw[if_neg (by omega)]);have HX0:Hid (Ext w (w.alloc (.cells #[.slice A l.length c,.int .i64 0] 112))):=yG (Ext.alloc _ _)
 have HR0:Hid (Rd (w.alloc (.cells #[.slice A l.length c,.int .i64 0] 112)) w.heap.size A l c 0):=yG ⟨Blk.new _ _ _,h.ext (Ext.alloc _ _),fun h0 b off e=>by
  have:=zNo h (by rw[jV]; exact h0) b off e
  omega,zW _,hcap,hnil,by omega⟩
 clear h hnil
 go_enter Tryz.func20,Tryz.ntmps20
 go_wp2_with fail
 refine(zMc w.heap.size A l c 0 _ HR0.out).mono ?_;rintro e w1 ⟨rfl,k1,_,hm1,hr1,hl1,hh1⟩;rw[List.drop_zero] at hl1;have HX1:=yG (hm1.ext HX0.out (zX _));have HR1:=yG hr1;have HL1:=yG hl1;have HH1:=yG hh1;clear HX0 HR0 hm1 hr1 hl1 hh1;obtain⟨g,hg⟩:∃g,w.heap.size=g:=⟨_,rfl⟩;rw[hg] at HR1 ⊢;have HG:=yG hg;clear hg
 go_wp2_with fail
 go_loopg [5] (l.length-k1) (fun gk out wr=>∃(k:Nat) (lo:List Tok) (A':Option Addr) (c':Nat),k≤l.length∧gk=l.length-k∧lo.length≤k∧out=.slice A' lo.length c'∧Hid ((A'=none→c'=0)∧wr.ownsRow w.heap.size 75 5 (.slice A' lo.length c') lo.length (jP lo)∧Rd wr g A l c k∧Ext w wr∧zA4 0 l=(zA4 k (l.drop k)).pre lo∧∀x,(l.drop k).head?=some x→XH x=false∧(x==35)=false))
 case atStart=>exact⟨k1,[],none,0,HR1.out.le,rfl,zW _,rfl,yG ⟨fun _=>rfl,zR _ _ _ _,HR1.out,HX1.out,by rw[pre_nil]; exact HL1.out,HH1.out⟩⟩
 case round=>
  obtain⟨k,lo,A',c',hk,rfl,hlo,rfl,HW⟩:=hrel;obtain⟨wa,rfl⟩:∃wa:World,wa=wr:=⟨_,rfl⟩;have b1:wa.cell? ⟨g,1,none⟩=some (.int .i64 (k:Int)):=HW.out.2.2.1.blk.cell 1
  by_cases hlt:k<l.length
  ·have d0:decide ((k:Int)<(l.length:Int))=true:=yS (by omega);have hhd:=HW.out.2.2.2.2.2 l[k] (by rw[List.drop_eq_getElem_cons hlt]; rfl)
   go_wp2_with fail
   refine(zRB g A l c k wa HW.out.2.2.1 hlt hhd.1 hhd.2).mono ?_;rintro e w2 ⟨hm,⟨kd,j,n,hst,rfl,hrd⟩ | ⟨er,kd,en,x,n,hst,her,rfl⟩⟩
   ·have HST:=yG (zSv (p:=k) hst)
    have hj:1≤j:=by
     have hw:=zDn (l.drop k);rw[hst] at hw;exact hw.1
    have HO2:=yG (hm.own HW.out.2.1 (XT HW.out.2.1 HW.out.2.2.1.blk (by decide)));have HX2:=yG (hm.ext HW.out.2.2.2.1 (by rw[HG.out]; exact zX _));have HR2:=yG hrd;have HA2:=yG HW.out.1;have HLX:=yG HW.out.2.2.2.2.1;have hkj:=hrd.le;obtain⟨tx,HTX⟩:∃tx,Hid ((l.drop k).take j=tx):=⟨_,yG rfl⟩;rw[HTX.out] at HST;rw[HTX.out];dsimp only[zDY];obtain⟨en,HEN⟩:∃en,Hid (k+j=en):=⟨_,yG rfl⟩
    have hen:k+1≤en:=by have:=HEN.out; omega
    rw[HEN.out] at HST HR2 hkj ⊢;clear hst hm hrd HW b1 hhd
    go_wp2_with (at_builtin; refine zBD rfl (.tmp 39) (.tmp 41) 67 rfl w.heap.size 75 i0 _ 5 48 Tryz.underlying67 hi hz0 hz1 hz2 rfl (by decide) _ _ _ rfl ((HO2.out.alloc _).alloc _) _ 1 1 (ZW ⟨kd,k,en,tx,n⟩) rfl (by simp) rfl (by exact(Cells.newAt (by simp))) zUl (by unfold maxLen; omega) (by omega) (by have:=HX2.out.size; simp; omega) ?_; intro A4 c4 w4 z4 hown4 hg4)
    have hown4':w4.ownsRow w.heap.size 75 5 (.slice A4 (lo++[(⟨kd,k,en,tx,n⟩:Tok)]).length c4) (lo++[(⟨kd,k,en,tx,n⟩:Tok)]).length (jP (lo++[(⟨kd,k,en,tx,n⟩:Tok)])):=by rw[zHd,yP]; exact hown4
    have hx4:Ext w w4:=Below.grown ((HX2.out.trans (Ext.alloc _ _)).trans (Ext.alloc _ _)) hg4 (by have:=HX2.out.size; simp; omega) (fun q hq=>(HO2.out.lt q hq).1);have hb4:Blk w4 g 112 #[.slice A l.length c,.int .i64 (en:Int)]:=(((HR2.out.blk.alloc _).alloc _)).grown hg4 (fun e=>XT HO2.out HR2.out.blk (by decide) e.symm);have HR4:Hid (Rd w4 g A l c en):=yG ⟨hb4,HC.out.ext hx4,HR2.out.far,hkj,hcap,HR2.out.zJs,by omega⟩;have HO4:=yG hown4';have HX4:=yG hx4;clear hown4 hown4' hx4 hb4 hg4 HO2 HX2 HR2
    go_wp2_with fail
    refine(zMc g A l c en w4 HR4.out).mono ?_;rintro e w5 ⟨rfl,k3,hk3,hm5,hr5,hl5,hh5⟩;have HO5:=yG (hm5.own HO4.out (XT HO4.out HR4.out.blk (by decide)));have HX5:=yG (hm5.ext HX4.out (by rw[HG.out]; exact zX _));have HR5:=yG hr5;have HL5:=yG hl5;have HH5:=yG hh5;have hk5:=hr5.le;clear hm5 hr5 hl5 hh5
    go_wp2_with fail
    go_roundg (l.length-k3)
    case measure=>omega
    case rel=>
     refine⟨k3,lo++[⟨kd,k,en,tx,n⟩],A4,c4,hk5,rfl,by simp; omega,by simp,yG ⟨z4,HO5.out,HR5.out,HX5.out,?_,HH5.out⟩⟩;rw[HLX.out,HST.out,zSM,List.drop_drop,HEN.out,HL5.out]
   ·have HR:=yG (zRu (p:=k) hst);dsimp only[zDY]
    have d1:(er != 0)=true:=by rw[zE]; exact her
    have HX2:=yG (hm.ext HW.out.2.2.2.1 (by rw[HG.out]; exact zX _));have HX3:Hid (Ext w (w2.alloc (.cells #[.int .u8 (kd:Int),.int .i64 (k:Int),.int .i64 (en:Int),.string (xI x),.int .i64 n] 75))):=yG (HX2.out.trans (Ext.alloc _ _));clear hst her hm
    go_wp2_with fail
    refine(zIC A l l.length c (k:Int) er _ rfl (by omega) hcap (by omega) (by omega) (HC.out.ext HX3.out) (by simpa using d1)).mono ?_;rintro e w' ⟨g2,rfl,hg2,hb2,hx2⟩;rw[zT7 k _ hk] at hb2
    go_wp2_with fail
    go_ret2;rw[HS.out,HW.out.2.2.2.2.1,HR.out];exact⟨HX3.out.trans hx2,g2,rfl,Nat.le_trans HX3.out.size hg2,hb2⟩
  ·obtain rfl:k=l.length:=by omega
   have d0:decide ((l.length:Int)<(l.length:Int))=false:=by simp
   have HO2:=yG HW.out.2.1;have HX2:=yG HW.out.2.2.2.1;have HLX:=yG HW.out.2.2.2.2.1;clear HW
   go_wp2_with (at_builtin; refine zBD rfl (.tmp 43) (.tmp 49) 67 rfl w.heap.size 75 i0 _ 5 48 Tryz.underlying67 hi hz0 hz1 hz2 rfl (by decide) _ _ _ rfl (HO2.out.alloc _) _ 1 1 (ZW ⟨4,l.length,l.length,[],0⟩) rfl (by simp) rfl (by exact(Cells.newAt rfl)) zUl (by unfold maxLen; omega) (by omega) (by have:=HX2.out.size; simp; omega) ?_; intro A4 c4 w4 z4 hown4 hg4)
   have hown4':w4.ownsRow w.heap.size 75 5 (.slice A4 (lo++[(⟨4,l.length,l.length,[],0⟩:Tok)]).length c4) (lo++[(⟨4,l.length,l.length,[],0⟩:Tok)]).length (jP (lo++[(⟨4,l.length,l.length,[],0⟩:Tok)])):=by rw[zHd,yP]; exact hown4
   have HX4:Hid (Ext w w4):=yG (Below.grown (HX2.out.trans (Ext.alloc _ _)) hg4 (by have:=HX2.out.size; simp; omega) (fun q hq=>(HO2.out.lt q hq).1));have HO4:=yG hown4';clear hown4 hown4' hg4
   go_wp2_with fail
   go_ret2;rw[HS.out,HLX.out,List.drop_eq_nil_of_le (zX _),zSA];exact⟨HX4.out,A4,c4,by simp,z4,HO4.out⟩
theorem zO1 (A:Option Addr)(l:Bs)(n c:Nat)(w:World)(hn:n=l.length)(hbig:l.length≤140737488355328)(hcap:l.length≤c)(hnil:A=none→c=0)(h:Cells w A (vB l)) :
  Calls Tryz.prog 20 #[.slice A n c] w (zLE l w (zFs l)):=by
 by_cases hlim:65536<l.length
 ·exact zPJ A l n c w hn hbig hcap h hlim
 ·exact zUK A l n c w hn hcap hnil h (by omega)
end Go.Proofs.YtbadjmmjbpeocaaGreatDoor
namespace Go.Proofs.YtbadjmmjbpeocaaGreatDoor
open Go Go.RowKit Go.Extern.Stop Go.Stop Go.Extern
def hT (t:Nat):Value:=.pointer (some ⟨2,t,none⟩)
theorem zLL (t:Addr)(w:World):(ReflectliteValue.unpack (.iface 103 (.pointer (some t)))).run Tryz.prog w
  = .ok (.agg #[.pointer (some ⟨2,103,none⟩),.pointer (some ⟨w.heap.size,0,none⟩),.int .u64 150]) (w.alloc (.cells #[.pointer (some t)] 103)):=by kernel_rfl
theorem zMg (n:Int)(w:World):(ReflectliteValue.unpack (.iface 52 (.int .i64 n))).run Tryz.prog w
  = .ok (.agg #[.pointer (some ⟨2,52,none⟩),.pointer (some ⟨w.heap.size,0,none⟩),.int .u64 130]) (w.alloc (.cells #[.int .i64 n] 52)):=by kernel_rfl
theorem zRa (a:Addr)(w:World):(ReflectliteValue.methodAny (ReflectliteValue.valueError "reflectlite.Value.Type" 0) (fun t _ _ _=>ReflectliteType.toType t) #[.agg #[.pointer (some ⟨2,103,none⟩),.pointer (some a),.int .u64 150]]).run Tryz.prog w
  = .ok (.iface 191 (.agg #[.pointer (some ⟨2,103,none⟩)])) w:=by kernel_rfl
theorem zRQ (h:Value)(w:World):(Go.method 202 191 (.agg #[h]) "Kind").run Tryz.prog w = .ok (186, h) w := by kernel_rfl
theorem zSS (h:Value)(w:World):(Go.method 202 191 (.agg #[h]) "Elem").run Tryz.prog w = .ok (198, .agg #[h]) w := by kernel_rfl
theorem zRR (h:Value)(w:World):(Go.method 202 191 (.agg #[h]) "Implements").run Tryz.prog w = .ok (199, .agg #[h]) w := by kernel_rfl
theorem zNT (h:Value)(w:World):(Go.method 202 191 (.agg #[h]) "AssignableTo").run Tryz.prog w = .ok (196, .agg #[h]) w := by kernel_rfl
theorem zSd (p:Value)(w:World):(Go.method 202 98 p "Unwrap").run Tryz.prog w = .ok (191, p) w := by kernel_rfl
theorem zPA (w:World):((ReflectliteType.abiMethod fun t=>(fun a:Nat=>Value.int IntKind.u8 (a:Int)) <$> Rtype.kind t) #[.pointer (some ⟨2,103,none⟩)]).run Tryz.prog w=.ok (.int .u8 22) w:=by kernel_rfl
theorem zRS (w:World):((ReflectliteType.abiMethod fun t=>(fun a:Nat=>Value.int IntKind.u8 (a:Int)) <$> Rtype.kind t) #[.pointer (some ⟨2,52,none⟩)]).run Tryz.prog w=.ok (.int .u8 2) w:=by kernel_rfl
theorem zQf (w:World):(ReflectliteType.method ReflectliteType.elem #[.agg #[.pointer (some ⟨2,103,none⟩)]]).run Tryz.prog w=.ok (.iface 191 (.agg #[.pointer (some ⟨2,52,none⟩)])) w:=by kernel_rfl
theorem zRm (w:World):(ReflectliteType.relation "Implements" ReflectliteType.implements_ #[.agg #[.pointer (some ⟨2,52,none⟩)],.iface 191 (.agg #[.pointer (some ⟨2,28,none⟩)])]).run Tryz.prog w=.ok (.bool true) w:=by kernel_rfl
theorem zOs (v:Value)(w:World):(ReflectliteType.typeOf #[.iface 98 v]).run Tryz.prog w=.ok (.iface 191 (.agg #[.pointer (some ⟨2,98,none⟩)])) w:=by kernel_rfl
theorem zOP (v:Value)(w:World):(ReflectliteType.typeOf #[.iface 52 v]).run Tryz.prog w=.ok (.iface 191 (.agg #[.pointer (some ⟨2,52,none⟩)])) w:=by kernel_rfl
theorem zT1 (w:World):(ReflectliteType.relation "AssignableTo" ReflectliteType.assignableTo #[.agg #[.pointer (some ⟨2,52,none⟩)],.iface 191 (.agg #[.pointer (some ⟨2,52,none⟩)])]).run Tryz.prog w=.ok (.bool true) w:=by kernel_rfl
theorem zT2 (w:World):(ReflectliteType.relation "AssignableTo" ReflectliteType.assignableTo #[.agg #[.pointer (some ⟨2,98,none⟩)],.iface 191 (.agg #[.pointer (some ⟨2,52,none⟩)])]).run Tryz.prog w=.ok (.bool false) w:=by kernel_rfl
theorem zS1 (v:Value)(w:World):(Instr.typeAssert (.iface 98 v) 28 196 true).run Tryz.prog w=.ok (.tuple #[.nilIface,.bool false]) w:=run_typeAssert_lacksB Tryz.underlying196 (by kernel_rfl) (by kernel_rfl) v _ w
theorem zUi (v:Value)(w:World):(Instr.typeAssert (.iface 98 v) 28 199 true).run Tryz.prog w=.ok (.tuple #[.iface 98 v,.bool true]) w:=run_typeAssert_hasB Tryz.underlying199 (by kernel_rfl) v _ w
theorem zIR (a:Addr)(w:World):(ReflectliteValue.parts (.agg #[.pointer (some ⟨2,103,none⟩),.pointer (some a),.int .u64 150])).run Tryz.prog w=.ok (some (103,a,150)) w:=by kernel_rfl
theorem zQt (a:Addr)(w:World):(ReflectliteValue.parts (.agg #[.pointer (some ⟨2,52,none⟩),.pointer (some a),.int .u64 130])).run Tryz.prog w=.ok (some (52,a,130)) w:=by kernel_rfl
theorem zOv (a:Addr)(w:World):(ReflectliteValue.parts (.agg #[.pointer (some ⟨2,52,none⟩),.pointer (some a),.int .u64 386])).run Tryz.prog w=.ok (some (52,a,386)) w:=by kernel_rfl
theorem zMw (w:World):(Rtype.elem? 103).run Tryz.prog w=.ok (some 52) w:=by kernel_rfl
theorem zUx (p:Addr)(w:World):(ReflectliteValue.mk 52 p ReflectliteValue.flagAddr).run Tryz.prog w=.ok (.agg #[.pointer (some ⟨2,52,none⟩),.pointer (some p),.int .u64 386]) w:=by kernel_rfl
theorem zNQ (w:World):(Rtype.directlyAssignable 52 52).run Tryz.prog w=.ok true w:=by kernel_rfl
theorem rlm (z:Sem Value)(f:TypeId→Addr→Nat→Nat→Sem Value)(v:Value) :
  ReflectliteValue.method z f #[v]=(do match ←ReflectliteValue.parts v with | none=>z | some (t,a,fl)=>f t a fl (fl % 32)):=rfl
theorem rls (v x:Value):ReflectliteValue.set #[v,x]=(do
  let (some (dst,a,fl),some (src,b,_)):=(←ReflectliteValue.parts v,←ReflectliteValue.parts x)
   | unsupported (.noEntry "extern/(internal/reflectlite.Value).Set.zeroValue")
  if fl / ReflectliteValue.flagAddr % 2==0 then unsupported (.noEntry "extern/(internal/reflectlite.Value).Set.unaddressable")
  let val ←loadVar src b
  if ←Rtype.directlyAssignable dst src then storeVar dst a val
  else if ←Rtype.implements dst src then
   if (←Rtype.kind src)==20 then
    match val with
    | .nilIface=>unsupported (.noEntry "extern/reflectlite: a nil value of one interface type handed on as a value of another")
    | _=>storeVar dst a val
   else storeVar dst a (.iface src val)
  else panicString ("reflectlite.Set: value of type " ++ (←Rtype.spelt src) ++ " is not assignable to type " ++ (←Rtype.spelt dst))
  pure (.tuple #[])):=rfl
theorem zOR (a p:Addr)(W:World)(ha:W.cell? a=some (.pointer (some p))) :
  (ReflectliteValue.method (ReflectliteValue.valueError "reflectlite.Value.IsNil" 0) ReflectliteValue.isNil #[.agg #[.pointer (some ⟨2,103,none⟩),.pointer (some a),.int .u64 150]]).run Tryz.prog W=.ok (.bool false) W:=by
 rw[rlm];simp only[Sem.run_bind,zIR,Result.andThen];simp[ReflectliteValue.isNil,loadVar,isAgg,underlying,Tryz.underlying103,ha,Result.andThen]
theorem zN2 (a p:Addr)(W:World)(ha:W.cell? a=some (.pointer (some p))) :
  (ReflectliteValue.method (ReflectliteValue.valueError "reflectlite.Value.Elem" 0) ReflectliteValue.elem #[.agg #[.pointer (some ⟨2,103,none⟩),.pointer (some a),.int .u64 150]]).run Tryz.prog W
   = .ok (.agg #[.pointer (some ⟨2,52,none⟩),.pointer (some p),.int .u64 386]) W:=by
 rw[rlm];simp only[Sem.run_bind,zIR,Result.andThen];simp[ReflectliteValue.elem,loadVar,isAgg,underlying,Tryz.underlying103,ha,Result.andThen,zMw,zUx]
theorem zTO (ta b:Addr)(n:Int)(old:Value)(W:World)(hb:W.cell? b=some (.int .i64 n))(ht:W.cell? ta=some old)(hf:W.frozen? ta=false) :
  (ReflectliteValue.set #[.agg #[.pointer (some ⟨2,52,none⟩),.pointer (some ta),.int .u64 386],.agg #[.pointer (some ⟨2,52,none⟩),.pointer (some b),.int .u64 130]]).run Tryz.prog W
   = .ok (.tuple #[]) (W.setCell ta (.int .i64 n)):=by
 rw[rls];simp only[Sem.run_bind,zOv,zQt,Result.andThen];simp[ReflectliteValue.flagAddr,loadVar,isAgg,underlying,Tryz.underlying52,hb,Result.andThen,zNQ,storeVar,Value.cells,storeCells,Addr.add];rw[run_store Tryz.prog W ta _ _ (by rfl)];simp[ht,hf]
inductive VK where
 | num (n:Int)
 | at_ (g:Nat) (a l c e:Int)
def VK.ty:VK→Nat
 | .num _=>52
 | .at_ ..=>98
def VK.dat:VK→Value
 | .num n=>.int .i64 n
 | .at_ g ..=>.pointer (some ⟨g,0,none⟩)
theorem VK.zUR (n:Int):(VK.num n).ty=52:=rfl
theorem VK.zVc (g:Nat)(a l c e:Int):(VK.at_ g a l c e).ty=98:=rfl
theorem VK.zTp (n:Int):(VK.num n).dat=.int .i64 n:=rfl
theorem VK.zUM (g:Nat)(a l c e:Int):(VK.at_ g a l c e).dat=.pointer (some ⟨g,0,none⟩):=rfl
def VK.val (x:VK):Value:=.iface x.ty x.dat
def VK.ok (w:World):VK→Prop
 | .num _=>True
 | .at_ g a l c e=>Blk w g 102 #[.int .i64 a,.int .i64 l,.int .i64 c,.int .i64 e]
def VK.code:VK→Int
 | .num n=>n
 | .at_ _ _ _ _ e=>e
def VK.spot:VK→Option Nat
 | .num _=>none
 | .at_ g ..=>some g
def VK.deep:VK→Nat
 | .num _=>0
 | .at_ ..=>1
theorem VK.zVh {g:Nat}{t:TypeId}{cs:Array Value}{w w':World}(hg:Blk w g t cs)(ht:t≠102)(h:Mod g w w'):∀ {x:VK},x.ok w→x.ok w'
 | .num _,_=>trivial
 | .at_ g' ..,hx=>h.blk hx (fun e=>by
   subst e;simp only[VK.ok,Blk] at hx;unfold Blk at hg;rw[hg] at hx;injection hx with hx;injection hx with _ hx
   exact ht hx)
theorem VK.zOF {w w':World}(h:Ext w w'):∀ {x:VK},x.ok w→x.ok w'
 | .num _,_=>trivial
 | .at_ ..,hx=>Blk.ext hx h
def GT (w:World):Prop:=w.cell? ⟨0,0,none⟩=some (.iface 191 (.agg #[.pointer (some ⟨2,28,none⟩)]))
theorem GT.lt {w:World}(h:GT w):0<w.heap.size:=by
 rcases Nat.eq_zero_or_pos w.heap.size with h0 | h1
 ·unfold GT at h; simp[World.cell?,h0] at h
 ·exact h1
theorem GT.ext {w w':World}(h:GT w)(hx:Ext w w'):GT w':=(hx.cell (p:=⟨0,0,none⟩) h.lt).trans h
theorem zMH (g:Nat)(a l c e:Int)(w:World)(h:Blk w g 102 #[.int .i64 a,.int .i64 l,.int .i64 c,.int .i64 e]) :
  Calls Tryz.prog 191 #[.pointer (some ⟨g,0,none⟩)] w fun ev w'=>ev=.returned (.iface 52 (.int .i64 e))∧w=w':=by
 have c3:=h.cell 3;clear h
 go_enter Tryz.func191,Tryz.ntmps191
 go_wp2_with fail
 go_ret;exact⟨rfl,rfl⟩
theorem zTX (v:VK)(w:World)(hv:v.ok w)(t a:Nat)(old:Int)(ha:a<w.heap.size)(hta:t≠a)(hac:w.cell? ⟨a,0,none⟩=some (.pointer (some ⟨t,0,none⟩)))(ht:Blk w t 52 #[.int .i64 old]) :
  Calls Tryz.prog 77 #[.iface v.ty v.dat,.iface 103 (.pointer (some ⟨t,0,none⟩)),.agg #[.pointer (some ⟨2,103,none⟩),.pointer (some ⟨a,0,none⟩),.int .u64 150],.iface 191 (.agg #[.pointer (some ⟨2,52,none⟩)])] w
   fun e w'=>e=.returned (.bool true)∧Mod t w w'∧Blk w' t 52 #[.int .i64 v.code]:=by
 have h47:=@run_callFunc_extern Tryz.prog 74 _ (fun args=>ReflectliteValue.unpack (args.getD 0 (.tuple #[]))) Tryz.func74 (by kernel_rfl) (by kernel_rfl) (by kernel_rfl) (by kernel_rfl);have h45:=@run_callFunc_extern Tryz.prog 110 _ ReflectliteType.typeOf Tryz.func110 (by kernel_rfl) (by kernel_rfl) (by kernel_rfl) (by kernel_rfl);have h107:=@run_callFunc_extern Tryz.prog 196 _ (ReflectliteType.relation "AssignableTo" ReflectliteType.assignableTo) Tryz.func196 (by kernel_rfl) (by kernel_rfl) (by kernel_rfl) (by kernel_rfl);have h61:=@run_callFunc_extern Tryz.prog 111 _ (ReflectliteValue.method (ReflectliteValue.valueError "reflectlite.Value.Elem" 0) ReflectliteValue.elem) Tryz.func111 (by kernel_rfl) (by kernel_rfl) (by kernel_rfl) (by kernel_rfl);have h62:=@run_callFunc_extern Tryz.prog 112 _ ReflectliteValue.set Tryz.func112 (by kernel_rfl) (by kernel_rfl) (by kernel_rfl) (by kernel_rfl);have mA:=zNT;have HV:=yG hv;have HT:=yG ht;have HAC:=yG hac;have htl:=ht.lt;have HX0:Hid (Ext w (w.alloc (.cells #[.pointer (some ⟨2,103,none⟩),.pointer (some ⟨a,0,none⟩),.int .u64 150] 153))):=yG (Ext.alloc _ _);have HB0:Hid (Blk (w.alloc (.cells #[.pointer (some ⟨2,103,none⟩),.pointer (some ⟨a,0,none⟩),.int .u64 150] 153)) w.heap.size 153 #[.pointer (some ⟨2,103,none⟩),.pointer (some ⟨a,0,none⟩),.int .u64 150]):=yG (Blk.new _ _ _);clear hv ht hac
 go_enter Tryz.func77,Tryz.ntmps77
 go_wp2_with fail
 generalize (w.alloc (.cells #[.pointer (some ⟨2,103,none⟩),.pointer (some ⟨a,0,none⟩),.int .u64 150] 153))=w0 at *;generalize hq:w.heap.size=q at *;have HQ:=yG hq;clear hq
 go_loopg [0] (v.deep) (fun gk u wr=>∃x:VK,x.deep=gk∧u=.iface x.ty x.dat∧Hid (x.ok wr∧x.code=v.code∧Ext w0 wr))
 case atStart=>exact⟨v,rfl,rfl,yG ⟨VK.zOF HX0.out HV.out,rfl,Ext.refl _⟩⟩
 case round=>
  obtain⟨x,rfl,rfl,HW⟩:=hrel;obtain⟨wa,rfl⟩:∃wa:World,wa=wr:=⟨_,rfl⟩;have HB:=yG (HB0.out.ext HW.out.2.2);have HTA:=yG ((HT.out.ext HX0.out).ext HW.out.2.2);have hac1:wa.cell? ⟨a,0,none⟩=some (.pointer (some ⟨t,0,none⟩)):=((HX0.out.trans HW.out.2.2).cell (p:=⟨a,0,none⟩) (by rw[HQ.out]; exact ha)).trans HAC.out;have hwz:w.heap.size≤wa.heap.size:=(HX0.out.trans HW.out.2.2).size;have b0:=HB.out.cell 0;have b1:=HB.out.cell 1;have b2:=HB.out.cell 2;have t0:=HTA.out.cell 0;have f0:=HTA.out.frozen 0
  cases x with
  | num n=>
   rw[VK.zUR,VK.zTp];have tO:=zOP;have aN:=zT1;have vO:=zMg;have el:=zN2 ⟨a,0,none⟩ ⟨t,0,none⟩ wa hac1;have st:=zTO ⟨t,0,none⟩ ⟨wa.heap.size,0,none⟩ n (.int .i64 old) (wa.alloc (.cells #[.int .i64 n] 52)) (by simp) (((HTA.out.alloc _).cell 0)) ((HTA.out.alloc _).frozen 0);have HC:Hid (n=v.code):=yG HW.out.2.1;have HM:Hid (Mod t w ((wa.alloc (.cells #[.int .i64 n] 52)).setCell ⟨t,0,none⟩ (.int .i64 n))):=yG ((((Mod.ZJ (HX0.out.trans HW.out.2.2) t)).alloc _).setCell 0 _);have HBT:Hid (Blk ((wa.alloc (.cells #[.int .i64 n] 52)).setCell ⟨t,0,none⟩ (.int .i64 n)) t 52 #[.int .i64 n]):=yG ((HTA.out.alloc _).put 0 _)
   go_wp2
   go_ret;rw[←HC.out];exact⟨rfl,HM.out,HBT.out⟩
  | at_ g pa pl pc pe=>
   rw[VK.zVc,VK.zUM];have tO:=zOs;have aN:=zT2;have nA:=zS1;have uE:=zUi;have mU:=zSd;have HE:=yG (zMH g pa pl pc pe wa HW.out.1)
   go_wp2_with (go_at_call 191; refine HE.out.mono ?_; rintro e' w' ⟨rfl,rfl⟩)
   go_roundg 0
   case measure=>exact Nat.zero_lt_one
   case rel=>exact⟨.num pe,rfl,rfl,yG ⟨trivial,HW.out.2.1,HW.out.2.2⟩⟩
theorem zTc (v:VK)(w:World)(hG:GT w)(hv:v.ok w)(old:Int)(t:Nat)(ht:Blk w t 52 #[.int .i64 old]) :
  Calls Tryz.prog 35 #[.iface v.ty v.dat,.iface 103 (.pointer (some ⟨t,0,none⟩))] w fun e w'=>e=.returned (.bool true)∧Mod t w w'∧Blk w' t 52 #[.int .i64 v.code]:=by
 have h47:=@run_callFunc_extern Tryz.prog 74 _ (fun args=>ReflectliteValue.unpack (args.getD 0 (.tuple #[]))) Tryz.func74 (by kernel_rfl) (by kernel_rfl) (by kernel_rfl) (by kernel_rfl);have h48:=@run_callFunc_extern Tryz.prog 75 _ (ReflectliteValue.methodAny (ReflectliteValue.valueError "reflectlite.Value.Type" 0) (fun t _ _ _=>ReflectliteType.toType t)) Tryz.func75 (by kernel_rfl) (by kernel_rfl) (by kernel_rfl) (by kernel_rfl);have h49:=@run_callFunc_extern Tryz.prog 76 _ (ReflectliteValue.method (ReflectliteValue.valueError "reflectlite.Value.IsNil" 0) ReflectliteValue.isNil) Tryz.func76 (by kernel_rfl) (by kernel_rfl) (by kernel_rfl) (by kernel_rfl);have h96:=@run_callFunc_extern Tryz.prog 186 _ (ReflectliteType.abiMethod fun t=>do pure (.int .u8 (←Rtype.kind t))) Tryz.func186 (by kernel_rfl) (by kernel_rfl) (by kernel_rfl) (by kernel_rfl);have h109:=@run_callFunc_extern Tryz.prog 198 _ (ReflectliteType.method ReflectliteType.elem) Tryz.func198 (by kernel_rfl) (by kernel_rfl) (by kernel_rfl) (by kernel_rfl);have h110:=@run_callFunc_extern Tryz.prog 199 _ (ReflectliteType.relation "Implements" ReflectliteType.implements_) Tryz.func199 (by kernel_rfl) (by kernel_rfl) (by kernel_rfl) (by kernel_rfl);have mK:=zRQ;have mE:=zSS;have mI:=zRR;have f6:=zLL;have f7:=zRa;have k27:=zPA;have k25:=zRS;have e27:=zQf;have i25:=zRm;have htl:=ht.lt
 have hx2:Ext w ((w.alloc (.cells #[.pointer (some ⟨t,0,none⟩)] 103)).alloc (.cells #[.pointer (some ⟨2,103,none⟩),.pointer (some ⟨w.heap.size,0,none⟩),.int .u64 150] 153)):=(Ext.alloc _ _).trans (Ext.alloc _ _)
 have hac2:((w.alloc (.cells #[.pointer (some ⟨t,0,none⟩)] 103)).alloc (.cells #[.pointer (some ⟨2,103,none⟩),.pointer (some ⟨w.heap.size,0,none⟩),.int .u64 150] 153)).cell? ⟨w.heap.size,0,none⟩=some (.pointer (some ⟨t,0,none⟩)):=by
  have h:=((Blk.new w 103 #[.pointer (some ⟨t,0,none⟩)]).alloc (.cells #[.pointer (some ⟨2,103,none⟩),.pointer (some ⟨w.heap.size,0,none⟩),.int .u64 150] 153)).cell 0;exact h
 have HX2:=yG hx2;have HC:=yG (zTX v ((w.alloc (.cells #[.pointer (some ⟨t,0,none⟩)] 103)).alloc (.cells #[.pointer (some ⟨2,103,none⟩),.pointer (some ⟨w.heap.size,0,none⟩),.int .u64 150] 153)) (VK.zOF hx2 hv) t w.heap.size old (by simp; omega) (by omega) hac2 (ht.ext hx2));have hg2:((w.alloc (.cells #[.pointer (some ⟨t,0,none⟩)] 103)).alloc (.cells #[.pointer (some ⟨2,103,none⟩),.pointer (some ⟨w.heap.size,0,none⟩),.int .u64 150] 153)).cell? ⟨0,0,none⟩=some (.iface 191 (.agg #[.pointer (some ⟨2,28,none⟩)])):=hG.ext hx2;have n8:=zOR ⟨w.heap.size,0,none⟩ ⟨t,0,none⟩ ((w.alloc (.cells #[.pointer (some ⟨t,0,none⟩)] 103)).alloc (.cells #[.pointer (some ⟨2,103,none⟩),.pointer (some ⟨w.heap.size,0,none⟩),.int .u64 150] 153)) hac2;have hg0:=hG;unfold GT at hg0;obtain⟨vt,hvt⟩:∃vt,v.ty=vt:=⟨_,rfl⟩;obtain⟨vd,hvd⟩:∃vd,v.dat=vd:=⟨_,rfl⟩;rw[hvt,hvd] at HC ⊢;clear hvt hvd hx2 hac2 hG hv ht
 go_enter Tryz.func35,Tryz.ntmps35
 go_wp2_with (go_at_call 77; refine HC.out.mono ?_; rintro e w' ⟨rfl,hm,hb⟩)
 go_ret;exact⟨rfl,(Mod.ZJ HX2.out t).trans hm,hb⟩
end Go.Proofs.YtbadjmmjbpeocaaGreatDoor
namespace Go.Proofs.YtbadjmmjbpeocaaGreatDoor
open Go.ChangeShapes Go.WideShapes Go.RowKit
def zGE:List (String × DataW Unit):=[("errors.errorType", Rows.laid_errors_errorType)]
theorem zTQ:Tryz.prog.globalNamed "errors.errorType" = some 0:=by kernel_rfl
theorem zTi:(Tryz.prog.cutTypes.find? (·.1 == "internal/reflectlite.rtype")).map (·.2) = some 191 := by kernel_rfl
theorem zMi:((List.range 257).filter fun t=>Tryz.prog.rowNamed t [101,114,114,111,114])=[28]:=by kernel_rfl
theorem zPN:Tryz.prog.types.size=257:=by kernel_rfl
theorem zOn {W:World}(h:laidMetH Tryz.prog zGE W):GT W:=by
 have h':laidMet Tryz.prog [] W∧handlesMet Tryz.prog zGE W:=h;obtain⟨name,u,ty,e1,e2,e3,e4,e5⟩:=h'.2 _ (List.mem_singleton.2 rfl);have en:name=[101,114,114,111,114]:=(Option.some.inj e1).symm;subst en;obtain rfl:=Option.some.inj (zTi.symm.trans e2);have hm:ty ∈ (List.range 257).filter fun t=>Tryz.prog.rowNamed t [101,114,114,111,114]:=List.mem_filter.2 ⟨List.mem_range.2 (by rw[←zPN]; exact e3),e4⟩;rw[zMi] at hm;obtain rfl:=List.mem_singleton.1 hm
 have hh:typeHandle Tryz.prog 28=.pointer (some ⟨2,28,none⟩):=by kernel_rfl
 rw[hh] at e5;unfold GT
 simpa using World.var?_cell zTQ e5 0
noncomputable def zKH (os:Os):World:=
 let w0:=World.holding Tryz.prog os ⟨#[],#[],[]⟩
 { w0 with heap:=w0.heap.modify 0 fun
   | .cells _ t frozen=>.cells #[.iface 191 (.agg #[.pointer (some ⟨2,28,none⟩)])] t frozen
   | o=>o }
theorem zJH (os:Os)(args:Array Value):laidMetH Tryz.prog zGE ((zKH os).forCall (fun _ _=>0) ⟨#[],args,[]⟩).memory:=
 laidMetH_of_parts (laidMet_nil _ _) (by kernel_rfl)
end Go.Proofs.YtbadjmmjbpeocaaGreatDoor
