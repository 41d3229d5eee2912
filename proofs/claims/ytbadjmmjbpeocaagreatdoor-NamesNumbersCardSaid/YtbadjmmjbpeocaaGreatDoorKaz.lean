/- The program's Resolve: the function it defers. (and what follows of it). The conditions stand at each lemma. -/
import Derived.Test.YtbadjmmjbpeocaaGreatDoorKaa
import Derived.Test.YtbadjmmjbpeocaaGreatDoorKay
import Derived.Test.YtbadjmmjbpeocaaGreatDoorKaq
import Derived.Recover
import Derived.Defers
import Derived.Test.YtbadjmmjbpeocaaGreatDoorKau
import Derived.Deep.QuietTactic
import Derived.BigQuiet
import Derived.Deep.Cut
import Derived.Test.YtbadjmmjbpeocaaGreatDoorKac
set_option linter.unusedVariables false
set_option linter.unusedSimpArgs false
set_option maxRecDepth 100000
set_option maxHeartbeats 16000000
namespace Go.Proofs.YtbadjmmjbpeocaaGreatDoor
open Go Go.RowKit
theorem zJD (v:Value)(w:World):(Instr.typeAssert (.iface 88 v) 20 88 false).run Tryz.prog w=.ok v w:=by kernel_rfl
def zAE:Array Value:=#[.slice none 0 0,.slice none 0 0,.slice none 0 0,.slice none 0 0]
theorem zLb (w:World)(gs gt ge:Nat)(l:Bs)(A:Option Addr)(c:Nat)(at_ er:Int)(old:Array Value)(hat1:-9223372036854775808≤at_)(hat2:at_≤9223372036854775807)(her:er≠0)(hbig:l.length≤140737488355328)(hcap:l.length≤c)(hC:Cells w A (vB l))
  (hs:Blk w gs 22 #[.slice A l.length c]) (ht:Blk w gt 35 old) (hold:old.size=4) (he:Blk w ge 28 #[.nilIface]) (hne:gt≠ge) :
  CallsD Tryz.prog 27 #[.pointer (some ⟨gs,0,none⟩),.pointer (some ⟨gt,0,none⟩),.pointer (some ⟨ge,0,none⟩)] (.panicking ({ v:=.iface 88 (.agg #[.int .i64 at_,.int .i64 er]),recovered:=false } :: [])) w fun e u' w'=>
   e=.returned (.tuple #[])∧u'=.panicking ({ v:=.iface 88 (.agg #[.int .i64 at_,.int .i64 er]),recovered:=true } :: [])∧∃g w1 w2,Ext w w1∧w.heap.size≤g∧Blk w1 g 102 #[.int .i64 (atN at_ l.length:Int),.int .i64 (zE5 l (atN at_ l.length)),.int .i64 (zJG l (atN at_ l.length)),.int .i64 er]∧Touch gt w1 w2∧Blk w2 gt 35 zAE∧w'=w2.setCell ⟨ge,0,none⟩ (.iface 98 (.pointer (some ⟨g,0,none⟩))):=by
 have HC:=yG hC;have HS:=yG hs;have HTR:=yG ht;have HOLD:=yG hold;have HER:=yG he;have HNE:=yG hne;have HN:=yG her;have HBG:=yG hbig;have HCP:=yG hcap;have HA1:=yG hat1;have HA2:=yG hat2;have hta:=zJD;clear hC hs ht he her hbig hcap hold hne hat1 hat2;refine callsD_of_wpS Tryz.func27 rfl fun c₀ cs hu=>?_;apply wpS_seq;apply wpS_region;simp[wpOpsS,go_sem,recoverD,hu,Tryz.ntmps27,Exit.thenS];refine wpS_of_wp ?_;simp[Array.replicate]
 go_upto_region 3 with fail
 obtain⟨W,HW⟩:∃W,Hid (w.alloc (.cells #[.int .i64 at_,.int .i64 er] 88)=W):=⟨_,yG rfl⟩;have HX:Hid (Ext w W):=yG (by rw[←HW.out]; exact Ext.alloc _ _);have HB:Hid (Blk W w.heap.size 88 #[.int .i64 at_,.int .i64 er]):=yG (by rw[←HW.out]; exact Blk.new _ _ _);rw[HW.out];obtain⟨b4,HB4⟩:∃b4,Hid (w.heap.size=b4):=⟨_,yG rfl⟩;rw[HB4.out] at HB ⊢;have cs0:W.cell? ⟨gs,0,none⟩=some (.slice A l.length c):=(HS.out.ext HX.out).cell 0;have cw0:W.cell? ⟨b4,0,none⟩=some (.int .i64 at_):=HB.out.cell 0;have cw1:W.cell? ⟨b4,1,none⟩=some (.int .i64 er):=HB.out.cell 1;clear HW hta
 go_wp2_with fail
 refine(zIC A l l.length c at_ er W rfl HBG.out HCP.out HA1.out HA2.out (HC.out.ext HX.out) HN.out).mono ?_;rintro e w1 ⟨g,rfl,hg,hb,hx⟩;have HX1:=yG (HX.out.trans hx);have HB1:=yG hb;have HG1:=yG (Nat.le_trans HX.out.size hg);clear hg hb hx cs0 cw0 cw1
 go_wp2_with (refine vK rfl 35 (.tmp 1) (.tmp 10) rfl gt zAE rfl rfl 35 old (HTR.out.ext HX1.out) (by kernel_rfl) HOLD.out rfl ?_)
 intro w2 ht2 hb2;have HT2:=yG ht2;have HP2:=yG hb2;have hE2:=ht2.blk (HER.out.ext HX1.out) (fun e=>HNE.out e.symm);have ce:w2.cell? ⟨ge,0,none⟩=some .nilIface:=hE2.cell 0;have ze:=hE2.frozen 0;clear ht2 hb2 hE2
 go_wp2_with fail
 simp[bodyPostS,results,Tryz.results27];exact⟨g,w1,HX1.out,HG1.out,HB1.out,w2,HT2.out,HP2.out,rfl⟩
theorem zG5 (w:World)(args:Array Value)(h4:args.size=3) :
  CallsD Tryz.prog 27 args .returning w fun e u' w'=>e=.returned (.tuple #[])∧u'=.returning∧w'=w:=by
 refine callsD_of_wpS Tryz.func27 rfl fun c₀ cs hu=>?_;obtain⟨l,rfl⟩:∃l:List Value,args=l.toArray:=⟨args.toList,by simp⟩
 obtain⟨a,b,c,rfl⟩:∃a b c,l=[a,b,c]:=by
  match l,h4 with
  | [a,b,c],_=>exact⟨a,b,c,rfl⟩
 apply wpS_seq;apply wpS_region;simp[wpOpsS,go_sem,recoverD,hu,Tryz.ntmps27,Exit.thenS];refine wpS_of_wp ?_;simp[Array.replicate]
 go_wp2_with fail
 cases c₀
 simp_all [bodyPostS,results,Tryz.results27]
end Go.Proofs.YtbadjmmjbpeocaaGreatDoor
namespace Go.Proofs.YtbadjmmjbpeocaaGreatDoor
open Go Go.RowKit TT
def zK2 (x:xR):Tx:=(⟨x.kind.toNat,x.pos.toNat,x.text.data.toList,x.num,x.kids.map Int.toNat⟩,x.pos,x.kA,x.kc)
def txM (l:List xR):List Tx:=l.map zK2
theorem JR (l:List xR):(txM l).length=l.length:=by simp[txM]
structure zGW (x:xR):Prop where
 kind:0≤x.kind
 kids:∀k ∈ x.kids,1≤k
 text:x.text.size≤maxLen
theorem zHh {l:List Int}(h:∀k ∈ l,1≤k):TT.jP l=ints (l.map Int.toNat):=by
 unfold TT.jP ints;rw[List.map_map];apply List.map_congr_left;intro k hk
 have:=h k hk
 simp only[Function.comp];rw[Int.toNat_of_nonneg (by omega)]
theorem zT6 (t:ByteArray):xI t.data.toList=t:=by cases t; rfl
theorem zRL {x:xR}(h:zGW x):zIO (zK2 x)=x.cells:=by
 unfold zIO zK2 xR.cells;simp only[zT6,yQ];rw[Int.toNat_of_nonneg h.kind]
theorem zUH {l:List xR}(h:∀x ∈ l,zGW x):tcs (txM l)=YJ l:=by
 unfold tcs txM YJ
 induction l with
 | nil=>rfl
 | cons x l ih=>rw[List.map_cons,List.flatMap_cons,List.flatMap_cons,zRL (h x (by simp)),ih fun y hy=>h y (by simp[hy])]
theorem zF9 {w:World}{B:Nat}{t:TypeId}{s n c m:Nat}{A:Option Addr}{xs:List Value}(h:w.ownsRow B t s (.slice A m c) n xs)(hn:xs≠[]):∃b,A=some ⟨b,0,none⟩∧B≤b∧∃cur,Blk w b t cur:=by
 rcases h.2 with ⟨hv,h0⟩ | ⟨g,cap,cur,hv,hb,hh,_⟩
 ·exfalso
  have:=h.1
  rw[h0,Nat.zero_mul] at this;exact hn (List.eq_nil_of_length_eq_zero this)
 ·injection hv with h1;exact⟨g,h1,hb,cur,hh⟩
theorem zDp.tree {N:Nat}{w:World}{g c:Nat}{l l':List xR}(h:zDp N w g c l l' l.length)(hl:0<l.length)(hn:∀x ∈ l',zGW x){M:Nat→Prop}(h1:∀b cur,M b→Blk w b 39 cur→False)(h2:∀b cur,M b→Blk w b 3 cur→∀(j:Nat) (v:Value),cur[j]?=some v→v=Value.int .i64 0):zAT w M (some ⟨g,0,none⟩) (txM l'):=by
 have hkid:∀x ∈ l',w.ownsRow N 3 1 (.slice x.kA x.kids.length x.kc) x.kids.length (TT.jP x.kids):=fun x hx=>by
  obtain⟨i,hi,rfl⟩:=List.getElem_of_mem hx;exact h.done i hi (by rw[←h.len]; exact hi)
 refine⟨?_,fun y hy=>?_,fun y hy=>?_,fun y hy=>?_⟩
 ·rw[zUH hn]
  have hne:YJ l'≠[]:=fun e=>by
   have:=congrArg List.length e
   rw[zBE,h.len] at this
   simp at this
   omega
  rcases Cells.own h.row with hc | ⟨b,off,e1,e2,e3⟩
  ·exact absurd hc hne
  ·refine .inr ⟨b,off,e1,e2,fun hm=>?_,e3⟩;injection e1 with e1;injection e1 with e1;subst e1;obtain⟨cur,hcur⟩:=xY h.row rfl;exact h1 _ _ hm hcur
 ·obtain⟨x,hx,rfl⟩:=List.mem_map.1 hy
  show XE w M x.kA (ints (x.kids.map Int.toNat))
  rw[←zHh (hn x hx).kids]
  rcases Cells.own (hkid x hx) with hc | ⟨b,off,e1,e2,e3⟩
  ·exact .inl hc
  ·by_cases hk:TT.jP x.kids=[]
   ·exact .inl hk
   ·refine .inr ⟨b,off,e1,e2,fun hm=>?_,e3⟩;obtain⟨b',e4,_,cur,hcur⟩:=zF9 (hkid x hx) hk;rw[e1] at e4;injection e4 with e4;injection e4 with e4 e5;subst e4;subst e5
    have hlen:0<x.kids.length:=by
     rcases Nat.eq_zero_or_pos x.kids.length with h0 | h0
     ·exact absurd (by rw[List.eq_nil_of_length_eq_zero h0]; rfl) hk
     ·exact h0
    have hc0:=e3 0 (by rw[TT.zBt]; exact hlen);rw[TT.zKu x.kids 0 hlen] at hc0;have hcur0:=hcur.cell 0;rw[show(⟨b,0+0,none⟩:Addr)=⟨b,0,none⟩ from rfl] at hc0;rw[hc0] at hcur0
    have:=h2 b cur hm hcur 0 _ hcur0.symm
    injection this with _ this
    have:=(hn x hx).kids x.kids[0] (yO hlen)
    omega
 ·obtain⟨x,hx,rfl⟩:=List.mem_map.1 hy
  have:=(hn x hx).text
  show x.text.data.toList.length≤maxLen
  rw[Array.length_toList];exact this
 ·obtain⟨x,hx,rfl⟩:=List.mem_map.1 hy
  show(x.kids.map Int.toNat).length≤x.kc
  rw[yQ]
  have:=hkid x hx
  rcases this.2 with ⟨hv,h0⟩ | ⟨g,cap,cur,hv,_,_,hle,_⟩
  ·omega
  ·injection hv with _ _ e;omega
theorem zDp.zS4 {N:Nat}{w:World}{g c k:Nat}{l l':List xR}(h:zDp N w g c l l' k):tN (txM l')=tN (txM l)∧∀i,YY (txM l') i=YY (txM l) i:=by
 have hs:=h.same;have hl:=h.len
 constructor
 ·apply List.ext_getElem
  ·simp[tN,txM,hl]
  ·intro i h1 h2
   have h3:i<l'.length:=by simpa [tN,txM] using h1
   obtain⟨a,b,c,d,e⟩:=hs i (by omega) h3;simp[tN,txM,zK2,a,b,c,d,e]
 ·intro i;unfold YY txM;rw[zN,zN]
  by_cases h3:i<l'.length
  ·obtain⟨a,b,c,d,e⟩:=hs i (by omega) h3;rw[yJ h3,yJ (show i<l.length by omega)];simp[zK2,b]
  ·rw[zM (by omega),zM (by omega)]
end Go.Proofs.YtbadjmmjbpeocaaGreatDoor
namespace Go.Proofs.YtbadjmmjbpeocaaGreatDoor.TT
def VD (k:Int):Bool:=decide (21≤k)&&decide (k≤26)
def zAL (k:Int):Bool:=decide (7≤k)&&decide (k≤19)
def zBM (k:Int):Bool:=k==2||k==3
inductive vR where
 | ZL (k:Int)
 | expr
 | stmt
 | part
def vR.holds:vR→Int→Bool
 | .ZL j,k=>k==j
 | .expr,k=>VD k
 | .stmt,k=>zAL k
 | .part,k=>zBM k
structure vQ where
 kids:List vR
 more:Option vR
 named:Bool
 most:Int
def XW (k:Int):List vQ:=
 if k=1 then [⟨[],some .part,false,0⟩]
 else if k=2 then [⟨[.ZL 5],some (.ZL 5),true,0⟩]
 else if k=3 then [⟨[.ZL 4,.ZL 6],none,true,1⟩]
 else if k=4 then [⟨[],some (.ZL 5),false,0⟩]
 else if k=5 then [⟨[],none,true,0⟩]
 else if k=6 then [⟨[],some .stmt,false,0⟩]
 else if k=7 then [⟨[.ZL 20,.ZL 5],none,true,1⟩]
 else if k=8 then [⟨[.ZL 20,.ZL 5,.expr],none,false,0⟩]
 else if k=9 then [⟨[.ZL 20,.expr],some .expr,false,0⟩]
 else if k=10 then [⟨[.ZL 20],none,false,0⟩]
 else if k=11 then [⟨[.ZL 5,.ZL 5],none,true,0⟩]
 else if k=12 then [⟨[.ZL 5],none,false,1⟩]
 else if k=13 then [⟨[.ZL 5],none,false,0⟩,⟨[.ZL 20],none,false,0⟩]
 else if k=14 then [⟨[.expr,.expr,.ZL 6],none,false,1⟩,⟨[.expr,.expr,.ZL 6,.ZL 6],none,false,1⟩]
 else if k=15 then [⟨[.ZL 21,.ZL 21,.ZL 6],none,true,0⟩]
 else if k=16 then [⟨[.expr],none,true,0⟩]
 else if k=17 then [⟨[.expr],none,false,0⟩]
 else if k=18 then [⟨[],none,false,0⟩]
 else if k=19 then [⟨[],none,false,0⟩]
 else if k=20 then [⟨[.expr],none,true,0⟩]
 else if k=21 then [⟨[],none,false,2147483647⟩]
 else if k=22 then [⟨[],none,true,0⟩]
 else if k=23 then [⟨[.expr,.expr],none,false,0⟩]
 else if k=24 then [⟨[.expr,.expr],none,false,0⟩]
 else if k=25 then [⟨[.expr,.expr],none,false,0⟩]
 else if k=26 then [⟨[.expr],none,false,0⟩]
 else []
def vQ.want (f:vQ)(i:Nat):Option vR:=if i<f.kids.length then f.kids[i]? else f.more
def vI (p:Option vR)(k:Int):Bool:=match p with | none=>false | some p=>p.holds k
def vQ.fits (f:vQ)(l:List Int):Bool:=
 if l.length<f.kids.length∨(f.kids.length<l.length∧f.more.isNone=true) then false
 else (List.range l.length).all fun i=>vI (f.want i) (l.getD i 0)
def JA (c:Int):Bool:=decide (97≤c)&&decide (c≤122)
def ZT (c:Int):Bool:=decide (48≤c)&&decide (c≤57)
def zDT (c:Int):Bool:=JA c||(ZT c||c==95)
def VQ (l:List UInt8):Bool:=match l with
 | []=>false
 | c::r=>JA (c.toNat:Int)&&r.all fun c=>zDT (c.toNat:Int)
def YD (f:vQ)(num:Int)(text:List UInt8)(l:List Int):Bool:=
 f.fits l&&(decide (0≤num)&&(decide (num≤f.most)&&((f.named&&VQ text)||(!f.named&&text.isEmpty))))
def zAz (kind num:Int)(text:List UInt8)(l:List Int):Bool:=(XW kind).any fun f=>YD f num text l
def zGQ (what x:Int):Bool:=if what=0 then VD x else if what=1 then zAL x else x==what
def zB1 (l:List Int)(frm:Nat)(what:Int):Bool:=(l.drop frm).all (zGQ what)
def jG (w x:Int):Bool:=if w=0 then VD x else x==w
def isR (l want:List Int):Bool:=l.length==want.length&&(List.range l.length).all fun i=>jG (want.getD i 0) (l.getD i 0)
def jU (kind:Int)(l:List Int):Bool:=
 if kind=1 then l.all zBM
 else if kind=2 then decide (0<l.length)&&zB1 l 0 5
 else if kind=3 then isR l [4,6]
 else if kind=4 then zB1 l 0 5
 else if kind=6 then zB1 l 0 1
 else if kind=7 then isR l [20,5]
 else if kind=8 then isR l [20,5,0]
 else if kind=9 then decide (1<l.length)&&(l.getD 0 0==20&&zB1 l 1 0)
 else if kind=10 then isR l [20]
 else if kind=11 then isR l [5,5]
 else if kind=12 then isR l [5]
 else if kind=13 then isR l [5]||isR l [20]
 else if kind=14 then isR l [0,0,6]||isR l [0,0,6,6]
 else if kind=15 then isR l [21,21,6]
 else if kind=16∨kind=17∨kind=20∨kind=26 then isR l [0]
 else if kind=23∨kind=24∨kind=25 then isR l [0,0]
 else l.length==0
def zJw (k:Int):Bool:=k==2||(k==3||(k==5||(k==7||(k==11||(k==15||(k==16||(k==20||k==22)))))))
def zF5 (k:Int):Int:=if k=3∨k=7∨k=12∨k=14 then 1 else if k=21 then 2147483647 else 0
def zFy (kind num:Int)(text:List UInt8):Bool:=(zJw kind==VQ text)&&((zJw kind||text.isEmpty)&&(decide (0≤num)&&decide (num≤zF5 kind)))
theorem zAw (f:Int→Bool)(l:List Int):((List.range l.length).all fun i=>f (l.getD i 0))=l.all f:=by
 induction l with
 | nil=>rfl
 | cons x l ih=>
  rw[zK,List.range_succ_eq_map,List.all_cons,List.all_map,List.all_cons]
  congr 1
theorem xO (ps:List vR)(ws:List Int)(named:Bool)(most:Int)(hl:ps.length=ws.length)(h:∀i,i<ws.length→∀x,vI ps[i]? x=jG (ws.getD i 0) x)(l:List Int) :
  (vQ.mk ps none named most).fits l=isR l ws:=by
 unfold vQ.fits isR;simp only[Option.isNone_none,and_true]
 by_cases hlen:l.length=ws.length
 ·rw[if_neg (by omega),hlen];simp only[beq_self_eq_true,Bool.true_and];rw[Bool.eq_iff_iff];simp only[zH,List.mem_range]
  constructor
  ·intro hh i hi
   have:=hh i hi
   unfold vQ.want at this
   simp only at this
   rw[if_pos (by omega),h i hi] at this;exact this
  ·intro hh i hi
   have:=hh i hi
   unfold vQ.want
   simp only
   rw[if_pos (by omega),h i hi];exact this
 ·rw[if_pos (by omega)];simp[hlen]
theorem zBm (p:vR)(named:Bool)(most:Int)(l:List Int):(vQ.mk [] (some p) named most).fits l=l.all p.holds:=by
 unfold vQ.fits;rw[if_neg (by simp)];unfold vQ.want vI;simp only[zL,Nat.not_lt_zero,if_false];exact zAw p.holds l
theorem zGG (q p:vR)(named:Bool)(most:Int)(l:List Int):(vQ.mk [q] (some p) named most).fits l=(decide (0<l.length)&&(q.holds (l.getD 0 0)&&(l.drop 1).all p.holds)):=by
 unfold vQ.fits
 cases l with
 | nil=>simp
 | cons x l=>
  rw[if_neg (by simp)];rw[zK,List.range_succ_eq_map,List.all_cons,List.all_map];simp only[vQ.want,vI,zK,zL]
  simp
  congr 1
  rw[←zAw p.holds l];simp[Function.comp_def,yH]
theorem zFo (q r p:vR)(named:Bool)(most:Int)(l:List Int):(vQ.mk [q,r] (some p) named most).fits l=(decide (1<l.length)&&(q.holds (l.getD 0 0)&&(r.holds (l.getD 1 0)&&(l.drop 2).all p.holds))):=by
 unfold vQ.fits
 match l with
 | []=>simp
 | [x]=>simp
 | x::y::l=>
  rw[if_neg (by simp)];rw[zK,List.range_succ_eq_map,List.all_cons,List.all_map,zK,List.range_succ_eq_map,List.all_cons,List.all_map];simp only[vQ.want,vI,zK,zL]
  simp
  congr 2
  rw[←zAw p.holds l];simp[Function.comp_def,yH,show ∀x:Nat,¬(x+1+1<2) from fun x=>by omega]
theorem zDO {t:List UInt8}(h:VQ t=true):t.isEmpty=false:=by
 cases t with
 | nil=>cases h
 | cons c r=>rfl
theorem zCz (kind num:Int)(text:List UInt8)(F:Bool)(named:Bool)(most:Int)(hn:zJw kind=named)(hm:zF5 kind=most) :
  (F&&(decide (0≤num)&&(decide (num≤most)&&((named&&VQ text)||(!named&&text.isEmpty)))))=(zFy kind num text&&F):=by
 unfold zFy;rw[hn,hm]
 cases hI:VQ text
 ·cases named <;> cases F <;> cases text.isEmpty <;> cases decide (0≤num) <;> cases decide (num≤most) <;> rfl
 ·rw[zDO hI]
  cases named <;> cases F <;> cases decide (0≤num) <;> cases decide (num≤most) <;> rfl
theorem xW (kind num:Int)(text:List UInt8)(l:List Int)(ps:List vR)(more:Option vR)(named:Bool)(most:Int)(hf:XW kind=[⟨ps,more,named,most⟩])(hn:zJw kind=named)(hm:zF5 kind=most)(hk:(vQ.mk ps more named most).fits l=jU kind l) :
  zAz kind num text l=(zFy kind num text&&jU kind l):=by
 unfold zAz;rw[hf,←zCz kind num text _ named most hn hm,←hk];simp[YD]
theorem zEC (kind num:Int)(text:List UInt8)(l:List Int)(ps qs:List vR)(most:Int)(hf:XW kind=[⟨ps,none,false,most⟩,⟨qs,none,false,most⟩])(hn:zJw kind=false)(hm:zF5 kind=most)(hk:((vQ.mk ps none false most).fits l||(vQ.mk qs none false most).fits l)=jU kind l) :
  zAz kind num text l=(zFy kind num text&&jU kind l):=by
 unfold zAz;rw[hf,←zCz kind num text _ false most hn hm,←hk];simp only[List.any_cons,List.any_nil,Bool.or_false,YD];rw[Bool.and_or_distrib_right]
theorem vJ (w:Int)(hw:w≠0)(x:Int):vI (some (.ZL w)) x=jG w x:=by
 unfold vI vR.holds jG;rw[if_neg hw]
theorem vZ (x:Int):vI (some .expr) x=jG 0 x:=rfl
theorem ex1 (p:vR)(w:Int)(h:∀x,vI (some p) x=jG w x):∀i,i < [w].length→∀x,vI [p][i]? x=jG ([w].getD i 0) x:=by
 intro i hi x
 match i,hi with
 | 0,_=>exact h x
theorem ex2 (p q:vR)(w v:Int)(h:∀x,vI (some p) x=jG w x)(h2:∀x,vI (some q) x=jG v x):∀i,i < [w,v].length→∀x,vI [p,q][i]? x=jG ([w,v].getD i 0) x:=by
 intro i hi x
 match i,hi with
 | 0,_=>exact h x
 | 1,_=>exact h2 x
theorem ex3 (p q r:vR)(w v u:Int)(h:∀x,vI (some p) x=jG w x)(h2:∀x,vI (some q) x=jG v x)(h3:∀x,vI (some r) x=jG u x):∀i,i < [w,v,u].length→∀x,vI [p,q,r][i]? x=jG ([w,v,u].getD i 0) x:=by
 intro i hi x
 match i,hi with
 | 0,_=>exact h x
 | 1,_=>exact h2 x
 | 2,_=>exact h3 x
theorem ex4 (p q r s:vR)(w v u t:Int)(h:∀x,vI (some p) x=jG w x)(h2:∀x,vI (some q) x=jG v x)(h3:∀x,vI (some r) x=jG u x)(h4:∀x,vI (some s) x=jG t x):∀i,i < [w,v,u,t].length→∀x,vI [p,q,r,s][i]? x=jG ([w,v,u,t].getD i 0) x:=by
 intro i hi x
 match i,hi with
 | 0,_=>exact h x
 | 1,_=>exact h2 x
 | 2,_=>exact h3 x
 | 3,_=>exact h4 x
theorem ex0:∀i,i<([]:List Int).length→∀x,vI ([]:List vR)[i]? x=jG (([]:List Int).getD i 0) x:=by
 intro i hi
 simp at hi
theorem zAP (l:List Int):isR l []=(l.length==0):=by
 cases l <;> simp[isR]
theorem zMZ (kind num:Int)(text:List UInt8)(l:List Int):zAz kind num text l=(decide (1≤kind)&&(decide (kind≤26)&&(zFy kind num text&&jU kind l))):=by
 by_cases hk:1≤kind∧kind≤26
 ·rw[yS hk.1,yS hk.2,Bool.true_and,Bool.true_and]
  have hc:kind=1∨kind=2∨kind=3∨kind=4∨kind=5∨kind=6∨kind=7∨kind=8∨kind=9∨kind=10∨kind=11∨kind=12∨kind=13∨kind=14∨kind=15∨kind=16∨kind=17∨kind=18∨kind=19∨kind=20∨kind=21∨kind=22∨kind=23∨kind=24∨kind=25∨kind=26:=by omega
  rcases hc with rfl | rfl | rfl | rfl | rfl | rfl | rfl | rfl | rfl | rfl | rfl | rfl | rfl | rfl | rfl | rfl | rfl | rfl | rfl | rfl | rfl | rfl | rfl | rfl | rfl | rfl
  ·exact xW _ _ _ _ _ _ _ _ rfl rfl rfl (zBm _ _ _ _)
  ·refine xW _ _ _ _ _ _ _ _ rfl rfl rfl ((zGG _ _ _ _ _).trans ?_)
   show _=(decide (0<l.length)&&zB1 l 0 5)
   cases l <;> rfl
  ·exact xW _ _ _ _ _ _ _ _ rfl rfl rfl (xO _ _ _ _ rfl (ex2 _ _ _ _ (vJ 4 (by decide)) (vJ 6 (by decide))) l)
  ·exact xW _ _ _ _ _ _ _ _ rfl rfl rfl (zBm _ _ _ _)
  ·exact xW _ _ _ _ _ _ _ _ rfl rfl rfl ((xO [] [] _ _ rfl ex0 l).trans (zAP l))
  ·exact xW _ _ _ _ _ _ _ _ rfl rfl rfl (zBm _ _ _ _)
  ·exact xW _ _ _ _ _ _ _ _ rfl rfl rfl (xO _ _ _ _ rfl (ex2 _ _ _ _ (vJ 20 (by decide)) (vJ 5 (by decide))) l)
  ·exact xW _ _ _ _ _ _ _ _ rfl rfl rfl (xO _ _ _ _ rfl (ex3 _ _ _ _ _ _ (vJ 20 (by decide)) (vJ 5 (by decide)) vZ) l)
  ·refine xW _ _ _ _ _ _ _ _ rfl rfl rfl ((zFo _ _ _ _ _ _).trans ?_)
   show _=(decide (1<l.length)&&(l.getD 0 0==20&&zB1 l 1 0))
   match l with
   | []=>rfl
   | [x]=>rfl
   | x::y::l=>rfl
  ·exact xW _ _ _ _ _ _ _ _ rfl rfl rfl (xO _ _ _ _ rfl (ex1 _ _ (vJ 20 (by decide))) l)
  ·exact xW _ _ _ _ _ _ _ _ rfl rfl rfl (xO _ _ _ _ rfl (ex2 _ _ _ _ (vJ 5 (by decide)) (vJ 5 (by decide))) l)
  ·exact xW _ _ _ _ _ _ _ _ rfl rfl rfl (xO _ _ _ _ rfl (ex1 _ _ (vJ 5 (by decide))) l)
  ·refine zEC _ _ _ _ _ _ _ rfl rfl rfl ?_;rw[xO _ [5] _ _ rfl (ex1 _ _ (vJ 5 (by decide))) l,xO _ [20] _ _ rfl (ex1 _ _ (vJ 20 (by decide))) l]
   rfl
  ·refine zEC _ _ _ _ _ _ _ rfl rfl rfl ?_;rw[xO _ [0,0,6] _ _ rfl (ex3 _ _ _ _ _ _ vZ vZ (vJ 6 (by decide))) l,xO _ [0,0,6,6] _ _ rfl (ex4 _ _ _ _ _ _ _ _ vZ vZ (vJ 6 (by decide)) (vJ 6 (by decide))) l]
   rfl
  ·exact xW _ _ _ _ _ _ _ _ rfl rfl rfl (xO _ _ _ _ rfl (ex3 _ _ _ _ _ _ (vJ 21 (by decide)) (vJ 21 (by decide)) (vJ 6 (by decide))) l)
  ·exact xW _ _ _ _ _ _ _ _ rfl rfl rfl (xO _ _ _ _ rfl (ex1 _ _ vZ) l)
  ·exact xW _ _ _ _ _ _ _ _ rfl rfl rfl (xO _ _ _ _ rfl (ex1 _ _ vZ) l)
  ·exact xW _ _ _ _ _ _ _ _ rfl rfl rfl ((xO [] [] _ _ rfl ex0 l).trans (zAP l))
  ·exact xW _ _ _ _ _ _ _ _ rfl rfl rfl ((xO [] [] _ _ rfl ex0 l).trans (zAP l))
  ·exact xW _ _ _ _ _ _ _ _ rfl rfl rfl (xO _ _ _ _ rfl (ex1 _ _ vZ) l)
  ·exact xW _ _ _ _ _ _ _ _ rfl rfl rfl ((xO [] [] _ _ rfl ex0 l).trans (zAP l))
  ·exact xW _ _ _ _ _ _ _ _ rfl rfl rfl ((xO [] [] _ _ rfl ex0 l).trans (zAP l))
  ·exact xW _ _ _ _ _ _ _ _ rfl rfl rfl (xO _ _ _ _ rfl (ex2 _ _ _ _ vZ vZ) l)
  ·exact xW _ _ _ _ _ _ _ _ rfl rfl rfl (xO _ _ _ _ rfl (ex2 _ _ _ _ vZ vZ) l)
  ·exact xW _ _ _ _ _ _ _ _ rfl rfl rfl (xO _ _ _ _ rfl (ex2 _ _ _ _ vZ vZ) l)
  ·exact xW _ _ _ _ _ _ _ _ rfl rfl rfl (xO _ _ _ _ rfl (ex1 _ _ vZ) l)
 ·have h0:XW kind=[]:=by
   unfold XW
   repeat (rw[if_neg (by omega)])
  have h1:(decide (1≤kind)&&(decide (kind≤26)&&(zFy kind num text&&jU kind l)))=false:=by
   by_cases h1:1≤kind
   ·rw[yR (show ¬kind≤26 from by omega)]
    simp
   ·rw[yR h1]
    simp
  rw[h1];unfold zAz;rw[h0]
  rfl
end Go.Proofs.YtbadjmmjbpeocaaGreatDoor.TT
namespace Go.Proofs.YtbadjmmjbpeocaaGreatDoor.TT
open Go Go.RowKit
theorem jM {a b:Bool}(h:a=b):Ending.returned (.bool a)=.returned (.bool b):=by rw[h]
theorem zBG (k:Int)(w:World):Calls Tryz.prog 129 #[.int .u8 k] w fun e w'=>e=.returned (.bool (VD k))∧w=w':=by
 by_cases h:21≤k
 ·have H:Hid (VD k=decide (k≤26)):=yG (by unfold VD; rw[yS h,Bool.true_and]);have h1:decide (21≤k)=true:=yS h
  go_enter Tryz.func129,Tryz.ntmps129
  go_wp2
  go_ret;exact⟨jM H.out.symm,rfl⟩
 ·have H:Hid (VD k=false):=yG (by unfold VD; rw[yR h,Bool.false_and]);have h1:decide (21≤k)=false:=yR h
  go_enter Tryz.func129,Tryz.ntmps129
  go_wp2
  go_ret;exact⟨jM H.out.symm,rfl⟩
theorem zBJ (k:Int)(w:World):Calls Tryz.prog 128 #[.int .u8 k] w fun e w'=>e=.returned (.bool (zAL k))∧w=w':=by
 by_cases h:7≤k
 ·have H:Hid (zAL k=decide (k≤19)):=yG (by unfold zAL; rw[yS h,Bool.true_and]);have h1:decide (7≤k)=true:=yS h
  go_enter Tryz.func128,Tryz.ntmps128
  go_wp2
  go_ret;exact⟨jM H.out.symm,rfl⟩
 ·have H:Hid (zAL k=false):=yG (by unfold zAL; rw[yR h,Bool.false_and]);have h1:decide (7≤k)=false:=yR h
  go_enter Tryz.func128,Tryz.ntmps128
  go_wp2
  go_ret;exact⟨jM H.out.symm,rfl⟩
theorem zBH (k:Int)(w:World):Calls Tryz.prog 126 #[.int .u8 k] w fun e w'=>e=.returned (.bool (zBM k))∧w=w':=by
 by_cases h:k=2
 ·subst h
  go_enter Tryz.func126,Tryz.ntmps126
  go_wp2
  go_ret;exact⟨rfl,rfl⟩
 ·have h1:(k==2)=false:=beq_eq_false_iff_ne.2 h;have H:Hid (zBM k=(k==3)):=yG (by unfold zBM; rw[h1,Bool.false_or])
  go_enter Tryz.func126,Tryz.ntmps126
  go_wp2
  go_ret;exact⟨jM H.out.symm,rfl⟩
theorem zAH (k j:Int)(g:Nat)(w:World)(hg:Blk w g 5 #[.int .u8 j]):Calls Tryz.prog 147 #[.int .u8 k,.pointer (some ⟨g,0,none⟩)] w fun e w'=>e=.returned (.bool (k==j))∧w=w':=by
 have h0:=hg.cell 0;have hf:=hg.frozen 0;clear hg
 go_enter Tryz.func147,Tryz.ntmps147
 go_wp2
 go_ret;exact⟨rfl,rfl⟩
theorem zIH (k:Int)(w:World):Calls Tryz.prog 127 #[.int .u8 k] w fun e w'=>e=.returned (.func (.func 147) #[] #[.pointer (some ⟨w.heap.size,0,none⟩)])∧w'=w.alloc (.cells #[.int .u8 k] 5):=by
 go_enter Tryz.func127,Tryz.ntmps127
 go_wp2
 go_ret;exact⟨rfl,rfl⟩
def zBk (w:World):vR→Value→Prop
 | .ZL k,v=>∃g,v=.func (.func 147) #[] #[.pointer (some ⟨g,0,none⟩)]∧Blk w g 5 #[.int .u8 k]
 | .expr,v=>v=.func (.func 129) #[] #[]
 | .stmt,v=>v=.func (.func 128) #[] #[]
 | .part,v=>v=.func (.func 126) #[] #[]
theorem zBk.ext {w w':World}{p:vR}{v:Value}(h:zBk w p v)(hx:Ext w w'):zBk w' p v:=by
 cases p with
 | ZL k=>obtain⟨g,h1,h2⟩:=h; exact⟨g,h1,h2.ext hx⟩
 | expr=>exact h
 | stmt=>exact h
 | part=>exact h
theorem zBk.form {w:World}{p:vR}{v:Value}(h:zBk w p v):∃f lb,v=.func (.func f) #[] lb∧v.oneCell'=true:=by
 cases p with
 | ZL k=>obtain⟨g,h1,h2⟩:=h; subst h1; exact⟨_,_,rfl,rfl⟩
 | expr=>subst h; exact⟨_,_,rfl,rfl⟩
 | stmt=>subst h; exact⟨_,_,rfl,rfl⟩
 | part=>subst h; exact⟨_,_,rfl,rfl⟩
def Kept (w w':World):Prop:=∀g t cs,Blk w g t cs→Blk w' g t cs
theorem Kept.ZJ {w w':World}(h:Ext w w'):Kept w w':=fun _ _ _ hb=>hb.ext h
theorem Kept.zFK {w w':World}{r clock:Nat}{es:Array MapEntry}(hm:ZN w r es clock)(h:Touch r w w'):Kept w w':=fun g t cs hb=>h.blk hb (by
 rintro rfl;unfold Blk at hb;unfold ZN at hm;rw[hb] at hm
 cases hm)
def zGD {α β:Type}(R:α→β→Prop):List α→List β→Prop
 | [],[]=>True
 | a::l,b::m=>R a b∧zGD R l m
 | _,_=>False
theorem zGD.mono {α β:Type}{R S:α→β→Prop}(h:∀a b,R a b→S a b):∀ {l:List α} {m:List β},zGD R l m→zGD S l m
 | [],[],_=>trivial
 | a::l,b::m,⟨h1,h2⟩=>⟨h a b h1,zGD.mono h h2⟩
 | [],_::_,h=>h.elim
 | _::_,[],h=>h.elim
theorem zGD.len {α β:Type}{R:α→β→Prop}:∀ {l:List α} {m:List β},zGD R l m→l.length=m.length
 | [],[],_=>rfl
 | a::l,b::m,⟨_,h2⟩=>by rw[zK,zK,h2.len]
 | [],_::_,h=>h.elim
 | _::_,[],h=>h.elim
theorem zGD.get {α β:Type}{R:α→β→Prop}:∀ {l:List α} {m:List β} (h:zGD R l m) (i:Nat) (hi:i<l.length),∃b,m[i]?=some b∧R l[i] b
 | a::l,b::m,⟨h1,_⟩,0,_=>⟨b,rfl,h1⟩
 | a::l,b::m,⟨_,h2⟩,i+1,hi=>by
  obtain⟨c,hc,hr⟩:=h2.get i (by simpa using hi);exact⟨c,by simpa using hc,hr⟩
 | [],[],_,i,hi=>by simp at hi
 | [],_::_,h,_,_=>h.elim
 | _::_,[],h,_,_=>h.elim
theorem zBk.kept {w w':World}{p:vR}{v:Value}(h:zBk w p v)(hx:Kept w w'):zBk w' p v:=by
 cases p with
 | ZL k=>obtain⟨g,h1,h2⟩:=h; exact⟨g,h1,hx _ _ _ h2⟩
 | expr=>exact h
 | stmt=>exact h
 | part=>exact h
def zE7 (w:World):Option vR→Value→Prop
 | none,v=>v=.nilFunc
 | some p,v=>zBk w p v
theorem zE7.kept {w w':World}{p:Option vR}{v:Value}(h:zE7 w p v)(hx:Kept w w'):zE7 w' p v:=by
 cases p with
 | none=>exact h
 | some p=>exact zBk.kept h hx
def zCI (w:World)(ps:List vR)(v:Value):Prop:=(ps=[]∧v=.slice none 0 0)∨∃g vs,v=.slice (some ⟨g,0,none⟩) ps.length ps.length∧Blk w g 179 (Array.mk vs)∧zGD (zBk w) ps vs
theorem zCI.kept {w w':World}{ps:List vR}{v:Value}(h:zCI w ps v)(hx:Kept w w'):zCI w' ps v:=by
 rcases h with h | ⟨g,vs,h1,h2,h3⟩
 ·exact .inl h
 ·exact .inr ⟨g,vs,h1,hx _ _ _ h2,h3.mono fun a b h=>zBk.kept h hx⟩
def zC3 (w:World)(f:vQ)(cs:List Value):Prop:=∃ks mv,cs=[ks,mv,.bool f.named,.int .i64 f.most]∧zCI w f.kids ks∧zE7 w f.more mv
theorem zC3.kept {w w':World}{f:vQ}{cs:List Value}(h:zC3 w f cs)(hx:Kept w w'):zC3 w' f cs:=by
 obtain⟨ks,mv,h1,h2,h3⟩:=h;exact⟨ks,mv,h1,h2.kept hx,h3.kept hx⟩
theorem zC3.len {w:World}{f:vQ}{cs:List Value}(h:zC3 w f cs):cs.length=4:=by
 obtain⟨ks,mv,h1,_⟩:=h;rw[h1]; rfl
def zBp (w:World)(fs:List vQ)(v:Value):Prop:=(fs=[]∧v=.slice none 0 0)∨∃g css,v=.slice (some ⟨g,0,none⟩) fs.length fs.length∧Blk w g 181 (Array.mk css.flatten)∧zGD (zC3 w) fs css
theorem zBp.kept {w w':World}{fs:List vQ}{v:Value}(h:zBp w fs v)(hx:Kept w w'):zBp w' fs v:=by
 rcases h with h | ⟨g,vs,h1,h2,h3⟩
 ·exact .inl h
 ·exact .inr ⟨g,vs,h1,hx _ _ _ h2,h3.mono fun a b h=>zC3.kept h hx⟩
def zEa:List (Int × Value)→Nat→List MapEntry
 | [],_=>[]
 | x::l,c=>{ key:=.int .u8 x.1,val:=x.2,born:=c } :: zEa l (c+1)
theorem zOL (l:List (Int × Value))(x:Int × Value):∀c,zEa (l++[x]) c=zEa l c++[{ key:=.int .u8 x.1,val:=x.2,born:=c+l.length }]:=by
 induction l with
 | nil=>intro c; rfl
 | cons y l ih=>intro c; simp only[yC,zEa,ih,zK]; rw[show c+1+l.length=c+(l.length+1) from by omega]
theorem zK6 (a b:Int):Instr.sameNow (.int .u8) (.int .u8 a) (.int .u8 b)=some (a==b):=by simp[Instr.sameNow]
theorem zEL (l:List (Int × Value))(n:Int)(h:∀x ∈ l,x.1≠n):∀c j,Instr.findNow (.int .u8) (.int .u8 n) (zEa l c) j=some none:=by
 induction l with
 | nil=>intro c j; rfl
 | cons x l ih=>
  intro c j;have hx:(n==x.1)=false:=beq_eq_false_iff_ne.2 (Ne.symm (h x (by simp)));unfold zEa Instr.findNow;simp only[zK6,hx];exact ih (fun y hy=>h y (by simp[hy])) _ _
theorem zPX (l:List (Int × Value))(n:Int):∀(i:Nat) (v:Value) (c j:Nat),l[i]?=some (n,v)→(∀j x,j<i→l[j]?=some x→x.1≠n)→Instr.findNow (.int .u8) (.int .u8 n) (zEa l c) j=some (some (j+i,v)):=by
 induction l with
 | nil=>intro i v c j h; simp at h
 | cons y l ih=>
  intro i v c j hi h;unfold zEa Instr.findNow
  match i with
  | 0=>
   simp at hi
   subst hi;simp only[zK6,beq_self_eq_true]
   rfl
  | i+1=>
   have hx:(n==y.1)=false:=beq_eq_false_iff_ne.2 (Ne.symm (h 0 y (by omega) rfl));simp only[zK6,hx];rw[ih i v (c+1) (j+1) (by simpa using hi) (fun j x hj hx=>h (j+1) x (by omega) (by simpa using hx))]
   congr 3
   omega
structure FSt (w0 w:World)(r:Nat)(ks:List Int)(l:List (Int × Value))(g4 g5 g6 g7:Nat):Prop where
 map:ZN w r (Array.mk (zEa l 0)) l.length
 keys:l.map Prod.fst=ks
 zNn:∀x ∈ l,zBp w (XW x.1) x.2
 ext:Ext w0 w
 low:w0.heap.size≤r
 k4:Blk w g4 5 #[.int .u8 20]
 k5:Blk w g5 5 #[.int .u8 5]
 k6:Blk w g6 5 #[.int .u8 6]
 k7:Blk w g7 5 #[.int .u8 21]
theorem FSt.mono {w0 w w':World}{r:Nat}{ks:List Int}{l:List (Int × Value)}{g4 g5 g6 g7:Nat}(h:FSt w0 w r ks l g4 g5 g6 g7)(hx:Ext w w'):FSt w0 w' r ks l g4 g5 g6 g7:=
 ⟨h.map.ext hx,h.keys,fun x hm=>(h.zNn x hm).kept (Kept.ZJ hx),h.ext.trans hx,h.low,h.k4.ext hx,h.k5.ext hx,h.k6.ext hx,h.k7.ext hx⟩
theorem zBN {w0 w:World}{ops:Array Oper}{rest:List Oper}{o:Oper}{a:Act}{Q:Exit→Act→World→Prop}{r:Nat}{ks:List Int}{l:List (Int × Value)}{g4 g5 g6 g7:Nat}(hgd:o.guard=none)(m k x:Operand)(n:Int)(v:Value)(ho:o.op=.insert 210 m k x)
  (em:a.eval m=.map (some r)) (ek:a.eval k=.int .u8 n) (ex:a.eval x=v) (hst:FSt w0 w r ks l g4 g5 g6 g7) (hv:zBp w (XW n) v) (hn:ks.contains n=false)
  (h:∀w' l',FSt w0 w' r (ks++[n]) l' g4 g5 g6 g7→wpList Tryz.prog ops Q rest (a.put o.dst undef) w'):wpList Tryz.prog ops Q (o::rest) a w:=by
 have hn':∀y ∈ l,y.1≠n:=by
  rintro y hy rfl
  have:y.1 ∈ ks:=by rw[←hst.keys]; exact List.mem_map_of_mem hy
  simp at hn
  exact hn this
 refine zBy hgd 210 m k x ho Tryz.underlying210 Tryz.underlying5 r l.length _ n v em ek ex hst.map (zEL l n hn' 0 0) fun w' ht hm=>h w' (l++[(n,v)]) ?_;have hk:=Kept.zFK hst.map ht;refine⟨?_,by rw[List.map_append,hst.keys]; rfl,fun y hy=>?_,ht.ext hst.ext hst.low,hst.low,hk _ _ _ hst.k4,hk _ _ _ hst.k5,hk _ _ _ hst.k6,hk _ _ _ hst.k7⟩
 ·have:(Array.mk (zEa l 0)).push { key:=.int .u8 n,val:=v,born:=l.length } = Array.mk (zEa (l++[(n,v)]) 0):=by
   rw[zOL,Nat.zero_add]
   simp
  rw[this] at hm;rw[yP];exact hm
 ·rcases List.mem_append.1 hy with hy | hy
  ·exact(hst.zNn y hy).kept hk
  ·rw[List.mem_singleton.1 hy];exact hv.kept hk
theorem zIk {P:Program}{w:World}{t kt et:TypeId}{kk:IntKind}{r clock:Nat}{es:Array MapEntry}{n:Int}{z:Value}(hm:P.underlying t=some (.map kt et))(hk:P.underlying kt=some (.int kk))
  (hb:ZN w r es clock) (hz:(zeroValue et).run P w=.ok z w) (hf:Instr.findNow (.int kk) (.int kk n) es.toList 0=some none):(Instr.lookup t (.map (some r)) (.int kk n) false).run P w=.ok z w:=by
 have hc:(Instr.checkKey es.isEmpty 10000 kt (.int kk n)).run P w=.ok () w:=MapKept.run_checkKey (k:=.int kk n) hk (by simp[MapKept.IsKey]) _ 9999;simp[Instr.lookup,run_underlying hm,MapKept.run_getObj_map hb,hc,MapKept.run_findKey hk hf,hz,Result.andThen]
theorem zFf {P:Program}{w:World}{ops:Array Oper}{rest:List Oper}{o:Oper}{a:Act}{Q:Exit→Act→World→Prop}(hgd:o.guard=none)(t:TypeId)(m k:Operand)(ho:o.op=.lookup t m k false){kt et:TypeId}{kk:IntKind}
  (hm:P.underlying t=some (.map kt et)) (hk:P.underlying kt=some (.int kk)) (r clock:Nat) (es:Array MapEntry) (n:Int) (z:Value) (hz:∀w,(zeroValue et).run P w=.ok z w)
  (em:a.eval m=.map (some r)) (ek:a.eval k=.int kk n) (hb:ZN w r es clock) (hf:Instr.findNow (.int kk) (.int kk n) es.toList 0=some none)
  (h:wpList P ops Q rest (a.put o.dst z) w):wpList P ops Q (o::rest) a w:=by
 refine wpList_plain hgd fun K hK=>?_;have hrun:=zIk (P:=P) hm hk hb (hz w) hf;unfold Oper.wp execOp;simp only[ho,em,ek,Sem.run_bind,Sem.run_pure,hrun,Result.andThen_ok];exact hK _ _ h
theorem zOr {l:List (Int × Value)}{ks:List Int}(hk:l.map Prod.fst=ks)(n:Int)(i:Nat)(hi:ks[i]?=some n)(hd:(ks.take i).contains n=false):∃v,l[i]?=some (n,v)∧∀j x,j<i→l[j]?=some x→x.1≠n:=by
 subst hk;rw[zN] at hi;obtain⟨x,hx,rfl⟩:=Option.map_eq_some_iff.1 hi;refine⟨x.2,hx,?_⟩;rintro j y hj hy he
 have:y.1 ∈ (l.map Prod.fst).take i:=by
  rw[←List.map_take];exact List.mem_map_of_mem (yB (i:=j) (by rw[List.getElem?_take,if_pos hj]; exact hy))
 rw[he] at this
 simp at hd
 exact hd (by simpa using this)
theorem zVa {w0 w:World}{ops:Array Oper}{rest:List Oper}{o:Oper}{a:Act}{Q:Exit→Act→World→Prop}{r:Nat}{l:List (Int × Value)}{g4 g5 g6 g7:Nat}(hgd:o.guard=none)(m k:Operand)(n:Int)(ho:o.op=.lookup 210 m k false)
  (em:a.eval m=.map (some r)) (ek:a.eval k=.int .u8 n) (hst:FSt w0 w r [1,2,3,4,5,6,7,8,9,10,11,12,13,14,15,16,17,18,19,20,21,22,23,24,25,26] l g4 g5 g6 g7) (hz:∀w,(zeroValue 176).run Tryz.prog w=.ok (.slice none 0 0) w)
  (h:∀v,zBp w (XW n) v→wpList Tryz.prog ops Q rest (a.put o.dst v) w):wpList Tryz.prog ops Q (o::rest) a w:=by
 by_cases hk:1≤n∧n≤26
 ·have hi:([1,2,3,4,5,6,7,8,9,10,11,12,13,14,15,16,17,18,19,20,21,22,23,24,25,26]:List Int)[(n-1).toNat]?=some n∧(([1,2,3,4,5,6,7,8,9,10,11,12,13,14,15,16,17,18,19,20,21,22,23,24,25,26]:List Int).take (n-1).toNat).contains n=false:=by
   have hc:n=1∨n=2∨n=3∨n=4∨n=5∨n=6∨n=7∨n=8∨n=9∨n=10∨n=11∨n=12∨n=13∨n=14∨n=15∨n=16∨n=17∨n=18∨n=19∨n=20∨n=21∨n=22∨n=23∨n=24∨n=25∨n=26:=by omega
   rcases hc with rfl | rfl | rfl | rfl | rfl | rfl | rfl | rfl | rfl | rfl | rfl | rfl | rfl | rfl | rfl | rfl | rfl | rfl | rfl | rfl | rfl | rfl | rfl | rfl | rfl | rfl <;> exact⟨rfl,rfl⟩
  obtain⟨v,hv,hd⟩:=zOr hst.keys n _ hi.1 hi.2;exact zFA hgd 210 m k ho Tryz.underlying210 Tryz.underlying5 r l.length _ _ n v em ek hst.map (zPX l n _ v 0 0 hv hd) (h v (hst.zNn _ (yB hv)))
 ·have hn:∀y ∈ l,y.1≠n:=by
   rintro y hy rfl
   have:y.1 ∈ ([1,2,3,4,5,6,7,8,9,10,11,12,13,14,15,16,17,18,19,20,21,22,23,24,25,26]:List Int):=by rw[←hst.keys]; exact List.mem_map_of_mem hy
   simp only[zU,List.not_mem_nil,or_false] at this;omega
  have h0:XW n=[]:=by
   unfold XW
   repeat (rw[if_neg (by omega)])
  exact zFf hgd 210 m k ho Tryz.underlying210 Tryz.underlying5 r l.length _ n _ hz em ek hst.map (zEL l n hn 0 0) (h _ (.inl ⟨h0,rfl⟩))
theorem Blk.newAt {W:World}{t:TypeId}{cs:Array Value}{n:Nat}(h:n=W.heap.size):Blk (W.alloc (.cells cs t)) n t cs:=by subst h; exact Blk.new W t cs
theorem vS {W:World}{f:vQ}{g:Nat}{ks mv:Value}{b:Bool}{n:Int}(hn:b=f.named)(hm:n=f.most)(hb:Blk W g 181 #[ks,mv,.bool b,.int .i64 n])(hk:zCI W f.kids ks)(hmv:zE7 W f.more mv):zBp W [f] (.slice (some ⟨g,0,none⟩) 1 1):=by
 subst hn hm;exact .inr ⟨g,[[ks,mv,.bool f.named,.int .i64 f.most]],rfl,hb,⟨⟨ks,mv,rfl,hk,hmv⟩,trivial⟩⟩
theorem zJx {W:World}{f f':vQ}{g:Nat}{ks mv ks' mv':Value}{b b':Bool}{n n':Int}(hn:b=f.named)(hm:n=f.most)(hn':b'=f'.named)(hm':n'=f'.most)(hb:Blk W g 181 #[ks,mv,.bool b,.int .i64 n,ks',mv',.bool b',.int .i64 n'])(hk:zCI W f.kids ks)(hmv:zE7 W f.more mv)(hk':zCI W f'.kids ks')(hmv':zE7 W f'.more mv'):zBp W [f,f'] (.slice (some ⟨g,0,none⟩) 2 2):=by
 subst hn hm hn' hm';exact .inr ⟨g,[[ks,mv,.bool f.named,.int .i64 f.most],[ks',mv',.bool f'.named,.int .i64 f'.most]],rfl,hb,⟨⟨ks,mv,rfl,hk,hmv⟩,⟨ks',mv',rfl,hk',hmv'⟩,trivial⟩⟩
theorem VZ {W:World}:zCI W [] (.slice none 0 0):=.inl ⟨rfl,rfl⟩
theorem zCm {W:World}{p1:vR}{v1:Value}{g:Nat}(hb:Blk W g 179 #[v1])(h1:zBk W p1 v1):zCI W [p1] (.slice (some ⟨g,0,none⟩) 1 1):=.inr ⟨g,[v1],rfl,hb,h1,trivial⟩
theorem zDC {W:World}{p1 p2:vR}{v1 v2:Value}{g:Nat}(hb:Blk W g 179 #[v1,v2])(h1:zBk W p1 v1)(h2:zBk W p2 v2):zCI W [p1,p2] (.slice (some ⟨g,0,none⟩) 2 2):=.inr ⟨g,[v1,v2],rfl,hb,h1,h2,trivial⟩
theorem zLu {W:World}{p1 p2 p3:vR}{v1 v2 v3:Value}{g:Nat}(hb:Blk W g 179 #[v1,v2,v3])(h1:zBk W p1 v1)(h2:zBk W p2 v2)(h3:zBk W p3 v3):zCI W [p1,p2,p3] (.slice (some ⟨g,0,none⟩) 3 3):=.inr ⟨g,[v1,v2,v3],rfl,hb,h1,h2,h3,trivial⟩
theorem zTe {W:World}{p1 p2 p3 p4:vR}{v1 v2 v3 v4:Value}{g:Nat}(hb:Blk W g 179 #[v1,v2,v3,v4])(h1:zBk W p1 v1)(h2:zBk W p2 v2)(h3:zBk W p3 v3)(h4:zBk W p4 v4):zCI W [p1,p2,p3,p4] (.slice (some ⟨g,0,none⟩) 4 4):=.inr ⟨g,[v1,v2,v3,v4],rfl,hb,h1,h2,h3,h4,trivial⟩
end Go.Proofs.YtbadjmmjbpeocaaGreatDoor.TT
