/- printer.list, walked: the texts of a node's kids, with a comma between them. (and what follows of it). The conditions stand at each lemma. -/
import Derived.Test.YtioffpjajhalaaaGreatDoorJaa
import Derived.Test.YtioffpjajhalaaaGreatDoorJaw
set_option linter.unusedVariables false
set_option linter.unusedSimpArgs false
set_option maxRecDepth 100000
set_option maxHeartbeats 16000000
namespace Go.Proofs.YtioffpjajhalaaaGreatDoor
open Go Go.RowKit
def jD (ls:List Bs):Bs:=Lib.join ls [44,32]
theorem zUP:(Tryz.prog.info? 9).map (fun i=>(i.zero,i.size,i.bytes))=some (some (.string ⟨#[]⟩),1,16):=by kernel_rfl
def VT (ls:List Bs):List Value:=ls.map fun s=>Value.string (yX s)
theorem zLp:∀ls:List Bs,(jD ls).length≤zAD ls+2*ls.length
 | []=>by simp[jD,Lib.join_nil]
 | x::r=>by
  unfold jD;rw[Lib.join_cons,yM]
  have:∀r:List Bs,(Lib.joinTail [44,32] r).length=zAD r+2*r.length:=fun r=>by
   induction r with
   | nil=>rfl
   | cons y r ih=>
    have e:Lib.joinTail [44,32] (y::r)=([44,32]++y)++Lib.joinTail [44,32] r:=by simp[Lib.joinTail]
    rw[e,yM,ih];simp[zAD];omega
  rw[this r];simp[zAD];omega
theorem zJT (w:World)(g n c:Nat)(A:Option Addr)(L:List TT.xC)(hP:PrT w g n c A L)(x:TT.xC)(hx:Cells w x.kA (TT.xL x.kids))(ks kk:List Nat)(ls:List Bs)(hks:x.kids=xK ks)(hl2:ls.length=ks.length)(AG:ks.length≤100000)
  (HK:∀j (hj:j<ks.length),zDr w g L ks[j] (kk.getD j 0) (ls.getD j [])) (hsz:zAD ls≤1099511627776) (m:Nat) (hm:m≤ks.length) :
  Calls Tryz.prog 42 #[.pointer (some ⟨g,0,none⟩),jF x,.int .i64 (m:Int)] w fun e w'=>e=.returned (.string (yX (jD (ls.drop m))))∧Ext w w':=by
 obtain⟨i0,hi,Ah,Ac,Aq⟩:=info_parts zUP;have HP:=yD hP;have Ad:=yD hx;have Aj:=yD hks;have AF:=yD hl2;have Ak:=yD HK;have Ag:=yD hsz;have HM:=yD hm;have AL:=yD AG;have AM:Hid (x.kids.length=ks.length):=yD (by rw[hks]; simp[xK]);clear hP hx hks hl2 HK hsz hm AG;have AT:Hid (Ext w (w.alloc (.cells #[.int .u8 x.kind,.int .i64 x.pos,.string x.text,.int .i64 x.num,.slice x.kA x.kids.length x.kc] 48))):=yD (Ext.alloc _ _);have An:Hid (Blk (w.alloc (.cells #[.int .u8 x.kind,.int .i64 x.pos,.string x.text,.int .i64 x.num,.slice x.kA x.kids.length x.kc] 48)) w.heap.size 48 #[.int .u8 x.kind,.int .i64 x.pos,.string x.text,.int .i64 x.num,.slice x.kA x.kids.length x.kc]):=yD (Blk.new _ _ _);unfold jF
 go_enter Tryz.func42,Tryz.ntmps42
 go_upto_region 1 with fail
 generalize w.heap.size=gn at *;generalize w.alloc (.cells #[.int .u8 x.kind,.int .i64 x.pos,.string x.text,.int .i64 x.num,.slice x.kA x.kids.length x.kc] 48)=w1 at *
 go_wp2_with fail
 go_loopw [7,8] (fun l i wr=>∃(k:Nat) (A':Option Addr) (c':Nat),m≤k∧k≤ks.length∧i=.int .i64 k∧l=.slice A' (k-m) c'∧Hid (Ext w1 wr)∧Hid (wr.ownsRow w1.heap.size 9 1 (.slice A' (k-m) c') (k-m) (VT ((ls.drop m).take (k-m))))∧Hid (A'=none→c'=0)) (fun _ i _=>ks.length-(intOf i).toNat)
 case atStart=>exact⟨m,none,0,zU _,HM.out,rfl,by rw[Nat.sub_self],yD (Ext.refl _),yD (by rw[Nat.sub_self]; exact zP _ _ _ _),yD fun _=>rfl⟩
 case round=>
  obtain⟨k,A',c',Av,hk,rfl,rfl,HX,HO,HZ⟩:=hrel;obtain⟨wa,rfl⟩:∃wa:World,wa=wr:=⟨_,rfl⟩;have AG:=AL.out;have HB:=yD (An.out.ext HX.out);have n4:wa.cell? ⟨gn,4,none⟩=some (.slice x.kA x.kids.length x.kc):=HB.out.cell 4;rw[AM.out] at n4
  by_cases AB:k<ks.length
  ·have d0:decide ((k:Int)<(ks.length:Int))=true:=yP (by omega);have d1:decide (k<ks.length)=true:=yP AB;have n0:wa.cell? ⟨gn,0,none⟩=some (.int .u8 x.kind):=HB.out.cell 0;have n1:wa.cell? ⟨gn,1,none⟩=some (.int .i64 x.pos):=HB.out.cell 1;have n2:wa.cell? ⟨gn,2,none⟩=some (.string x.text):=HB.out.cell 2;have n3:wa.cell? ⟨gn,3,none⟩=some (.int .i64 x.num):=HB.out.cell 3;obtain⟨y,hy,Ar,AP⟩:=Ak.out k AB;have AJ:=yD (AT.out.trans HX.out);have hp:=HP.out.ext AJ.out;have AA:=zA0 wa g n c A L hp.tree hp.len hp.at0 hp.lt x (Ad.out.ext AJ.out) k (ks[k]'AB) (by rw[AM.out]; exact AB) (by simp only[Aj.out,xK,zA]) (List.getElem?_eq_some_iff.1 hy).1 y hy;unfold jF at AA;rw[AM.out] at AA;have AD:=yD AA;have Ae:=yD AP
   have Aa:Hid ((ls.drop m).take (k+1-m)=(ls.drop m).take (k-m)++[ls.getD k []]):=yD (by
    have AU:k<ls.length:=by rw[AF.out]; exact AB
    rw[show k+1-m=(k-m)+1 by omega,List.take_add_one,List.getElem?_drop,show m+(k-m)=k by omega,yG AU,yE,yG AU]
    rfl)
   generalize ls.getD k []=lk at *;have AQ:=yD AB;clear hy Ar AP hp AA AB
   go_wp2_with fail
   refine AD.out.mono ?_;rintro e w2 ⟨rfl,AZ⟩;have AE:=yD AZ;clear AZ n0 n1 n2 n3 n4 AD
   go_wp2_with fail
   refine(Ae.out w2 (AJ.out.trans AE.out)).mono ?_;rintro e w3 ⟨rfl,AI⟩;have AH:=yD (HX.out.trans (AE.out.trans AI));have AX:=yD (zFX HO.out (AE.out.trans AI));clear AI HO AE
   go_wp2_with (at_builtin; refine zBI rfl _ _ 33 rfl w1.heap.size 9 i0 (.string ⟨#[]⟩) 1 16 Tryz.underlying33 hi Ah Ac Aq rfl (by decide) (.slice A' (k-m) c') (k-m) (VT ((ls.drop m).take (k-m))) rfl (AX.out.alloc _) (some ⟨w3.heap.size,0,none⟩) 1 1 [.string (yX lk)] rfl (fun h=>by cases h) rfl ?c1 ?c2 ?c3 ?c4 ?c5 ?_)
   case c1=>exact Cells.new w3 9 #[.string (yX lk)]
   case c2=>intro u hu; simp at hu; subst hu; rfl
   case c3=>have:=AL.out; unfold maxLen; omega
   case c4=>have:=AL.out; omega
   case c5=>have:=AH.out.size; simp; omega
   intro A2 c2 w4 AV AN AY
   have Ai:Hid (w4.ownsRow w1.heap.size 9 1 (.slice A2 (k+1-m) c2) (k+1-m) (VT ((ls.drop m).take (k+1-m)))):=yD (by
    rw[Aa.out,show k+1-m=k-m+1 by omega]
    simpa [VT] using AN)
   have Ao:Hid (Ext w1 w4):=yD (Below.grown (AH.out.trans (Ext.alloc _ _)) AY (by have:=AH.out.size; simp; omega) (fun q hq=>(AX.out.lt q hq).1));have Ab:=yD AV
   have AS:k-m+1=k+1-m:=by omega
   rw[AS];clear AV AN AY AS
   go_wp2_with fail
   go_roundw
   case rel=>exact⟨k+1,A2,c2,by omega,by have:=AQ.out; omega,by go_num,rfl,Ao,Ai,Ab⟩
   case measure=>simp[intOf]; have:=AQ.out; omega
  ·obtain rfl:k=ks.length:=by omega
   have d0:decide ((ks.length:Int)<(ks.length:Int))=false:=by simp
   have d1:decide (ks.length<ks.length)=false:=by simp
   have Am:Hid ((ls.drop m).take (ks.length-m)=ls.drop m):=yD (List.take_of_length_le (by rw[List.length_drop,AF.out]; omega));have AR:Hid (wa.ownsRow w1.heap.size 9 1 (.slice A' (ks.length-m) c') (ks.length-m) (VT (ls.drop m))):=yD (by rw[←Am.out]; exact HO.out);have AC:Hid ((ls.drop m).length=ks.length-m):=yD (by rw[List.length_drop,AF.out])
   have AW:∀l:List Bs,(l.map yX).map (fun x=>x.data.toList)=l:=fun l=>by
    rw[List.map_map]
    conv=>rhs; rw[←List.map_id l]
    apply List.map_congr_left;intro s _;simp[yX]
   have AK:Hid (Calls Tryz.prog 88 #[.slice A' (ks.length-m) c',.string ⟨#[44,32]⟩] wa fun e w'=>e=.returned (.string (yX (jD (ls.drop m))))∧Ext wa w'):=yD (by
    by_cases h0:ks.length-m=0
    ·rw[h0];refine(join_none A' c' ⟨#[44,32]⟩ wa).mono ?_;rintro e w' ⟨rfl,rfl⟩
     have:ls.drop m=[]:=List.eq_nil_of_length_eq_zero (by rw[AC.out]; exact h0)
     rw[this];exact⟨rfl,Ext.refl _⟩
    ·rcases AR.out.2 with ⟨_,h1⟩ | ⟨gb,At,Aw,hv,hb,hh,Au,As⟩
     ·omega
     ·injection hv with e1 e2 e3;subst e1 e3;have Af:gb<wa.heap.size:=(Array.getElem?_eq_some_iff.1 hh).1
      have:=zSn gb 0 c' ((ls.drop m).map yX) ⟨#[44,32]⟩ wa (fun j s hs=>by
       rw[zM] at hs
       cases hj:(ls.drop m)[j]? with
       | none=>rw[hj] at hs; cases hs
       | some q=>
        rw[hj] at hs;injection hs with hs;have Ap:j<(ls.drop m).length:=(List.getElem?_eq_some_iff.1 hj).1
        have:=AR.out.cellAt j (by have h9:=AC.out; have h8:=Ap; rw[h9] at h8; simpa [VT,AF.out] using h8)
        rw[Nat.zero_add,←hs];refine Eq.trans (by exact this) ?_;unfold VT;rw[zM,hj]
        rfl) Af (by rw[yN,AC.out]; omega) (by rw[yN,AC.out]; omega) (by
        rw[AW];have h1:=zLp (ls.drop m)
        have h2:zAD (ls.drop m)≤zAD ls:=by
         unfold zAD
         conv=>rhs; rw[←List.take_append_drop m ls]
         rw[List.map_append,List.sum_append];omega
        have h3:=Ag.out
        show(jD (ls.drop m)).length≤_
        rw[AC.out] at h1
        omega)
      rw[yN,AC.out] at this;refine this.mono ?_;rintro e w' ⟨rfl,hx⟩;rw[AW]
      exact⟨rfl,hx⟩)
   clear AB hk
   go_wp2_with fail
   refine AK.out.mono ?_;rintro e w5 ⟨rfl,AO⟩;have Al:=yD (AT.out.trans (HX.out.trans AO));clear AO n4
   go_wp2_with fail
   go_ret;exact⟨rfl,Al.out⟩
def JB (x:Int)(s0 s1:Bs):Bs:=if x=1 then s1 else s0
theorem zFV (w:World)(x:TT.xC)(hx:x.num=0∨x.num=1)(s0 s1:Bs)(lb:Nat)(hb:Blk w lb 9 #[.string (yX s0),.string (yX s1)]) :
  Calls Tryz.prog 43 #[jF x,.slice (some ⟨lb,0,none⟩) 2 2] w fun e w'=>e=.returned (.string (yX (JB x.num s0 s1)))∧Ext w w':=by
 have AB:Hid (Ext w (w.alloc (.cells #[.int .u8 x.kind,.int .i64 x.pos,.string x.text,.int .i64 x.num,.slice x.kA x.kids.length x.kc] 48))):=yD (Ext.alloc _ _);have AE:Hid (Blk (w.alloc (.cells #[.int .u8 x.kind,.int .i64 x.pos,.string x.text,.int .i64 x.num,.slice x.kA x.kids.length x.kc] 48)) w.heap.size 48 #[.int .u8 x.kind,.int .i64 x.pos,.string x.text,.int .i64 x.num,.slice x.kA x.kids.length x.kc]):=yD (Blk.new _ _ _);have AC:=yD (hb.ext AB.out);clear hb;obtain⟨AD,AA⟩:∃r,Hid (yX (JB x.num s0 s1)=r):=⟨_,yD rfl⟩;rw[AA.out];unfold JB at AA;unfold jF
 go_enter Tryz.func43,Tryz.ntmps43
 go_upto_region 1 with fail
 generalize w.heap.size=gn at *;generalize w.alloc (.cells #[.int .u8 x.kind,.int .i64 x.pos,.string x.text,.int .i64 x.num,.slice x.kA x.kids.length x.kc] 48)=w1 at *;have n3:w1.cell? ⟨gn,3,none⟩=some (.int .i64 x.num):=AE.out.cell 3;have l0:w1.cell? ⟨lb,0,none⟩=some (.string (yX s0)):=AC.out.cell 0;have l1:w1.cell? ⟨lb,1,none⟩=some (.string (yX s1)):=AC.out.cell 1
 rcases hx with hx | hx
 ·rw[hx] at n3;have HR:Hid (yX s0=AD):=yD (by rw[←AA.out,hx]; rfl);clear AA
  go_wp2_with fail
  go_ret;rw[HR.out];exact⟨rfl,AB.out⟩
 ·rw[hx] at n3;have HR:Hid (yX s1=AD):=yD (by rw[←AA.out,hx]; rfl);clear AA
  go_wp2_with fail
  go_ret;rw[HR.out];exact⟨rfl,AB.out⟩
theorem ZV (w:World)(g n c bp bn:Nat)(A:Option Addr)(L:List TT.xC)(hP:PrT w g n c A L)(x:TT.xC)(hbp:Blk w bp 77 #[.pointer (some ⟨g,0,none⟩)])(hbn:Blk w bn 48 #[.int .u8 x.kind,.int .i64 x.pos,.string x.text,.int .i64 x.num,.slice x.kA x.kids.length x.kc])(hx:Cells w x.kA (TT.xL x.kids))(i k kk:Nat)(hi:i<x.kids.length)(hk:x.kids[i]=(k:Int))(s:Bs)(hy:zDr w g L k kk s) :
  Calls Tryz.prog 138 #[.int .i64 (i:Int),.pointer (some ⟨bp,0,none⟩),.pointer (some ⟨bn,0,none⟩)] w fun e w'=>e=.returned (.string (yX s))∧Ext w w':=by
 obtain⟨y,hy,AJ,HT⟩:=hy;have AE:k<L.length:=(List.getElem?_eq_some_iff.1 hy).1
 have HK:Hid (∀w',Ext w w'→Calls Tryz.prog 40 #[.pointer (some ⟨g,0,none⟩),jF x,.int .i64 (i:Int)] w' fun e AH=>e=.returned (jF y)∧Ext w' AH):=yD fun w' AF=>by
  have hp:=hP.ext AF;exact zA0 w' g n c A L hp.tree hp.len hp.at0 hp.lt x (hx.ext AF) i k hi hk AE y hy
 have AI:=yD HT;have x0:w.cell? ⟨bp,0,none⟩=some (.pointer (some ⟨g,0,none⟩)):=hbp.cell 0;have AD:=yD hbp.lt;have AC:=yD hbn.lt;have n0:w.cell? ⟨bn,0,none⟩=some (.int .u8 x.kind):=hbn.cell 0;have n1:w.cell? ⟨bn,1,none⟩=some (.int .i64 x.pos):=hbn.cell 1;have n2:w.cell? ⟨bn,2,none⟩=some (.string x.text):=hbn.cell 2;have n3:w.cell? ⟨bn,3,none⟩=some (.int .i64 x.num):=hbn.cell 3;have n4:w.cell? ⟨bn,4,none⟩=some (.slice x.kA x.kids.length x.kc):=hbn.cell 4;unfold jF at HK;clear hP hbp hbn hx hi hk hy HT AE
 go_enter Tryz.func138,Tryz.ntmps138
 go_upto_region 1 with fail
 apply zFd (by kernel_rfl) (by kernel_rfl) (by kernel_rfl);apply xA (.pointer (some ⟨g,0,none⟩)) rfl rfl rfl
 ·intro w' AA hH;clear hH;have yp:=(AA.cell (p:=⟨bp,0,none⟩) AD.out).trans x0;simp[yY,go_sem,yp];exact Ext.refl _
 apply xA (.pointer (some ⟨g,0,none⟩)) rfl rfl rfl
 ·intro w' AA hH;clear hH;have yp:=(AA.cell (p:=⟨bp,0,none⟩) AD.out).trans x0;simp[yY,go_sem,yp];exact Ext.refl _
 apply xA (.agg #[.int .u8 x.kind,.int .i64 x.pos,.string x.text,.int .i64 x.num,.slice x.kA x.kids.length x.kc]) rfl rfl rfl
 ·intro w' AA hH;clear hH;have y0:=(AA.cell (p:=⟨bn,0,none⟩) AC.out).trans n0;have y1:=(AA.cell (p:=⟨bn,1,none⟩) AC.out).trans n1;have y2:=(AA.cell (p:=⟨bn,2,none⟩) AC.out).trans n2;have y3:=(AA.cell (p:=⟨bn,3,none⟩) AC.out).trans n3;have y4:=(AA.cell (p:=⟨bn,4,none⟩) AC.out).trans n4;simp[yY,go_sem,y0,y1,y2,y3,y4];exact Ext.refl _
 apply sQ (.int .i64 (i:Int));apply xA (jF y) rfl rfl rfl
 ·intro w' AA hH;clear hH;simp[yY,go_sem];refine(HK.out w' AA).mono ?_;rintro e w2 ⟨rfl,AB⟩;exact⟨_,rfl,rfl,AB⟩
 apply xA (.string (yX s)) rfl rfl rfl
 ·intro w' AA hH;clear hH;simp[yY,go_sem];refine(AI.out w' AA).mono ?_;rintro e w2 ⟨rfl,AB⟩;exact⟨_,rfl,rfl,AB⟩
 apply sQ (.string (yX s));apply vA;intro w2 AB hH;clear hH
 try simp only[Act.put,yA,yC,yB]
 have AG:=yD AB;clear AB x0 n0 n1 n2 n3 n4
 go_wp2_with fail
 go_ret;exact⟨rfl,AG.out⟩
theorem PrS.ext {w w':World}{B g:Nat}{A:Option Addr}{n c:Nat}{v:Value}{bs:Bs}{d:Nat}(h:PrS w B g A n c v bs d)(hx:Ext w w'):PrS w' B g A n c v bs d:=
 ⟨h.lo,h.blk.imp (fun h=>h.ext hx) (fun h=>h.ext hx),zFX h.own hx⟩
structure zAp (w0:World)(B n:Nat)(A:Option Addr)(L:List TT.xC):Prop where
 size:w0.heap.size=B
 tree:TT.XU w0 A L
 len:n=L.length
 tab:PW w0
theorem zAp.prT {w0 w:World}{B g n c:Nat}{A:Option Addr}{L:List TT.xC}{v:Value}{bs:Bs}{d:Nat}(h:zAp w0 B n A L)(hx:Ext w0 w)(hs:PrS w B g A n c v bs d):PrT w g n c A L:=by
 obtain⟨ad,hb⟩:=hs.any;exact⟨h.tree.ext hx,h.len,hb.cell 0,hb.lt,h.tab.ext hx⟩
theorem zAp.ext {w0 w w':World}{B g n:Nat}{A:Option Addr}{L:List TT.xC}(h:zAp w0 B n A L)(hx:Ext w0 w)(hm:vU w w' B g)(hg:B≤g):Ext w0 w':=by
 have hs:=h.size;subst hs;exact Below.trans hx (hm.below hg hx.size)
def zCh (w:World)(B g:Nat)(A:Option Addr)(n c:Nat)(bs:Bs)(d:Nat)(w':World):Prop:=(∃v,PrS w' B g A n c v bs d)∧vU w w' B g
theorem zN7.p {w w':World}{B g:Nat}{A:Option Addr}{n c:Nat}{bs:Bs}{d:Nat}(h:zN7 w B g A n c bs d w')(hB:B≤g):zCh w B g A n c bs d w':=⟨let ⟨v,hv⟩:=h.1; ⟨v,hv.prS hB⟩,h.2⟩
def zAY (w0:World)(B g n c:Nat)(A:Option Addr)(y:TT.xC)(D:Nat)(out:Nat→Bs):Prop:=
 ∀(w:World) (v:Value) (bs:Bs) (d:Nat),Ext w0 w→PrS w B g A n c v bs d→d+D≤1000000→bs.length+(out d).length≤140737488355328 →
  Calls Tryz.prog 89 #[.pointer (some ⟨g,0,none⟩),jF y] w fun e w'=>e=.returned (.tuple #[])∧zCh w B g A n c (bs++out d) d w'
def VE (w0:World)(B g n c:Nat)(A:Option Addr)(y:TT.xC)(D:Nat)(out:Nat→Bs):Prop:=
 ∀(w:World) (v:Value) (bs:Bs) (d:Nat),Ext w0 w→PrS w B g A n c v bs d→d+D≤1000000→bs.length+(out (d+1)).length≤140737488355328 →
  Calls Tryz.prog 44 #[.pointer (some ⟨g,0,none⟩),jF y] w fun e w'=>e=.returned (.tuple #[])∧zCh w B g A n c (bs++out (d+1)) d w'
theorem PrS.zQJ {w:World}{B g:Nat}{A:Option Addr}{n c:Nat}{v:Value}{bs:Bs}{d:Nat}(h:PrS w B g A n c v bs d)(d':Nat):PrS (w.setCell ⟨g,3,none⟩ (.int .i64 (d':Int))) B g A n c v bs d'∧vU w (w.setCell ⟨g,3,none⟩ (.int .i64 (d':Int))) B g:=by
 have hk:∀b,b≠g→(w.setCell ⟨g,3,none⟩ (.int .i64 (d':Int))).heap[b]?=w.heap[b]?:=fun b AA=>zQ _ _ _ _ AA;refine⟨⟨h.lo,h.blk.imp (fun h=>h.put 3 _) (fun h=>h.put 3 _),zF2 h.own fun b hb=>hk b fun e=>h.ne (by rw[hb,e])⟩,⟨rfl,rfl,rfl,by simp[World.setCell],fun b _ hM _=>hk b hM⟩⟩
theorem zOt (w0:World)(B g n c:Nat)(A:Option Addr)(L:List TT.xC)(hB:zAp w0 B n A L)(x:TT.xC)(hx:Cells w0 x.kA (TT.xL x.kids))(ks:List Nat)(hks:x.kids=xK ks)(AH:ks.length≤100000)(D:Nat)(outs:Nat→List Bs)(hlo:∀d,(outs d).length=ks.length)
  (HK:∀j (hj:j<ks.length),∃y,L[ks[j]]?=some y∧zAY w0 B g n c A y D fun d=>(outs d).getD j []) :
  VE w0 B g n c A x (D+1) fun d=>(outs d).flatten:=by
 intro w v bs d AV hS hd AD;have HB:=yD hB;have Ac:=yD hx;have Ai:=yD hks;have Ah:=yD AH;have Am:=yD HK;have Ad:=yD AV;have Ao:=yD hS.lo;have AG:=yD AD;have AF:=yD hd;have AQ:=yD (hlo (d+1));have AY:Hid (x.kids.length=ks.length):=yD (by rw[hks]; simp[xK]);clear hB hx hks AH HK AV AD hd hlo;have AX:Hid (Ext w (w.alloc (.cells #[.int .u8 x.kind,.int .i64 x.pos,.string x.text,.int .i64 x.num,.slice x.kA x.kids.length x.kc] 48))):=yD (Ext.alloc _ _);have Al:Hid (Blk (w.alloc (.cells #[.int .u8 x.kind,.int .i64 x.pos,.string x.text,.int .i64 x.num,.slice x.kA x.kids.length x.kc] 48)) w.heap.size 48 #[.int .u8 x.kind,.int .i64 x.pos,.string x.text,.int .i64 x.num,.slice x.kA x.kids.length x.kc]):=yD (Blk.new _ _ _);have AL:=yD (hS.ext AX.out)
 have AN:w.heap.size≠g:=fun e=>by
  obtain⟨ad,hb⟩:=hS.any
  have:=hb.lt
  omega
 have AT:=yD AN;clear hS AN;unfold jF
 go_enter Tryz.func44,Tryz.ntmps44
 go_upto_region 1 with fail
 generalize w.heap.size=gn at *;generalize w.alloc (.cells #[.int .u8 x.kind,.int .i64 x.pos,.string x.text,.int .i64 x.num,.slice x.kA x.kids.length x.kc] 48)=w1 at *
 have x3:w1.cell? ⟨g,3,none⟩=some (.int .i64 (d:Int)):=by obtain⟨ad,hb⟩:=AL.out.any; exact hb.cell 3
 have f3:w1.frozen? ⟨g,3,none⟩=false:=by obtain⟨ad,hb⟩:=AL.out.any; exact hb.frozen 3
 have qd:IntKind.wrap .i64 ((d:Int)+1)=(d:Int)+1:=by rw[IntKind.wrap_i64]; have:=AF.out; omega
 go_upto_region 2 with fail
 have ht:=AL.out.zQJ (d+1)
 have AA:((d+1:Nat):Int)=(d:Int)+1:=by omega
 rw[AA] at ht;have HT:=yD ht;clear ht x3 f3 qd;generalize w1.setCell ⟨g,3,none⟩ (.int .i64 ((d:Int)+1))=w2 at *;have Af:Hid (PrS w2 B g A n c v bs (d+1)):=yD HT.out.1;have Ag:Hid (vU w w2 B g):=yD ((vU.ext AX.out).trans HT.out.2);have AW:=yD (HT.out.2.blk Al.out AT.out (by decide));clear HT;have n4:w2.cell? ⟨gn,4,none⟩=some (.slice x.kA x.kids.length x.kc):=AW.out.cell 4;rw[AY.out] at n4
 go_wp2_with fail
 clear n4
 go_loopw [15] (fun i wr=>∃(k:Nat) (v:Value),k≤ks.length∧i=.int .i64 k∧Hid (PrS wr B g A n c v (bs++((outs (d+1)).take k).flatten) (d+1))∧Hid (vU w2 wr B g)) (fun i _=>ks.length-(intOf i).toNat)
 case atStart=>exact⟨0,v,zT _,rfl,yD (by simpa using Af.out),yD (vU.refl _ _ _)⟩
 case round=>
  obtain⟨k,v1,hk,rfl,HP,HM⟩:=hrel;obtain⟨wa,rfl⟩:∃wa:World,wa=wr:=⟨_,rfl⟩;have AH:=Ah.out;have AZ:=yD (Ag.out.trans HM.out);have AJ:=yD (HB.out.ext Ad.out AZ.out Ao.out);have HN:=yD (HM.out.blk AW.out AT.out (by decide))
  by_cases AB:k<ks.length
  ·have d0:decide ((k:Int)<(ks.length:Int))=true:=yP (by omega);have d1:decide (k<ks.length)=true:=yP AB;have n0:wa.cell? ⟨gn,0,none⟩=some (.int .u8 x.kind):=HN.out.cell 0;have n1:wa.cell? ⟨gn,1,none⟩=some (.int .i64 x.pos):=HN.out.cell 1;have n2:wa.cell? ⟨gn,2,none⟩=some (.string x.text):=HN.out.cell 2;have n3:wa.cell? ⟨gn,3,none⟩=some (.int .i64 x.num):=HN.out.cell 3;have n4:wa.cell? ⟨gn,4,none⟩=some (.slice x.kA x.kids.length x.kc):=HN.out.cell 4;obtain⟨y,hy,AU⟩:=Am.out k AB;have hp:=HB.out.prT AJ.out HP.out;have AC:=zA0 wa g n c A L hp.tree hp.len hp.at0 hp.lt x (Ac.out.ext AJ.out) k (ks[k]'AB) (by rw[AY.out]; exact AB) (by simp only[Ai.out,xK,zA]) (List.getElem?_eq_some_iff.1 hy).1 y hy;unfold jF at AC;have AE:=yD AC;have Ab:=yD AU
   have AM:k<(outs (d+1)).length:=by rw[AQ.out]; exact AB
   have AK:((outs (d+1)).take (k+1)).flatten=((outs (d+1)).take k).flatten++(outs (d+1)).getD k []:=by
    rw[List.take_add_one,yG AM,List.flatten_append,yE,yG AM]
    simp
   have AS:((outs (d+1)).take (k+1)).flatten.length≤(outs (d+1)).flatten.length:=by
    conv=>rhs; rw[←List.take_append_drop (k+1) (outs (d+1))]
    rw[List.flatten_append,yM];omega
   rw[AK,yM] at AS;have Aj:Hid (bs.length+((outs (d+1)).take k).flatten.length+((outs (d+1)).getD k []).length≤140737488355328):=yD (by have:=AG.out; omega);have Ak:=yD AK;have AR:=yD AB;clear hy AU hp AC AB AK AS AM
   go_wp2_with fail
   refine AE.out.mono ?_;rintro e w3 ⟨rfl,AP⟩;have AI:=yD AP;clear AP n0 n1 n2 n3 n4 AE
   go_wp2_with fail
   refine(Ab.out w3 v1 (bs++((outs (d+1)).take k).flatten) (d+1) (AJ.out.trans AI.out) (HP.out.ext AI.out) (by have:=AF.out; omega) (by rw[yM]; have:=Aj.out; omega)).mono ?_;rintro e w4 ⟨rfl,⟨v4,hu⟩,hm⟩
   have HU:Hid (PrS w4 B g A n c v4 (bs++((outs (d+1)).take (k+1)).flatten) (d+1)):=yD (by
    have:=hu
    rw[Ak.out,←List.append_assoc]
    exact this)
   have Aa:=yD (HM.out.trans ((vU.ext AI.out).trans hm));clear hu hm
   go_wp2_with fail
   go_roundw
   case rel=>exact⟨k+1,v4,by have:=AR.out; omega,by go_num,HU,Aa⟩
   case measure=>simp[intOf]; have:=AR.out; omega
  ·obtain rfl:k=ks.length:=by omega
   have d0:decide ((ks.length:Int)<(ks.length:Int))=false:=by simp
   have d1:decide (ks.length<ks.length)=false:=by simp
   have x3:wa.cell? ⟨g,3,none⟩=some (.int .i64 ((d+1:Nat):Int)):=by obtain⟨ad,hb⟩:=HP.out.any; exact hb.cell 3
   have AA:((d+1:Nat):Int)=(d:Int)+1:=by omega
   rw[AA] at x3
   have f3:wa.frozen? ⟨g,3,none⟩=false:=by obtain⟨ad,hb⟩:=HP.out.any; exact hb.frozen 3
   have qd:IntKind.wrap .i64 ((d:Int)+1-1)=(d:Int):=by rw[IntKind.wrap_i64]; have:=AF.out; omega
   have HF:=yD (HP.out.zQJ d);have An:Hid ((outs (d+1)).take ks.length=outs (d+1)):=yD (List.take_of_length_le (by rw[AQ.out]; exact zU _))
   have Ap:d≤1000000:=by have:=AF.out; omega
   clear AB hk AA
   go_wp2_with fail
   go_end0;obtain⟨AO,Ae⟩:=HF.out;rw[An.out] at AO;exact⟨rfl,⟨v1,AO⟩,AZ.out.trans Ae⟩
end Go.Proofs.YtioffpjajhalaaaGreatDoor
