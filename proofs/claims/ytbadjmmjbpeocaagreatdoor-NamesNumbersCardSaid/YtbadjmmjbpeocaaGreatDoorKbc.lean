/- tree.fits, walked. (and what follows of it). The conditions stand at each lemma. -/
import Derived.Test.YtbadjmmjbpeocaaGreatDoorKaa
import Derived.Test.YtbadjmmjbpeocaaGreatDoorKbb
import Derived.Test.YtbadjmmjbpeocaaGreatDoorKaz
import Derived.Deep.OwnRows
import Derived.Laws.MakeOwn
set_option linter.unusedVariables false
set_option linter.unusedSimpArgs false
set_option maxRecDepth 100000
set_option maxHeartbeats 16000000
namespace Go.Proofs.YtbadjmmjbpeocaaGreatDoor.TT
open Go Go.RowKit
theorem zUD:(Tryz.prog.info? 5).map (fun i=>(i.zero,i.size,i.bytes))=some (some (.int .u8 0),1,1):=by kernel_rfl
theorem zNb (l:List Int)(x:Int):vB (l++[x])=vB l++[.int .u8 x]:=by simp[vB]
structure KSt (w0 W:World)(gt gn gk:Nat)(tv:Value)(nc:Array Value)(ls:List Int)(A:Option Addr)(c:Nat):Prop where
 t:Blk W gt 26 #[tv]
 n:Blk W gn 39 nc
 k:Blk W gk 22 #[.slice A ls.length c]
 own:W.ownsRow w0.heap.size 5 1 (.slice A ls.length c) ls.length (vB ls)
 ext:Ext w0 W
 low:w0.heap.size≤gk
 nil:A=none→c=0
theorem KSt.mono {w0 W W':World}{gt gn gk:Nat}{tv:Value}{nc:Array Value}{ls:List Int}{A:Option Addr}{c:Nat}(h:KSt w0 W gt gn gk tv nc ls A c)(hx:Ext W W'):KSt w0 W' gt gn gk tv nc ls A c:=
 ⟨h.t.ext hx,h.n.ext hx,h.k.ext hx,zCM h.own hx,h.ext.trans hx,h.low,h.nil⟩
theorem zR0 {W:World}{b:Nat}{e:TypeId}{size n:Nat}{v:Value}{xs:List Value}(h:W.ownsRow b e size v n xs):∀k,v.ownBlock=some k→b≤k:=by
 intro k hk
 rcases h.2 with ⟨rfl,_⟩ | ⟨g',cap,cur,rfl,hb,hh,_⟩
 ·simp[Value.ownBlock] at hk
 ·simp[Value.ownBlock] at hk;omega
theorem zSq {W:World}{b:Nat}{e:TypeId}{v:Value}{n m:Nat}{xs ys:List Value}(h:W.ownsRow b e 1 v n xs)(hn:n=m)(hx:xs=ys):W.ownsRow b e 1 v m ys:=by subst hn hx; exact h
theorem KSt.step {w0 W W':World}{gt gn gk:Nat}{tv:Value}{nc:Array Value}{ls:List Int}{A A':Option Addr}{c c':Nat}{x:Int}(h:KSt w0 W gt gn gk tv nc ls A c)
  (ho:W'.ownsRow w0.heap.size 5 1 (.slice A' (ls.length+1) c') (ls.length+1) (vB ls++[.int .u8 x])) (hg:W.grownBy W' (Value.slice A ls.length c).ownBlock) (hn:A'=none→c'=0) :
  KSt w0 (W'.setCell ⟨gk,0,none⟩ (.slice A' (ls.length+1) c')) gt gn gk tv nc (ls++[x]) A' c':=by
 have d1:(Value.slice A ls.length c).ownBlock≠some gt:=XT h.own h.t (by decide);have d2:(Value.slice A ls.length c).ownBlock≠some gn:=XT h.own h.n (by decide);have d3:(Value.slice A ls.length c).ownBlock≠some gk:=XT h.own h.k (by decide);have t1:=h.t.grown hg (Ne.symm d1);have n1:=h.n.grown hg (Ne.symm d2);have k1:=h.k.grown hg (Ne.symm d3);have e1:gt≠gk:=h.t.differ h.k (by decide);have e2:gn≠gk:=h.n.differ h.k (by decide)
 have hl:(ls++[x]).length=ls.length+1:=by simp
 refine⟨t1.far e1 _,n1.far e2 _,?_,?_,?_,h.low,hn⟩
 ·rw[hl]; exact k1.put 0 _
 ·rw[hl];have d4:(Value.slice A' (ls.length+1) c').ownBlock≠some gk:=XT ho k1 (by decide);exact zSq (zPw ho (p:=⟨gk,0,none⟩) d4 _) rfl (zNb ls x).symm
 ·have hb:Below w0.heap.size w0 W':=Below.grown h.ext hg h.ext.size (zR0 h.own);exact hb.setCell (p:=⟨gk,0,none⟩) h.low _
theorem zOd (k:Int):(XW k).length≤10:=by
 by_cases hk:1≤k∧k≤26
 ·have hc:k=1∨k=2∨k=3∨k=4∨k=5∨k=6∨k=7∨k=8∨k=9∨k=10∨k=11∨k=12∨k=13∨k=14∨k=15∨k=16∨k=17∨k=18∨k=19∨k=20∨k=21∨k=22∨k=23∨k=24∨k=25∨k=26:=by omega
  rcases hc with rfl | rfl | rfl | rfl | rfl | rfl | rfl | rfl | rfl | rfl | rfl | rfl | rfl | rfl | rfl | rfl | rfl | rfl | rfl | rfl | rfl | rfl | rfl | rfl | rfl | rfl <;> decide
 ·have h0:XW k=[]:=by
   unfold XW
   repeat (rw[if_neg (by omega)])
  rw[h0]
  decide
theorem zQ6 (l:List xR)(A:Option Addr)(n c:Nat)(x:xR)(w:World)(hn:n=l.length)(ht:zA7 w A l)(hlen:l.length≤9000)(hx:x.text.size≤9000)(hkl:x.kids.length≤9000)(hxo:zDB w x)(hin:zLk l x.kids) :
  Calls Tryz.prog 55 #[.agg #[.slice A n c],.agg (Array.mk x.cells)] w fun e w'=>e=.returned (.bool (zAz x.kind x.num x.text.data.toList (jY l x.kids)))∧Ext w w':=by
 subst hn;obtain⟨i0,hi,hz0,hz1,hz2⟩:=info_parts zUD;have HT:=yG ht;have HXO:=yG hxo;have HIN:=yG hin;clear ht hxo hin;obtain⟨kind,pos,text,num,kA,kc,kids⟩:=x
 simp only at hx hkl
 obtain⟨fs,hfs⟩:∃fs,XW kind=fs:=⟨_,rfl⟩;have HFL:Hid (fs.length≤10):=yG (by rw[←hfs]; exact zOd kind);have HFIT:Hid (zAz kind num text.data.toList (jY l kids)=fs.any fun f=>YD f num text.data.toList (jY l kids)):=yG (by unfold zAz; rw[hfs]);have HFS:=yG hfs;clear hfs
 show Calls Tryz.prog 55 #[.agg #[.slice A l.length c],.agg #[.int .u8 kind,.int .i64 pos,.string text,.int .i64 num,.slice kA kids.length kc]] w fun e w'=>e=.returned (.bool (zAz kind num text.data.toList (jY l kids)))∧Ext w w'
 have HS0:Hid (KSt w (((w.alloc (.cells #[.slice A l.length c] 26)).alloc (.cells #[.int .u8 kind,.int .i64 pos,.string text,.int .i64 num,.slice kA kids.length kc] 39)).alloc (.cells #[.slice none 0 0] 22)) w.heap.size (w.heap.size+1) (w.heap.size+1+1) (.slice A l.length c) #[.int .u8 kind,.int .i64 pos,.string text,.int .i64 num,.slice kA kids.length kc] [] none 0):=
  yG ⟨((Blk.newAt rfl).alloc _).alloc _,(Blk.newAt (by simp)).alloc _,Blk.newAt (by simp),zR _ _ _ _,((Ext.alloc _ _).trans (Ext.alloc _ _)).trans (Ext.alloc _ _),by omega,fun _=>rfl⟩
 go_enter Tryz.func55,Tryz.ntmps55
 have y0:=HS0.out.n.cell 4
 go_wp2_with fail
 clear y0;generalize ((w.alloc (.cells #[.slice A l.length c] 26)).alloc (.cells #[.int .u8 kind,.int .i64 pos,.string text,.int .i64 num,.slice kA kids.length kc] 39)).alloc (.cells #[.slice none 0 0] 22)=wz at *;generalize w.heap.size+1+1=gk at *;generalize w.heap.size+1=gn at *;obtain⟨gt,hgt⟩:∃gt,gt=w.heap.size:=⟨_,rfl⟩;rw[←hgt] at HS0 ⊢;have HGT:=yG hgt;clear hgt
 go_loopw [11] (fun i wr=>∃(k:Nat) (A':Option Addr) (c':Nat),k≤kids.length∧i=.int .i64 k∧Hid (KSt w wr gt gn gk (.slice A l.length c) #[.int .u8 kind,.int .i64 pos,.string text,.int .i64 num,.slice kA kids.length kc] (jY l (kids.take k)) A' c')) (fun i _=>kids.length-(intOf i).toNat)
 case atStart=>exact⟨0,none,0,zW _,rfl,HS0⟩
 case round=>
  obtain⟨k,A',c',hk,rfl,HS⟩:=hrel;obtain⟨wa,rfl⟩:∃wa:World,wa=wr:=⟨_,rfl⟩
  by_cases hlt:k<kids.length
  ·have d0:decide ((k:Int)<(kids.length:Int))=true:=yS (by omega);obtain⟨b,off,rfl,hb,hcl⟩:=zPx (HXO.out.kids.ext HS.out.ext) k hlt;obtain⟨a,ha,hal⟩:=HIN.out kids[k] (yO hlt)
   have HKS:Hid (jY l (kids.take (k+1))=jY l (kids.take k)++[l[a].kind]):=yG (by
    unfold jY;rw[zZ hlt,List.map_append,ha];simp only[List.map_cons,List.map_nil]
    rw[zCq hal])
   rw[ha] at hcl;clear ha
   go_upto_region 5 with fail
   obtain⟨b2,off2,rfl,hb2,hc2⟩:=(HT.out.ext HS.out.ext).at_ a hal;have hk0:wa.cell? ⟨b2,off2+a*5,none⟩=some (.int .u8 l[a].kind):=hc2 0 (by omega);have HKC:=yG hk0;clear hk0 hc2 hcl
   have hkn:(jY l (kids.take k)).length=k:=by simp[jY]; omega
   generalize jY l (kids.take k)=ls at *;generalize l[a].kind=ka at *
   have q0:(0:Int)≤(a:Int):=by omega
   have q1:(a:Int)<(l.length:Int):=by omega
   apply xU 8 (by kernel_rfl) (by kernel_rfl) (by kernel_rfl);dsimp only[List.take_succ_cons,List.take_zero,List.drop_succ_cons,List.drop_zero];apply yZ (.slice A' ls.length c') rfl rfl rfl
   ·intro w' hw' hH;clear hH;have c0:=(HS.out.k.ext hw').cell 0;simp[xB,go_sem,c0];exact Ext.refl _
   apply yZ (.pointer (some ⟨gt,0,none⟩)) rfl rfl rfl
   ·intro w' hw' hH;clear hH;simp[xB,go_sem];exact Ext.refl _
   apply yZ (.slice (some ⟨b2,off2,none⟩) l.length c) rfl rfl rfl
   ·intro w' hw' hH;clear hH;have c0:=(HS.out.t.ext hw').cell 0;simp[xB,go_sem,c0];exact Ext.refl _
   apply yZ (.int .i64 (a:Int)) rfl rfl rfl
   ·intro w' hw' hH;clear hH;simp[xB,go_sem];exact Ext.refl _
   apply yZ (.pointer (some ⟨b2,off2+a*5,none⟩)) rfl rfl rfl
   ·intro w' hw' hH;clear hH;simp[xB,go_sem,q0,q1];exact Ext.refl _
   apply yZ (.pointer (some ⟨b2,off2+a*5,none⟩)) rfl rfl rfl
   ·intro w' hw' hH;clear hH;simp[xB,go_sem];exact Ext.refl _
   apply yZ (.int .u8 ka) rfl rfl rfl
   ·intro w' hw' hH;clear hH;have c0:=(hw'.cell (p:=⟨b2,off2+a*5,none⟩) hb2).trans HKC.out;simp[xB,go_sem,c0];exact Ext.refl _
   apply vE (zMD 5 #[.int .u8 ka]) (fun v a b h k=>zMD.ext v a b h k) rfl rfl rfl
   ·intro w' hw' hH;clear hH;simp[xB,go_sem];exact⟨⟨_,rfl,Blk.new _ _ _⟩,Ext.alloc _ _⟩
   intro vl;apply vC;intro w2 hw2 hH;have hlit:=hH _ (List.mem_cons_self);obtain⟨gl,hvl,hgl⟩:=hlit;subst hvl;clear hH;have hS2:=HS.out.mono hw2;have HS2:=yG hS2;have HGL:=yG hgl;have HX2:=yG hw2;clear hS2 hgl hw2
   try simp only[Act.put]
   refine zBD rfl (.tmp 15) (.tmp 22) 22 rfl w.heap.size 5 i0 (.int .u8 0) 1 1 Tryz.underlying22 hi hz0 hz1 hz2 rfl (by decide) (.slice A' ls.length c') ls.length (vB ls) (by kernel_rfl) HS2.out.own (some ⟨gl,0,none⟩) 1 1 [.int .u8 ka] (by kernel_rfl) (fun h=>by cases h) rfl ?c1 ?c2 ?c3 ?c4 ?c5 ?_
   case c1=>exact .inr ⟨gl,0,rfl,HGL.out.lt,fun j hj=>by
    have:j=0:=by simp at hj; omega
    subst this
    exact(HGL.out.cell 0)⟩
   case c2=>intro u hu; simp at hu; subst hu; rfl
   case c3=>unfold maxLen; omega
   case c4=>omega
   case c5=>exact HS2.out.ext.size
   intro A3 c3 w3 hn3 ho3 hg3;have HS3:=yG (HS2.out.step ho3 hg3 hn3);have hk3:Blk w3 gk 22 #[.slice A' ls.length c']:=HS2.out.k.grown hg3 (Ne.symm (XT HS2.out.own HS2.out.k (by decide)));have y0:=hk3.cell 0;have y1:=hk3.frozen 0;clear ho3 hg3 hn3 hk3
   try simp only[Act.put]
   go_wp2_with fail
   go_roundw
   case rel=>exact⟨k+1,A3,c3,by omega,by go_num,yG (by rw[HKS.out]; have:=HS3.out; rw[hkn] at this; exact this)⟩
   case measure=>simp[intOf]; omega
  ·obtain rfl:k=kids.length:=by omega
   have d0:decide ((kids.length:Int)<(kids.length:Int))=false:=by simp
   have HSK:Hid (KSt w wa gt gn gk (.slice A l.length c) #[.int .u8 kind,.int .i64 pos,.string text,.int .i64 num,.slice kA kids.length kc] (jY l kids) A' c'):=yG (by have:=HS.out; rw[List.take_length] at this; exact this);clear HS;have y0:=HSK.out.n.cell 0
   go_wp2_with fail
   refine(zCo kind wa).mono ?_;rintro e w2 ⟨v,rfl,hv,hx2⟩;have HS2:=yG (HSK.out.mono hx2);have HV:=yG hv;clear hv hx2 y0
   go_wp2_with fail
   have hkn:(jY l kids).length≤9000:=by simp[jY]; omega
   have hv2:=HV.out;rw[HFS.out] at hv2;have hn2:Blk w2 gn 39 (Array.mk (xR.cells ⟨kind,pos,text,num,kA,kc,kids⟩)):=HS2.out.n;have hcall:=zLQ fs v A' (jY l kids) c' gk gn ⟨kind,pos,text,num,kA,kc,kids⟩ w2 hv2 HFL.out (Cells.own HS2.out.own) hkn hx HS2.out.k hn2;rw[show(fs.any fun f=>YD f (xR.mk kind pos text num kA kc kids).num (xR.mk kind pos text num kA kc kids).text.data.toList (jY l kids))=zAz kind num text.data.toList (jY l kids) from HFIT.out.symm] at hcall;obtain⟨res,HRES⟩:∃r,Hid (zAz kind num text.data.toList (jY l kids)=r):=⟨_,yG rfl⟩;rw[HRES.out] at hcall;refine hcall.mono ?_;clear hcall;rintro e w3 ⟨rfl,hx3⟩;have HX3:Hid (Ext w w3):=yG (HS2.out.ext.trans hx3);clear hx3
   go_wp2_with fail
   go_ret;exact⟨jM HRES.out.symm,HX3.out⟩
structure zFJ (l:List xR)(x:xR):Prop where
 text:x.text.size≤9000
 kids:x.kids.length≤9000
 range:zLk l x.kids
theorem zTP (l:List xR)(A:Option Addr)(n c:Nat)(x:xR)(w:World)(hn:n=l.length)(ht:zA7 w A l)(hlen:l.length≤9000)(hf:zFJ l x)(hxo:zDB w x)(b:Bool)(hb:zBA l x=b) :
  Calls Tryz.prog 55 #[.agg #[.slice A n c],.agg (Array.mk x.cells)] w fun e w'=>e=.returned (.bool b)∧Ext w w':=by
 subst hb;exact zQ6 l A n c x w hn ht hlen hf.text hf.kids hxo hf.range
theorem zIY (l:List xR)(A:Option Addr)(n c gt:Nat)(x:xR)(w:World)(hn:n=l.length)(ht:zA7 w A l)(hlen:l.length≤9000)(hf:zFJ l x)(hxo:zDB w x)(hg:Blk w gt 26 #[.slice A n c])(b:Bool)(hb:(!zBA l x)=b) :
  Calls Tryz.prog 54 #[.agg (Array.mk x.cells),.pointer (some ⟨gt,0,none⟩)] w fun e w'=>e=.returned (.bool b)∧Ext w w':=by
 subst hn;obtain⟨d,hd⟩:∃d,zBA l x=d:=⟨_,rfl⟩;have HD:=yG hd;rw[hd] at hb;have HB:=yG hb;have HT:=yG ht;have HXO:=yG hxo;have HF:=yG hf;have HG:=yG hg;clear hb hd ht hxo hf hg;obtain⟨kind,pos,text,num,kA,kc,kids⟩:=x;have HXA:Hid (Ext w (w.alloc (.cells #[.int .u8 kind,.int .i64 pos,.string text,.int .i64 num,.slice kA kids.length kc] 39))):=yG (Ext.alloc _ _);have y0:=(HG.out.ext HXA.out).cell 0
 show Calls Tryz.prog 54 #[.agg #[.int .u8 kind,.int .i64 pos,.string text,.int .i64 num,.slice kA kids.length kc],.pointer (some ⟨gt,0,none⟩)] w fun e w'=>e=.returned (.bool b)∧Ext w w'
 go_enter Tryz.func54,Tryz.ntmps54
 go_wp2_with fail
 refine(zTP l A l.length c ⟨kind,pos,text,num,kA,kc,kids⟩ _ rfl (HT.out.ext HXA.out) hlen HF.out (HXO.out.ext HXA.out) d HD.out).mono ?_;rintro e w2 ⟨rfl,hx2⟩;have HX2:Hid (Ext w w2):=yG (HXA.out.trans hx2);clear hx2 y0
 go_wp2_with fail
 go_ret;exact⟨jM HB.out,HX2.out⟩
def zEx:xR:=⟨0,0,⟨#[]⟩,0,none,0,[]⟩
theorem zMN (l:List xR)(A:Option Addr)(n c gt:Nat)(w:World)(hn:n=l.length)(ht:zA7 w A l)(hlen:l.length≤9000)(hf:∀x ∈ l,zFJ l x)(hg:Blk w gt 26 #[.slice A n c]) :
  Calls Tryz.prog 97 #[.slice A n c,.func (.func 54) #[] #[.pointer (some ⟨gt,0,none⟩)]] w fun e w'=>∃r:Int,e=.returned (.int .i64 r)∧decide (0≤r)=(List.range l.length).any (fun i=>!zBA l (l.getD i zEx))∧Ext w w':=by
 subst hn;have HT:=yG ht;have HG:=yG hg;have HF:=yG hf;clear ht hg hf;obtain⟨q,HQ⟩:∃q:Nat→Bool,Hid ((fun i=>!zBA l (l.getD i zEx))=q):=⟨_,yG rfl⟩;rw[HQ.out]
 go_enter Tryz.func97,Tryz.ntmps97
 go_wp2_with fail
 go_loopw [8] (fun i wr=>∃k:Nat,k≤l.length∧i=.int .i64 k∧Hid (Ext w wr)∧Hid (∀j,j<k→q j=false)) (fun i _=>l.length-(intOf i).toNat)
 case atStart=>exact⟨0,zW _,rfl,yG (Ext.refl _),yG fun j hj=>by omega⟩
 case round=>
  obtain⟨k,hk,rfl,HX,HR⟩:=hrel;obtain⟨wa,rfl⟩:∃wa:World,wa=wr:=⟨_,rfl⟩
  by_cases hlt:k<l.length
  ·have d0:decide ((k:Int)<(l.length:Int))=true:=yS (by omega);obtain⟨b,hb⟩:∃b,q k=b:=⟨_,rfl⟩;have HB:=yG hb
   have hfe:l.getD k zEx=l[k]:=by simp[yH,hlt]
   have HFT:Hid ((!zBA l l[k])=b):=yG (by rw[←hb,←HQ.out,←hfe]);have HT1:=yG (HT.out.ext HX.out);have HG1:=yG (HG.out.ext HX.out);have HNO:Hid (zDB wa l[k]):=yG (HT1.out.ok _ (yO hlt));have HNF:Hid (zFJ l l[k]):=yG (HF.out _ (yO hlt));obtain⟨g,off,rfl,hgb,hcell⟩:=HT1.out.at_ k hlt;clear hb hfe;generalize l[k]=x at *;obtain⟨kind,pos,text,num,kA,kc,kids⟩:=x;have c0:wa.cell? ⟨g,off+k*5,none⟩=some (.int .u8 kind):=hcell 0 (by omega);have c1:wa.cell? ⟨g,off+k*5+1,none⟩=some (.int .i64 pos):=hcell 1 (by omega);have c2:wa.cell? ⟨g,off+k*5+2,none⟩=some (.string text):=hcell 2 (by omega);have c3:wa.cell? ⟨g,off+k*5+3,none⟩=some (.int .i64 num):=hcell 3 (by omega);have c4:wa.cell? ⟨g,off+k*5+4,none⟩=some (.slice kA kids.length kc):=hcell 4 (by omega);clear hcell
   cases b with
   | true=>
    go_wp2_with (refine(zIY l _ l.length c gt ⟨kind,pos,text,num,kA,kc,kids⟩ _ rfl HT1.out hlen HNF.out HNO.out HG1.out true HFT.out).mono ?_; rintro e w2 ⟨rfl,hx2⟩; have HX2:Hid (Ext w w2):=yG (HX.out.trans hx2); clear hx2)
    go_ret;exact⟨_,rfl,by rw[yS (by omega)]; exact(any_some k hlt HB.out).symm,HX2.out⟩
   | false=>
    go_wp2_with (refine(zIY l _ l.length c gt ⟨kind,pos,text,num,kA,kc,kids⟩ _ rfl HT1.out hlen HNF.out HNO.out HG1.out false HFT.out).mono ?_; rintro e w2 ⟨rfl,hx2⟩; have HX2:Hid (Ext w w2):=yG (HX.out.trans hx2); clear hx2)
    go_roundw
    case rel=>exact⟨k+1,by omega,by go_num,HX2,yG fun j hj=>by
     by_cases hjk:j=k
     ·subst hjk; exact HB.out
     ·exact HR.out j (by omega)⟩
    case measure=>simp[intOf]; omega
  ·obtain rfl:k=l.length:=by omega
   have d0:decide ((l.length:Int)<(l.length:Int))=false:=by simp
   go_wp2_with fail
   go_ret;exact⟨_,rfl,by rw[any_none HR.out]; rfl,HX.out⟩
theorem zTn (l:List xR)(p:xR→Bool):(!(l.any fun x=>!p x))=l.all p:=by
 induction l with
 | nil=>rfl
 | cons x l ih=>rw[List.any_cons,List.all_cons,←ih]; cases p x <;> simp
theorem zLI (l:List xR)(A:Option Addr)(n c gt:Nat)(w:World)(hn:n=l.length)(ht:zA7 w A l)(hlen:l.length≤9000)(hf:∀x ∈ l,zFJ l x)(hg:Blk w gt 26 #[.slice A n c])(b:Bool)(hb:Hid ((!l.all (zBA l))=b)) :
  Calls Tryz.prog 53 #[.slice A n c,.func (.func 54) #[] #[.pointer (some ⟨gt,0,none⟩)]] w fun e w'=>e=.returned (.bool b)∧Ext w w':=by
 subst hn;have HRA:Hid ((List.range l.length).any (fun i=>!zBA l (l.getD i zEx))=b):=yG (by rw[←hb.out,←zTn,Bool.not_not]; exact zKS l (fun x=>!zBA l x) zEx)
 go_enter Tryz.func53,Tryz.ntmps53
 go_wp2_with fail
 refine(zMN l A l.length c gt w rfl ht hlen hf hg).mono ?_;rintro e w2 ⟨r,rfl,hr,hx2⟩;have HRR:=yG hr;have HX2:=yG hx2;clear hr hx2
 go_wp2_with fail
 go_ret;exact⟨jM (by rw[HRR.out,HRA.out]),HX2.out⟩
theorem zIq:(Tryz.prog.info? 3).map (fun i=>(i.zero,i.size,i.bytes))=some (some (.int .i64 0),1,8):=by kernel_rfl
def zCF (Z:List Nat):Array Value:=(Z.map fun a:Nat=>Value.int .i64 (a:Int)).toArray
theorem zNP (Z:List Nat)(i a:Nat):(zCF Z).setIfInBounds i (.int .i64 (a:Int))=zCF (Z.set i a):=by
 unfold zCF;rw[yD,List.map_set]
theorem zGs (Z:List Nat)(i:Nat)(h:i<Z.length):(zCF Z)[i]?=some (.int .i64 (Z.getD i 0:Int)):=by
 unfold zCF;simp[yH,h]
theorem zNg (n:Nat):madeCells #[.int .i64 0] n=zCF (List.replicate n 0):=by
 apply Array.toList_inj.1;rw[toList_madeCells_one];simp[zCF]
def zU9 (w:World)(o:Option (List Nat))(v:Value):Prop:=match o with
 | none=>v=.slice none 0 0
 | some Z=>∃g,v=.slice (some ⟨g,0,none⟩) Z.length Z.length∧Blk w g 3 (zCF Z)
theorem zL1 (len:Nat)(Z:List Nat)(k:Int)(r:List Int)(a:Nat):zCd len Z (k::r) a=if k=(a:Int)∧a<len then zCd len Z r (Z.getD a 0) else none:=rfl
theorem zIT {ks:List (List Int)}:∀(j:Nat) (Z:List Nat),JC ks j=some Z→Z.length=ks.length:=by
 intro j
 induction j with
 | zero=>intro Z h; injection h with h; subst h; simp
 | succ j ih=>
  intro Z h;unfold JC at h
  split at h
  ·cases h
  ·rename_i Z0 h0
   split at h
   ·cases h
   ·injection h with h;subst h
    simpa using ih Z0 h0
theorem zQh {ks:List (List Int)}:∀(j:Nat) (Z:List Nat),j≤ks.length→JC ks j=some Z→∀a,Z.getD a 0≤ks.length:=by
 intro j Z hj h a
 by_cases ha:ks.length-j≤a∧a<ks.length
 ·obtain⟨_,hz⟩:=zDr ks j Z hj h;exact(zBx (hz a ha.1 ha.2)).2
 ·by_cases hal:a<ks.length
  ·have:∀(j:Nat) (Z:List Nat),JC ks j=some Z→∀a,a<ks.length-j→Z.getD a 0=0:=by
    intro j
    induction j with
    | zero=>
     intro Z h a ha;injection h with h;subst h;simp[yH,List.getElem?_replicate]
     split <;> rfl
    | succ j ih=>
     intro Z h a ha;unfold JC at h
     split at h
     ·cases h
     ·rename_i Z0 h0
      split at h
      ·cases h
      ·injection h with h;subst h
       have:=ih Z0 h0 a (by omega)
       simp only[yH,List.getElem?_set];rw[if_neg (by omega)]
       simpa [yH] using this
   rw[this j Z h a (by omega)];omega
  ·have hl:=zIT j Z h;simp[yH,zM (show Z.length≤a by omega)]
theorem zSp (l:List xR)(A:Option Addr)(n c:Nat)(w:World)(hn:n=l.length)(ht:zA7 w A l)(hlen:l.length≤9000)(hkl:∀x ∈ l,x.kids.length≤9000)(o:Option (List Nat))(ho:Hid (zCj (zBQ l)=o)) :
  Calls Tryz.prog 52 #[.agg #[.slice A n c]] w fun e w'=>∃v,e=.returned v∧zU9 w' o v∧Ext w w':=by
 subst hn;have HT:=yG ht;have HKL:=yG hkl;clear ht hkl;have hmk:=run_make_row' (P:=Tryz.prog) 33 3 (.int .i64 0) 8 Tryz.underlying33 zIq rfl .i64 .i64 l.length (by omega) (by omega)
 go_enter Tryz.func52,Tryz.ntmps52
 go_upto_region 2 with fail
 have HB0:Hid (Blk ((w.alloc (.cells #[.slice A l.length c] 26)).alloc (.cells (madeCells #[.int .i64 0] l.length) 3)) (w.heap.size+1) 3 (zCF (List.replicate l.length 0))):=yG (by
  rw[zNg]
  exact Blk.newAt (by simp))
 have HG0:Hid (Blk ((w.alloc (.cells #[.slice A l.length c] 26)).alloc (.cells (madeCells #[.int .i64 0] l.length) 3)) w.heap.size 26 #[.slice A l.length c]):=yG ((Blk.new _ _ _).alloc _);have HX0:Hid (Ext w ((w.alloc (.cells #[.slice A l.length c] 26)).alloc (.cells (madeCells #[.int .i64 0] l.length) 3))):=(Ext.alloc _ _).trans (Ext.alloc _ _)
 try simp only[yT]
 generalize (w.alloc (.cells #[.slice A l.length c] 26)).alloc (.cells (madeCells #[.int .i64 0] l.length) 3)=w1 at *;obtain⟨g,hg⟩:∃g,w.heap.size+1=g:=⟨_,rfl⟩;obtain⟨gt,hgt⟩:∃gt,w.heap.size=gt:=⟨_,rfl⟩;rw[hg] at HB0 ⊢;rw[hgt] at HG0 ⊢;have HGG:Hid (w.heap.size≤g∧gt≠g):=yG ⟨by omega,by omega⟩;clear hg hgt hmk;have y0:=HG0.out.cell 0
 go_wp2_with fail
 clear y0
 go_loopw [4] (fun i wr=>∃(m:Nat) (Z:List Nat),m≤l.length∧i=.int .i64 ((m:Int)-1)∧Hid (JC (zBQ l) (l.length-m)=some Z)∧Hid (Blk wr g 3 (zCF Z))∧Hid (Blk wr gt 26 #[.slice A l.length c])∧Hid (Ext w wr)) (fun i _=>(intOf i+1).toNat)
 case atStart=>exact⟨l.length,List.replicate l.length 0,zX _,rfl,yG (by rw[Nat.sub_self]; unfold JC; rw[XM]),HB0,HG0,HX0⟩
 case round=>
  clear HB0 HG0 HX0;obtain⟨m,Z,hm,rfl,HZ,HB,HG,HX⟩:=hrel;obtain⟨wa,rfl⟩:∃wa:World,wa=wr:=⟨_,rfl⟩
  have hzl:Z.length=l.length:=by rw[zIT _ _ HZ.out,XM]
  have HZL:Hid (∀a,Z.getD a 0≤l.length):=yG (by have:=zQh _ Z (by rw[XM]; omega) HZ.out; rw[XM] at this; exact this)
  cases m with
  | zero=>
   have HON:Hid (o=if l.length≠0∧Z.getD 0 0=l.length then some Z else none):=yG (by
    rw[←ho.out];unfold zCj
    have:=HZ.out
    rw[Nat.sub_zero] at this
    rw[XM,this])
   by_cases h0:l.length=0
   ·have e0:((l.length:Int)==0)=true:=by rw[h0]; rfl
    have HO:Hid (o=none):=yG (by rw[HON.out,if_neg (by omega)])
    go_wp2_with fail
    go_ret;exact⟨_,rfl,(by rw[HO.out]; rfl),HX.out⟩
   ·have e0:((l.length:Int)==0)=false:=by rw[yI]; omega
    have z0:wa.cell? ⟨g,0,none⟩=some (.int .i64 (Z.getD 0 0:Int)):=(HB.out.cell 0).trans (zGs Z 0 (by omega))
    have q0:(0:Int)<(l.length:Int):=by omega
    obtain⟨z,HZ0⟩:∃z,Hid (Z.getD 0 0=z):=⟨_,yG rfl⟩;rw[HZ0.out] at z0 HON
    by_cases hz:z=l.length
    ·have e1:((z:Int)==(l.length:Int))=true:=by simp[hz]
     have HO:Hid (o=some Z):=yG (by rw[HON.out,if_pos ⟨h0,hz⟩]);clear hz
     go_wp2_with fail
     go_ret;exact⟨_,rfl,(by rw[HO.out]; exact⟨g,by rw[hzl]; rfl,HB.out⟩),HX.out⟩
    ·have e1:((z:Int)==(l.length:Int))=false:=by rw[yI]; omega
     have HO:Hid (o=none):=yG (by rw[HON.out,if_neg (fun h=>hz h.2)])
     go_wp2_with fail
     go_ret;exact⟨_,rfl,(by rw[HO.out]; rfl),HX.out⟩
  | succ m=>
   have em:(((m+1:Nat):Int)-1)=(m:Int):=by omega
   rw[em]
   have hml:m<l.length:=by omega
   obtain⟨b,off,rfl,hb,hcell⟩:=(HT.out.ext HX.out).at_ m hml;have HNO:Hid (zDB wa l[m]):=yG ((HT.out.ext HX.out).ok _ (yO hml));have HKN:Hid (l[m].kids.length≤9000):=yG (HKL.out _ (yO hml))
   have HST:Hid (∀r,zCd l.length Z l[m].kids (m+1)=r→JC (zBQ l) (l.length-m)=match r with | none=>none | some a=>some (Z.set m a)):=yG (by
    intro r hr;rw[show l.length-m=(l.length-(m+1))+1 from by omega];unfold JC;rw[HZ.out];simp only[XM];rw[show l.length-1-(l.length-(m+1))=m from by omega,zDf l m hml,hr]
    cases r <;> rfl)
   generalize l[m]=x at *;obtain⟨kind,pos,text,num,kA,kc,kids⟩:=x;have hkn:kids.length≤9000:=HKN.out;have c4:wa.cell? ⟨b,off+m*5+4,none⟩=some (.slice kA kids.length kc):=hcell 4 (by omega);clear hcell em
   have hd0:decide ((m:Int) ≥ 0)=true:=by simp
   have hd1:decide (0≤(m:Int))=true:=by simp
   have hml':(m:Int)<(l.length:Int):=by omega
   have y0:=HG.out.cell 0
   go_wp2_with fail
   go_loopw [5,29] (fun at_ i w2=>w2=wa∧∃(k a:Nat),k≤kids.length∧i=.int .i64 k∧at_=.int .i64 (a:Int)∧a≤l.length∧Hid (zCd l.length Z kids (m+1)=zCd l.length Z (kids.drop k) a)) (fun _ i _=>kids.length-(intOf i).toNat)
   case atStart=>exact⟨rfl,0,m+1,zW _,rfl,by go_num,by omega,yG rfl⟩
   case round=>
    obtain⟨hwr,k,a,hk,rfl,rfl,hal,HK⟩:=hrel;subst hwr
    by_cases hlt:k<kids.length
    ·have d0:decide ((k:Int)<(kids.length:Int))=true:=yS (by omega);obtain⟨b2,off2,rfl,hb2,hk2⟩:=zPx HNO.out.kids k hlt;have hdr:=List.drop_eq_getElem_cons hlt
     simp only at hk2
     generalize kids[k]=kv at *;rw[hdr,zL1] at HK;clear hdr
     by_cases hkv:kv=(a:Int)
     ·subst hkv
      by_cases hal2:a<l.length
      ·have d1:decide ((l.length:Int)≤(a:Int))=false:=yR (by omega);have d2:decide ((a:Int) ≥ (l.length:Int))=false:=yR (by omega)
       have q1:(a:Int)<(l.length:Int):=by omega
       have z0:wr.cell? ⟨g,a,none⟩=some (.int .i64 (Z.getD a 0:Int)):=(HB.out.cell a).trans (zGs Z a (by omega));have HK2:Hid (zCd l.length Z kids (m+1)=zCd l.length Z (kids.drop (k+1)) (Z.getD a 0)):=yG (by rw[HK.out,if_pos ⟨rfl,hal2⟩]);have hzb:=HZL.out a;generalize Z.getD a 0=z at *
       go_wp2_with fail
       go_roundw
       case rel=>exact⟨trivial,k+1,z,by omega,by go_num,rfl,hzb,HK2⟩
       case measure=>simp[intOf]; omega
      ·have d1:decide ((l.length:Int)≤(a:Int))=true:=yS (by omega);have d2:decide ((a:Int) ≥ (l.length:Int))=true:=yS (by omega)
       have HO:Hid (o=none):=yG (by
        rw[←ho.out];have h1:=HK.out;rw[if_neg (fun h=>hal2 h.2)] at h1
        exact zJi (j:=l.length-m) (by rw[XM]; omega) (HST.out none h1))
       go_wp2_with fail
       go_ret;exact⟨_,rfl,(by rw[HO.out]; rfl),HX.out⟩
     ·have e1:(kv==(a:Int))=false:=beq_eq_false_iff_ne.2 hkv
      have HO:Hid (o=none):=yG (by
       rw[←ho.out];have h1:=HK.out;rw[if_neg (fun h=>hkv h.1)] at h1
       exact zJi (j:=l.length-m) (by rw[XM]; omega) (HST.out none h1))
      go_wp2_with fail
      go_ret;exact⟨_,rfl,(by rw[HO.out]; rfl),HX.out⟩
    ·obtain rfl:k=kids.length:=by omega
     have d0:decide ((kids.length:Int)<(kids.length:Int))=false:=by simp
     have HZS:Hid (JC (zBQ l) (l.length-m)=some (Z.set m a)):=yG (by
      have h1:=HK.out;rw[List.drop_length] at h1
      exact HST.out (some a) h1)
     have f0:wr.frozen? ⟨g,m,none⟩=false:=HB.out.frozen m;have hz1:wr.cell? ⟨g,m,none⟩=some (.int .i64 (Z.getD m 0:Int)):=(HB.out.cell m).trans (zGs Z m (by omega));have HB2:Hid (Blk (wr.setCell ⟨g,m,none⟩ (.int .i64 (a:Int))) g 3 (zCF (Z.set m a))):=yG (by rw[←zNP]; exact HB.out.put m _);have HG2:Hid (Blk (wr.setCell ⟨g,m,none⟩ (.int .i64 (a:Int))) gt 26 #[.slice (some ⟨b,off,none⟩) l.length c]):=yG (HG.out.far HGG.out.2 _);have HX2:Hid (Ext w (wr.setCell ⟨g,m,none⟩ (.int .i64 (a:Int)))):=yG (HX.out.setCell (p:=⟨g,m,none⟩) HGG.out.1 _)
     go_wp2_with fail
     go_roundw
     case rel=>exact⟨m,Z.set m a,by omega,rfl,HZS,HB2,HG2,HX2⟩
     case measure=>simp[intOf]
structure zC0 (x:xR):Prop where
 text:x.text.size≤9000
 kids:x.kids.length≤9000
theorem zMB {l:List xR}(h:zCj (zBQ l)=none):JS l=false:=by unfold JS; rw[h]; rfl
theorem zMA {l:List xR}{Z:List Nat}(h:zCj (zBQ l)=some Z):JS l=(zCy l 0==1&&l.all (zBA l)):=by unfold JS; rw[h]; rfl
theorem zNC (w:World):(binOp .eql 33 (.slice none 0 0) (.slice none 0 0)).run Tryz.prog w=.ok (.bool true) w:=by kernel_rfl
theorem zLP (w:World)(a:Addr)(n c:Nat):(binOp .eql 33 (.slice (some a) n c) (.slice none 0 0)).run Tryz.prog w=.ok (.bool false) w:=by kernel_rfl
theorem zKo (l:List xR)(A:Option Addr)(n c:Nat)(w:World)(hn:n=l.length)(ht:zA7 w A l)(hlen:l.length≤9000)(hsm:∀x ∈ l,zC0 x)(b:Bool)(hb:Hid (JS l=b)) :
  Calls Tryz.prog 25 #[.agg #[.slice A n c]] w fun e w'=>e=.returned (.bool b)∧Ext w w':=by
 subst hn;have HT:=yG ht;have HSM:=yG hsm;clear ht hsm;have s1:=zNC;have s2:=zLP;obtain⟨o,HO⟩:∃o,Hid (zCj (zBQ l)=o):=⟨_,yG rfl⟩;have HB0:Hid (Blk (w.alloc (.cells #[.slice A l.length c] 26)) w.heap.size 26 #[.slice A l.length c]):=yG (Blk.new _ _ _);have HX0:Hid (Ext w (w.alloc (.cells #[.slice A l.length c] 26))):=yG (Ext.alloc _ _)
 go_enter Tryz.func25,Tryz.ntmps25
 have y0:=HB0.out.cell 0
 go_wp2_with fail
 refine(zSp l A l.length c _ rfl (HT.out.ext HX0.out) hlen (fun x hx=>(HSM.out x hx).kids) o HO).mono ?_;rintro e w1 ⟨v,rfl,hv,hx1⟩;have HB1:=yG (HB0.out.ext hx1);have HX1:Hid (Ext w w1):=yG (HX0.out.trans hx1);clear hx1 y0
 cases o with
 | none=>
  have hv':v=.slice none 0 0:=hv;subst hv';have HB:Hid (b=false):=yG (by rw[←hb.out]; exact zMB HO.out)
  go_wp2_with fail
  go_ret;exact⟨jM HB.out.symm,HX1.out⟩
 | some Z=>
  obtain⟨g,rfl,-⟩:=hv;have hes:=zGr HO.out
  have hp:0<l.length:=by have:=hes.2.1; rw[XM] at this; omega
  have HIN:=yG (zJS HO.out);have HRN:=yG (zMA HO.out);clear hes
  have q0:(0:Int)<(l.length:Int):=by omega
  obtain⟨bb,off,rfl,hbb,hcell⟩:=(HT.out.ext HX1.out).at_ 0 hp;rw[Nat.zero_mul,Nat.add_zero] at hcell;have k0:w1.cell? ⟨bb,off,none⟩=some (.int .u8 l[0].kind):=hcell 0 (by omega);have HK0:Hid (zCy l 0=l[0].kind):=yG (zCq (a:=0) hp);clear hcell;generalize l[0].kind=kz at *;have y0:=HB1.out.cell 0;generalize w.heap.size=gt at *
  cases hz:(kz==1) with
  | false=>
   have hz':(kz != 1)=true:=by rw[bne,hz]; rfl
   have HB:Hid (b=false):=yG (by rw[←hb.out,HRN.out,HK0.out,hz]; rfl)
   go_wp2_with fail
   go_ret;exact⟨jM HB.out.symm,HX1.out⟩
  | true=>
   obtain rfl:kz=1:=by simpa using hz
   clear hz;obtain⟨d,HD⟩:∃d,Hid ((!l.all (zBA l))=d):=⟨_,yG rfl⟩;have HB:Hid ((!d)=b):=yG (by rw[←hb.out,HRN.out,HK0.out,←HD.out,Bool.not_not]; rfl)
   go_wp2_with fail
   refine(zLI l _ l.length c gt w1 rfl (HT.out.ext HX1.out) hlen (fun x hx=>⟨(HSM.out x hx).text,(HSM.out x hx).kids,HIN.out x hx⟩) HB1.out d HD).mono ?_;rintro e w2 ⟨rfl,hx2⟩;have HX2:Hid (Ext w w2):=yG (HX1.out.trans hx2);clear hx2 k0 y0
   go_wp2_with fail
   go_ret;exact⟨jM HB.out,HX2.out⟩
end Go.Proofs.YtbadjmmjbpeocaaGreatDoor.TT
namespace Go.Proofs.YtbadjmmjbpeocaaGreatDoor
open Go Go.RowKit TT
theorem zDp.low {N N':Nat}{w:World}{g c k:Nat}{l l':List xR}(h:zDp N w g c l l' k)(hN:N'≤N):zDp N' w g c l l' k:=⟨h.len,zIt h.row hN,h.same,fun i h' hk=>zIt (h.done i h' hk) hN,h.todo⟩
def zHc (n:Nat):Array Value:=(List.replicate n (Value.int .i64 0)).toArray
def zS0 (H:Nat)(L:List xR)(v:Value)(w:World):Prop:=∃g c l',v=.agg #[.slice (some ⟨g,0,none⟩) L.length c]∧zDp H w g c L l' L.length
def OfF (H n:Nat)(v:Value)(w:World):Prop:=∃bo,v=.slice (some ⟨bo,0,none⟩) n n∧H≤bo∧Blk w bo 3 (zHc n)
structure zMW (H:Nat)(L:List xR)(w:World)(g c bo:Nat)(l':List xR):Prop where
 own:zDp H w g c L l' L.length
 of:Blk w bo 3 (zHc L.length)
 lo:H≤bo
def prg (L:List xR)(g c bo:Nat):Array Value:=#[.slice (some ⟨g,0,none⟩) L.length c,.slice none 0 0,.slice none 0 0,.slice (some ⟨bo,0,none⟩) L.length L.length]
def PgF (H:Nat)(L:List xR)(v:Value)(w:World):Prop:=∃g c bo l',v=.agg (prg L g c bo)∧zMW H L w g c bo l'
def PbF (H:Nat)(L:List xR)(v:Value)(w:World):Prop:=∃p g c bo l',v=.pointer (some ⟨p,0,none⟩)∧H≤p∧Blk w p 35 (prg L g c bo)∧zMW H L w g c bo l'
def MpF (H:Nat)(v:Value)(w:World):Prop:=∃mt,v=.map (some mt)∧H≤mt∧MF Tryz.prog 9 w mt 0 fun _=>none
def rdc (p mt:Nat):Array Value:=#[.pointer (some ⟨p,0,none⟩),.map (some mt),.slice none 0 0,.pointer none,.slice none 0 0]
def RdF (H:Nat)(L:List xR)(v:Value)(w:World):Prop:=∃p mt g c bo l',v=.agg (rdc p mt)∧H≤p∧Blk w p 35 (prg L g c bo)∧zMW H L w g c bo l'∧H≤mt∧MF Tryz.prog 9 w mt 0 fun _=>none
def RbF (H:Nat)(L:List xR)(v:Value)(w:World):Prop:=∃a p mt g c bo l',v=.pointer (some ⟨a,0,none⟩)∧H≤a∧Blk w a 86 (rdc p mt)∧H≤p∧Blk w p 35 (prg L g c bo)∧zMW H L w g c bo l'∧H≤mt∧MF Tryz.prog 9 w mt 0 fun _=>none
section
variable {H n:Nat} {L:List xR} {v:Value} {w w':World}
theorem zMW.ext {g c bo:Nat}{l':List xR}(h:zMW H L w g c bo l')(hx:Ext w w'):zMW H L w' g c bo l':=⟨h.own.ext hx,h.of.ext hx,h.lo⟩
theorem zS0.ext (h:zS0 H L v w)(hx:Ext w w'):zS0 H L v w':=let ⟨g,c,l',a,b⟩:=h; ⟨g,c,l',a,b.ext hx⟩
theorem OfF.ext (h:OfF H n v w)(hx:Ext w w'):OfF H n v w':=let ⟨g,a,b,c⟩:=h; ⟨g,a,b,c.ext hx⟩
theorem PgF.ext (h:PgF H L v w)(hx:Ext w w'):PgF H L v w':=let ⟨g,c,bo,l',a,b⟩:=h; ⟨g,c,bo,l',a,b.ext hx⟩
theorem PbF.ext (h:PbF H L v w)(hx:Ext w w'):PbF H L v w':=let ⟨p,g,c,bo,l',a,b,d,e⟩:=h; ⟨p,g,c,bo,l',a,b,d.ext hx,e.ext hx⟩
theorem MpF.ext (h:MpF H v w)(hx:Ext w w'):MpF H v w':=let ⟨mt,a,b,c⟩:=h; ⟨mt,a,b,c.ext hx⟩
theorem RdF.ext (h:RdF H L v w)(hx:Ext w w'):RdF H L v w':=let ⟨p,mt,g,c,bo,l',a,b,d,e,f,i⟩:=h; ⟨p,mt,g,c,bo,l',a,b,d.ext hx,e.ext hx,f,i.ext hx⟩
theorem RbF.ext (h:RbF H L v w)(hx:Ext w w'):RbF H L v w':=let ⟨q,p,mt,g,c,bo,l',a,b,k,d,e,f,i,j⟩:=h; ⟨q,p,mt,g,c,bo,l',a,b,k.ext hx,d,e.ext hx,f.ext hx,i,j.ext hx⟩
end
def stH (a p mt g c bo H:Nat)(l':List xR):StH:=⟨a,p,bo,l'.length,some ⟨g,0,none⟩,c,txM l',mt,H⟩
def zFr:DyH:=⟨none,0,[],none,0,[],none,0⟩
theorem zRA {H a p mt g c bo:Nat}{L l':List xR}{w:World}(hl:0<L.length)(hn:∀x ∈ L,zGW x)(ha:Blk w a 86 (rdc p mt))(hp:Blk w p 35 (prg L g c bo))(hb:zMW H L w g c bo l')(hm:MF Tryz.prog 9 w mt 0 fun _=>none)(hH:H≤w.heap.size) :
  NH w (stH a p mt g c bo H l') ⟨[],[],List.replicate L.length 0,[],[]⟩ zFr:=by
 have hlen:=hb.own.len
 have hn':∀x ∈ l',zGW x:=fun x hx=>by
  obtain⟨i,hi,rfl⟩:=List.getElem_of_mem hx;obtain⟨e1,e2,e3,e4,e5⟩:=hb.own.same i (by omega) hi
  have:=hn L[i] (yO (by omega))
  exact⟨by rw[e1]; exact this.kind,by rw[e5]; exact this.kids,by rw[e3]; exact this.text⟩
 have hM:∀b,jC (stH a p mt g c bo H l') zFr b→b=a∨b=p∨b=bo∨b=mt:=fun b hb=>by
  rcases hb with e | e | e | e | e | e | e
  ·exact .inl e
  ·exact .inr (.inl e)
  ·exact .inr (.inr (.inl e))
  ·exact .inr (.inr (.inr e))
  ·cases e
  ·cases e
  ·cases e
 refine⟨ha,by rw[show(stH a p mt g c bo H l').l.length=L.length by show(txM l').length=_; rw[JR,hlen]]; show Blk w p 35 #[.slice (some ⟨g,0,none⟩) L.length c,.slice none 0 0,.slice none 0 0,.slice (some ⟨bo,0,none⟩) L.length l'.length]; rw[hlen]; exact hp,?_,?_,hb.own.tree hl hn' ?_ ?_,zR _ _ _ _,rfl,fun k x h0 e1=>(by cases e1),zR _ _ _ _,rfl,fun k b x e1=>(by cases e1),hm,zR _ _ _ _,zW _,zW _,fun _=>rfl,fun _=>rfl,fun _=>rfl,hH⟩
 ·show Blk w bo 3 (ofc (List.replicate L.length 0)).toArray
  rw[show ofc (List.replicate L.length 0)=List.replicate L.length (Value.int .i64 0) by simp[ofc]];exact hb.of
 ·show(List.replicate L.length (0:Int)).length=(txM l').length
  rw[JR,hlen,zD]
 ·intro b cur hmb hblk
  rcases hM b hmb with rfl | rfl | rfl | rfl
  ·exact Blk.differ hblk ha (by decide) rfl
  ·exact Blk.differ hblk hp (by decide) rfl
  ·exact Blk.differ hblk hb.of (by decide) rfl
  ·exact hm.ne hblk rfl
 ·intro b cur hmb hblk j v hv
  rcases hM b hmb with rfl | rfl | rfl | rfl
  ·exact(Blk.differ hblk ha (by decide) rfl).elim
  ·exact(Blk.differ hblk hp (by decide) rfl).elim
  ·have e:cur=zHc L.length:=by
    have:=hblk.symm.trans hb.of
    injection this with this;injection this
   rw[e] at hv;unfold zHc at hv;rw[yL] at hv;exact List.eq_of_mem_replicate (yB hv)
  ·exact(hm.ne hblk rfl).elim
theorem zU6 (n:Nat)(hn:n≤1000000)(w:World):(Instr.makeSlice 33 (.int .i64 (n:Int)) (.int .i64 (n:Int))).run Tryz.prog w=.ok (.slice (some ⟨w.heap.size,0,none⟩) n n) (w.alloc (.cells (zHc n) 3)):=by
 obtain⟨i,hi,hz,h1,h2⟩:=info_parts zMq
 have:=run_makeSlice (P:=Tryz.prog) w 33 3 i _ Tryz.underlying33 hi hz .i64 .i64 (n:Int) (n:Int) (by omega) (Int.le_refl _) (by rw[h1]; simp; omega) (by rw[h2]; omega) (by omega)
 have e:madeCells (Value.int .i64 0).cells n=zHc n:=by
  apply Array.ext
  ·rw[size_madeCells]; simp[zHc]
  ·intro k a b;rw[size_madeCells] at a;simp[madeCells,zHc,Nat.mod_one,Value.cells]
 rw[this,h1,zI,Nat.mul_one,e]
end Go.Proofs.YtbadjmmjbpeocaaGreatDoor
