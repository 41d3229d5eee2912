/- tree.fits, walked. (and what follows of it). The conditions stand at each lemma. -/
import Derived.Test.YtioffpjajhalaaaGreatDoorJaa
import Derived.Test.YtioffpjajhalaaaGreatDoorJai
import Derived.Test.YtioffpjajhalaaaGreatDoorJag
import Derived.Deep.OwnRows
import Derived.Test.YtioffpjajhalaaaGreatDoorJab
set_option linter.unusedVariables false
set_option linter.unusedSimpArgs false
set_option maxRecDepth 100000
set_option maxHeartbeats 16000000
namespace Go.Proofs.YtioffpjajhalaaaGreatDoor.TT
open Go Go.RowKit
theorem zV0:(Tryz.prog.info? 5).map (fun i=>(i.zero,i.size,i.bytes))=some (some (.int .u8 0),1,1):=by kernel_rfl
theorem zNU (l:List Int)(x:Int):xO (l++[x])=xO l++[.int .u8 x]:=by simp[xO]
structure KSt (w0 W:World)(gt gn gk:Nat)(tv:Value)(nc:Array Value)(ls:List Int)(A:Option Addr)(c:Nat):Prop where
 t:Blk W gt 39 #[tv]
 n:Blk W gn 48 nc
 k:Blk W gk 22 #[.slice A ls.length c]
 own:W.ownsRow w0.heap.size 5 1 (.slice A ls.length c) ls.length (xO ls)
 ext:Ext w0 W
 low:w0.heap.size≤gk
 nil:A=none→c=0
theorem KSt.mono {w0 W W':World}{gt gn gk:Nat}{tv:Value}{nc:Array Value}{ls:List Int}{A:Option Addr}{c:Nat}(h:KSt w0 W gt gn gk tv nc ls A c)(hx:Ext W W'):KSt w0 W' gt gn gk tv nc ls A c:=
 ⟨h.t.ext hx,h.n.ext hx,h.k.ext hx,zFX h.own hx,h.ext.trans hx,h.low,h.nil⟩
theorem zSI {W:World}{b:Nat}{e:TypeId}{size n:Nat}{v:Value}{xs:List Value}(h:W.ownsRow b e size v n xs):∀k,v.ownBlock=some k→b≤k:=by
 intro k hk
 rcases h.2 with ⟨rfl,_⟩ | ⟨g',AB,AA,rfl,hb,hh,_⟩
 ·simp[Value.ownBlock] at hk
 ·simp[Value.ownBlock] at hk;omega
theorem zTd {W:World}{b:Nat}{e:TypeId}{v:Value}{n m:Nat}{xs ys:List Value}(h:W.ownsRow b e 1 v n xs)(hn:n=m)(hx:xs=ys):W.ownsRow b e 1 v m ys:=by subst hn hx; exact h
theorem KSt.step {w0 W W':World}{gt gn gk:Nat}{tv:Value}{nc:Array Value}{ls:List Int}{A A':Option Addr}{c c':Nat}{x:Int}(h:KSt w0 W gt gn gk tv nc ls A c)
  (ho:W'.ownsRow w0.heap.size 5 1 (.slice A' (ls.length+1) c') (ls.length+1) (xO ls++[.int .u8 x])) (hg:W.grownBy W' (Value.slice A ls.length c).ownBlock) (hn:A'=none→c'=0) :
  KSt w0 (W'.setCell ⟨gk,0,none⟩ (.slice A' (ls.length+1) c')) gt gn gk tv nc (ls++[x]) A' c':=by
 have d1:(Value.slice A ls.length c).ownBlock≠some gt:=XW h.own h.t (by decide);have d2:(Value.slice A ls.length c).ownBlock≠some gn:=XW h.own h.n (by decide);have d3:(Value.slice A ls.length c).ownBlock≠some gk:=XW h.own h.k (by decide);have t1:=h.t.grown hg (Ne.symm d1);have n1:=h.n.grown hg (Ne.symm d2);have k1:=h.k.grown hg (Ne.symm d3);have e1:gt≠gk:=h.t.differ h.k (by decide);have e2:gn≠gk:=h.n.differ h.k (by decide)
 have hl:(ls++[x]).length=ls.length+1:=by simp
 refine⟨t1.far e1 _,n1.far e2 _,?_,?_,?_,h.low,hn⟩
 ·rw[hl]; exact k1.put 0 _
 ·rw[hl];have d4:(Value.slice A' (ls.length+1) c').ownBlock≠some gk:=XW ho k1 (by decide);exact zTd (zQn ho (p:=⟨gk,0,none⟩) d4 _) rfl (zNU ls x).symm
 ·have hb:Below w0.heap.size w0 W':=Below.grown h.ext hg h.ext.size (zSI h.own);exact hb.setCell (p:=⟨gk,0,none⟩) h.low _
theorem zOU (k:Int):(zAH k).length≤10:=by
 by_cases hk:1≤k∧k≤26
 ·have hc:k=1∨k=2∨k=3∨k=4∨k=5∨k=6∨k=7∨k=8∨k=9∨k=10∨k=11∨k=12∨k=13∨k=14∨k=15∨k=16∨k=17∨k=18∨k=19∨k=20∨k=21∨k=22∨k=23∨k=24∨k=25∨k=26:=by omega
  rcases hc with rfl | rfl | rfl | rfl | rfl | rfl | rfl | rfl | rfl | rfl | rfl | rfl | rfl | rfl | rfl | rfl | rfl | rfl | rfl | rfl | rfl | rfl | rfl | rfl | rfl | rfl <;> decide
 ·have h0:zAH k=[]:=by
   unfold zAH
   repeat (rw[if_neg (by omega)])
  rw[h0]
  decide
theorem zRQ (l:List xC)(A:Option Addr)(n c:Nat)(x:xC)(w:World)(hn:n=l.length)(ht:XU w A l)(hlen:l.length≤9000)(hx:x.text.size≤9000)(hkl:x.kids.length≤9000)(hxo:zBZ w x)(hin:zIM l x.kids) :
  Calls Tryz.prog 54 #[.agg #[.slice A n c],.agg (Array.mk x.cells)] w fun e w'=>e=.returned (.bool (zC9 x.kind x.num x.text.data.toList (jY l x.kids)))∧Ext w w':=by
 subst hn;obtain⟨i0,hi,Aj,Ae,Ap⟩:=info_parts zV0;have HT:=yD ht;have Ai:=yD hxo;have Af:=yD hin;clear ht hxo hin;obtain⟨kind,pos,text,num,kA,kc,AA⟩:=x
 simp only at hx hkl
 obtain⟨fs,AG⟩:∃fs,zAH kind=fs:=⟨_,rfl⟩;have Am:Hid (fs.length≤10):=yD (by rw[←AG]; exact zOU kind);have AN:Hid (zC9 kind num text.data.toList (jY l AA)=fs.any fun f=>XK f num text.data.toList (jY l AA)):=yD (by unfold zC9; rw[AG]);have Ag:=yD AG;clear AG
 show Calls Tryz.prog 54 #[.agg #[.slice A l.length c],.agg #[.int .u8 kind,.int .i64 pos,.string text,.int .i64 num,.slice kA AA.length kc]] w fun e w'=>e=.returned (.bool (zC9 kind num text.data.toList (jY l AA)))∧Ext w w'
 have AO:Hid (KSt w (((w.alloc (.cells #[.slice A l.length c] 39)).alloc (.cells #[.int .u8 kind,.int .i64 pos,.string text,.int .i64 num,.slice kA AA.length kc] 48)).alloc (.cells #[.slice none 0 0] 22)) w.heap.size (w.heap.size+1) (w.heap.size+1+1) (.slice A l.length c) #[.int .u8 kind,.int .i64 pos,.string text,.int .i64 num,.slice kA AA.length kc] [] none 0):=
  yD ⟨((Blk.newAt rfl).alloc _).alloc _,(Blk.newAt (by simp)).alloc _,Blk.newAt (by simp),zP _ _ _ _,((Ext.alloc _ _).trans (Ext.alloc _ _)).trans (Ext.alloc _ _),by omega,fun _=>rfl⟩
 go_enter Tryz.func54,Tryz.ntmps54
 have y0:=AO.out.n.cell 4
 go_wp2_with fail
 clear y0;generalize ((w.alloc (.cells #[.slice A l.length c] 39)).alloc (.cells #[.int .u8 kind,.int .i64 pos,.string text,.int .i64 num,.slice kA AA.length kc] 48)).alloc (.cells #[.slice none 0 0] 22)=wz at *;generalize w.heap.size+1+1=gk at *;generalize w.heap.size+1=gn at *;obtain⟨gt,AP⟩:∃gt,gt=w.heap.size:=⟨_,rfl⟩;rw[←AP] at AO ⊢;have At:=yD AP;clear AP
 go_loopw [11] (fun i wr=>∃(k:Nat) (A':Option Addr) (c':Nat),k≤AA.length∧i=.int .i64 k∧Hid (KSt w wr gt gn gk (.slice A l.length c) #[.int .u8 kind,.int .i64 pos,.string text,.int .i64 num,.slice kA AA.length kc] (jY l (AA.take k)) A' c')) (fun i _=>AA.length-(intOf i).toNat)
 case atStart=>exact⟨0,none,0,zT _,rfl,AO⟩
 case round=>
  obtain⟨k,A',c',hk,rfl,HS⟩:=hrel;obtain⟨wa,rfl⟩:∃wa:World,wa=wr:=⟨_,rfl⟩
  by_cases AI:k<AA.length
  ·have d0:decide ((k:Int)<(AA.length:Int))=true:=yP (by omega);obtain⟨b,Ar,rfl,hb,AX⟩:=zCT (Ai.out.kids.ext HS.out.ext) k AI;obtain⟨a,ha,AQ⟩:=Af.out AA[k] (yL AI)
   have Ak:Hid (jY l (AA.take (k+1))=jY l (AA.take k)++[l[a].kind]):=yD (by
    unfold jY;rw[zW AI,List.map_append,ha];simp only[List.map_cons,List.map_nil]
    rw[zGT AQ])
   rw[ha] at AX;clear ha
   go_upto_region 5 with fail
   obtain⟨b2,AD,rfl,Ao,AV⟩:=(HT.out.ext HS.out.ext).at_ a AQ;have Ac:wa.cell? ⟨b2,AD+a*5,none⟩=some (.int .u8 l[a].kind):=AV 0 (by omega);have An:=yD Ac;clear Ac AV AX
   have AH:(jY l (AA.take k)).length=k:=by simp[jY]; omega
   generalize jY l (AA.take k)=ls at *;generalize l[a].kind=ka at *
   have q0:(0:Int)≤(a:Int):=by omega
   have q1:(a:Int)<(l.length:Int):=by omega
   apply xE 8 (by kernel_rfl) (by kernel_rfl) (by kernel_rfl);dsimp only[List.take_succ_cons,List.take_zero,List.drop_succ_cons,List.drop_zero];apply xA (.slice A' ls.length c') rfl rfl rfl
   ·intro w' AE hH;clear hH;have c0:=(HS.out.k.ext AE).cell 0;simp[yY,go_sem,c0];exact Ext.refl _
   apply sQ (.pointer (some ⟨gt,0,none⟩));apply xA (.slice (some ⟨b2,AD,none⟩) l.length c) rfl rfl rfl
   ·intro w' AE hH;clear hH;have c0:=(HS.out.t.ext AE).cell 0;simp[yY,go_sem,c0];exact Ext.refl _
   apply sQ (.int .i64 (a:Int));apply xA (.pointer (some ⟨b2,AD+a*5,none⟩)) rfl rfl rfl
   ·intro w' AE hH;clear hH;simp[yY,go_sem,q0,q1];exact Ext.refl _
   apply sQ (.pointer (some ⟨b2,AD+a*5,none⟩));apply xA (.int .u8 ka) rfl rfl rfl
   ·intro w' AE hH;clear hH;have c0:=(AE.cell (p:=⟨b2,AD+a*5,none⟩) Ao).trans An.out;simp[yY,go_sem,c0];exact Ext.refl _
   apply vF (zNk 5 #[.int .u8 ka]) (fun v a b h k=>zNk.ext v a b h k) rfl rfl rfl
   ·intro w' AE hH;clear hH;simp[yY,go_sem];exact⟨⟨_,rfl,Blk.new _ _ _⟩,Ext.alloc _ _⟩
   intro vl;apply vA;intro w2 AM hH;have AK:=hH _ (List.mem_cons_self);obtain⟨gl,Ah,AT⟩:=AK;subst Ah;clear hH;have AS:=HS.out.mono AM;have AC:=yD AS;have AY:=yD AT;have As:=yD AM;clear AS AT AM
   try simp only[Act.put]
   refine zBI rfl (.tmp 15) (.tmp 22) 22 rfl w.heap.size 5 i0 (.int .u8 0) 1 1 Tryz.underlying22 hi Aj Ae Ap rfl (by decide) (.slice A' ls.length c') ls.length (xO ls) (by kernel_rfl) AC.out.own (some ⟨gl,0,none⟩) 1 1 [.int .u8 ka] (by kernel_rfl) (fun h=>by cases h) rfl ?c1 ?c2 ?c3 ?c4 ?c5 ?_
   case c1=>exact .inr ⟨gl,0,rfl,AY.out.lt,fun j hj=>by
    have:j=0:=by simp at hj; omega
    subst this
    exact(AY.out.cell 0)⟩
   case c2=>intro u hu; simp at hu; subst hu; rfl
   case c3=>unfold maxLen; omega
   case c4=>omega
   case c5=>exact AC.out.ext.size
   intro A3 c3 w3 AW Aa AJ;have Al:=yD (AC.out.step Aa AJ AW);have AL:Blk w3 gk 22 #[.slice A' ls.length c']:=AC.out.k.grown AJ (Ne.symm (XW AC.out.own AC.out.k (by decide)));have y0:=AL.cell 0;have y1:=AL.frozen 0;clear Aa AJ AW AL
   try simp only[Act.put]
   go_wp2_with fail
   go_roundw
   case rel=>exact⟨k+1,A3,c3,by omega,by go_num,yD (by rw[Ak.out]; have:=Al.out; rw[AH] at this; exact this)⟩
   case measure=>simp[intOf]; omega
  ·obtain rfl:k=AA.length:=by omega
   have d0:decide ((AA.length:Int)<(AA.length:Int))=false:=by simp
   have AR:Hid (KSt w wa gt gn gk (.slice A l.length c) #[.int .u8 kind,.int .i64 pos,.string text,.int .i64 num,.slice kA AA.length kc] (jY l AA) A' c'):=yD (by have:=HS.out; rw[List.take_length] at this; exact this);clear HS;have y0:=AR.out.n.cell 0
   go_wp2_with fail
   refine(zCp kind wa).mono ?_;rintro e w2 ⟨v,rfl,hv,Ab⟩;have AC:=yD (AR.out.mono Ab);have HV:=yD hv;clear hv Ab y0
   go_wp2_with fail
   have AH:(jY l AA).length≤9000:=by simp[jY]; omega
   have AZ:=HV.out;rw[Ag.out] at AZ;have Aq:Blk w2 gn 48 (Array.mk (xC.cells ⟨kind,pos,text,num,kA,kc,AA⟩)):=AC.out.n;have AB:=zMn fs v A' (jY l AA) c' gk gn ⟨kind,pos,text,num,kA,kc,AA⟩ w2 AZ Am.out (Cells.own AC.out.own) AH hx AC.out.k Aq;rw[show(fs.any fun f=>XK f (xC.mk kind pos text num kA kc AA).num (xC.mk kind pos text num kA kc AA).text.data.toList (jY l AA))=zC9 kind num text.data.toList (jY l AA) from AN.out.symm] at AB;obtain⟨Au,AF⟩:∃r,Hid (zC9 kind num text.data.toList (jY l AA)=r):=⟨_,yD rfl⟩;rw[AF.out] at AB;refine AB.mono ?_;clear AB;rintro e w3 ⟨rfl,AU⟩;have Ad:Hid (Ext w w3):=yD (AC.out.ext.trans AU);clear AU
   go_wp2_with fail
   go_ret;exact⟨vR AF.out.symm,Ad.out⟩
structure zFS (l:List xC)(x:xC):Prop where
 text:x.text.size≤9000
 kids:x.kids.length≤9000
 range:zIM l x.kids
theorem zUL (l:List xC)(A:Option Addr)(n c:Nat)(x:xC)(w:World)(hn:n=l.length)(ht:XU w A l)(hlen:l.length≤9000)(hf:zFS l x)(hxo:zBZ w x)(b:Bool)(hb:zBa l x=b) :
  Calls Tryz.prog 54 #[.agg #[.slice A n c],.agg (Array.mk x.cells)] w fun e w'=>e=.returned (.bool b)∧Ext w w':=by
 subst hb;exact zRQ l A n c x w hn ht hlen hf.text hf.kids hxo hf.range
theorem zJg (l:List xC)(A:Option Addr)(n c gt:Nat)(x:xC)(w:World)(hn:n=l.length)(ht:XU w A l)(hlen:l.length≤9000)(hf:zFS l x)(hxo:zBZ w x)(hg:Blk w gt 39 #[.slice A n c])(b:Bool)(hb:(!zBa l x)=b) :
  Calls Tryz.prog 53 #[.agg (Array.mk x.cells),.pointer (some ⟨gt,0,none⟩)] w fun e w'=>e=.returned (.bool b)∧Ext w w':=by
 subst hn;obtain⟨d,hd⟩:∃d,zBa l x=d:=⟨_,rfl⟩;have HD:=yD hd;rw[hd] at hb;have HB:=yD hb;have HT:=yD ht;have AE:=yD hxo;have HF:=yD hf;have HG:=yD hg;clear hb hd ht hxo hf hg;obtain⟨kind,pos,text,num,kA,kc,AA⟩:=x;have AB:Hid (Ext w (w.alloc (.cells #[.int .u8 kind,.int .i64 pos,.string text,.int .i64 num,.slice kA AA.length kc] 48))):=yD (Ext.alloc _ _);have y0:=(HG.out.ext AB.out).cell 0
 show Calls Tryz.prog 53 #[.agg #[.int .u8 kind,.int .i64 pos,.string text,.int .i64 num,.slice kA AA.length kc],.pointer (some ⟨gt,0,none⟩)] w fun e w'=>e=.returned (.bool b)∧Ext w w'
 go_enter Tryz.func53,Tryz.ntmps53
 go_wp2_with fail
 refine(zUL l A l.length c ⟨kind,pos,text,num,kA,kc,AA⟩ _ rfl (HT.out.ext AB.out) hlen HF.out (AE.out.ext AB.out) d HD.out).mono ?_;rintro e w2 ⟨rfl,AC⟩;have AD:Hid (Ext w w2):=yD (AB.out.trans AC);clear AC y0
 go_wp2_with fail
 go_ret;exact⟨vR HB.out,AD.out⟩
def zEu:xC:=⟨0,0,⟨#[]⟩,0,none,0,[]⟩
theorem zNu (l:List xC)(A:Option Addr)(n c gt:Nat)(w:World)(hn:n=l.length)(ht:XU w A l)(hlen:l.length≤9000)(hf:∀x ∈ l,zFS l x)(hg:Blk w gt 39 #[.slice A n c]) :
  Calls Tryz.prog 90 #[.slice A n c,.func (.func 53) #[] #[.pointer (some ⟨gt,0,none⟩)]] w fun e w'=>∃r:Int,e=.returned (.int .i64 r)∧decide (0≤r)=(List.range l.length).any (fun i=>!zBa l (l.getD i zEu))∧Ext w w':=by
 subst hn;have HT:=yD ht;have HG:=yD hg;have HF:=yD hf;clear ht hg hf;obtain⟨q,HQ⟩:∃q:Nat→Bool,Hid ((fun i=>!zBa l (l.getD i zEu))=q):=⟨_,yD rfl⟩;rw[HQ.out]
 go_enter Tryz.func90,Tryz.ntmps90
 go_wp2_with fail
 go_loopw [8] (fun i wr=>∃k:Nat,k≤l.length∧i=.int .i64 k∧Hid (Ext w wr)∧Hid (∀j,j<k→q j=false)) (fun i _=>l.length-(intOf i).toNat)
 case atStart=>exact⟨0,zT _,rfl,yD (Ext.refl _),yD fun j hj=>by omega⟩
 case round=>
  obtain⟨k,hk,rfl,HX,HR⟩:=hrel;obtain⟨wa,rfl⟩:∃wa:World,wa=wr:=⟨_,rfl⟩
  by_cases AD:k<l.length
  ·have d0:decide ((k:Int)<(l.length:Int))=true:=yP (by omega);obtain⟨b,hb⟩:∃b,q k=b:=⟨_,rfl⟩;have HB:=yD hb
   have AJ:l.getD k zEu=l[k]:=by simp[yE,AD]
   have AH:Hid ((!zBa l l[k])=b):=yD (by rw[←hb,←HQ.out,←AJ]);have AF:=yD (HT.out.ext HX.out);have AI:=yD (HG.out.ext HX.out);have AL:Hid (zBZ wa l[k]):=yD (AF.out.ok _ (yL AD));have AK:Hid (zFS l l[k]):=yD (HF.out _ (yL AD));obtain⟨g,AC,rfl,AN,AA⟩:=AF.out.at_ k AD;clear hb AJ;generalize l[k]=x at *;obtain⟨kind,pos,text,num,kA,kc,AB⟩:=x;have c0:wa.cell? ⟨g,AC+k*5,none⟩=some (.int .u8 kind):=AA 0 (by omega);have c1:wa.cell? ⟨g,AC+k*5+1,none⟩=some (.int .i64 pos):=AA 1 (by omega);have c2:wa.cell? ⟨g,AC+k*5+2,none⟩=some (.string text):=AA 2 (by omega);have c3:wa.cell? ⟨g,AC+k*5+3,none⟩=some (.int .i64 num):=AA 3 (by omega);have c4:wa.cell? ⟨g,AC+k*5+4,none⟩=some (.slice kA AB.length kc):=AA 4 (by omega);clear AA
   cases b with
   | true=>
    go_wp2_with (refine(zJg l _ l.length c gt ⟨kind,pos,text,num,kA,kc,AB⟩ _ rfl AF.out hlen AK.out AL.out AI.out true AH.out).mono ?_; rintro e w2 ⟨rfl,AE⟩; have AG:Hid (Ext w w2):=yD (HX.out.trans AE); clear AE)
    go_ret;exact⟨_,rfl,by rw[yP (by omega)]; exact(any_some k AD HB.out).symm,AG.out⟩
   | false=>
    go_wp2_with (refine(zJg l _ l.length c gt ⟨kind,pos,text,num,kA,kc,AB⟩ _ rfl AF.out hlen AK.out AL.out AI.out false AH.out).mono ?_; rintro e w2 ⟨rfl,AE⟩; have AG:Hid (Ext w w2):=yD (HX.out.trans AE); clear AE)
    go_roundw
    case rel=>exact⟨k+1,by omega,by go_num,AG,yD fun j hj=>by
     by_cases AM:j=k
     ·subst AM; exact HB.out
     ·exact HR.out j (by omega)⟩
    case measure=>simp[intOf]; omega
  ·obtain rfl:k=l.length:=by omega
   have d0:decide ((l.length:Int)<(l.length:Int))=false:=by simp
   go_wp2_with fail
   go_ret;exact⟨_,rfl,by rw[any_none HR.out]; rfl,HX.out⟩
theorem zUg (l:List xC)(p:xC→Bool):(!(l.any fun x=>!p x))=l.all p:=by
 induction l with
 | nil=>rfl
 | cons x l ih=>rw[List.any_cons,List.all_cons,←ih]; cases p x <;> simp
theorem zMd (l:List xC)(A:Option Addr)(n c gt:Nat)(w:World)(hn:n=l.length)(ht:XU w A l)(hlen:l.length≤9000)(hf:∀x ∈ l,zFS l x)(hg:Blk w gt 39 #[.slice A n c])(b:Bool)(hb:Hid ((!l.all (zBa l))=b)) :
  Calls Tryz.prog 52 #[.slice A n c,.func (.func 53) #[] #[.pointer (some ⟨gt,0,none⟩)]] w fun e w'=>e=.returned (.bool b)∧Ext w w':=by
 subst hn;have AD:Hid ((List.range l.length).any (fun i=>!zBa l (l.getD i zEu))=b):=yD (by rw[←hb.out,←zUg,Bool.not_not]; exact zLh l (fun x=>!zBa l x) zEu)
 go_enter Tryz.func52,Tryz.ntmps52
 go_wp2_with fail
 refine(zNu l A l.length c gt w rfl ht hlen hf hg).mono ?_;rintro e w2 ⟨r,rfl,hr,AA⟩;have AB:=yD hr;have AC:=yD AA;clear hr AA
 go_wp2_with fail
 go_ret;exact⟨vR (by rw[AB.out,AD.out]),AC.out⟩
theorem zFC:(Tryz.prog.info? 3).map (fun i=>(i.zero,i.size,i.bytes))=some (some (.int .i64 0),1,8):=by kernel_rfl
def zCG (Z:List Nat):Array Value:=(Z.map fun a:Nat=>Value.int .i64 (a:Int)).toArray
theorem zOy (Z:List Nat)(i a:Nat):(zCG Z).setIfInBounds i (.int .i64 (a:Int))=zCG (Z.set i a):=by
 unfold zCG;rw[yA,List.map_set]
theorem zEK (Z:List Nat)(i:Nat)(h:i<Z.length):(zCG Z)[i]?=some (.int .i64 (Z.getD i 0:Int)):=by
 unfold zCG;simp[yE,h]
theorem zN2 (n:Nat):madeCells #[.int .i64 0] n=zCG (List.replicate n 0):=by
 apply Array.toList_inj.1;rw[toList_madeCells_one];simp[zCG]
def zW9 (w:World)(o:Option (List Nat))(v:Value):Prop:=match o with
 | none=>v=.slice none 0 0
 | some Z=>∃g,v=.slice (some ⟨g,0,none⟩) Z.length Z.length∧Blk w g 3 (zCG Z)
theorem zME (len:Nat)(Z:List Nat)(k:Int)(r:List Int)(a:Nat):zCa len Z (k::r) a=if k=(a:Int)∧a<len then zCa len Z r (Z.getD a 0) else none:=rfl
theorem zJa {ks:List (List Int)}:∀(j:Nat) (Z:List Nat),JK ks j=some Z→Z.length=ks.length:=by
 intro j
 induction j with
 | zero=>intro Z h; injection h with h; subst h; simp
 | succ j ih=>
  intro Z h;unfold JK at h
  split at h
  ·cases h
  ·rename_i Z0 h0
   split at h
   ·cases h
   ·injection h with h;subst h
    simpa using ih Z0 h0
theorem zQY {ks:List (List Int)}:∀(j:Nat) (Z:List Nat),j≤ks.length→JK ks j=some Z→∀a,Z.getD a 0≤ks.length:=by
 intro j Z hj h a
 by_cases ha:ks.length-j≤a∧a<ks.length
 ·obtain⟨_,hz⟩:=zDy ks j Z hj h;exact(XA (hz a ha.1 ha.2)).2
 ·by_cases AA:a<ks.length
  ·have:∀(j:Nat) (Z:List Nat),JK ks j=some Z→∀a,a<ks.length-j→Z.getD a 0=0:=by
    intro j
    induction j with
    | zero=>
     intro Z h a ha;injection h with h;subst h;simp[yE,List.getElem?_replicate]
     split <;> rfl
    | succ j ih=>
     intro Z h a ha;unfold JK at h
     split at h
     ·cases h
     ·rename_i Z0 h0
      split at h
      ·cases h
      ·injection h with h;subst h
       have:=ih Z0 h0 a (by omega)
       simp only[yE,List.getElem?_set];rw[if_neg (by omega)]
       simpa [yE] using this
   rw[this j Z h a (by omega)];omega
  ·have hl:=zJa j Z h;simp[yE,zL (show Z.length≤a by omega)]
theorem zNA (l:List xC)(A:Option Addr)(n c:Nat)(w:World)(hn:n=l.length)(ht:XU w A l)(hlen:l.length≤9000)(hkl:∀x ∈ l,x.kids.length≤9000)(o:Option (List Nat))(ho:Hid (zAA (ZO l)=o)) :
  Calls Tryz.prog 51 #[.agg #[.slice A n c]] w fun e w'=>∃v,e=.returned v∧zW9 w' o v∧Ext w w':=by
 subst hn;have HT:=yD ht;have Ad:=yD hkl;clear ht hkl;have Ab:=run_make_row' (P:=Tryz.prog) 32 3 (.int .i64 0) 8 Tryz.underlying32 zFC rfl .i64 .i64 l.length (by omega) (by omega)
 go_enter Tryz.func51,Tryz.ntmps51
 go_upto_region 2 with fail
 have AI:Hid (Blk ((w.alloc (.cells #[.slice A l.length c] 39)).alloc (.cells (madeCells #[.int .i64 0] l.length) 3)) (w.heap.size+1) 3 (zCG (List.replicate l.length 0))):=yD (by
  rw[zN2]
  exact Blk.newAt (by simp))
 have AE:Hid (Blk ((w.alloc (.cells #[.slice A l.length c] 39)).alloc (.cells (madeCells #[.int .i64 0] l.length) 3)) w.heap.size 39 #[.slice A l.length c]):=yD ((Blk.new _ _ _).alloc _);have AL:Hid (Ext w ((w.alloc (.cells #[.slice A l.length c] 39)).alloc (.cells (madeCells #[.int .i64 0] l.length) 3))):=(Ext.alloc _ _).trans (Ext.alloc _ _)
 try simp only[yQ]
 generalize (w.alloc (.cells #[.slice A l.length c] 39)).alloc (.cells (madeCells #[.int .i64 0] l.length) 3)=w1 at *;obtain⟨g,hg⟩:∃g,w.heap.size+1=g:=⟨_,rfl⟩;obtain⟨gt,AO⟩:∃gt,w.heap.size=gt:=⟨_,rfl⟩;rw[hg] at AI ⊢;rw[AO] at AE ⊢;have AN:Hid (w.heap.size≤g∧gt≠g):=yD ⟨by omega,by omega⟩;clear hg AO Ab;have y0:=AE.out.cell 0
 go_wp2_with fail
 clear y0
 go_loopw [4] (fun i wr=>∃(m:Nat) (Z:List Nat),m≤l.length∧i=.int .i64 ((m:Int)-1)∧Hid (JK (ZO l) (l.length-m)=some Z)∧Hid (Blk wr g 3 (zCG Z))∧Hid (Blk wr gt 39 #[.slice A l.length c])∧Hid (Ext w wr)) (fun i _=>(intOf i+1).toNat)
 case atStart=>exact⟨l.length,List.replicate l.length 0,zU _,rfl,yD (by rw[Nat.sub_self]; unfold JK; rw[jC]),AI,AE,AL⟩
 case round=>
  clear AI AE AL;obtain⟨m,Z,hm,rfl,HZ,HB,HG,HX⟩:=hrel;obtain⟨wa,rfl⟩:∃wa:World,wa=wr:=⟨_,rfl⟩
  have Aa:Z.length=l.length:=by rw[zJa _ _ HZ.out,jC]
  have AP:Hid (∀a,Z.getD a 0≤l.length):=yD (by have:=zQY _ Z (by rw[jC]; omega) HZ.out; rw[jC] at this; exact this)
  cases m with
  | zero=>
   have AF:Hid (o=if l.length≠0∧Z.getD 0 0=l.length then some Z else none):=yD (by
    rw[←ho.out];unfold zAA
    have:=HZ.out
    rw[Nat.sub_zero] at this
    rw[jC,this])
   by_cases h0:l.length=0
   ·have e0:((l.length:Int)==0)=true:=by rw[h0]; rfl
    have HO:Hid (o=none):=yD (by rw[AF.out,if_neg (by omega)])
    go_wp2_with fail
    go_ret;exact⟨_,rfl,(by rw[HO.out]; rfl),HX.out⟩
   ·have e0:((l.length:Int)==0)=false:=by rw[yF]; omega
    have z0:wa.cell? ⟨g,0,none⟩=some (.int .i64 (Z.getD 0 0:Int)):=(HB.out.cell 0).trans (zEK Z 0 (by omega))
    have q0:(0:Int)<(l.length:Int):=by omega
    obtain⟨z,AS⟩:∃z,Hid (Z.getD 0 0=z):=⟨_,yD rfl⟩;rw[AS.out] at z0 AF
    by_cases hz:z=l.length
    ·have e1:((z:Int)==(l.length:Int))=true:=by simp[hz]
     have HO:Hid (o=some Z):=yD (by rw[AF.out,if_pos ⟨h0,hz⟩]);clear hz
     go_wp2_with fail
     go_ret;exact⟨_,rfl,(by rw[HO.out]; exact⟨g,by rw[Aa]; rfl,HB.out⟩),HX.out⟩
    ·have e1:((z:Int)==(l.length:Int))=false:=by rw[yF]; omega
     have HO:Hid (o=none):=yD (by rw[AF.out,if_neg (fun h=>hz h.2)])
     go_wp2_with fail
     go_ret;exact⟨_,rfl,(by rw[HO.out]; rfl),HX.out⟩
  | succ m=>
   have em:(((m+1:Nat):Int)-1)=(m:Int):=by omega
   rw[em]
   have AD:m<l.length:=by omega
   obtain⟨b,AJ,rfl,hb,AB⟩:=(HT.out.ext HX.out).at_ m AD;have Ae:Hid (zBZ wa l[m]):=yD ((HT.out.ext HX.out).ok _ (yL AD));have AQ:Hid (l[m].kids.length≤9000):=yD (Ad.out _ (yL AD))
   have AG:Hid (∀r,zCa l.length Z l[m].kids (m+1)=r→JK (ZO l) (l.length-m)=match r with | none=>none | some a=>some (Z.set m a)):=yD (by
    intro r hr;rw[show l.length-m=(l.length-(m+1))+1 from by omega];unfold JK;rw[HZ.out];simp only[jC];rw[show l.length-1-(l.length-(m+1))=m from by omega,zCr l m AD,hr]
    cases r <;> rfl)
   generalize l[m]=x at *;obtain⟨kind,pos,text,num,kA,kc,AA⟩:=x;have Ag:AA.length≤9000:=AQ.out;have c4:wa.cell? ⟨b,AJ+m*5+4,none⟩=some (.slice kA AA.length kc):=AB 4 (by omega);clear AB em
   have Ak:decide ((m:Int) ≥ 0)=true:=by simp
   have Aj:decide (0≤(m:Int))=true:=by simp
   have Af:(m:Int)<(l.length:Int):=by omega
   have y0:=HG.out.cell 0
   go_wp2_with fail
   go_loopw [5,29] (fun at_ i w2=>w2=wa∧∃(k a:Nat),k≤AA.length∧i=.int .i64 k∧at_=.int .i64 (a:Int)∧a≤l.length∧Hid (zCa l.length Z AA (m+1)=zCa l.length Z (AA.drop k) a)) (fun _ i _=>AA.length-(intOf i).toNat)
   case atStart=>exact⟨rfl,0,m+1,zT _,rfl,by go_num,by omega,yD rfl⟩
   case round=>
    obtain⟨AZ,k,a,hk,rfl,rfl,Ah,HK⟩:=hrel;subst AZ
    by_cases AK:k<AA.length
    ·have d0:decide ((k:Int)<(AA.length:Int))=true:=yP (by omega);obtain⟨b2,AV,rfl,Al,Ac⟩:=zCT Ae.out.kids k AK;have AM:=List.drop_eq_getElem_cons AK
     simp only at Ac
     generalize AA[k]=kv at *;rw[AM,zME] at HK;clear AM
     by_cases AH:kv=(a:Int)
     ·subst AH
      by_cases AC:a<l.length
      ·have d1:decide ((l.length:Int)≤(a:Int))=false:=yO (by omega);have d2:decide ((a:Int) ≥ (l.length:Int))=false:=yO (by omega)
       have q1:(a:Int)<(l.length:Int):=by omega
       have z0:wr.cell? ⟨g,a,none⟩=some (.int .i64 (Z.getD a 0:Int)):=(HB.out.cell a).trans (zEK Z a (by omega));have AR:Hid (zCa l.length Z AA (m+1)=zCa l.length Z (AA.drop (k+1)) (Z.getD a 0)):=yD (by rw[HK.out,if_pos ⟨rfl,AC⟩]);have AW:=AP.out a;generalize Z.getD a 0=z at *
       go_wp2_with fail
       go_roundw
       case rel=>exact⟨trivial,k+1,z,by omega,by go_num,rfl,AW,AR⟩
       case measure=>simp[intOf]; omega
      ·have d1:decide ((l.length:Int)≤(a:Int))=true:=yP (by omega);have d2:decide ((a:Int) ≥ (l.length:Int))=true:=yP (by omega)
       have HO:Hid (o=none):=yD (by
        rw[←ho.out];have h1:=HK.out;rw[if_neg (fun h=>AC h.2)] at h1
        exact zJF (j:=l.length-m) (by rw[jC]; omega) (AG.out none h1))
       go_wp2_with fail
       go_ret;exact⟨_,rfl,(by rw[HO.out]; rfl),HX.out⟩
     ·have e1:(kv==(a:Int))=false:=beq_eq_false_iff_ne.2 AH
      have HO:Hid (o=none):=yD (by
       rw[←ho.out];have h1:=HK.out;rw[if_neg (fun h=>AH h.1)] at h1
       exact zJF (j:=l.length-m) (by rw[jC]; omega) (AG.out none h1))
      go_wp2_with fail
      go_ret;exact⟨_,rfl,(by rw[HO.out]; rfl),HX.out⟩
    ·obtain rfl:k=AA.length:=by omega
     have d0:decide ((AA.length:Int)<(AA.length:Int))=false:=by simp
     have AX:Hid (JK (ZO l) (l.length-m)=some (Z.set m a)):=yD (by
      have h1:=HK.out;rw[List.drop_length] at h1
      exact AG.out (some a) h1)
     have f0:wr.frozen? ⟨g,m,none⟩=false:=HB.out.frozen m;have Ai:wr.cell? ⟨g,m,none⟩=some (.int .i64 (Z.getD m 0:Int)):=(HB.out.cell m).trans (zEK Z m (by omega));have AY:Hid (Blk (wr.setCell ⟨g,m,none⟩ (.int .i64 (a:Int))) g 3 (zCG (Z.set m a))):=yD (by rw[←zOy]; exact HB.out.put m _);have AU:Hid (Blk (wr.setCell ⟨g,m,none⟩ (.int .i64 (a:Int))) gt 39 #[.slice (some ⟨b,AJ,none⟩) l.length c]):=yD (HG.out.far AN.out.2 _);have AT:Hid (Ext w (wr.setCell ⟨g,m,none⟩ (.int .i64 (a:Int)))):=yD (HX.out.setCell (p:=⟨g,m,none⟩) AN.out.1 _)
     go_wp2_with fail
     go_roundw
     case rel=>exact⟨m,Z.set m a,by omega,rfl,AX,AY,AU,AT⟩
     case measure=>simp[intOf]
structure zEt (x:xC):Prop where
 text:x.text.size≤9000
 kids:x.kids.length≤9000
theorem zNj {l:List xC}(h:zAA (ZO l)=none):jT l=false:=by unfold jT; rw[h]; rfl
theorem zNi {l:List xC}{Z:List Nat}(h:zAA (ZO l)=some Z):jT l=(JI l 0==1&&l.all (zBa l)):=by unfold jT; rw[h]; rfl
theorem zOk (w:World):(binOp .eql 32 (.slice none 0 0) (.slice none 0 0)).run Tryz.prog w=.ok (.bool true) w:=by kernel_rfl
theorem zMl (w:World)(a:Addr)(n c:Nat):(binOp .eql 32 (.slice (some a) n c) (.slice none 0 0)).run Tryz.prog w=.ok (.bool false) w:=by kernel_rfl
theorem zCq (l:List xC)(A:Option Addr)(n c:Nat)(w:World)(hn:n=l.length)(ht:XU w A l)(hlen:l.length≤9000)(hsm:∀x ∈ l,zEt x)(b:Bool)(hb:Hid (jT l=b)) :
  Calls Tryz.prog 21 #[.agg #[.slice A n c]] w fun e w'=>e=.returned (.bool b)∧Ext w w':=by
 subst hn;have HT:=yD ht;have AD:=yD hsm;clear ht hsm;have s1:=zOk;have s2:=zMl;obtain⟨o,HO⟩:∃o,Hid (zAA (ZO l)=o):=⟨_,yD rfl⟩;have AJ:Hid (Blk (w.alloc (.cells #[.slice A l.length c] 39)) w.heap.size 39 #[.slice A l.length c]):=yD (Blk.new _ _ _);have AH:Hid (Ext w (w.alloc (.cells #[.slice A l.length c] 39))):=yD (Ext.alloc _ _)
 go_enter Tryz.func21,Tryz.ntmps21
 have y0:=AJ.out.cell 0
 go_wp2_with fail
 refine(zNA l A l.length c _ rfl (HT.out.ext AH.out) hlen (fun x hx=>(AD.out x hx).kids) o HO).mono ?_;rintro e w1 ⟨v,rfl,hv,AC⟩;have AG:=yD (AJ.out.ext AC);have AB:Hid (Ext w w1):=yD (AH.out.trans AC);clear AC y0
 cases o with
 | none=>
  have AM:v=.slice none 0 0:=hv;subst AM;have HB:Hid (b=false):=yD (by rw[←hb.out]; exact zNj HO.out)
  go_wp2_with fail
  go_ret;exact⟨vR HB.out.symm,AB.out⟩
 | some Z=>
  obtain⟨g,rfl,-⟩:=hv;have AI:=zBl HO.out
  have hp:0<l.length:=by have:=AI.2.1; rw[jC] at this; omega
  have AN:=yD (zC1 HO.out);have AF:=yD (zNi HO.out);clear AI
  have q0:(0:Int)<(l.length:Int):=by omega
  obtain⟨bb,AL,rfl,AQ,AA⟩:=(HT.out.ext AB.out).at_ 0 hp;rw[Nat.zero_mul,Nat.add_zero] at AA;have k0:w1.cell? ⟨bb,AL,none⟩=some (.int .u8 l[0].kind):=AA 0 (by omega);have AE:Hid (JI l 0=l[0].kind):=yD (zGT (a:=0) hp);clear AA;generalize l[0].kind=kz at *;have y0:=AG.out.cell 0;generalize w.heap.size=gt at *
  cases hz:(kz==1) with
  | false=>
   have AP:(kz != 1)=true:=by rw[bne,hz]; rfl
   have HB:Hid (b=false):=yD (by rw[←hb.out,AF.out,AE.out,hz]; rfl)
   go_wp2_with fail
   go_ret;exact⟨vR HB.out.symm,AB.out⟩
  | true=>
   obtain rfl:kz=1:=by simpa using hz
   clear hz;obtain⟨d,HD⟩:∃d,Hid ((!l.all (zBa l))=d):=⟨_,yD rfl⟩;have HB:Hid ((!d)=b):=yD (by rw[←hb.out,AF.out,AE.out,←HD.out,Bool.not_not]; rfl)
   go_wp2_with fail
   refine(zMd l _ l.length c gt w1 rfl (HT.out.ext AB.out) hlen (fun x hx=>⟨(AD.out x hx).text,(AD.out x hx).kids,AN.out x hx⟩) AG.out d HD).mono ?_;rintro e w2 ⟨rfl,AK⟩;have AO:Hid (Ext w w2):=yD (AB.out.trans AK);clear AK k0 y0
   go_wp2_with fail
   go_ret;exact⟨vR HB.out,AO.out⟩
end Go.Proofs.YtioffpjajhalaaaGreatDoor.TT
namespace Go.Proofs.YtioffpjajhalaaaGreatDoor
structure Nd where
 kind:Nat
 pos:Nat
 text:Bs
 num:Int
 kids:List Nat
 deriving DecidableEq
structure Ps where
 ts:List Tok
 nd:List Nd
 deep:Nat
 deriving DecidableEq
inductive Res (α:Type) where
 | ok (a:α) (s:Ps)
 | err (e:Int) (at_:Nat)
 deriving DecidableEq
def Res.bind {α β:Type}:Res α→(α→Ps→Res β)→Res β
 | .ok a s,f=>f a s
 | .err e p,_=>.err e p
theorem vT {α β:Type}(a:α)(s:Ps)(f:α→Ps→Res β):(Res.ok a s).bind f=f a s:=rfl
abbrev Pm (α:Type):=Ps→Res α
def zWw:Tok:=⟨4,0,0,[],0⟩
def Ps.hd (s:Ps):Tok:=s.ts.headD zWw
def Ps.adv (s:Ps):Ps:={ s with ts:=s.ts.tail }
def isP (t:Bs)(s:Ps):Bool:=(s.hd.kind != 4&&s.hd.kind != 2)&&s.hd.text==t
def vE (t:Bs):Pm Unit:=fun s=>if isP t s=true then .ok () s.adv else .err 50 s.hd.at_
def ofP (k:Nat):Pm Tok:=fun s=>if s.hd.kind=k then .ok s.hd s.adv else .err 50 s.hd.at_
def Ps.add (s:Ps)(n:Nd):Ps:={ s with nd:=s.nd++[n] }
def Ps.on (s:Ps)(i:Nat)(f:Nd→Nd):Ps:={ s with nd:=s.nd.modify i f }
def Ps.kid (s:Ps)(i:Nat):Ps:=s.on i fun n=>{ n with kids:=n.kids++[s.nd.length] }
def Ps.node (s:Ps)(k:Nat):Ps:=s.add ⟨k,s.hd.at_,[],0,[]⟩
def Ps.text (s:Ps)(i:Nat)(t:Bs):Ps:=s.on i fun n=>{ n with text:=t }
def Ps.num (s:Ps)(i:Nat)(x:Int):Ps:=s.on i fun n=>{ n with num:=x }
def Ps.kind (s:Ps)(i:Nat)(k:Nat):Ps:=s.on i fun n=>{ n with kind:=k }
def Ps.xB (s:Ps)(i k:Nat):Ps:=(s.kid i).node k
def vS (i:Nat):Pm Unit:=fun s=>(ofP 1 s).bind fun t s=>.ok () (s.text i t.text)
def JN (i:Nat):Pm Unit:=fun s=>vS s.nd.length (s.xB i 5)
def zBr (i:Nat):Pm Unit:=fun s=>(ofP 2 s).bind fun t s=>.ok () (s.num i t.n)
def JX (i:Nat):Pm Unit:=fun s=>zBr s.nd.length (s.xB i 21)
def xY {α:Type}(a z:Bs)(body:Pm α):Pm α:=fun s=>
 if isP a s=true then
  if s.deep=64 then .err 51 s.hd.at_
  else (body { s.adv with deep:=s.deep+1 }).bind fun x s=>
   if z=[] then .ok x { s with deep:=s.deep-1 }
   else (vE z s).bind fun _ s=>.ok x { s with deep:=s.deep-1 }
 else .err 50 s.hd.at_
inductive Ex where
 | leaf (kind pos:Nat) (text:Bs) (num:Int)
 | neg (pos:Nat) (a:Ex)
 | bin (kind pos:Nat) (a b:Ex)
 deriving DecidableEq
def Ex.pos:Ex→Nat
 | .leaf _ p _ _=>p
 | .neg p _=>p
 | .bin _ p _ _=>p
def zDq:List (Bs × Nat):=[([42],25)]
def zEb:List (Bs × Nat):=[([43],23),([45],24)]
def zAi (ms:List (Bs × Nat))(s:Ps):Option Nat:=(ms.find? fun m=>isP m.1 s).map Prod.snd
def ZE (ms:List (Bs × Nat))(part:Pm Ex):Nat→Ex→Pm Ex
 | 0,_,_=>.err 0 0
 | f+1,e,s=>match zAi ms s with
  | none=>.ok e s
  | some k=>(part s.adv).bind fun r s=>ZE ms part f (.bin k e.pos e r) s
def ZL (ms:List (Bs × Nat))(part:Pm Ex):Pm Ex:=fun s=>(part s).bind fun e s=>ZE ms part (s.ts.length+1) e s
def zOY (part:Pm Ex):Pm Ex:=ZL zDq part
def sumOf (part:Pm Ex):Pm Ex:=ZL zEb (zOY part)
def xM:Nat→Pm Ex
 | 0,_=>.err 0 0
 | f+1,s=>
  if s.hd.kind=1 then .ok (.leaf 22 s.hd.at_ s.hd.text 0) s.adv
  else if s.hd.kind=2 then .ok (.leaf 21 s.hd.at_ [] s.hd.n) s.adv
  else if isP [45] s=true then (xY [45] [] (xM f) s).bind fun a t=>.ok (.neg s.hd.at_ a) t
  else xY [40] [41] (sumOf (xM f)) s
def zLN:Pm Ex:=fun s=>sumOf (xM s.ts.length) s
def zAe (i:Nat):Ex→Ps→Ps
 | .leaf k p t n,s=>(s.kid i).add ⟨k,p,t,n,[]⟩
 | .neg p a,s=>zAe s.nd.length a ((s.kid i).add ⟨26,p,[],0,[]⟩)
 | .bin k p a b,s=>zAe s.nd.length b (zAe s.nd.length a ((s.kid i).add ⟨k,p,[],0,[]⟩))
def XC (i:Nat):Pm Unit:=fun s=>(zLN s).bind fun e s=>.ok () (zAe i e s)
def JU (one:Pm Unit):Nat→Pm Unit
 | 0,_=>.err 0 0
 | f+1,s=>if isP [44] s=true then (one s.adv).bind fun _ s=>JU one f s else .ok () s
def JC (one:Pm Unit):Pm Unit:=fun s=>(one s).bind fun _ s=>JU one (s.ts.length+1) s
def zD5 (i:Nat):Pm Unit:=xY [91] [93] (XC i)
def zEn (i:Nat):Pm Unit:=fun s=>(vS s.nd.length (s.xB i 20)).bind fun _ t=>zD5 s.nd.length t
def zEF (i:Nat):Pm Unit:=fun s=>(zEn i s).bind fun _ s=>(vE [46] s).bind fun _ s=>JN i s
def ZJ (st:Nat→Pm Unit)(i:Nat):Nat→Pm Unit
 | 0,_=>.err 0 0
 | f+1,s=>if isP [125] s=true then .ok () s else (st i s).bind fun _ s=>ZJ st i f s
def XN (st:Nat→Pm Unit)(i:Nat):Pm Unit:=fun s=>xY [123] [125] (fun t=>ZJ st s.nd.length (t.ts.length+1) t) (s.xB i 6)
def zGb (i:Nat):Pm Unit:=fun s=>(vS i s).bind fun _ s=>(vE [61] s).bind fun _ s=>(zEF i s).bind fun _ s=>
 if isP [102,111,114] s=true then (vE [117,112,100,97,116,101] s.adv).bind fun _ s=>.ok () (s.num i 1) else .ok () s
def zL4 (i:Nat):Pm Unit:=fun s=>(zEF i s).bind fun _ s=>(vE [61] s).bind fun _ s=>XC i s
def zCm (i:Nat):Pm Unit:=fun s=>(zEn i s).bind fun _ s=>(vE [40] s).bind fun _ s=>(JC (XC i) s).bind fun _ s=>vE [41] s
def zFH (i:Nat):Pm Unit:=fun s=>(vS i s).bind fun _ s=>(vE [61] s).bind fun _ s=>(JN i s).bind fun _ s=>(vE [46] s).bind fun _ s=>JN i s
def zFR (i:Nat):Pm Unit:=fun s=>(JN i s).bind fun _ s=>if isP [97,108,108] s=true then .ok () (s.adv.num i 1) else vE [115,104,97,114,101,100] s
def zAw (i:Nat):Pm Unit:=fun s=>(vS s.nd.length (s.xB i 5)).bind fun _ t=>if isP [91] t=true then zD5 s.nd.length (t.kind s.nd.length 20) else .ok () t
def zCN (i:Nat):Pm Unit:=fun s=>if isP [61,61] s=true then .ok () (s.adv.num i 1) else vE [60] s
def zC4 (st:Nat→Pm Unit)(i:Nat):Pm Unit:=fun s=>if isP [101,108,115,101] s=true then XN st i s.adv else .ok () s
def zAx (st:Nat→Pm Unit)(i:Nat):Pm Unit:=fun s=>(XC i s).bind fun _ s=>(zCN i s).bind fun _ s=>(XC i s).bind fun _ s=>(XN st i s).bind fun _ s=>zC4 st i s
def zDC (st:Nat→Pm Unit)(i:Nat):Pm Unit:=fun s=>(vS i s).bind fun _ s=>(vE [61] s).bind fun _ s=>(JX i s).bind fun _ s=>(vE [116,111] s).bind fun _ s=>(JX i s).bind fun _ s=>XN st i s
def zLI (i:Nat):Pm Unit:=fun s=>(vS i s).bind fun _ s=>(vE [61] s).bind fun _ s=>XC i s
def zTu:Pm Unit:=fun s=>.ok () s
def zGJ:List (Bs × Nat):=[([114,101,97,100],7),([115,101,116],8),([112,117,116],9),([100,101,108,101,116,101],10),([115,99,97,110],11),([108,111,99,107],12),([114,101,108,101,97,115,101],13),([105,102],14),([102,111,114],15),([108,101,116],16),([101,109,105,116],17),([114,111,108,108,98,97,99,107],18),([99,104,111,112],19)]
def jN (t:Bs):Option Nat:=(zGJ.find? fun m=>m.1==t).map Prod.snd
def YO (st:Nat→Pm Unit)(k i:Nat):Pm Unit:=
 if k=7 then zGb i else if k=8 then zL4 i else if k=9 then zCm i else if k=10 then zEn i else if k=11 then zFH i
 else if k=12 then zFR i else if k=13 then zAw i else if k=14 then zAx st i else if k=15 then zDC st i else if k=16 then zLI i
 else if k=17 then XC i else zTu
def jO:Nat→Nat→Pm Unit
 | 0,_,_=>.err 0 0
 | f+1,i,s=>match (if s.hd.kind=1 then jN s.hd.text else none) with
  | none=>.err 50 s.hd.at_
  | some k=>(YO (jO f) k s.nd.length (s.xB i k).adv).bind fun _ s=>if k=14∨k=15 then .ok () s else vE [59] s
def zD4 (i:Nat):Pm Unit:=fun s=>XN (jO s.ts.length) i s
def zAX (i:Nat):Pm Unit:=fun s=>(vE [116,97,98,108,101] (s.xB i 2)).bind fun _ t=>(vS s.nd.length t).bind fun _ t=>(vE [40] t).bind fun _ t=>(JC (JN s.nd.length) t).bind fun _ t=>(vE [41] t).bind fun _ t=>vE [59] t
def JM (i:Nat):Pm Unit:=fun s=>let n:=s.nd.length; let t:=s.xB i 4; if isP [41] t=true then .ok () t else JC (JN n) t
def VF (i:Nat):Pm Unit:=fun s=>if isP [115,105,110,103,108,101] s=true then .ok () (s.adv.num i 1) else .ok () s
def zCB (i:Nat):Pm Unit:=fun s=>(vE [112,114,111,99] (s.xB i 3)).bind fun _ t=>(vS s.nd.length t).bind fun _ t=>(vE [40] t).bind fun _ t=>(JM s.nd.length t).bind fun _ t=>(vE [41] t).bind fun _ t=>
 (VF s.nd.length t).bind fun _ t=>zD4 s.nd.length t
def vY:Nat→Pm Unit
 | 0,_=>.err 0 0
 | f+1,s=>if s.hd.kind=4 then .ok () s
  else if isP [116,97,98,108,101] s=true then (zAX 0 s).bind fun _ s=>vY f s
  else if isP [112,114,111,99] s=true then (zCB 0 s).bind fun _ s=>vY f s
  else .err 50 s.hd.at_
def zAZ:Pm Unit:=fun s=>vY (s.ts.length+1) (s.node 1)
inductive zGq where
 | ok (l:List Nd)
 | err (at_:Nat) (e:Int)
 deriving DecidableEq
def XY (ts:List Tok):zGq:=match zAZ ⟨ts,[],0⟩ with
 | .ok _ s=>.ok s.nd
 | .err e p=>.err p e
def zL6 (src:Bs):zGq:=match (if 65536<src.length then .err 0 3 else VJ 0 src:zAv) with
 | .ok ts=>XY ts
 | .err p e=>.err p e
end Go.Proofs.YtioffpjajhalaaaGreatDoor
