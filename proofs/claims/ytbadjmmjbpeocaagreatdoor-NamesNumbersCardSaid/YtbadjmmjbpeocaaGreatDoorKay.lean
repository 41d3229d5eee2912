/- The reader of names: table. Condition: the tree is known. -/
import Derived.Test.YtbadjmmjbpeocaaGreatDoorKaa
import Derived.Test.YtbadjmmjbpeocaaGreatDoorKax
import Derived.StillTailTactics
set_option linter.unusedVariables false
set_option linter.unusedSimpArgs false
set_option maxRecDepth 100000
set_option maxHeartbeats 16000000
namespace Go.Proofs.YtbadjmmjbpeocaaGreatDoor
open Go Go.RowKit
theorem zQT:(Tryz.prog.info? 44).map (fun i=>(i.zero,i.size,i.bytes))=some (some (.agg #[.string ⟨#[]⟩,.slice none 0 0]),2,40):=by kernel_rfl
theorem zSH:(Tryz.prog.info? 81).map (fun i=>(i.zero,i.size,i.bytes))=some (some (.map none),1,8):=by kernel_rfl
theorem zSe:(Tryz.prog.info? 9).map (fun i=>(i.zero,i.size,i.bytes))=some (some (.string ⟨#[]⟩),1,16):=by kernel_rfl
theorem zE3 (cs:List Bs)(n:Bs):(cs.findIdx? fun c=>c==n).isSome=cs.contains n:=by
 rw[List.findIdx?_isSome]
 induction cs with
 | nil=>rfl
 | cons x l ih=>
  rw[List.any_cons,List.contains_cons,ih]
  congr 1
  exact Bool.beq_comm
theorem zEL {cs:List Bs}{n:Bs}(h:cs.contains n=false):(cs.findIdx? fun c=>c==n)=none:=by
 have:=zE3 cs n
 rw[h] at this
 cases hx:cs.findIdx? (fun c=>c==n) with
 | none=>rfl
 | some k=>rw[hx] at this; cases this
structure TL (w wr:World)(S:StH)(R:DyH)(of':List Int)(g g7 mb:Nat)(nt:Bs)(nC:Array Value)(cs:List Bs)(A7:Option Addr)(c7 m:Nat)(F:Bs→Option Value):Prop where
 mv:xD w (jC S R) wr (jC S R)
 same:∀b,jC S R b→b≠S.bo→wr.heap[b]?=w.heap[b]?
 of:Blk wr S.bo 3 (ofc of').toArray
 len:of'.length=S.l.length
 nd:Blk wr g 39 nC
 tb:Blk wr g7 44 #[.string (xI nt),.slice A7 cs.length c7]
 row:wr.ownsRow w.heap.size 9 1 (.slice A7 cs.length c7) cs.length (strs cs)
 mp:MF Tryz.prog 9 wr mb m F
 zFv:w.heap.size≤mb∧w.heap.size≤g∧w.heap.size≤g7
section
variable {w wr w2:World} {S:StH} {s:Nr} {R:DyH} {of':List Int} {g g7 mb:Nat} {nt:Bs} {nC:Array Value} {cs:List Bs} {A7:Option Addr} {c7 m:Nat} {F:Bs→Option Value}
theorem TL.nh (t:TL w wr S R of' g g7 mb nt nC cs A7 c7 m F)(h:NH w S s R):NH wr S { s with of:=of' } R:=by
 obtain⟨n1,n2,n3,n4,n5,n6⟩:=h.apart;exact⟨(t.same S.a (.inl rfl) n2).trans h.rd,(t.same S.p (.inr (.inl rfl)) n3).trans h.pg,t.of,t.len,h.tree.xG t.mv,ZK h.zA2 fun b e=>t.same b (.inr (.inr (.inr (.inr (.inl e))))) (h.zD1 b e).2.2.1,h.thl,fun k x h0 e1 e2=>(h.zII k x h0 e1 e2).xG t.mv,ZK h.zFl fun b e=>t.same b (.inr (.inr (.inr (.inr (.inr (.inl e)))))) (h.zD6 b e).2.2.1,h.cml,fun k b x e1 e2=>(h.zD8 k b x e1 e2).xG t.mv,h.mt.jL (t.same S.mt (.inr (.inr (.inr (.inl rfl)))) n6),ZK h.procs fun b e=>t.same b (.inr (.inr (.inr (.inr (.inr (.inr e)))))) (h.zDX b e).2.2.1,h.zRw,h.zQg,h.zT,h.zC,h.zP,Nat.le_trans h.low t.mv.size⟩
theorem xD.far {M M':Nat→Prop}{o:Option Nat}(h:xD w M wr M')(k:wr.grownBy w2 o)(ho:∀b,o=some b→w.heap.size≤b):xD w M w2 M':=
 ⟨k.os.trans h.os,k.tape.trans h.tape,k.output.trans h.output,Nat.le_trans h.size k.size,fun b hb hn=>(k.block b (yU hb h.size) fun e=>by have:=ho b e.symm; omega).trans (h.jL b hb hn),h.zDv⟩
theorem TL.grown (t:TL w wr S R of' g g7 mb nt nC cs A7 c7 m F)(h:NH w S s R){o:Option Nat}(k:wr.grownBy w2 o)(ho:∀b,o=some b→w.heap.size≤b):xD w (jC S R) w2 (jC S R)∧(∀b,jC S R b→b≠S.bo→w2.heap[b]?=w.heap[b]?)∧Blk w2 S.bo 3 (ofc of').toArray:=by
 have hlt:∀b,jC S R b→b<w.heap.size:=fun b hb=>h.ZU hb;refine⟨t.mv.far k ho,fun b hb hn=>(k.block b (yU (hlt b hb) t.mv.size) fun e=>?_).trans (t.same b hb hn),(k.block S.bo t.of.lt fun e=>?_).trans t.of⟩
 ·have:=ho b e.symm; have:=hlt b hb; omega
 ·have:=ho S.bo e.symm; have:=hlt S.bo (.inr (.inr (.inl rfl))); omega
theorem TL.ext (t:TL w wr S R of' g g7 mb nt nC cs A7 c7 m F)(h:NH w S s R)(hx:Ext wr w2):TL w w2 S R of' g g7 mb nt nC cs A7 c7 m F:=by
 obtain⟨a,b,c⟩:=t.grown h (o:=none) (zAM hx) (fun b e=>by cases e);exact⟨a,b,c,t.len,t.nd.ext hx,t.tb.ext hx,zCM t.row hx,t.mp.ext hx,t.zFv⟩
theorem TL.put (t:TL w wr S R of' g g7 mb nt nC cs A7 c7 m F)(h:NH w S s R){m':Nat}{F':Bs→Option Value}(hm:MF Tryz.prog 9 w2 mb m' F')(hg:wr.grownBy w2 (some mb)):TL w w2 S R of' g g7 mb nt nC cs A7 c7 m' F':=by
 obtain⟨a,b,c⟩:=t.grown h hg (fun b e=>by injection e with e; rw[←e]; exact t.zFv.1);refine⟨a,b,c,t.len,t.nd.grown hg fun e=>?_,t.tb.grown hg fun e=>?_,ZK t.row fun b e=>hg.block b (jE t.row e).2 fun e2=>?_,hm,t.zFv⟩
 ·injection e with e; exact t.mp.ne t.nd e.symm
 ·injection e with e; exact t.mp.ne t.tb e.symm
 ·injection e2 with e2;obtain⟨cur,hc⟩:=xY t.row e;exact t.mp.ne hc e2.symm
theorem TL.setOf (t:TL w wr S R of' g g7 mb nt nC cs A7 c7 m F)(h:NH w S s R)(i:Nat)(x:Int):TL w (wr.setCell ⟨S.bo,i,none⟩ (.int .i64 x)) S R (of'.set i x) g g7 mb nt nC cs A7 c7 m F:=by
 obtain⟨n1,n2,n3,n4,n5,n6⟩:=h.apart;have hbl:S.bo<w.heap.size:=h.of.lt
 have hne:∀b,w.heap.size≤b→b≠S.bo:=fun b hb e=>by omega
 refine⟨⟨t.mv.os,t.mv.tape,t.mv.output,by simpa [World.setCell] using t.mv.size,fun b hb hn=>(zS wr ⟨S.bo,i,none⟩ _ b fun e=>hn (.inr (.inr (.inl e)))).trans (t.mv.jL b hb hn),t.mv.zDv⟩,fun b hb hn=>(zS wr ⟨S.bo,i,none⟩ _ b hn).trans (t.same b hb hn),?_,by rw[zB]; exact t.len,t.nd.far (p:=⟨S.bo,i,none⟩) (hne _ t.zFv.2.1) _,t.tb.far (p:=⟨S.bo,i,none⟩) (hne _ t.zFv.2.2) _,ZK t.row fun b e=>zS wr ⟨S.bo,i,none⟩ _ b (hne _ (jE t.row e).1),t.mp.jL (zS wr ⟨S.bo,i,none⟩ _ mb (hne _ t.zFv.1)),t.zFv⟩
 have:=t.of.put i (.int .i64 x)
 rw[yD,zFU] at this;exact this
theorem TL.app (t:TL w wr S R of' g g7 mb nt nC cs A7 c7 m F)(h:NH w S s R)(name:Bs)(A':Option Addr)(c':Nat)(hg:wr.grownBy w2 (Value.slice A7 cs.length c7).ownBlock)(ho:w2.ownsRow w.heap.size 9 1 (.slice A' (cs.length+1) c') (cs.length+1) (strs cs++[.string (xI name)])) :
  TL w (w2.setCell ⟨g7,1,none⟩ (.slice A' (cs.length+1) c')) S R of' g g7 mb nt nC (cs++[name]) A' c' m F:=by
 have hlo:∀b,(Value.slice A7 cs.length c7).ownBlock=some b→w.heap.size≤b:=fun b e=>(jE t.row (xP t.row e)).1;obtain⟨a,b,c⟩:=t.grown h hg hlo;have hty:∀b,(Value.slice A7 cs.length c7).ownBlock=some b→∃cur,Blk wr b 9 cur:=fun b e=>xY t.row (xP t.row e)
 have hnd:Blk w2 g 39 nC:=t.nd.grown hg fun e=>by obtain⟨cur,hc⟩:=hty g e.symm; exact Blk.differ t.nd hc (by decide) rfl
 have htb:Blk w2 g7 44 #[.string (xI nt),.slice A7 cs.length c7]:=t.tb.grown hg fun e=>by obtain⟨cur,hc⟩:=hty g7 e.symm; exact Blk.differ t.tb hc (by decide) rfl
 have hmp:MF Tryz.prog 9 w2 mb m F:=t.mp.jL (hg.block mb t.mp.lt fun e=>by obtain⟨cur,hc⟩:=hty mb e.symm; exact t.mp.ne hc rfl);have hlt:∀b,jC S R b→b<w.heap.size:=fun b hb=>h.ZU hb
 have hl:(cs++[name]).length=cs.length+1:=by simp
 refine⟨⟨a.os,a.tape,a.output,by simpa [World.setCell] using a.size,fun x hx hn=>(zS w2 ⟨g7,1,none⟩ _ x fun e=>?_).trans (a.jL x hx hn),a.zDv⟩,fun x hx hn=>(zS w2 ⟨g7,1,none⟩ _ x fun e=>?_).trans (b x hx hn),c.far (p:=⟨g7,1,none⟩) (fun e=>?_) _,t.len,hnd.far (p:=⟨g7,1,none⟩) (Blk.differ hnd htb (by decide)) _,?_,?_,hmp.jL (zS w2 ⟨g7,1,none⟩ _ mb (hmp.ne htb)),t.zFv⟩
 ·have:=t.zFv.2.2; have e:x=g7:=e; omega
 ·have:=t.zFv.2.2; have:=hlt x hx; have e:x=g7:=e; omega
 ·have:=t.zFv.2.2; have:=hlt S.bo (.inr (.inr (.inl rfl))); have e:S.bo=g7:=e; omega
 ·have:=htb.put 1 (.slice A' (cs.length+1) c')
  rw[hl]
  simpa using this
 ·rw[hl,zPI];refine ZK ho fun b e=>zS w2 ⟨g7,1,none⟩ _ b ?_;obtain⟨cur,hc⟩:=xY ho e;exact Blk.differ hc htb (by decide)
end
theorem zOI (w:World)(S:StH)(s:Nr)(R:DyH)(i:Nat)(h:NH w S s R)(hi:i<S.l.length)(hup:∀k,k ∈ (xC (tN S.l) i).kids→k<S.l.length) :
  Calls Tryz.prog 29 #[.pointer (some ⟨S.a,0,none⟩),.int .i64 (i:Int)] w (zDQ w S R (JQ (tN S.l) i s)):=by
 have HNB:=yG h;have HIL:=yG hi;have HUP:=yG hup;have HTX:Hid ((xC (tN S.l) i).text.length≤maxLen):=yG (h.tree.txt i);have HHD:Hid (JQ (tN S.l) i s=if (zCg s (xC (tN S.l) i).text).isSome=true then .err i 71 else if s.xH.length<64∧(xC (tN S.l) i).kids.length≤16 then (zAr (tN S.l) (xC (tN S.l) i).kids [] s).bind fun x=>.ok { x.2.set i s.xH.length with xH:=s.xH++[⟨(xC (tN S.l) i).text,x.1⟩] } else .err i 3):=yG rfl;have HKS:Hid (∀(wr:World) (sk:Nr) (Rk:DyH),NH wr S sk Rk→Cells wr (hdN S.l i).1 (ints (xC (tN S.l) i).kids)):=yG fun wr sk Rk hn=>(hn.tree.kid i hi).cells;have HML:Hid (∀b,jC S R b→b<w.heap.size):=yG fun b hm=>h.ZU hm;clear h hi hup
 go_enter Tryz.func29,Tryz.ntmps29
 go_wp2_with fail
 refine(vV w S.a S.p S.A S.ct S.l i HNB.out.rds HIL.out).mono ?_;rintro e w1 ⟨rfl,hx1⟩;obtain⟨W2,HW2⟩:∃W2,Hid (w1.alloc (.cells (vX S.l i) 39)=W2):=⟨_,yG rfl⟩;obtain⟨g,HG⟩:∃g,Hid (w1.heap.size=g):=⟨_,yG rfl⟩;have HN1:=yG (HNB.out.ext hx1);have HGL:Hid (w.heap.size≤g):=yG (by rw[←HG.out]; exact hx1.size);have HFR:Hid (Safe W2 (jC S R) g 39 (vX S.l i)):=yG (by rw[←HW2.out,←HG.out]; exact HN1.out.fresh 39 (vX S.l i));have HX2:Hid (Ext w W2):=yG (by rw[←HW2.out]; exact hx1.trans (Ext.alloc _ _));have HN2:=yG (HNB.out.ext HX2.out);clear hx1;unfold vX at *;obtain⟨nt,HNT⟩:∃nt,Hid ((xC (tN S.l) i).text=nt):=⟨_,yG rfl⟩;obtain⟨Ks,HKE⟩:∃Ks,Hid ((xC (tN S.l) i).kids=Ks):=⟨_,yG rfl⟩;rw[HNT.out,HKE.out] at HW2 HFR HHD;rw[HNT.out] at HTX;rw[HKE.out] at HKS HUP;rw[HNT.out,HKE.out];generalize (hdN S.l i).1=kA at *;generalize (hdN S.l i).2=kc at *;generalize ((xC (tN S.l) i).kind:Int)=nk at *;generalize YY S.l i=np at *;generalize (xC (tN S.l) i).num=nn at *
 go_upto_region 1 with fail
 rw[HW2.out,HG.out];clear HW2;have c2:W2.cell? ⟨g,2,none⟩=some (.string (xI nt)):=HFR.out.1.cell 2;have gl:=HFR.out.1.lt;have x1:=HN2.out.x1;have al:=HN2.out.rds.al;have HLK:=yG HN2.out.mt
 cases hk:zCg s nt with
 | some k=>
  have HR:Hid (JQ (tN S.l) i s=.err i 71):=yG (by rw[HHD.out,hk]; rfl);apply YX (by kernel_rfl) (by kernel_rfl) (by kernel_rfl);apply yZ (.pointer (some ⟨S.a,0,none⟩)) rfl rfl rfl
  ·intro w' hw' hH;clear hH;simp[xB,go_sem];exact Ext.refl _
  simp only[Act.put,yD,yE,yF];apply yZ (.pointer (some ⟨S.a,0,none⟩)) rfl rfl rfl
  ·intro w' hw' hH;clear hH;simp[xB,go_sem];exact Ext.refl _
  simp only[Act.put,yD,yE,yF];apply yZ (.pointer (some ⟨S.a,1,none⟩)) rfl rfl rfl
  ·intro w' hw' hH;clear hH;simp[xB,go_sem];exact Ext.refl _
  simp only[Act.put,yD,yE,yF];apply yZ (.map (some S.mt)) rfl rfl rfl
  ·intro w' hw' hH;have cc:=(hw'.cell (p:=⟨S.a,1,none⟩) al).trans x1;clear hH;simp[xB,go_sem,cc];exact Ext.refl _
  simp only[Act.put,yD,yE,yF];apply yZ (.pointer (some ⟨g,2,none⟩)) rfl rfl rfl
  ·intro w' hw' hH;clear hH;simp[xB,go_sem];exact Ext.refl _
  simp only[Act.put,yD,yE,yF];apply yZ (.string (xI nt)) rfl rfl rfl
  ·intro w' hw' hH;have cc:=(hw'.cell (p:=⟨g,2,none⟩) gl).trans c2;clear hH;simp[xB,go_sem,cc];exact Ext.refl _
  simp only[Act.put,yD,yE,yF];apply yZ (.tuple #[.int .i64 (k:Int),.bool true]) rfl rfl rfl
  ·intro w' hw' hH;clear hH;have hlk:=(HLK.out.ext hw').get (t:=81) (e:=3) (z:=.int .i64 0) Tryz.underlying9 Tryz.underlying81 (by rfl) nt HTX.out;rw[show(s.xH.findIdx? fun x=>x.name==nt)=_ from hk] at hlk;simp only[zBs,Option.map_some,Option.map_none,Option.getD_some,Option.getD_none,Option.isSome_some,Option.isSome_none] at hlk;simp[xB,go_sem,hlk];exact Ext.refl _
  simp only[Act.put,yD,yE,yF];apply yZ (.tuple #[.int .i64 (k:Int),.bool true]) rfl rfl rfl
  ·intro w' hw' hH;clear hH;simp[xB,go_sem];exact Ext.refl _
  simp only[Act.put,yD,yE,yF];apply yZ (.int .i64 (k:Int)) rfl rfl rfl
  ·intro w' hw' hH;clear hH;simp[xB,go_sem];exact Ext.refl _
  simp only[Act.put,yD,yE,yF];apply yZ (.bool true) rfl rfl rfl
  ·intro w' hw' hH;clear hH;simp[xB,go_sem];exact Ext.refl _
  simp only[Act.put,yD,yE,yF];apply yZ (.int .i64 (k:Int)) rfl rfl rfl
  ·intro w' hw' hH;clear hH;simp[xB,go_sem];exact Ext.refl _
  simp only[Act.put,yD,yE,yF];apply yZ (.bool true) rfl rfl rfl
  ·intro w' hw' hH;clear hH;simp[xB,go_sem];exact Ext.refl _
  apply vC;intro w3 hx3 hH;clear hH c2 gl x1 al
  try simp only[Act.put,yD,yE,yF]
  have HX3:=yG (HX2.out.trans hx3);have HN3:=yG (HN2.out.ext hx3);have HF3:=yG (HFR.out.xG (xD.ext (M:=jC S R) hx3));clear hx3
  go_wp2_with fail
  refine(JP w3 S.a S.p S.A S.ct S.l i 71 HN3.out.rds HIL.out).mono ?_;rintro e w4 ⟨rfl,rfl⟩;exact xK (P:=Tryz.prog) (fn:=Tryz.f29) rfl (zDQ.err HR.out HIL.out (xD.ext HX3.out))
 | none=>
  have HNEW:Hid (s.xH.findIdx? (fun y=>y.name==nt)=none):=yG hk;have HHD2:Hid (JQ (tN S.l) i s=if s.xH.length<64∧Ks.length≤16 then (zAr (tN S.l) Ks [] s).bind fun x=>.ok { x.2.set i s.xH.length with xH:=s.xH++[⟨nt,x.1⟩] } else .err i 3):=yG (by rw[HHD.out,hk]; rfl);apply YX (by kernel_rfl) (by kernel_rfl) (by kernel_rfl);apply yZ (.pointer (some ⟨S.a,0,none⟩)) rfl rfl rfl
  ·intro w' hw' hH;clear hH;simp[xB,go_sem];exact Ext.refl _
  simp only[Act.put,yD,yE,yF];apply yZ (.pointer (some ⟨S.a,0,none⟩)) rfl rfl rfl
  ·intro w' hw' hH;clear hH;simp[xB,go_sem];exact Ext.refl _
  simp only[Act.put,yD,yE,yF];apply yZ (.pointer (some ⟨S.a,1,none⟩)) rfl rfl rfl
  ·intro w' hw' hH;clear hH;simp[xB,go_sem];exact Ext.refl _
  simp only[Act.put,yD,yE,yF];apply yZ (.map (some S.mt)) rfl rfl rfl
  ·intro w' hw' hH;have cc:=(hw'.cell (p:=⟨S.a,1,none⟩) al).trans x1;clear hH;simp[xB,go_sem,cc];exact Ext.refl _
  simp only[Act.put,yD,yE,yF];apply yZ (.pointer (some ⟨g,2,none⟩)) rfl rfl rfl
  ·intro w' hw' hH;clear hH;simp[xB,go_sem];exact Ext.refl _
  simp only[Act.put,yD,yE,yF];apply yZ (.string (xI nt)) rfl rfl rfl
  ·intro w' hw' hH;have cc:=(hw'.cell (p:=⟨g,2,none⟩) gl).trans c2;clear hH;simp[xB,go_sem,cc];exact Ext.refl _
  simp only[Act.put,yD,yE,yF];apply yZ (.tuple #[.int .i64 0,.bool false]) rfl rfl rfl
  ·intro w' hw' hH;clear hH;have hlk:=(HLK.out.ext hw').get (t:=81) (e:=3) (z:=.int .i64 0) Tryz.underlying9 Tryz.underlying81 (by rfl) nt HTX.out;rw[show(s.xH.findIdx? fun x=>x.name==nt)=_ from hk] at hlk;simp only[zBs,Option.map_some,Option.map_none,Option.getD_some,Option.getD_none,Option.isSome_some,Option.isSome_none] at hlk;simp[xB,go_sem,hlk];exact Ext.refl _
  simp only[Act.put,yD,yE,yF];apply yZ (.tuple #[.int .i64 0,.bool false]) rfl rfl rfl
  ·intro w' hw' hH;clear hH;simp[xB,go_sem];exact Ext.refl _
  simp only[Act.put,yD,yE,yF];apply yZ (.int .i64 0) rfl rfl rfl
  ·intro w' hw' hH;clear hH;simp[xB,go_sem];exact Ext.refl _
  simp only[Act.put,yD,yE,yF];apply yZ (.bool false) rfl rfl rfl
  ·intro w' hw' hH;clear hH;simp[xB,go_sem];exact Ext.refl _
  simp only[Act.put,yD,yE,yF];apply yZ (.int .i64 0) rfl rfl rfl
  ·intro w' hw' hH;clear hH;simp[xB,go_sem];exact Ext.refl _
  simp only[Act.put,yD,yE,yF];apply yZ (.bool false) rfl rfl rfl
  ·intro w' hw' hH;clear hH;simp[xB,go_sem];exact Ext.refl _
  apply vC;intro w3 hx3 hH;clear hH c2 gl x1 al
  try simp only[Act.put,yD,yE,yF]
  have HX3:=yG (HX2.out.trans hx3);have HN3:=yG (HN2.out.ext hx3);have HF3:=yG (HFR.out.xG (xD.ext (M:=jC S R) hx3));clear hx3
  go_wp2_with fail
  refine(XC w3 (.pointer (some ⟨S.a,0,none⟩)) (i:Int) 71).mono ?_;rintro e w4 ⟨rfl,rfl⟩;clear hk;have r0:=HN3.out.rds.r0;have p1:=HN3.out.p1;have c4:w3.cell? ⟨g,4,none⟩=some (.slice kA Ks.length kc):=HF3.out.1.cell 4
  by_cases hl:s.xH.length<64
  rotate_left
  ·have HR:Hid (JQ (tN S.l) i s=.err i 3):=yG (by rw[HHD2.out,if_neg (fun h=>hl h.1)]);have hq1:decide ((s.xH.length:Int)<64)=false:=yR (by omega);clear hl
   go_wp2_with fail
   refine(JP w3 S.a S.p S.A S.ct S.l i 3 HN3.out.rds HIL.out).mono ?_;rintro e w4 ⟨rfl,rfl⟩;exact xK (P:=Tryz.prog) (fn:=Tryz.f29) rfl (zDQ.err HR.out HIL.out (xD.ext HX3.out))
  have hq1:decide ((s.xH.length:Int)<64)=true:=yS (by omega)
  by_cases hl2:Ks.length≤16
  rotate_left
  ·have HR:Hid (JQ (tN S.l) i s=.err i 3):=yG (by rw[HHD2.out,if_neg (fun h=>hl2 h.2)]);have hq2:decide ((Ks.length:Int)≤16)=false:=yR (by omega);clear hl hl2
   go_wp2_with fail
   refine(JP w3 S.a S.p S.A S.ct S.l i 3 HN3.out.rds HIL.out).mono ?_;rintro e w4 ⟨rfl,rfl⟩;exact xK (P:=Tryz.prog) (fn:=Tryz.f29) rfl (zDQ.err HR.out HIL.out (xD.ext HX3.out))
  have hq2:decide ((Ks.length:Int)≤16)=true:=yS (by omega);have HR:Hid (JQ (tN S.l) i s=(zAr (tN S.l) Ks [] s).bind fun x=>.ok { x.2.set i s.xH.length with xH:=s.xH++[⟨nt,x.1⟩] }):=yG (by rw[HHD2.out,if_pos ⟨hl,hl2⟩]);have HL:=yG hl;have hkb:=hl2;clear hl hl2
  go_wp2_with fail
  refine(XC w3 (.pointer (some ⟨S.a,0,none⟩)) (i:Int) 3).mono ?_;rintro e w4 ⟨rfl,rfl⟩;clear hq1 hq2 r0 p1;have c2:w3.cell? ⟨g,2,none⟩=some (.string (xI nt)):=HF3.out.1.cell 2;have gl:=HF3.out.1.lt;have hmm:=@run_makeMap Tryz.prog
  go_upto_region 7 with fail
  clear c2 gl c4 hmm;obtain⟨W4,HW4⟩:∃W4,Hid ((w3.alloc (.cells #[.string (xI nt),.slice none 0 0] 44)).alloc (.map #[] 0)=W4):=⟨_,yG rfl⟩;obtain⟨g7,HG7⟩:∃g7,Hid (w3.heap.size=g7):=⟨_,yG rfl⟩;obtain⟨mb,HMB⟩:∃mb,Hid (w3.heap.size+1=mb):=⟨_,yG rfl⟩
  have HT0:Hid (TL w W4 S R s.of g g7 mb nt #[.int .u8 nk,.int .i64 np,.string (xI nt),.int .i64 nn,.slice kA Ks.length kc] [] none 0 0 fun _=>none):=yG (by
   have hx:Ext w3 W4:=by rw[←HW4.out]; exact(Ext.alloc _ _).trans (Ext.alloc _ _)
   have hxw:=HX3.out.trans hx;have hs3:=HX3.out.size;refine⟨xD.ext hxw,fun b hb _=>hxw.block b (HML.out b hb),HNB.out.of.ext hxw,HNB.out.len,(HF3.out.1.ext hx),?_,zR _ _ _ _,?_,⟨by rw[←HMB.out]; omega,HGL.out,by rw[←HG7.out]; exact hs3⟩⟩
   ·rw[←HW4.out,←HG7.out];exact(Blk.new _ _ _).alloc _
   ·rw[←HW4.out,←HMB.out]
    have:=MF.new (P:=Tryz.prog) (kt:=9) (w3.alloc (.cells #[.string (xI nt),.slice none 0 0] 44))
    rwa [yT] at this)
  rw[HW4.out,HMB.out,HG7.out];clear HW4 HG7 HMB;have HEQ:Hid (({ s with of:=s.of }:Nr)=s):=yG rfl;have HWH:Hid (zAr (tN S.l) Ks [] s=zAr (tN S.l) (Ks.drop 0) [] { s with of:=s.of }):=yG rfl;obtain⟨i1,hi1,hz3,hz4,hz5⟩:=info_parts zSe
  go_loopw [57] (fun i' wr=>∃(k:Nat) (cs:List Bs) (of':List Int) (A7:Option Addr) (c7:Nat),k≤Ks.length∧i'=.int .i64 k∧Hid (cs.length=k)∧Hid (TL w wr S R of' g g7 mb nt #[.int .u8 nk,.int .i64 np,.string (xI nt),.int .i64 nn,.slice kA Ks.length kc] cs A7 c7 cs.length fun n=>zBs (cs.findIdx? fun c=>c==n))∧Hid (zAr (tN S.l) Ks [] s=zAr (tN S.l) (Ks.drop k) cs { s with of:=of' })) (fun i' _=>Ks.length-(intOf i').toNat)
  case atStart=>exact⟨0,[],s.of,none,0,zW _,rfl,yG rfl,HT0,HWH⟩
  case round=>
   obtain⟨k,cs,of',A7,c7,hk,rfl,hck,HTK,HWK⟩:=hrel;obtain⟨wa,rfl⟩:∃wa:World,wa=wr:=⟨_,rfl⟩;have HNK:=yG (HTK.out.nh HNB.out)
   by_cases hlt:k<Ks.length
   ·have d0:decide ((k:Int)<(Ks.length:Int))=true:=yS (by omega)
    have q1:(k:Int)<(Ks.length:Int):=by omega
    obtain⟨b,off,hkA,hb,hcc⟩:=(HKS.out wa _ R HNK.out).at_ (by rw[vY]; omega);subst hkA
    have e0:wa.cell? ⟨b,off+k,none⟩=some (.int .i64 ((Ks[k]:Nat):Int)):=by rw[hcc k (by rw[vY]; exact hlt)]; simp[ints,hlt]
    have HMEM:Hid (Ks[k] ∈ Ks):=yG (yO hlt);have HSN:Hid (zAr (tN S.l) (Ks.drop k) cs { s with of:=of' } = if cs.contains (xC (tN S.l) Ks[k]).text=true then .err Ks[k] 71 else zAr (tN S.l) (Ks.drop (k+1)) (cs++[(xC (tN S.l) Ks[k]).text]) { s with of:=of'.set Ks[k] (cs.length:Int) }):=yG (by rw[List.drop_eq_getElem_cons hlt]; rfl);clear hcc;generalize Ks[k]=c at *;have HCL:=yG (HUP.out c HMEM.out);have HTC:Hid ((xC (tN S.l) c).text.length≤maxLen):=yG (HNK.out.tree.txt c)
    go_wp2_with fail
    refine(vV wa S.a S.p S.A S.ct S.l c HNK.out.rds HCL.out).mono ?_;rintro e w5 ⟨rfl,hx5⟩;have HT5:=yG (HTK.out.ext HNB.out hx5);have HN5:=yG (HT5.out.nh HNB.out);have f2:=XX S.l c w5;obtain⟨tx,HTT⟩:∃tx,Hid ((xC (tN S.l) c).text=tx):=⟨_,yG rfl⟩;rw[HTT.out] at f2 HSN HTC;have hlk:=HT5.out.mp.get (t:=81) (e:=3) (z:=.int .i64 0) Tryz.underlying9 Tryz.underlying81 (by rfl) tx HTC.out;clear hx5 e0
    cases hct:cs.contains tx with
    | true=>
     have HERR:Hid (JQ (tN S.l) i s=.err c 71):=yG (by rw[HR.out,HWK.out,HSN.out,if_pos hct]; rfl)
     obtain⟨j,hj⟩:∃j,(cs.findIdx? fun c=>c==tx)=some j:=by
      have:=zE3 cs tx
      rw[hct] at this;exact Option.isSome_iff_exists.1 this
     rw[hj] at hlk;simp only[zBs,Option.map_some,Option.getD_some,Option.isSome_some] at hlk
     go_wp2_with fail
     refine(JP w5 S.a S.p S.A S.ct S.l c 71 HN5.out.rds HCL.out).mono ?_;rintro e w6 ⟨rfl,rfl⟩;exact xK (P:=Tryz.prog) (fn:=Tryz.f29) rfl (zDQ.err HERR.out HCL.out HT5.out.mv)
    | false=>
     have hnf:=zEL hct;have HNF:=yG hnf;rw[hnf] at hlk;simp only[zBs,Option.map_none,Option.getD_none,Option.isSome_none] at hlk;have HWN:Hid (zAr (tN S.l) Ks [] s=zAr (tN S.l) (Ks.drop (k+1)) (cs++[tx]) { s with of:=of'.set c (cs.length:Int) }):=yG (by rw[HWK.out,HSN.out,if_neg (by rw[hct]; decide)]);clear hnf hct
     go_wp2_with fail
     refine(XC w5 (.pointer (some ⟨S.a,0,none⟩)) (c:Int) 71).mono ?_;rintro e w6 ⟨rfl,rfl⟩;clear hlk;have r0:=HN5.out.rds.r0;have p3:=HN5.out.p3
     go_wp2_with (refine zE2 rfl (.tmp 77) (.tmp 78) (.tmp 87) 81 rfl Tryz.underlying9 Tryz.underlying81 mb cs.length (fun n=>zBs (cs.findIdx? fun c=>c==n)) tx (.int .i64 (k:Int)) (by kernel_rfl) (by kernel_rfl) (by kernel_rfl) HT5.out.mp (by have:=hck.out; unfold maxLen; omega) HTC.out ?_)
     intro w6 hm6 hg6 hs6;have HT6:=yG (HT5.out.put HNB.out hm6 hg6);have HN6:=yG (HT6.out.nh HNB.out);clear hm6 hg6 hs6 r0 p3 f2;have co:=HN6.out.zBZ c HCL.out;have cz:=HN6.out.of.frozen c
     have q2:(c:Int)<(S.l.length:Int):=by have:=HCL.out; omega
     go_upto_region 13 with fail
     have HT7:=yG (HT6.out.setOf HNB.out c (k:Int));generalize w6.setCell ⟨S.bo,c,none⟩ (.int .i64 (k:Int))=w7 at *;clear co cz q2 HT6 HN6;have t1:w7.cell? ⟨g7,1,none⟩=some (.slice A7 cs.length c7):=HT7.out.tb.cell 1;have HX8:Hid (Ext w7 (w7.alloc (.cells #[.string (xI tx)] 9))):=yG (Ext.alloc _ _);have HT8:=yG (HT7.out.ext HNB.out HX8.out);have HB8:Hid (Blk (w7.alloc (.cells #[.string (xI tx)] 9)) w7.heap.size 9 [Value.string (xI tx)].toArray):=yG (Blk.new _ _ _);have HW8:Hid (w.heap.size≤(w7.alloc (.cells #[.string (xI tx)] 9)).heap.size):=yG HT8.out.mv.size
     go_wp2_with (at_builtin; refine zHi rfl (.tmp 91) (.tmp 93) 40 rfl w.heap.size 9 i1 _ 1 16 Tryz.underlying40 hi1 hz3 hz4 hz5 rfl A7 cs.length c7 (strs cs) rfl HT8.out.row w7.heap.size 1 [.string (xI tx)] rfl rfl HB8.out (by simp[Value.oneCell']) (by have:=hck.out; unfold maxLen; omega) (by have:=hck.out; omega) HW8.out ?_)
     intro A' c' w9 ho9 hg9 hn9;have HT9:=yG (HT8.out.app HNB.out tx A' c' hg9 ho9)
     have HGG:Hid (some g7≠(Value.slice A7 cs.length c7).ownBlock):=yG fun e=>by
      obtain⟨cur,hc⟩:=xY HT8.out.row (xP HT8.out.row e.symm);exact Blk.differ HT8.out.tb hc (by decide) rfl
     have hk7:=hg9.block g7 HT8.out.tb.lt HGG.out;have t1':w9.cell? ⟨g7,1,none⟩=some (.slice A7 cs.length c7):=(World.cell?_of_block (a:=⟨g7,1,none⟩) hk7).trans (HT8.out.tb.cell 1);have t1z:w9.frozen? ⟨g7,1,none⟩=false:=(World.frozen?_of_block (a:=⟨g7,1,none⟩) hk7).trans (HT8.out.tb.frozen 1);clear ho9 hg9 hn9 t1 hk7
     go_wp2_with fail
     have HTF:Hid (TL w (w9.setCell ⟨g7,1,none⟩ (.slice A' (cs.length+1) c')) S R (of'.set c (cs.length:Int)) g g7 mb nt #[.int .u8 nk,.int .i64 np,.string (xI nt),.int .i64 nn,.slice (some ⟨b,off,none⟩) Ks.length kc] (cs++[tx]) A' c' (cs++[tx]).length fun n=>zBs ((cs++[tx]).findIdx? fun c=>c==n)):=yG (by
      have h9:=HT9.out;rw[←hck.out] at h9;rw[zMh cs tx (fun c=>c) HNF.out] at h9;rw[show(cs++[tx]).length=cs.length+1 by simp]
      exact h9)
     clear HT9 HT7 HT8 t1' t1z;generalize w9.setCell ⟨g7,1,none⟩ (.slice A' (cs.length+1) c')=w10 at *;go_roundw
     case rel=>exact⟨k+1,cs++[tx],of'.set c (cs.length:Int),A',c',by omega,by go_num,yG (by have:=hck.out; simp; omega),HTF,HWN⟩
     case measure=>simp[intOf]; omega
   ·obtain rfl:k=Ks.length:=by omega
    have d0:decide ((Ks.length:Int)<(Ks.length:Int))=false:=by simp
    have d1:decide (Ks.length<Ks.length)=false:=by simp
    have HFE:Hid (JQ (tN S.l) i s=.ok { ({ s with of:=of' }:Nr).set i s.xH.length with xH:=s.xH++[⟨nt,cs⟩] }):=yG (by rw[HR.out,HWK.out,List.drop_length]; rfl)
    go_upto_region 15 with fail
    clear d0 d1;obtain⟨n1,n2,n3,n4,n5,n6⟩:=HNK.out.apart;have al:=HNK.out.rds.al;have pl:=HNK.out.rds.pl;have gl:=HTK.out.nd.lt;have r0:=HNK.out.rds.r0;have x1:=HNK.out.x1;have p1:wa.cell? ⟨S.p,1,none⟩=some (.slice R.At s.xH.length R.cT):=HNK.out.p1;have p3:wa.cell? ⟨S.p,3,none⟩=some (.slice (some ⟨S.bo,0,none⟩) S.l.length S.co):=HNK.out.p3;have c2:wa.cell? ⟨g,2,none⟩=some (.string (xI nt)):=HTK.out.nd.cell 2;have HBG:Hid (S.bo<g):=yG (by have:=HNB.out.of.lt; have:=HTK.out.zFv.2.1; omega)
    have HA:Hid (some S.a≠some S.bo):=yG fun e=>by injection e with e; exact n2 e
    have HP:Hid (some S.p≠some S.bo):=yG fun e=>by injection e with e; exact n3 e
    have HGB:Hid (some g≠some S.bo):=yG fun e=>by injection e with e; have:=HBG.out; omega
    have HMN:=HNK.out.mt
    have HAM:Hid (some S.a≠some S.mt):=yG fun e=>by injection e with e; exact HMN.ne HNK.out.rd e.symm
    have HPM:Hid (some S.p≠some S.mt):=yG fun e=>by injection e with e; exact HMN.ne HNK.out.pg e.symm
    have HGM:Hid (some g≠some S.mt):=yG fun e=>by injection e with e; exact HMN.ne HTK.out.nd e.symm
    have HMB:Hid (S.mt≠S.bo):=yG n6;obtain⟨es,c,hmo⟩:=HMN.isMap;have HMO:Hid (zFG wa S.mt es c):=yG hmo;have HMT:=yG HMN;clear hmo HMN
    have q3:(i:Int)<(S.l.length:Int):=by have:=HIL.out; omega
    have HOL:Hid (i<of'.length):=yG (by rw[HTK.out.len]; exact HIL.out);obtain⟨Fs,HFS⟩:∃Fs,Hid (OM S.bo of' i (s.xH.length:Int) S.mt es c nt (.int .i64 (s.xH.length:Int))=Fs):=⟨_,yG rfl⟩;have HE2:Hid (∀F ∈ Fs,∀v w w',F v w→Ext w w'→F v w'):=yG (by rw[←HFS.out]; exact zUT _ _ _ _ _ _ _ _ _);have M0:Hid ((fun (_:Value) w=>Blk w S.bo 3 (ofc of').toArray∨Blk w S.bo 3 (ofc (of'.set i (s.xH.length:Int))).toArray) ∈ Fs):=yG (by rw[←HFS.out]; simp only[OM,zU,true_or]);have M1:Hid ((fun (_:Value) w=>Blk w S.bo 3 (ofc (of'.set i (s.xH.length:Int))).toArray) ∈ Fs):=yG (by rw[←HFS.out]; simp only[OM,zU,true_or,or_true]);have M2:Hid ((fun (_:Value) w=>zFG w S.mt es c∨∃u,zBr w S.mt es c nt u) ∈ Fs):=yG (by rw[←HFS.out]; simp only[OM,zU,true_or,or_true]);have M3:Hid ((fun (v:Value) w=>(∃z,v=.tuple #[z,.int .i64 (c:Int)])∧∃u,zBr w S.mt es c nt u) ∈ Fs):=yG (by rw[←HFS.out]; simp only[OM,zU,true_or,or_true]);have M4:Hid ((fun (_:Value) w=>zBr w S.mt es c nt (.int .i64 (s.xH.length:Int))) ∈ Fs):=yG (by rw[←HFS.out]; simp only[OM,zU,true_or,or_true]);clear n1 n2 n3 n4 n5 n6;apply zMI (some S.bo) (some S.mt) Fs 35 (by kernel_rfl) (by kernel_rfl) (by kernel_rfl) HE2.out;dsimp only[List.take_succ_cons,List.take_zero,List.drop_succ_cons,List.drop_zero];apply yZ (.pointer (some ⟨S.a,0,none⟩)) rfl rfl rfl
    ·intro w' hw' hH;clear hH;simp[xB,go_sem];exact jI.refl _
    simp only[Act.put,yD,yE,yF];apply yZ (.pointer (some ⟨S.a,0,none⟩)) rfl rfl rfl
    ·intro w' hw' hH;clear hH;simp[xB,go_sem];exact jI.refl _
    simp only[Act.put,yD,yE,yF];apply yZ (.pointer (some ⟨S.a,0,none⟩)) rfl rfl rfl
    ·intro w' hw' hH;clear hH;simp[xB,go_sem];exact jI.refl _
    simp only[Act.put,yD,yE,yF];apply yZ (.pointer (some ⟨S.p,0,none⟩)) rfl rfl rfl
    ·intro w' hw' hH;have hR:=jI.refl (o1:=some S.bo) (o2:=some S.mt) (Fs:=Fs) w';have cc:=(World.cell?_of_block (w:=wa) (a:=⟨S.a,0,none⟩) (hw'.blk al HA.out HAM.out)).trans r0;clear hH;simp[xB,go_sem,cc];exact hR
    simp only[Act.put,yD,yE,yF];apply yZ (.pointer (some ⟨S.p,0,none⟩)) rfl rfl rfl
    ·intro w' hw' hH;clear hH;simp[xB,go_sem];exact jI.refl _
    simp only[Act.put,yD,yE,yF];apply yZ (.pointer (some ⟨S.p,3,none⟩)) rfl rfl rfl
    ·intro w' hw' hH;clear hH;simp[xB,go_sem];exact jI.refl _
    simp only[Act.put,yD,yE,yF];apply yZ (.slice (some ⟨S.bo,0,none⟩) S.l.length S.co) rfl rfl rfl
    ·intro w' hw' hH;have hR:=jI.refl (o1:=some S.bo) (o2:=some S.mt) (Fs:=Fs) w';have cc:=(World.cell?_of_block (w:=wa) (a:=⟨S.p,3,none⟩) (hw'.blk pl HP.out HPM.out)).trans p3;clear hH;simp[xB,go_sem,cc];exact hR
    simp only[Act.put,yD,yE,yF];apply yZ (.int .i64 (i:Int)) rfl rfl rfl
    ·intro w' hw' hH;clear hH;simp[xB,go_sem];exact jI.refl _
    simp only[Act.put,yD,yE,yF];apply yZ (.pointer (some ⟨S.a,0,none⟩)) rfl rfl rfl
    ·intro w' hw' hH;clear hH;simp[xB,go_sem];exact jI.refl _
    simp only[Act.put,yD,yE,yF];apply yZ (.pointer (some ⟨S.a,0,none⟩)) rfl rfl rfl
    ·intro w' hw' hH;clear hH;simp[xB,go_sem];exact jI.refl _
    simp only[Act.put,yD,yE,yF];apply yZ (.pointer (some ⟨S.a,1,none⟩)) rfl rfl rfl
    ·intro w' hw' hH;clear hH;simp[xB,go_sem];exact jI.refl _
    simp only[Act.put,yD,yE,yF];apply yZ (.map (some S.mt)) rfl rfl rfl
    ·intro w' hw' hH;have hR:=jI.refl (o1:=some S.bo) (o2:=some S.mt) (Fs:=Fs) w';have cc:=(World.cell?_of_block (w:=wa) (a:=⟨S.a,1,none⟩) (hw'.blk al HA.out HAM.out)).trans x1;clear hH;simp[xB,go_sem,cc];exact hR
    simp only[Act.put,yD,yE,yF];apply yZ (.pointer (some ⟨g,2,none⟩)) rfl rfl rfl
    ·intro w' hw' hH;clear hH;simp[xB,go_sem];exact jI.refl _
    simp only[Act.put,yD,yE,yF];apply yZ (.string (xI nt)) rfl rfl rfl
    ·intro w' hw' hH;have hR:=jI.refl (o1:=some S.bo) (o2:=some S.mt) (Fs:=Fs) w';have cc:=(World.cell?_of_block (w:=wa) (a:=⟨g,2,none⟩) (hw'.blk gl HGB.out HGM.out)).trans c2;clear hH;simp[xB,go_sem,cc];exact hR
    simp only[Act.put,yD,yE,yF];apply yZ (.pointer (some ⟨S.a,0,none⟩)) rfl rfl rfl
    ·intro w' hw' hH;clear hH;simp[xB,go_sem];exact jI.refl _
    simp only[Act.put,yD,yE,yF];apply yZ (.pointer (some ⟨S.a,0,none⟩)) rfl rfl rfl
    ·intro w' hw' hH;clear hH;simp[xB,go_sem];exact jI.refl _
    simp only[Act.put,yD,yE,yF];apply yZ (.pointer (some ⟨S.a,0,none⟩)) rfl rfl rfl
    ·intro w' hw' hH;clear hH;simp[xB,go_sem];exact jI.refl _
    simp only[Act.put,yD,yE,yF];apply yZ (.pointer (some ⟨S.p,0,none⟩)) rfl rfl rfl
    ·intro w' hw' hH;have hR:=jI.refl (o1:=some S.bo) (o2:=some S.mt) (Fs:=Fs) w';have cc:=(World.cell?_of_block (w:=wa) (a:=⟨S.a,0,none⟩) (hw'.blk al HA.out HAM.out)).trans r0;clear hH;simp[xB,go_sem,cc];exact hR
    simp only[Act.put,yD,yE,yF];apply yZ (.pointer (some ⟨S.p,0,none⟩)) rfl rfl rfl
    ·intro w' hw' hH;clear hH;simp[xB,go_sem];exact jI.refl _
    simp only[Act.put,yD,yE,yF];apply yZ (.pointer (some ⟨S.p,1,none⟩)) rfl rfl rfl
    ·intro w' hw' hH;clear hH;simp[xB,go_sem];exact jI.refl _
    simp only[Act.put,yD,yE,yF];apply yZ (.slice R.At s.xH.length R.cT) rfl rfl rfl
    ·intro w' hw' hH;have hR:=jI.refl (o1:=some S.bo) (o2:=some S.mt) (Fs:=Fs) w';have cc:=(World.cell?_of_block (w:=wa) (a:=⟨S.p,1,none⟩) (hw'.blk pl HP.out HPM.out)).trans p1;clear hH;simp[xB,go_sem,cc];exact hR
    simp only[Act.put,yD,yE,yF];apply yZ (.int .i64 (s.xH.length:Int)) rfl rfl rfl
    ·intro w' hw' hH;clear hH;simp[xB,go_sem];exact jI.refl _
    simp only[Act.put,yD,yE,yF];apply yZ (.pointer (some ⟨S.a,0,none⟩)) rfl rfl rfl
    ·intro w' hw' hH;clear hH;simp[xB,go_sem];exact jI.refl _
    simp only[Act.put,yD,yE,yF];apply yZ (.pointer (some ⟨S.a,0,none⟩)) rfl rfl rfl
    ·intro w' hw' hH;clear hH;simp[xB,go_sem];exact jI.refl _
    simp only[Act.put,yD,yE,yF];apply yZ (.pointer (some ⟨S.a,0,none⟩)) rfl rfl rfl
    ·intro w' hw' hH;clear hH;simp[xB,go_sem];exact jI.refl _
    simp only[Act.put,yD,yE,yF];apply yZ (.pointer (some ⟨S.p,0,none⟩)) rfl rfl rfl
    ·intro w' hw' hH;have hR:=jI.refl (o1:=some S.bo) (o2:=some S.mt) (Fs:=Fs) w';have cc:=(World.cell?_of_block (w:=wa) (a:=⟨S.a,0,none⟩) (hw'.blk al HA.out HAM.out)).trans r0;clear hH;simp[xB,go_sem,cc];exact hR
    simp only[Act.put,yD,yE,yF];apply yZ (.pointer (some ⟨S.p,0,none⟩)) rfl rfl rfl
    ·intro w' hw' hH;clear hH;simp[xB,go_sem];exact jI.refl _
    simp only[Act.put,yD,yE,yF];apply yZ (.pointer (some ⟨S.p,1,none⟩)) rfl rfl rfl
    ·intro w' hw' hH;clear hH;simp[xB,go_sem];exact jI.refl _
    simp only[Act.put,yD,yE,yF];apply yZ (.slice R.At s.xH.length R.cT) rfl rfl rfl
    ·intro w' hw' hH;have hR:=jI.refl (o1:=some S.bo) (o2:=some S.mt) (Fs:=Fs) w';have cc:=(World.cell?_of_block (w:=wa) (a:=⟨S.p,1,none⟩) (hw'.blk pl HP.out HPM.out)).trans p1;clear hH;simp[xB,go_sem,cc];exact hR
    simp only[Act.put,yD,yE,yF];apply yZ (.int .i64 (s.xH.length:Int)) rfl rfl rfl
    ·intro w' hw' hH;clear hH;simp[xB,go_sem];exact jI.refl _
    simp only[Act.put,yD,yE,yF];apply yZ (.pointer (some ⟨S.bo,i,none⟩)) rfl rfl rfl
    ·intro w' hw' hH;clear hH;simp[xB,go_sem,q3];exact jI.refl _
    simp only[Act.put,yD,yE,yF];apply vE (fun (_:Value) w=>Blk w S.bo 3 (ofc (of'.set i (s.xH.length:Int))).toArray) (fun v w w' h hx=>hx.2 _ M1.out v h) rfl rfl rfl
    ·intro w' hw' hH;have hrow:=hw'.2 _ M0.out undef (.inl HTK.out.of);clear hH hw';rw[←HFS.out];exact zPU (.tmp 127) (.tmp 118) rfl HMB.out HOL.out (by kernel_rfl) (by kernel_rfl) hrow
    intro v0;simp only[Act.put,yD,yE,yF];apply vE (fun (v:Value) w=>(∃z,v=.tuple #[z,.int .i64 (c:Int)])∧∃u,zBr w S.mt es c nt u) (fun v w w' h hx=>hx.2 _ M3.out v h) rfl rfl rfl
    ·intro w' hw' hH;have hmm:=hw'.2 _ M2.out undef (.inl HMO.out);clear hH hw';rw[←HFS.out];exact zLs (z:=.int .i64 0) (.tmp 108) (.tmp 110) 81 rfl HMT.out HMO.out Tryz.underlying9 Tryz.underlying81 (show s.xH.length<maxLen by have:=HL.out; unfold maxLen; omega) (by intro w; rfl) HTX.out (by rw[show(({ s with of:=of' }:Nr).xH.findIdx? fun x=>x.name==nt)=none from HNEW.out]; rfl) (by kernel_rfl) (by kernel_rfl) HMB.out hmm
    intro v1;simp only[Act.put,yD,yE,yF];apply vE (fun (v:Value) w=>v=.int .i64 (c:Int)∧∃u,zBr w S.mt es c nt u) (fun v w w' h hx=>⟨h.1,(hx.2 _ M3.out (.tuple #[undef,.int .i64 (c:Int)]) ⟨⟨undef,rfl⟩,h.2⟩).2⟩) rfl rfl rfl
    ·intro w' hw' hH;obtain⟨⟨z1,rfl⟩,hop⟩:=hH _ (List.mem_cons_self ..) ⟨_,rfl,by decide⟩;clear hH;simp[xB,go_sem];exact⟨hop,jI.refl _⟩
    intro v3;simp only[Act.put,yD,yE,yF];apply vE (fun (_:Value) w=>zBr w S.mt es c nt (.int .i64 (s.xH.length:Int))) (fun v w w' h hx=>hx.2 _ M4.out v h) rfl rfl rfl
    ·intro w' hw' hH;obtain⟨rfl,hop⟩:=hH _ (List.mem_cons_self ..) ⟨_,rfl,by decide⟩;clear hH hw';rw[←HFS.out];exact zJJ (.tmp 108) (.tmp 129) (.tmp 126) 81 rfl HMT.out HMO.out (by kernel_rfl) (by kernel_rfl) (by kernel_rfl) HMB.out hop
    intro v2;simp only[Act.put,yD,yE,yF];apply vC;intro w5 hw5 hH;have HOF:Hid (Blk w5 S.bo 3 (ofc (of'.set i (s.xH.length:Int))).toArray):=yG (hH _ (List.mem_cons_of_mem _ (List.mem_cons_of_mem _ (List.mem_cons_of_mem _ (List.mem_cons_self ..)))));have HMC:=yG (HMT.out.closed HMO.out Tryz.underlying9 Tryz.underlying81 (show s.xH.length<maxLen by have:=HL.out; unfold maxLen; omega) (z:=.int .i64 0) (by intro w; rfl) nt HTX.out (by rw[show(({ s with of:=of' }:Nr).xH.findIdx? fun x=>x.name==nt)=none from HNEW.out]; rfl) _ (hH _ (List.mem_cons_self ..)));clear hH;have HW5:=yG hw5;clear hw5
    try simp only[Act.put,yD,yE,yF]
    go_upto_region 16 with fail
    clear al pl gl r0 x1 p1 p3 c2 q3;have HK5:Hid (∀b,b<wa.heap.size→b≠S.bo→b≠S.mt→w5.heap[b]?=wa.heap[b]?):=yG fun b hb h1 h2=>HW5.out.blk hb (fun e=>h1 (by injection e)) (fun e=>h2 (by injection e));have HR5:Hid (Blk w5 S.a 86 #[.pointer (some ⟨S.p,0,none⟩),.map (some S.mt),.slice R.Ac s.xH.length R.cc,.pointer none,.slice none 0 0]):=yG ((HK5.out S.a HNK.out.rd.lt (fun e=>HA.out (by rw[e])) (fun e=>HAM.out (by rw[e]))).trans HNK.out.rd);have HP5:Hid (Blk w5 S.p 35 #[.slice S.A S.l.length S.ct,.slice R.At s.xH.length R.cT,.slice R.Ap s.procs.length R.cP,.slice (some ⟨S.bo,0,none⟩) S.l.length S.co]):=yG ((HK5.out S.p HNK.out.pg.lt (fun e=>HP.out (by rw[e])) (fun e=>HPM.out (by rw[e]))).trans HNK.out.pg);have HT5:Hid (Blk w5 g7 44 #[.string (xI nt),.slice A7 cs.length c7]):=yG ((HK5.out g7 HTK.out.tb.lt (fun e=>by have:=HTK.out.zFv.2.2; have:=HNB.out.of.lt; omega) (fun e=>HMT.out.ne HTK.out.tb e.symm)).trans HTK.out.tb);have HO1:Hid (w5.ownsRow S.B 44 2 (.slice R.At s.xH.length R.cT) s.xH.length (JI s.xH R.th)):=yG (ZK HNK.out.zA2 fun b e=>HK5.out b (jE HNK.out.zA2 e).2 (HNK.out.zD1 b e).2.2.1 (HNK.out.zD1 b e).2.2.2.1);have HO2:Hid (w5.ownsRow S.B 81 1 (.slice R.Ac s.xH.length R.cc) s.xH.length (YK R.cm)):=yG (ZK HNK.out.zFl fun b e=>HK5.out b (jE HNK.out.zFl e).2 (HNK.out.zD6 b e).2.2.1 (HNK.out.zD6 b e).2.2.2.1);have HBW:Hid (S.B≤w5.heap.size):=yG (Nat.le_trans HNK.out.low HW5.out.sz);have al:=HR5.out.lt;have pl:=HP5.out.lt;have tl:=HT5.out.lt
    have r0:w5.cell? ⟨S.a,0,none⟩=some (.pointer (some ⟨S.p,0,none⟩)):=HR5.out.cell 0;have r2:w5.cell? ⟨S.a,2,none⟩=some (.slice R.Ac s.xH.length R.cc):=HR5.out.cell 2;have p1:w5.cell? ⟨S.p,1,none⟩=some (.slice R.At s.xH.length R.cT):=HP5.out.cell 1;have t0:w5.cell? ⟨g7,0,none⟩=some (.string (xI nt)):=HT5.out.cell 0;have t1:w5.cell? ⟨g7,1,none⟩=some (.slice A7 cs.length c7):=HT5.out.cell 1;obtain⟨o1,HQ1⟩:∃o1,Hid ((Value.slice R.At s.xH.length R.cT).ownBlock=o1):=⟨_,yG rfl⟩;obtain⟨o2,HQ2⟩:∃o2,Hid ((Value.slice R.Ac s.xH.length R.cc).ownBlock=o2):=⟨_,yG rfl⟩;have HT1:Hid (∀w',w'.ownsRow S.B 44 2 (.slice R.At s.xH.length R.cT) s.xH.length (JI s.xH R.th)→∀b,o1=some b→∃cur,Blk w' b 44 cur):=yG fun w' h b e=>zNm h b (by rw[HQ1.out]; exact e);have HT2:Hid (∀w',w'.ownsRow S.B 81 1 (.slice R.Ac s.xH.length R.cc) s.xH.length (YK R.cm)→∀b,o2=some b→∃cur,Blk w' b 81 cur):=yG fun w' h b e=>zNm h b (by rw[HQ2.out]; exact e)
    have HN1:Hid (∀(b:Nat) (t:TypeId) (c:Array Value),Blk w5 b t c→t≠44→some b≠o1):=yG fun b t c hb ht e=>by
     obtain⟨cur,hc⟩:=HT1.out w5 HO1.out b e.symm;exact Blk.differ hb hc ht rfl
    have HN2:Hid (∀(b:Nat) (t:TypeId) (c:Array Value),Blk w5 b t c→t≠81→some b≠o2):=yG fun b t c hb ht e=>by
     obtain⟨cur,hc⟩:=HT2.out w5 HO2.out b e.symm;exact Blk.differ hb hc ht rfl
    have HA1:Hid (some S.a≠o1):=yG (HN1.out _ _ _ HR5.out (by decide));have HA2:Hid (some S.a≠o2):=yG (HN2.out _ _ _ HR5.out (by decide));have HP1:Hid (some S.p≠o1):=yG (HN1.out _ _ _ HP5.out (by decide));have HP2:Hid (some S.p≠o2):=yG (HN2.out _ _ _ HP5.out (by decide))
    have HG1:Hid (some g7≠o1):=yG fun e=>by
     have e2:=xP HNK.out.zA2 (HQ1.out.trans e.symm)
     have:=(jE HNB.out.zA2 e2).2
     have:=HTK.out.zFv.2.2
     omega
    have HG2:Hid (some g7≠o2):=yG (HN2.out _ _ _ HT5.out (by decide));have HOG1:Hid (∀g,(Value.slice R.At s.xH.length R.cT).ownBlock=some g→g<w5.heap.size):=yG fun g e=>(jE HO1.out (xP HO1.out e)).2;have HOG2:Hid (∀g,(Value.slice R.Ac s.xH.length R.cc).ownBlock=some g→g<w5.heap.size):=yG fun g e=>(jE HO2.out (xP HO2.out e)).2;have HKR1:Hid (zAZ S.B 44 s.xH.length (JI s.xH R.th) (.slice R.At s.xH.length R.cT) w5):=yG ⟨HO1.out,R.At,R.cT,rfl,(fun e=>by have hv:=HO1.out; rw[e] at hv; rcases hv.2 with ⟨hv,_⟩ | ⟨g,_,_,hv,_⟩; (injection hv); (cases hv)),HNK.out.zT⟩;have HKR2:Hid (VS S.B 81 s.xH.length (YK R.cm) (.slice R.Ac s.xH.length R.cc) w5):=yG ⟨HO2.out,R.Ac,R.cc,rfl,(fun e=>by have hv:=HO2.out; rw[e] at hv; rcases hv.2 with ⟨hv,_⟩ | ⟨g,_,_,hv,_⟩; (injection hv); (cases hv)),HNK.out.zC⟩;obtain⟨Gs,HGS⟩:∃Gs,Hid (Fs2 S.B 44 (.slice R.At s.xH.length R.cT) w5.heap.size s.xH.length (JI s.xH R.th) [Value.string (xI nt),Value.slice A7 cs.length c7]++FsH S.B 81 (.slice R.Ac s.xH.length R.cc) w5.heap.size s.xH.length (YK R.cm) [Value.map (some mb)]=Gs):=⟨_,yG rfl⟩;have GE:Hid (∀F ∈ Gs,∀v w w',F v w→Ext w w'→F v w'):=yG (by rw[←HGS.out]; exact zRn);have G0:Hid ((fun (_:Value) w=>zAZ S.B 44 s.xH.length (JI s.xH R.th) (.slice R.At s.xH.length R.cT) w) ∈ Gs):=yG (by rw[←HGS.out]; simp only[Fs2,yC,zU,true_or]);have G1:Hid (zBj 44 w5.heap.size #[Value.string (xI nt),Value.slice A7 cs.length c7] ∈ Gs):=yG (by rw[←HGS.out]; simp only[Fs2,yC,zU,true_or,or_true])
    have G2:Hid (zTM S.B 44 o1 w5.heap.size (s.xH.length+1) (JI s.xH R.th++[Value.string (xI nt),Value.slice A7 cs.length c7]) ∈ Gs):=yG (by rw[←HGS.out,←HQ1.out]; simp only[Fs2,yC,zU,true_or,or_true]);have G3:Hid ((fun (_:Value) w=>VS S.B 81 s.xH.length (YK R.cm) (.slice R.Ac s.xH.length R.cc) w) ∈ Gs):=yG (by rw[←HGS.out]; exact List.mem_append_right _ (by simp only[FsH,zU,true_or]));have G4:Hid (zBj 81 w5.heap.size #[Value.map (some mb)] ∈ Gs):=yG (by rw[←HGS.out]; exact List.mem_append_right _ (by simp only[FsH,zU,true_or,or_true]));have G5:Hid (zJN S.B 81 o2 w5.heap.size (s.xH.length+1) (YK R.cm++[Value.map (some mb)]) ∈ Gs):=yG (by rw[←HGS.out,←HQ2.out]; exact List.mem_append_right _ (by simp only[FsH,zU,true_or,or_true]));obtain⟨it,hit,hzt0,hzt1,hzt2⟩:=info_parts zQT;obtain⟨im,him,hzm0,hzm1,hzm2⟩:=info_parts zSH;apply zMj o1 o2 Gs 24 4 0 134 (by kernel_rfl) (by kernel_rfl) (by kernel_rfl) GE.out;dsimp only[List.take_succ_cons,List.take_zero,List.drop_succ_cons,List.drop_zero];apply yZ (.pointer (some ⟨S.a,0,none⟩)) rfl rfl rfl
    ·intro w' hw' hH;clear hH;simp[xB,go_sem];exact jI.refl _
    simp only[Act.put,yD,yE,yF];apply yZ (.pointer (some ⟨S.a,0,none⟩)) rfl rfl rfl
    ·intro w' hw' hH;clear hH;simp[xB,go_sem];exact jI.refl _
    simp only[Act.put,yD,yE,yF];apply yZ (.pointer (some ⟨S.a,0,none⟩)) rfl rfl rfl
    ·intro w' hw' hH;clear hH;simp[xB,go_sem];exact jI.refl _
    simp only[Act.put,yD,yE,yF];apply yZ (.pointer (some ⟨S.p,0,none⟩)) rfl rfl rfl
    ·intro w' hw' hH;have hR:=jI.refl (o1:=o1) (o2:=o2) (Fs:=Gs) w';have cc:=(World.cell?_of_block (w:=w5) (a:=⟨S.a,0,none⟩) (hw'.blk al HA1.out HA2.out)).trans r0;clear hH;simp[xB,go_sem,cc];exact hR
    simp only[Act.put,yD,yE,yF];apply yZ (.pointer (some ⟨S.a,0,none⟩)) rfl rfl rfl
    ·intro w' hw' hH;clear hH;simp[xB,go_sem];exact jI.refl _
    simp only[Act.put,yD,yE,yF];apply yZ (.pointer (some ⟨S.a,0,none⟩)) rfl rfl rfl
    ·intro w' hw' hH;clear hH;simp[xB,go_sem];exact jI.refl _
    simp only[Act.put,yD,yE,yF];apply yZ (.pointer (some ⟨S.a,0,none⟩)) rfl rfl rfl
    ·intro w' hw' hH;clear hH;simp[xB,go_sem];exact jI.refl _
    simp only[Act.put,yD,yE,yF];apply yZ (.pointer (some ⟨S.a,0,none⟩)) rfl rfl rfl
    ·intro w' hw' hH;clear hH;simp[xB,go_sem];exact jI.refl _
    simp only[Act.put,yD,yE,yF];apply yZ (.pointer (some ⟨S.p,0,none⟩)) rfl rfl rfl
    ·intro w' hw' hH;have hR:=jI.refl (o1:=o1) (o2:=o2) (Fs:=Gs) w';have cc:=(World.cell?_of_block (w:=w5) (a:=⟨S.a,0,none⟩) (hw'.blk al HA1.out HA2.out)).trans r0;clear hH;simp[xB,go_sem,cc];exact hR
    simp only[Act.put,yD,yE,yF];apply yZ (.pointer (some ⟨S.p,0,none⟩)) rfl rfl rfl
    ·intro w' hw' hH;clear hH;simp[xB,go_sem];exact jI.refl _
    simp only[Act.put,yD,yE,yF];apply yZ (.pointer (some ⟨S.p,1,none⟩)) rfl rfl rfl
    ·intro w' hw' hH;clear hH;simp[xB,go_sem];exact jI.refl _
    simp only[Act.put,yD,yE,yF];apply yZ (.slice R.At s.xH.length R.cT) rfl rfl rfl
    ·intro w' hw' hH;have hR:=jI.refl (o1:=o1) (o2:=o2) (Fs:=Gs) w';have cc:=(World.cell?_of_block (w:=w5) (a:=⟨S.p,1,none⟩) (hw'.blk pl HP1.out HP2.out)).trans p1;clear hH;simp[xB,go_sem,cc];exact hR
    simp only[Act.put,yD,yE,yF];apply yZ (.agg #[Value.string (xI nt),Value.slice A7 cs.length c7]) rfl rfl rfl
    ·intro w' hw' hH;have hR:=jI.refl (o1:=o1) (o2:=o2) (Fs:=Gs) w';have cc:=(World.cell?_of_block (w:=w5) (a:=⟨g7,0,none⟩) (hw'.blk tl HG1.out HG2.out)).trans t0;have cc1:=(World.cell?_of_block (w:=w5) (a:=⟨g7,1,none⟩) (hw'.blk tl HG1.out HG2.out)).trans t1;clear hH;simp[xB,go_sem,cc,cc1];exact hR
    simp only[Act.put,yD,yE,yF];apply vE (zBj 44 w5.heap.size #[Value.string (xI nt),Value.slice A7 cs.length c7]) (fun v w w' h hx=>hx.2 _ G1.out v h) rfl rfl rfl
    ·intro w' hw' hH;have hz:=hw'.sz;clear hH hw';simp[xB,go_sem];exact⟨⟨_,rfl,Blk.new _ _ _,hz⟩,jI.ext GE.out (Ext.alloc _ _)⟩
    intro v143;simp only[Act.put,yD,yE,yF];apply vE (zTM S.B 44 o1 w5.heap.size (s.xH.length+1) (JI s.xH R.th++[Value.string (xI nt),Value.slice A7 cs.length c7])) (fun v w w' h hx=>hx.2 _ G2.out v h) rfl rfl rfl
    ·intro w' hw' hH;have hlit:=hH _ (List.mem_cons_self ..) ⟨_,rfl,by decide⟩;have hrow:=hw'.2 _ G0.out undef HKR1.out;have hz:=hw'.sz;clear hH hw';rw[←HGS.out];refine xB.mono (zNw S.B w5.heap.size (.tmp 141) (.tmp 143) 31 rfl 44 it _ 40 Tryz.underlying31 hit hzt0 hzt1 hzt2 rfl (.slice R.At s.xH.length R.cT) s.xH.length (JI s.xH R.th) [Value.string (xI nt),Value.slice A7 cs.length c7] (by kernel_rfl) hrow v143 (by kernel_rfl) hlit rfl (by simp[Value.oneCell']) (by unfold maxLen; have:=HL.out; omega) (by have:=HL.out; omega) (Nat.le_trans HBW.out hz) hz HOG1.out) fun v w2 hv=>?_;rw[HQ1.out] at hv;exact⟨hv.1,jI.left hv.2 (HT1.out w' hrow.1) (by decide)⟩
    intro v144;simp only[Act.put,yD,yE,yF];apply yZ (.pointer (some ⟨S.a,0,none⟩)) rfl rfl rfl
    ·intro w' hw' hH;clear hH;simp[xB,go_sem];exact jI.refl _
    simp only[Act.put,yD,yE,yF];apply yZ (.pointer (some ⟨S.a,0,none⟩)) rfl rfl rfl
    ·intro w' hw' hH;clear hH;simp[xB,go_sem];exact jI.refl _
    simp only[Act.put,yD,yE,yF];apply yZ (.pointer (some ⟨S.a,2,none⟩)) rfl rfl rfl
    ·intro w' hw' hH;clear hH;simp[xB,go_sem];exact jI.refl _
    simp only[Act.put,yD,yE,yF];apply yZ (.slice R.Ac s.xH.length R.cc) rfl rfl rfl
    ·intro w' hw' hH;have hR:=jI.refl (o1:=o1) (o2:=o2) (Fs:=Gs) w';have cc:=(World.cell?_of_block (w:=w5) (a:=⟨S.a,2,none⟩) (hw'.blk al HA1.out HA2.out)).trans r2;clear hH;simp[xB,go_sem,cc];exact hR
    simp only[Act.put,yD,yE,yF];apply yZ (.map (some mb)) rfl rfl rfl
    ·intro w' hw' hH;clear hH;simp[xB,go_sem];exact jI.refl _
    simp only[Act.put,yD,yE,yF];apply vE (zBj 81 w5.heap.size #[Value.map (some mb)]) (fun v w w' h hx=>hx.2 _ G4.out v h) rfl rfl rfl
    ·intro w' hw' hH;have hz:=hw'.sz;clear hH hw';simp[xB,go_sem];exact⟨⟨_,rfl,Blk.new _ _ _,hz⟩,jI.ext GE.out (Ext.alloc _ _)⟩
    intro v150;simp only[Act.put,yD,yE,yF];apply vE (zJN S.B 81 o2 w5.heap.size (s.xH.length+1) (YK R.cm++[Value.map (some mb)])) (fun v w w' h hx=>hx.2 _ G5.out v h) rfl rfl rfl
    ·intro w' hw' hH;have hlit:=hH _ (List.mem_cons_self ..) ⟨_,rfl,by decide⟩;have hrow:=hw'.2 _ G3.out undef HKR2.out;have hz:=hw'.sz;clear hH hw';rw[←HGS.out];refine xB.mono (zCK S.B w5.heap.size (.tmp 148) (.tmp 150) 82 rfl 81 im _ 8 Tryz.underlying82 him hzm0 hzm1 hzm2 rfl (.slice R.Ac s.xH.length R.cc) s.xH.length (YK R.cm) [Value.map (some mb)] (by kernel_rfl) hrow v150 (by kernel_rfl) hlit rfl (by simp[Value.oneCell']) (by unfold maxLen; have:=HL.out; omega) (by have:=HL.out; omega) (Nat.le_trans HBW.out hz) hz HOG2.out) fun v w2 hv=>?_;rw[HQ2.out] at hv;exact⟨hv.1,jI.right hv.2 (HT2.out w' hrow.1) (by decide)⟩
    intro v151;simp only[Act.put,yD,yE,yF];apply yZ (.pointer (some ⟨S.p,0,none⟩)) rfl rfl rfl
    ·intro w' hw' hH;clear hH;simp[xB,go_sem];exact jI.refl _
    simp only[Act.put,yD,yE,yF];apply yZ (.pointer (some ⟨S.p,1,none⟩)) rfl rfl rfl
    ·intro w' hw' hH;clear hH;simp[xB,go_sem];exact jI.refl _
    simp only[Act.put,yD,yE,yF];apply vC;intro w7 hw7 hH;have h51:=hH _ (List.mem_cons_self ..);have h44:=hH _ (List.mem_cons_of_mem _ (List.mem_cons_of_mem _ (List.mem_cons_self ..)));clear hH
    dsimp only at h51 h44
    obtain⟨gm,capm,rfl⟩:=h51.1.at;obtain⟨gk,cap,rfl⟩:=h44.1.at;have HW7:=yG hw7;have H44:=yG h44;have H51:=yG h51;clear hw7 h44 h51
    try simp only[Act.put,yD,yE,yF]
    simp only[List.drop_succ_cons,List.drop_zero]
    have HE1:Hid (∀b,(some ⟨gk,0,none⟩:Option Addr)=some ⟨b,0,none⟩→R.At=some ⟨b,0,none⟩∨wa.heap.size≤b):=yG fun b e=>by
     injection e with e;injection e with e;subst e
     rcases H44.out.2 with e | ⟨g',e,hg'⟩
     ·left
      rw[←HQ1.out] at e;exact xP HNK.out.zA2 e.symm
     ·right
      have h1:gk=g':=by simpa [Value.ownBlock] using e
      have:=HW5.out.sz
      omega
    have HE2':Hid (∀b,(some ⟨gm,0,none⟩:Option Addr)=some ⟨b,0,none⟩→R.Ac=some ⟨b,0,none⟩∨wa.heap.size≤b):=yG fun b e=>by
     injection e with e;injection e with e;subst e
     rcases H51.out.2 with e | ⟨g',e,hg'⟩
     ·left
      rw[←HQ2.out] at e;exact xP HNK.out.zFl e.symm
     ·right
      have h1:gm=g':=by simpa [Value.ownBlock] using e
      have:=HW5.out.sz
      omega
    have HFIN:Hid (zDQ w S R (JQ (tN S.l) i s) (.returned (.tuple #[])) ((w7.setCell ⟨S.p,1,none⟩ (.slice (some ⟨gk,0,none⟩) (s.xH.length+1) cap)).setCell ⟨S.a,2,none⟩ (.slice (some ⟨gm,0,none⟩) (s.xH.length+1) capm))):=yG (by
     have hnm:∀b,jC S R b→b<w.heap.size:=HML.out
     have ha:=HNK.out.zUS HL.out i ⟨nt,cs⟩ (A7,c7) mb HNEW.out
      ⟨HW5.out.1.1,HW5.out.1.2.1,HW5.out.1.2.2.1,HW5.out.sz,fun b hb hn=>HK5.out b hb (fun e=>hn (.inl e)) (fun e=>hn (.inr e)),fun b h=>.inl h⟩ HOF.out HMC.out
      ⟨HW7.out.1.1,HW7.out.1.2.1,HW7.out.1.2.2.1,HW7.out.sz,fun b hb hn=>HW7.out.blk hb (fun e=>hn (.inl (xP HNK.out.zA2 (HQ1.out.trans e.symm)))) (fun e=>hn (.inr (xP HNK.out.zFl (HQ2.out.trans e.symm)))),fun b h=>.inl h⟩
      (some ⟨gk,0,none⟩) (some ⟨gm,0,none⟩) cap capm H44.out.1.1 H51.out.1.1 HE1.out HE2'.out ?_ ?_
     ·rw[HFE.out];exact⟨rfl,_,ha.1,HTK.out.mv.trans ha.2⟩
     ·have hcl:(strs cs).length=cs.length:=zIS cs
      rcases HTK.out.row.2 with ⟨hv,hz⟩ | ⟨g0,cp,cur,hv,hb,hh,hr⟩
      ·left
       exact List.eq_nil_of_length_eq_zero (show(strs cs).length=0 by omega)
      ·rcases zJ0 HTK.out.row hcl with hc | ⟨b,off,e1,e2,e3⟩
       ·exact .inl hc
       ·refine .inr ⟨b,off,e1,e2,fun hm=>?_,e3⟩;injection hv with hv1;rw[hv1] at e1;injection e1 with e1;injection e1 with e1
        have:=hnm b hm
        omega
     ·refine⟨HTK.out.mp.mono (by have:=hck.out; omega),fun hm=>?_⟩
      have:=hnm mb hm
      have:=HTK.out.zFv.1
      omega)
    have y1:w7.cell? ⟨S.p,1,none⟩=some (.slice R.At s.xH.length R.cT):=(World.cell?_of_block (w:=w5) (a:=⟨S.p,1,none⟩) (HW7.out.blk pl HP1.out HP2.out)).trans p1;have z1:w7.frozen? ⟨S.p,1,none⟩=false:=(World.frozen?_of_block (w:=w5) (a:=⟨S.p,1,none⟩) (HW7.out.blk pl HP1.out HP2.out)).trans (HP5.out.frozen 1)
    have hpa:S.p≠S.a:=fun e=>by obtain⟨n1,_⟩:=HNK.out.apart; first | exact n1 e | exact n1 e.symm
    have hka:(w7.setCell ⟨S.p,1,none⟩ (.slice (some ⟨gk,0,none⟩) (s.xH.length+1) cap)).heap[S.a]?=w5.heap[S.a]?:=(zS w7 ⟨S.p,1,none⟩ _ S.a fun e=>hpa e.symm).trans (HW7.out.blk al HA1.out HA2.out);have y2:(w7.setCell ⟨S.p,1,none⟩ (.slice (some ⟨gk,0,none⟩) (s.xH.length+1) cap)).cell? ⟨S.a,2,none⟩=some (.slice R.Ac s.xH.length R.cc):=(World.cell?_of_block (a:=⟨S.a,2,none⟩) hka).trans r2;have z2:(w7.setCell ⟨S.p,1,none⟩ (.slice (some ⟨gk,0,none⟩) (s.xH.length+1) cap)).frozen? ⟨S.a,2,none⟩=false:=(World.frozen?_of_block (a:=⟨S.a,2,none⟩) hka).trans (HR5.out.frozen 2);apply zEU undef (w7.setCell ⟨S.p,1,none⟩ (.slice (some ⟨gk,0,none⟩) (s.xH.length+1) cap)) rfl
    ·simp[xB,go_sem,y1,z1]
    simp only[Act.put,yD,yE,yF];apply zEU (.pointer (some ⟨S.a,0,none⟩)) (w7.setCell ⟨S.p,1,none⟩ (.slice (some ⟨gk,0,none⟩) (s.xH.length+1) cap)) rfl
    ·simp[xB,go_sem]
    simp only[Act.put,yD,yE,yF];apply zEU (.pointer (some ⟨S.a,2,none⟩)) (w7.setCell ⟨S.p,1,none⟩ (.slice (some ⟨gk,0,none⟩) (s.xH.length+1) cap)) rfl
    ·simp[xB,go_sem]
    simp only[Act.put,yD,yE,yF];apply zEU undef ((w7.setCell ⟨S.p,1,none⟩ (.slice (some ⟨gk,0,none⟩) (s.xH.length+1) cap)).setCell ⟨S.a,2,none⟩ (.slice (some ⟨gm,0,none⟩) (s.xH.length+1) capm)) rfl
    ·simp[xB,go_sem,y2,z2]
    simp only[Act.put,yD,yE,yF];unfold zDd;go_end0;exact HFIN.out
end Go.Proofs.YtbadjmmjbpeocaaGreatDoor
