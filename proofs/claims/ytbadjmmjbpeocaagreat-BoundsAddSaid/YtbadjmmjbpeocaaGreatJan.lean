/- The reader of names: table. Condition: the tree is known. -/
import Derived.Test.YtbadjmmjbpeocaaGreatJaa
import Derived.Test.YtbadjmmjbpeocaaGreatJam
import Derived.StillTailTactics
set_option linter.unusedVariables false
set_option linter.unusedSimpArgs false
set_option maxRecDepth 100000
set_option maxHeartbeats 16000000
namespace Go.Proofs.YtbadjmmjbpeocaaGreat
open Go Go.RowKit
theorem zQP:(Tryz.prog.info? 165).map (fun i=>(i.zero,i.size,i.bytes))=some (some (.agg #[.string ⟨#[]⟩,.slice none 0 0]),2,40):=by kernel_rfl
theorem zSy:(Tryz.prog.info? 110).map (fun i=>(i.zero,i.size,i.bytes))=some (some (.map none),1,8):=by kernel_rfl
theorem zR6:(Tryz.prog.info? 9).map (fun i=>(i.zero,i.size,i.bytes))=some (some (.string ⟨#[]⟩),1,16):=by kernel_rfl
theorem zFd (cs:List Bs)(n:Bs):(cs.findIdx? fun c=>c==n).isSome=cs.contains n:=by
 rw[List.findIdx?_isSome]
 induction cs with
 | nil=>rfl
 | cons x l ih=>
  rw[List.any_cons,List.contains_cons,ih]
  congr 1
  exact Bool.beq_comm
theorem zEV {cs:List Bs}{n:Bs}(h:cs.contains n=false):(cs.findIdx? fun c=>c==n)=none:=by
 have:=zFd cs n
 rw[h] at this
 cases hx:cs.findIdx? (fun c=>c==n) with
 | none=>rfl
 | some k=>rw[hx] at this; cases this
structure TL (w wr:World)(S:StH)(R:DyH)(of':List Int)(g g7 mb:Nat)(nt:Bs)(nC:Array Value)(cs:List Bs)(A7:Option Addr)(c7 m:Nat)(F:Bs→Option Value):Prop where
 mv:xC w (jB S R) wr (jB S R)
 same:∀b,jB S R b→b≠S.bo→wr.heap[b]?=w.heap[b]?
 of:Blk wr S.bo 3 (ofc of').toArray
 len:of'.length=S.l.length
 nd:Blk wr g 38 nC
 tb:Blk wr g7 165 #[.string (xG nt),.slice A7 cs.length c7]
 row:wr.ownsRow w.heap.size 9 1 (.slice A7 cs.length c7) cs.length (strs cs)
 mp:MF Tryz.prog 9 wr mb m F
 zFD:w.heap.size≤mb∧w.heap.size≤g∧w.heap.size≤g7
section
variable {w wr w2:World} {S:StH} {s:Nr} {R:DyH} {of':List Int} {g g7 mb:Nat} {nt:Bs} {nC:Array Value} {cs:List Bs} {A7:Option Addr} {c7 m:Nat} {F:Bs→Option Value}
theorem TL.nh (t:TL w wr S R of' g g7 mb nt nC cs A7 c7 m F)(h:NH w S s R):NH wr S { s with of:=of' } R:=by
 obtain⟨n1,n2,n3,n4,n5,n6⟩:=h.apart;exact⟨(t.same S.a (.inl rfl) n2).trans h.rd,(t.same S.p (.inr (.inl rfl)) n3).trans h.pg,t.of,t.len,h.tree.xE t.mv,ZK h.zBN fun b e=>t.same b (.inr (.inr (.inr (.inr (.inl e))))) (h.zEd b e).2.2.1,h.thl,fun k x h0 e1 e2=>(h.zHg k x h0 e1 e2).xE t.mv,ZK h.zFt fun b e=>t.same b (.inr (.inr (.inr (.inr (.inr (.inl e)))))) (h.zEi b e).2.2.1,h.cml,fun k b x e1 e2=>(h.zEl k b x e1 e2).xE t.mv,h.mt.jL (t.same S.mt (.inr (.inr (.inr (.inl rfl)))) n6),ZK h.procs fun b e=>t.same b (.inr (.inr (.inr (.inr (.inr (.inr e)))))) (h.zD9 b e).2.2.1,h.zRs,h.zP7,h.zT,h.zC,h.zP,Nat.le_trans h.low t.mv.size⟩
theorem xC.far {M M':Nat→Prop}{o:Option Nat}(h:xC w M wr M')(k:wr.grownBy w2 o)(ho:∀b,o=some b→w.heap.size≤b):xC w M w2 M':=
 ⟨k.os.trans h.os,k.tape.trans h.tape,k.output.trans h.output,Nat.le_trans h.size k.size,fun b hb hn=>(k.block b (yU hb h.size) fun e=>by have:=ho b e.symm; omega).trans (h.jL b hb hn),h.zDI⟩
theorem TL.grown (t:TL w wr S R of' g g7 mb nt nC cs A7 c7 m F)(h:NH w S s R){o:Option Nat}(k:wr.grownBy w2 o)(ho:∀b,o=some b→w.heap.size≤b):xC w (jB S R) w2 (jB S R)∧(∀b,jB S R b→b≠S.bo→w2.heap[b]?=w.heap[b]?)∧Blk w2 S.bo 3 (ofc of').toArray:=by
 have AA:∀b,jB S R b→b<w.heap.size:=fun b hb=>h.ZW hb;refine⟨t.mv.far k ho,fun b hb hn=>(k.block b (yU (AA b hb) t.mv.size) fun e=>?_).trans (t.same b hb hn),(k.block S.bo t.of.lt fun e=>?_).trans t.of⟩
 ·have:=ho b e.symm; have:=AA b hb; omega
 ·have:=ho S.bo e.symm; have:=AA S.bo (.inr (.inr (.inl rfl))); omega
theorem TL.ext (t:TL w wr S R of' g g7 mb nt nC cs A7 c7 m F)(h:NH w S s R)(hx:Ext wr w2):TL w w2 S R of' g g7 mb nt nC cs A7 c7 m F:=by
 obtain⟨a,b,c⟩:=t.grown h (o:=none) (zAK hx) (fun b e=>by cases e);exact⟨a,b,c,t.len,t.nd.ext hx,t.tb.ext hx,zB1 t.row hx,t.mp.ext hx,t.zFD⟩
theorem TL.put (t:TL w wr S R of' g g7 mb nt nC cs A7 c7 m F)(h:NH w S s R){m':Nat}{F':Bs→Option Value}(hm:MF Tryz.prog 9 w2 mb m' F')(hg:wr.grownBy w2 (some mb)):TL w w2 S R of' g g7 mb nt nC cs A7 c7 m' F':=by
 obtain⟨a,b,c⟩:=t.grown h hg (fun b e=>by injection e with e; rw[←e]; exact t.zFD.1);refine⟨a,b,c,t.len,t.nd.grown hg fun e=>?_,t.tb.grown hg fun e=>?_,ZK t.row fun b e=>hg.block b (jD t.row e).2 fun e2=>?_,hm,t.zFD⟩
 ·injection e with e; exact t.mp.ne t.nd e.symm
 ·injection e with e; exact t.mp.ne t.tb e.symm
 ·injection e2 with e2;obtain⟨AA,hc⟩:=vA t.row e;exact t.mp.ne hc e2.symm
theorem TL.setOf (t:TL w wr S R of' g g7 mb nt nC cs A7 c7 m F)(h:NH w S s R)(i:Nat)(x:Int):TL w (wr.setCell ⟨S.bo,i,none⟩ (.int .i64 x)) S R (of'.set i x) g g7 mb nt nC cs A7 c7 m F:=by
 obtain⟨n1,n2,n3,n4,n5,n6⟩:=h.apart;have AB:S.bo<w.heap.size:=h.of.lt
 have AA:∀b,w.heap.size≤b→b≠S.bo:=fun b hb e=>by omega
 refine⟨⟨t.mv.os,t.mv.tape,t.mv.output,by simpa [World.setCell] using t.mv.size,fun b hb hn=>(zS wr ⟨S.bo,i,none⟩ _ b fun e=>hn (.inr (.inr (.inl e)))).trans (t.mv.jL b hb hn),t.mv.zDI⟩,fun b hb hn=>(zS wr ⟨S.bo,i,none⟩ _ b hn).trans (t.same b hb hn),?_,by rw[zB]; exact t.len,t.nd.far (p:=⟨S.bo,i,none⟩) (AA _ t.zFD.2.1) _,t.tb.far (p:=⟨S.bo,i,none⟩) (AA _ t.zFD.2.2) _,ZK t.row fun b e=>zS wr ⟨S.bo,i,none⟩ _ b (AA _ (jD t.row e).1),t.mp.jL (zS wr ⟨S.bo,i,none⟩ _ mb (AA _ t.zFD.1)),t.zFD⟩
 have:=t.of.put i (.int .i64 x)
 rw[yD,zFZ] at this;exact this
theorem TL.app (t:TL w wr S R of' g g7 mb nt nC cs A7 c7 m F)(h:NH w S s R)(name:Bs)(A':Option Addr)(c':Nat)(hg:wr.grownBy w2 (Value.slice A7 cs.length c7).ownBlock)(ho:w2.ownsRow w.heap.size 9 1 (.slice A' (cs.length+1) c') (cs.length+1) (strs cs++[.string (xG name)])) :
  TL w (w2.setCell ⟨g7,1,none⟩ (.slice A' (cs.length+1) c')) S R of' g g7 mb nt nC (cs++[name]) A' c' m F:=by
 have AF:∀b,(Value.slice A7 cs.length c7).ownBlock=some b→w.heap.size≤b:=fun b e=>(jD t.row (xP t.row e)).1;obtain⟨a,b,c⟩:=t.grown h hg AF;have AB:∀b,(Value.slice A7 cs.length c7).ownBlock=some b→∃cur,Blk wr b 9 cur:=fun b e=>vA t.row (xP t.row e)
 have AE:Blk w2 g 38 nC:=t.nd.grown hg fun e=>by obtain⟨cur,hc⟩:=AB g e.symm; exact Blk.differ t.nd hc (by decide) rfl
 have AA:Blk w2 g7 165 #[.string (xG nt),.slice A7 cs.length c7]:=t.tb.grown hg fun e=>by obtain⟨cur,hc⟩:=AB g7 e.symm; exact Blk.differ t.tb hc (by decide) rfl
 have AC:MF Tryz.prog 9 w2 mb m F:=t.mp.jL (hg.block mb t.mp.lt fun e=>by obtain⟨cur,hc⟩:=AB mb e.symm; exact t.mp.ne hc rfl);have AD:∀b,jB S R b→b<w.heap.size:=fun b hb=>h.ZW hb
 have hl:(cs++[name]).length=cs.length+1:=by simp
 refine⟨⟨a.os,a.tape,a.output,by simpa [World.setCell] using a.size,fun x hx hn=>(zS w2 ⟨g7,1,none⟩ _ x fun e=>?_).trans (a.jL x hx hn),a.zDI⟩,fun x hx hn=>(zS w2 ⟨g7,1,none⟩ _ x fun e=>?_).trans (b x hx hn),c.far (p:=⟨g7,1,none⟩) (fun e=>?_) _,t.len,AE.far (p:=⟨g7,1,none⟩) (Blk.differ AE AA (by decide)) _,?_,?_,AC.jL (zS w2 ⟨g7,1,none⟩ _ mb (AC.ne AA)),t.zFD⟩
 ·have:=t.zFD.2.2; have e:x=g7:=e; omega
 ·have:=t.zFD.2.2; have:=AD x hx; have e:x=g7:=e; omega
 ·have:=t.zFD.2.2; have:=AD S.bo (.inr (.inr (.inl rfl))); have e:S.bo=g7:=e; omega
 ·have:=AA.put 1 (.slice A' (cs.length+1) c')
  rw[hl]
  simpa using this
 ·rw[hl,zPD];refine ZK ho fun b e=>zS w2 ⟨g7,1,none⟩ _ b ?_;obtain⟨cur,hc⟩:=vA ho e;exact Blk.differ hc AA (by decide)
end
theorem zOL (w:World)(S:StH)(s:Nr)(R:DyH)(i:Nat)(h:NH w S s R)(hi:i<S.l.length)(hup:∀k,k ∈ (yZ (tN S.l) i).kids→k<S.l.length) :
  Calls Tryz.prog 49 #[.pointer (some ⟨S.a,0,none⟩),.int .i64 (i:Int)] w (zD1 w S R (VU (tN S.l) i s)):=by
 have AE:=yG h;have AK:=yG hi;have Bw:=yG hup;have An:Hid ((yZ (tN S.l) i).text.length≤maxLen):=yG (h.tree.txt i);have BT:Hid (VU (tN S.l) i s=if (zCw s (yZ (tN S.l) i).text).isSome=true then .err i 71 else if s.xH.length<64∧(yZ (tN S.l) i).kids.length≤16 then (zBK (tN S.l) (yZ (tN S.l) i).kids [] s).bind fun x=>.ok { x.2.set i s.xH.length with xH:=s.xH++[⟨(yZ (tN S.l) i).text,x.1⟩] } else .err i 3):=yG rfl;have Bz:Hid (∀(wr:World) (sk:Nr) (Rk:DyH),NH wr S sk Rk→Cells wr (hdN S.l i).1 (ints (yZ (tN S.l) i).kids)):=yG fun wr sk Rk hn=>(hn.tree.kid i hi).cells;have Bx:Hid (∀b,jB S R b→b<w.heap.size):=yG fun b hm=>h.ZW hm;clear h hi hup
 go_enter Tryz.func49,Tryz.ntmps49
 go_wp2_with fail
 refine(vW w S.a S.p S.A S.ct S.l i AE.out.rds AK.out).mono ?_;rintro e w1 ⟨rfl,Aw⟩;obtain⟨W2,Ah⟩:∃W2,Hid (w1.alloc (.cells (vT S.l i) 38)=W2):=⟨_,yG rfl⟩;obtain⟨g,HG⟩:∃g,Hid (w1.heap.size=g):=⟨_,yG rfl⟩;have Ar:=yG (AE.out.ext Aw);have Cb:Hid (w.heap.size≤g):=yG (by rw[←HG.out]; exact Aw.size);have Am:Hid (Safe W2 (jB S R) g 38 (vT S.l i)):=yG (by rw[←Ah.out,←HG.out]; exact Ar.out.fresh 38 (vT S.l i));have BJ:Hid (Ext w W2):=yG (by rw[←Ah.out]; exact Aw.trans (Ext.alloc _ _));have AJ:=yG (AE.out.ext BJ.out);clear Aw;unfold vT at *;obtain⟨nt,A5⟩:∃nt,Hid ((yZ (tN S.l) i).text=nt):=⟨_,yG rfl⟩;obtain⟨Ks,BN⟩:∃Ks,Hid ((yZ (tN S.l) i).kids=Ks):=⟨_,yG rfl⟩;rw[A5.out,BN.out] at Ah Am BT;rw[A5.out] at An;rw[BN.out] at Bz Bw;rw[A5.out,BN.out];generalize (hdN S.l i).1=kA at *;generalize (hdN S.l i).2=kc at *;generalize ((yZ (tN S.l) i).kind:Int)=nk at *;generalize YT S.l i=np at *;generalize (yZ (tN S.l) i).num=nn at *
 go_upto_region 1 with fail
 rw[Ah.out,HG.out];clear Ah;have c2:W2.cell? ⟨g,2,none⟩=some (.string (xG nt)):=Am.out.1.cell 2;have gl:=Am.out.1.lt;have x1:=AJ.out.x1;have al:=AJ.out.rds.al;have Bj:=yG AJ.out.mt
 cases hk:zCw s nt with
 | some k=>
  have HR:Hid (VU (tN S.l) i s=.err i 71):=yG (by rw[BT.out,hk]; rfl);apply ZP (by kernel_rfl) (by kernel_rfl) (by kernel_rfl);apply sQ (.pointer (some ⟨S.a,0,none⟩));apply sQ (.pointer (some ⟨S.a,0,none⟩));apply sQ (.pointer (some ⟨S.a,1,none⟩));apply sL x1 al (.map (some S.mt));apply sQ (.pointer (some ⟨g,2,none⟩));apply sL c2 gl (.string (xG nt));apply xB (.tuple #[.int .i64 (k:Int),.bool true]) rfl rfl rfl
  ·intro w' AA hH;clear hH;have AG:=(Bj.out.ext AA).get (t:=110) (e:=3) (z:=.int .i64 0) Tryz.underlying9 Tryz.underlying110 (by rfl) nt An.out;rw[show(s.xH.findIdx? fun x=>x.name==nt)=_ from hk] at AG;simp only[zBn,Option.map_some,Option.map_none,Option.getD_some,Option.getD_none,Option.isSome_some,Option.isSome_none] at AG;simp[xA,go_sem,AG];exact Ext.refl _
  (try simp only[Act.put,yD,yE,yF]);apply sQ (.tuple #[.int .i64 (k:Int),.bool true])
  apply sQ (.int .i64 (k:Int));apply sQ (.bool true);apply sQ (.int .i64 (k:Int));apply sQ (.bool true);apply xR;intro w3 AL hH;clear hH c2 gl x1 al
  try simp only[Act.put,yD,yE,yF]
  have AW:=yG (BJ.out.trans AL);have AX:=yG (AJ.out.ext AL);have Al:=yG (Am.out.xE (xC.ext (M:=jB S R) AL));clear AL
  go_wp2_with fail
  refine(JW w3 S.a S.p S.A S.ct S.l i 71 AX.out.rds AK.out).mono ?_;rintro e w4 ⟨rfl,rfl⟩;exact xJ (P:=Tryz.prog) (fn:=Tryz.f49) rfl (zD1.err HR.out AK.out (xC.ext AW.out))
 | none=>
  have AS:Hid (s.xH.findIdx? (fun y=>y.name==nt)=none):=yG hk;have AV:Hid (VU (tN S.l) i s=if s.xH.length<64∧Ks.length≤16 then (zBK (tN S.l) Ks [] s).bind fun x=>.ok { x.2.set i s.xH.length with xH:=s.xH++[⟨nt,x.1⟩] } else .err i 3):=yG (by rw[BT.out,hk]; rfl);apply ZP (by kernel_rfl) (by kernel_rfl) (by kernel_rfl);apply sQ (.pointer (some ⟨S.a,0,none⟩));apply sQ (.pointer (some ⟨S.a,0,none⟩));apply sQ (.pointer (some ⟨S.a,1,none⟩));apply sL x1 al (.map (some S.mt));apply sQ (.pointer (some ⟨g,2,none⟩));apply sL c2 gl (.string (xG nt));apply xB (.tuple #[.int .i64 0,.bool false]) rfl rfl rfl
  ·intro w' AA hH;clear hH;have AG:=(Bj.out.ext AA).get (t:=110) (e:=3) (z:=.int .i64 0) Tryz.underlying9 Tryz.underlying110 (by rfl) nt An.out;rw[show(s.xH.findIdx? fun x=>x.name==nt)=_ from hk] at AG;simp only[zBn,Option.map_some,Option.map_none,Option.getD_some,Option.getD_none,Option.isSome_some,Option.isSome_none] at AG;simp[xA,go_sem,AG];exact Ext.refl _
  (try simp only[Act.put,yD,yE,yF]);apply sQ (.tuple #[.int .i64 0,.bool false])
  apply sQ (.int .i64 0);apply sQ (.bool false);apply sQ (.int .i64 0);apply sQ (.bool false);apply xR;intro w3 AL hH;clear hH c2 gl x1 al
  try simp only[Act.put,yD,yE,yF]
  have AW:=yG (BJ.out.trans AL);have AX:=yG (AJ.out.ext AL);have Al:=yG (Am.out.xE (xC.ext (M:=jB S R) AL));clear AL
  go_wp2_with fail
  refine(XC w3 (.pointer (some ⟨S.a,0,none⟩)) (i:Int) 71).mono ?_;rintro e w4 ⟨rfl,rfl⟩;clear hk;have r0:=AX.out.rds.r0;have p1:=AX.out.p1;have c4:w3.cell? ⟨g,4,none⟩=some (.slice kA Ks.length kc):=Al.out.1.cell 4
  by_cases hl:s.xH.length<64
  rotate_left
  ·have HR:Hid (VU (tN S.l) i s=.err i 3):=yG (by rw[AV.out,if_neg (fun h=>hl h.1)]);have By:decide ((s.xH.length:Int)<64)=false:=yR (by omega);clear hl
   go_wp2_with fail
   refine(JW w3 S.a S.p S.A S.ct S.l i 3 AX.out.rds AK.out).mono ?_;rintro e w4 ⟨rfl,rfl⟩;exact xJ (P:=Tryz.prog) (fn:=Tryz.f49) rfl (zD1.err HR.out AK.out (xC.ext AW.out))
  have By:decide ((s.xH.length:Int)<64)=true:=yS (by omega)
  by_cases Ao:Ks.length≤16
  rotate_left
  ·have HR:Hid (VU (tN S.l) i s=.err i 3):=yG (by rw[AV.out,if_neg (fun h=>Ao h.2)]);have Bo:decide ((Ks.length:Int)≤16)=false:=yR (by omega);clear hl Ao
   go_wp2_with fail
   refine(JW w3 S.a S.p S.A S.ct S.l i 3 AX.out.rds AK.out).mono ?_;rintro e w4 ⟨rfl,rfl⟩;exact xJ (P:=Tryz.prog) (fn:=Tryz.f49) rfl (zD1.err HR.out AK.out (xC.ext AW.out))
  have Bo:decide ((Ks.length:Int)≤16)=true:=yS (by omega);have HR:Hid (VU (tN S.l) i s=(zBK (tN S.l) Ks [] s).bind fun x=>.ok { x.2.set i s.xH.length with xH:=s.xH++[⟨nt,x.1⟩] }):=yG (by rw[AV.out,if_pos ⟨hl,Ao⟩]);have HL:=yG hl;have Cj:=Ao;clear hl Ao
  go_wp2_with fail
  refine(XC w3 (.pointer (some ⟨S.a,0,none⟩)) (i:Int) 3).mono ?_;rintro e w4 ⟨rfl,rfl⟩;clear By Bo r0 p1;have c2:w3.cell? ⟨g,2,none⟩=some (.string (xG nt)):=Al.out.1.cell 2;have gl:=Al.out.1.lt;have BD:=@run_makeMap Tryz.prog
  go_upto_region 7 with fail
  clear c2 gl c4 BD;obtain⟨W4,Aq⟩:∃W4,Hid ((w3.alloc (.cells #[.string (xG nt),.slice none 0 0] 165)).alloc (.map #[] 0)=W4):=⟨_,yG rfl⟩;obtain⟨g7,Au⟩:∃g7,Hid (w3.heap.size=g7):=⟨_,yG rfl⟩;obtain⟨mb,AO⟩:∃mb,Hid (w3.heap.size+1=mb):=⟨_,yG rfl⟩
  have Cc:Hid (TL w W4 S R s.of g g7 mb nt #[.int .u8 nk,.int .i64 np,.string (xG nt),.int .i64 nn,.slice kA Ks.length kc] [] none 0 0 fun _=>none):=yG (by
   have hx:Ext w3 W4:=by rw[←Aq.out]; exact(Ext.alloc _ _).trans (Ext.alloc _ _)
   have Be:=AW.out.trans hx;have CV:=AW.out.size;refine⟨xC.ext Be,fun b hb _=>Be.block b (Bx.out b hb),AE.out.of.ext Be,AE.out.len,(Al.out.1.ext hx),?_,zR _ _ _ _,?_,⟨by rw[←AO.out]; omega,Cb.out,by rw[←Au.out]; exact CV⟩⟩
   ·rw[←Aq.out,←Au.out];exact(Blk.new _ _ _).alloc _
   ·rw[←Aq.out,←AO.out]
    have:=MF.new (P:=Tryz.prog) (kt:=9) (w3.alloc (.cells #[.string (xG nt),.slice none 0 0] 165))
    rwa [yT] at this)
  rw[Aq.out,AO.out,Au.out];clear Aq Au AO;have Ch:Hid (({ s with of:=s.of }:Nr)=s):=yG rfl;have CO:Hid (zBK (tN S.l) Ks [] s=zBK (tN S.l) (Ks.drop 0) [] { s with of:=s.of }):=yG rfl;obtain⟨i1,Cd,CY,CG,CB⟩:=info_parts zR6
  go_loopw [57] (fun i' wr=>∃(k:Nat) (cs:List Bs) (AC:List Int) (A7:Option Addr) (c7:Nat),k≤Ks.length∧i'=.int .i64 k∧Hid (cs.length=k)∧Hid (TL w wr S R AC g g7 mb nt #[.int .u8 nk,.int .i64 np,.string (xG nt),.int .i64 nn,.slice kA Ks.length kc] cs A7 c7 cs.length fun n=>zBn (cs.findIdx? fun c=>c==n))∧Hid (zBK (tN S.l) Ks [] s=zBK (tN S.l) (Ks.drop k) cs { s with of:=AC })) (fun i' _=>Ks.length-(intOf i').toNat)
  case atStart=>exact⟨0,[],s.of,none,0,zW _,rfl,yG rfl,Cc,CO⟩
  case round=>
   obtain⟨k,cs,AC,A7,c7,hk,rfl,AY,AD,BK⟩:=hrel;obtain⟨wa,rfl⟩:∃wa:World,wa=wr:=⟨_,rfl⟩;have AB:=yG (AD.out.nh AE.out)
   by_cases As:k<Ks.length
   ·have d0:decide ((k:Int)<(Ks.length:Int))=true:=yS (by omega)
    have q1:(k:Int)<(Ks.length:Int):=by omega
    obtain⟨b,Ax,Cg,hb,Bm⟩:=(Bz.out wa _ R AB.out).at_ (by rw[vK]; omega);subst Cg
    have e0:wa.cell? ⟨b,Ax+k,none⟩=some (.int .i64 ((Ks[k]:Nat):Int)):=by rw[Bm k (by rw[vK]; exact As)]; simp[ints,As]
    have BC:Hid (Ks[k] ∈ Ks):=yG (yO As);have A8:Hid (zBK (tN S.l) (Ks.drop k) cs { s with of:=AC } = if cs.contains (yZ (tN S.l) Ks[k]).text=true then .err Ks[k] 71 else zBK (tN S.l) (Ks.drop (k+1)) (cs++[(yZ (tN S.l) Ks[k]).text]) { s with of:=AC.set Ks[k] (cs.length:Int) }):=yG (by rw[List.drop_eq_getElem_cons As]; rfl);clear Bm;generalize Ks[k]=c at *;have Ae:=yG (Bw.out c BC.out);have BS:Hid ((yZ (tN S.l) c).text.length≤maxLen):=yG (AB.out.tree.txt c)
    go_wp2_with fail
    refine(vW wa S.a S.p S.A S.ct S.l c AB.out.rds Ae.out).mono ?_;rintro e w5 ⟨rfl,Bt⟩;have AH:=yG (AD.out.ext AE.out Bt);have BR:=yG (AH.out.nh AE.out);have f2:=XZ S.l c w5;obtain⟨tx,CX⟩:∃tx,Hid ((yZ (tN S.l) c).text=tx):=⟨_,yG rfl⟩;rw[CX.out] at f2 A8 BS;have AG:=AH.out.mp.get (t:=110) (e:=3) (z:=.int .i64 0) Tryz.underlying9 Tryz.underlying110 (by rfl) tx BS.out;clear Bt e0
    cases hct:cs.contains tx with
    | true=>
     have A9:Hid (VU (tN S.l) i s=.err c 71):=yG (by rw[HR.out,BK.out,A8.out,if_pos hct]; rfl)
     obtain⟨j,hj⟩:∃j,(cs.findIdx? fun c=>c==tx)=some j:=by
      have:=zFd cs tx
      rw[hct] at this;exact Option.isSome_iff_exists.1 this
     rw[hj] at AG;simp only[zBn,Option.map_some,Option.getD_some,Option.isSome_some] at AG
     go_wp2_with fail
     refine(JW w5 S.a S.p S.A S.ct S.l c 71 BR.out.rds Ae.out).mono ?_;rintro e w6 ⟨rfl,rfl⟩;exact xJ (P:=Tryz.prog) (fn:=Tryz.f49) rfl (zD1.err A9.out Ae.out AH.out.mv)
    | false=>
     have BV:=zEV hct;have CC:=yG BV;rw[BV] at AG;simp only[zBn,Option.map_none,Option.getD_none,Option.isSome_none] at AG;have B7:Hid (zBK (tN S.l) Ks [] s=zBK (tN S.l) (Ks.drop (k+1)) (cs++[tx]) { s with of:=AC.set c (cs.length:Int) }):=yG (by rw[BK.out,A8.out,if_neg (by rw[hct]; decide)]);clear BV hct
     go_wp2_with fail
     refine(XC w5 (.pointer (some ⟨S.a,0,none⟩)) (c:Int) 71).mono ?_;rintro e w6 ⟨rfl,rfl⟩;clear AG;have r0:=BR.out.rds.r0;have p3:=BR.out.p3
     go_wp2_with (refine zFc rfl (.tmp 77) (.tmp 78) (.tmp 87) 110 rfl Tryz.underlying9 Tryz.underlying110 mb cs.length (fun n=>zBn (cs.findIdx? fun c=>c==n)) tx (.int .i64 (k:Int)) (by kernel_rfl) (by kernel_rfl) (by kernel_rfl) AH.out.mp (by have:=AY.out; unfold maxLen; omega) BS.out ?_)
     intro w6 Bk Bv CH;have BA:=yG (AH.out.put AE.out Bk Bv);have BH:=yG (BA.out.nh AE.out);clear Bk Bv CH r0 p3 f2;have co:=BH.out.zBP c Ae.out;have cz:=BH.out.of.frozen c
     have q2:(c:Int)<(S.l.length:Int):=by have:=Ae.out; omega
     go_upto_region 13 with fail
     have A4:=yG (BA.out.setOf AE.out c (k:Int));generalize w6.setCell ⟨S.bo,c,none⟩ (.int .i64 (k:Int))=w7 at *;clear co cz q2 BA BH;have t1:w7.cell? ⟨g7,1,none⟩=some (.slice A7 cs.length c7):=A4.out.tb.cell 1;have CM:Hid (Ext w7 (w7.alloc (.cells #[.string (xG tx)] 9))):=yG (Ext.alloc _ _);have AI:=yG (A4.out.ext AE.out CM.out);have CL:Hid (Blk (w7.alloc (.cells #[.string (xG tx)] 9)) w7.heap.size 9 [Value.string (xG tx)].toArray):=yG (Blk.new _ _ _);have B9:Hid (w.heap.size≤(w7.alloc (.cells #[.string (xG tx)] 9)).heap.size):=yG AI.out.mv.size
     go_wp2_with (at_builtin; refine zHf rfl (.tmp 91) (.tmp 93) 82 rfl w.heap.size 9 i1 _ 1 16 Tryz.underlying82 Cd CY CG CB rfl A7 cs.length c7 (strs cs) rfl AI.out.row w7.heap.size 1 [.string (xG tx)] rfl rfl CL.out (by simp[Value.oneCell']) (by have:=AY.out; unfold maxLen; omega) (by have:=AY.out; omega) B9.out ?_)
     intro A' c' w9 Bp Bb CN;have Bf:=yG (AI.out.app AE.out tx A' c' Bb Bp)
     have CZ:Hid (some g7≠(Value.slice A7 cs.length c7).ownBlock):=yG fun e=>by
      obtain⟨AT,hc⟩:=vA AI.out.row (xP AI.out.row e.symm);exact Blk.differ AI.out.tb hc (by decide) rfl
     have BQ:=Bb.block g7 AI.out.tb.lt CZ.out;have Ca:w9.cell? ⟨g7,1,none⟩=some (.slice A7 cs.length c7):=(World.cell?_of_block (a:=⟨g7,1,none⟩) BQ).trans (AI.out.tb.cell 1);have CJ:w9.frozen? ⟨g7,1,none⟩=false:=(World.frozen?_of_block (a:=⟨g7,1,none⟩) BQ).trans (AI.out.tb.frozen 1);clear Bp Bb CN t1 BQ
     go_wp2_with fail
     have CW:Hid (TL w (w9.setCell ⟨g7,1,none⟩ (.slice A' (cs.length+1) c')) S R (AC.set c (cs.length:Int)) g g7 mb nt #[.int .u8 nk,.int .i64 np,.string (xG nt),.int .i64 nn,.slice (some ⟨b,Ax,none⟩) Ks.length kc] (cs++[tx]) A' c' (cs++[tx]).length fun n=>zBn ((cs++[tx]).findIdx? fun c=>c==n)):=yG (by
      have h9:=Bf.out;rw[←AY.out] at h9;rw[zMu cs tx (fun c=>c) CC.out] at h9;rw[show(cs++[tx]).length=cs.length+1 by simp]
      exact h9)
     clear Bf A4 AI Ca CJ;generalize w9.setCell ⟨g7,1,none⟩ (.slice A' (cs.length+1) c')=Ci at *;go_roundw
     case rel=>exact⟨k+1,cs++[tx],AC.set c (cs.length:Int),A',c',by omega,by go_num,yG (by have:=AY.out; simp; omega),CW,B7⟩
     case measure=>simp[intOf]; omega
   ·obtain rfl:k=Ks.length:=by omega
    have d0:decide ((Ks.length:Int)<(Ks.length:Int))=false:=by simp
    have d1:decide (Ks.length<Ks.length)=false:=by simp
    have B6:Hid (VU (tN S.l) i s=.ok { ({ s with of:=AC }:Nr).set i s.xH.length with xH:=s.xH++[⟨nt,cs⟩] }):=yG (by rw[HR.out,BK.out,List.drop_length]; rfl)
    go_upto_region 15 with fail
    clear d0 d1;obtain⟨n1,n2,n3,n4,n5,n6⟩:=AB.out.apart;have al:=AB.out.rds.al;have pl:=AB.out.rds.pl;have gl:=AD.out.nd.lt;have r0:=AB.out.rds.r0;have x1:=AB.out.x1;have p1:wa.cell? ⟨S.p,1,none⟩=some (.slice R.At s.xH.length R.cT):=AB.out.p1;have p3:wa.cell? ⟨S.p,3,none⟩=some (.slice (some ⟨S.bo,0,none⟩) S.l.length S.co):=AB.out.p3;have c2:wa.cell? ⟨g,2,none⟩=some (.string (xG nt)):=AD.out.nd.cell 2;have Ce:Hid (S.bo<g):=yG (by have:=AE.out.of.lt; have:=AD.out.zFD.2.1; omega)
    have HA:Hid (some S.a≠some S.bo):=yG fun e=>by injection e with e; exact n2 e
    have HP:Hid (some S.p≠some S.bo):=yG fun e=>by injection e with e; exact n3 e
    have CU:Hid (some g≠some S.bo):=yG fun e=>by injection e with e; have:=Ce.out; omega
    have Aa:=AB.out.mt
    have Ag:Hid (some S.a≠some S.mt):=yG fun e=>by injection e with e; exact Aa.ne AB.out.rd e.symm
    have Az:Hid (some S.p≠some S.mt):=yG fun e=>by injection e with e; exact Aa.ne AB.out.pg e.symm
    have CT:Hid (some g≠some S.mt):=yG fun e=>by injection e with e; exact Aa.ne AD.out.nd e.symm
    have AO:Hid (S.mt≠S.bo):=yG n6;obtain⟨es,c,Bi⟩:=Aa.isMap;have A0:Hid (zFM wa S.mt es c):=yG Bi;have Ay:=yG Aa;clear Bi Aa
    have q3:(i:Int)<(S.l.length:Int):=by have:=AK.out; omega
    have CP:Hid (i<AC.length):=yG (by rw[AD.out.len]; exact AK.out);obtain⟨Fs,AN⟩:∃Fs,Hid (OM S.bo AC i (s.xH.length:Int) S.mt es c nt (.int .i64 (s.xH.length:Int))=Fs):=⟨_,yG rfl⟩;have CQ:Hid (∀F ∈ Fs,∀v w w',F v w→Ext w w'→F v w'):=yG (by rw[←AN.out]; exact zUD _ _ _ _ _ _ _ _ _);have M0:Hid ((fun (_:Value) w=>Blk w S.bo 3 (ofc AC).toArray∨Blk w S.bo 3 (ofc (AC.set i (s.xH.length:Int))).toArray) ∈ Fs):=yG (by rw[←AN.out]; simp only[OM,zU,true_or]);have M1:Hid ((fun (_:Value) w=>Blk w S.bo 3 (ofc (AC.set i (s.xH.length:Int))).toArray) ∈ Fs):=yG (by rw[←AN.out]; simp only[OM,zU,true_or,or_true]);have M2:Hid ((fun (_:Value) w=>zFM w S.mt es c∨∃u,zBm w S.mt es c nt u) ∈ Fs):=yG (by rw[←AN.out]; simp only[OM,zU,true_or,or_true]);have M3:Hid ((fun (v:Value) w=>(∃z,v=.tuple #[z,.int .i64 (c:Int)])∧∃u,zBm w S.mt es c nt u) ∈ Fs):=yG (by rw[←AN.out]; simp only[OM,zU,true_or,or_true]);have M4:Hid ((fun (_:Value) w=>zBm w S.mt es c nt (.int .i64 (s.xH.length:Int))) ∈ Fs):=yG (by rw[←AN.out]; simp only[OM,zU,true_or,or_true]);clear n1 n2 n3 n4 n5 n6;apply zMQ (some S.bo) (some S.mt) Fs 35 (by kernel_rfl) (by kernel_rfl) (by kernel_rfl) CQ.out;dsimp only[List.take_succ_cons,List.take_zero,List.drop_succ_cons,List.drop_zero];apply sG jH.refl (.pointer (some ⟨S.a,0,none⟩));apply sG jH.refl (.pointer (some ⟨S.a,0,none⟩));apply sG jH.refl (.pointer (some ⟨S.a,0,none⟩));apply xB (.pointer (some ⟨S.p,0,none⟩)) rfl rfl rfl
    ·intro w' AA hH;have hR:=jH.refl (o1:=some S.bo) (o2:=some S.mt) (Fs:=Fs) w';have cc:=(World.cell?_of_block (w:=wa) (a:=⟨S.a,0,none⟩) (AA.blk al HA.out Ag.out)).trans r0;clear hH;simp[xA,go_sem,cc];exact hR
    (try simp only[Act.put,yD,yE,yF]);apply sG jH.refl (.pointer (some ⟨S.p,0,none⟩))
    apply sG jH.refl (.pointer (some ⟨S.p,3,none⟩));apply xB (.slice (some ⟨S.bo,0,none⟩) S.l.length S.co) rfl rfl rfl
    ·intro w' AA hH;have hR:=jH.refl (o1:=some S.bo) (o2:=some S.mt) (Fs:=Fs) w';have cc:=(World.cell?_of_block (w:=wa) (a:=⟨S.p,3,none⟩) (AA.blk pl HP.out Az.out)).trans p3;clear hH;simp[xA,go_sem,cc];exact hR
    (try simp only[Act.put,yD,yE,yF]);apply sG jH.refl (.int .i64 (i:Int))
    apply sG jH.refl (.pointer (some ⟨S.a,0,none⟩));apply sG jH.refl (.pointer (some ⟨S.a,0,none⟩));apply sG jH.refl (.pointer (some ⟨S.a,1,none⟩));apply xB (.map (some S.mt)) rfl rfl rfl
    ·intro w' AA hH;have hR:=jH.refl (o1:=some S.bo) (o2:=some S.mt) (Fs:=Fs) w';have cc:=(World.cell?_of_block (w:=wa) (a:=⟨S.a,1,none⟩) (AA.blk al HA.out Ag.out)).trans x1;clear hH;simp[xA,go_sem,cc];exact hR
    (try simp only[Act.put,yD,yE,yF]);apply sG jH.refl (.pointer (some ⟨g,2,none⟩))
    apply xB (.string (xG nt)) rfl rfl rfl
    ·intro w' AA hH;have hR:=jH.refl (o1:=some S.bo) (o2:=some S.mt) (Fs:=Fs) w';have cc:=(World.cell?_of_block (w:=wa) (a:=⟨g,2,none⟩) (AA.blk gl CU.out CT.out)).trans c2;clear hH;simp[xA,go_sem,cc];exact hR
    (try simp only[Act.put,yD,yE,yF]);apply sG jH.refl (.pointer (some ⟨S.a,0,none⟩))
    apply sG jH.refl (.pointer (some ⟨S.a,0,none⟩));apply sG jH.refl (.pointer (some ⟨S.a,0,none⟩));apply xB (.pointer (some ⟨S.p,0,none⟩)) rfl rfl rfl
    ·intro w' AA hH;have hR:=jH.refl (o1:=some S.bo) (o2:=some S.mt) (Fs:=Fs) w';have cc:=(World.cell?_of_block (w:=wa) (a:=⟨S.a,0,none⟩) (AA.blk al HA.out Ag.out)).trans r0;clear hH;simp[xA,go_sem,cc];exact hR
    (try simp only[Act.put,yD,yE,yF]);apply sG jH.refl (.pointer (some ⟨S.p,0,none⟩))
    apply sG jH.refl (.pointer (some ⟨S.p,1,none⟩));apply xB (.slice R.At s.xH.length R.cT) rfl rfl rfl
    ·intro w' AA hH;have hR:=jH.refl (o1:=some S.bo) (o2:=some S.mt) (Fs:=Fs) w';have cc:=(World.cell?_of_block (w:=wa) (a:=⟨S.p,1,none⟩) (AA.blk pl HP.out Az.out)).trans p1;clear hH;simp[xA,go_sem,cc];exact hR
    (try simp only[Act.put,yD,yE,yF]);apply sG jH.refl (.int .i64 (s.xH.length:Int))
    apply sG jH.refl (.pointer (some ⟨S.a,0,none⟩));apply sG jH.refl (.pointer (some ⟨S.a,0,none⟩));apply sG jH.refl (.pointer (some ⟨S.a,0,none⟩));apply xB (.pointer (some ⟨S.p,0,none⟩)) rfl rfl rfl
    ·intro w' AA hH;have hR:=jH.refl (o1:=some S.bo) (o2:=some S.mt) (Fs:=Fs) w';have cc:=(World.cell?_of_block (w:=wa) (a:=⟨S.a,0,none⟩) (AA.blk al HA.out Ag.out)).trans r0;clear hH;simp[xA,go_sem,cc];exact hR
    (try simp only[Act.put,yD,yE,yF]);apply sG jH.refl (.pointer (some ⟨S.p,0,none⟩))
    apply sG jH.refl (.pointer (some ⟨S.p,1,none⟩));apply xB (.slice R.At s.xH.length R.cT) rfl rfl rfl
    ·intro w' AA hH;have hR:=jH.refl (o1:=some S.bo) (o2:=some S.mt) (Fs:=Fs) w';have cc:=(World.cell?_of_block (w:=wa) (a:=⟨S.p,1,none⟩) (AA.blk pl HP.out Az.out)).trans p1;clear hH;simp[xA,go_sem,cc];exact hR
    (try simp only[Act.put,yD,yE,yF]);apply sG jH.refl (.int .i64 (s.xH.length:Int))
    apply xB (.pointer (some ⟨S.bo,i,none⟩)) rfl rfl rfl
    ·intro w' AA hH;clear hH;simp[xA,go_sem,q3];exact jH.refl _
    (try simp only[Act.put,yD,yE,yF]);apply xZ (fun (_:Value) w=>Blk w S.bo 3 (ofc (AC.set i (s.xH.length:Int))).toArray) (fun v w w' h hx=>hx.2 _ M1.out v h) rfl rfl rfl
    ·intro w' AA hH;have AF:=AA.2 _ M0.out undef (.inl AD.out.of);clear hH AA;rw[←AN.out];exact zPM (.tmp 127) (.tmp 118) rfl AO.out CP.out (by kernel_rfl) (by kernel_rfl) AF
    intro v0;(try simp only[Act.put,yD,yE,yF]);apply xZ (fun (v:Value) w=>(∃z,v=.tuple #[z,.int .i64 (c:Int)])∧∃u,zBm w S.mt es c nt u) (fun v w w' h hx=>hx.2 _ M3.out v h) rfl rfl rfl
    ·intro w' AA hH;have BD:=AA.2 _ M2.out undef (.inl A0.out);clear hH AA;rw[←AN.out];exact zLC (z:=.int .i64 0) (.tmp 108) (.tmp 110) 110 rfl Ay.out A0.out Tryz.underlying9 Tryz.underlying110 (show s.xH.length<maxLen by have:=HL.out; unfold maxLen; omega) (by intro w; rfl) An.out (by rw[show(({ s with of:=AC }:Nr).xH.findIdx? fun x=>x.name==nt)=none from AS.out]; rfl) (by kernel_rfl) (by kernel_rfl) AO.out BD
    intro v1;(try simp only[Act.put,yD,yE,yF]);apply xZ (fun (v:Value) w=>v=.int .i64 (c:Int)∧∃u,zBm w S.mt es c nt u) (fun v w w' h hx=>⟨h.1,(hx.2 _ M3.out (.tuple #[undef,.int .i64 (c:Int)]) ⟨⟨undef,rfl⟩,h.2⟩).2⟩) rfl rfl rfl
    ·intro w' AA hH;obtain⟨⟨z1,rfl⟩,BZ⟩:=hH _ (List.mem_cons_self ..) ⟨_,rfl,by decide⟩;clear hH;simp[xA,go_sem];exact⟨BZ,jH.refl _⟩
    intro v3;(try simp only[Act.put,yD,yE,yF]);apply xZ (fun (_:Value) w=>zBm w S.mt es c nt (.int .i64 (s.xH.length:Int))) (fun v w w' h hx=>hx.2 _ M4.out v h) rfl rfl rfl
    ·intro w' AA hH;obtain⟨rfl,BZ⟩:=hH _ (List.mem_cons_self ..) ⟨_,rfl,by decide⟩;clear hH AA;rw[←AN.out];exact zI8 (.tmp 108) (.tmp 129) (.tmp 126) 110 rfl Ay.out A0.out (by kernel_rfl) (by kernel_rfl) (by kernel_rfl) AO.out BZ
    intro v2;(try simp only[Act.put,yD,yE,yF]);apply xR;intro w5 Br hH;have B8:Hid (Blk w5 S.bo 3 (ofc (AC.set i (s.xH.length:Int))).toArray):=yG (hH _ (List.mem_cons_of_mem _ (List.mem_cons_of_mem _ (List.mem_cons_of_mem _ (List.mem_cons_self ..)))));have CR:=yG (Ay.out.closed A0.out Tryz.underlying9 Tryz.underlying110 (show s.xH.length<maxLen by have:=HL.out; unfold maxLen; omega) (z:=.int .i64 0) (by intro w; rfl) nt An.out (by rw[show(({ s with of:=AC }:Nr).xH.findIdx? fun x=>x.name==nt)=none from AS.out]; rfl) _ (hH _ (List.mem_cons_self ..)));clear hH;have AP:=yG Br;clear Br
    try simp only[Act.put,yD,yE,yF]
    go_upto_region 16 with fail
    clear al pl gl r0 x1 p1 p3 c2 q3;have AZ:Hid (∀b,b<wa.heap.size→b≠S.bo→b≠S.mt→w5.heap[b]?=wa.heap[b]?):=yG fun b hb h1 h2=>AP.out.blk hb (fun e=>h1 (by injection e)) (fun e=>h2 (by injection e));have Ad:Hid (Blk w5 S.a 115 #[.pointer (some ⟨S.p,0,none⟩),.map (some S.mt),.slice R.Ac s.xH.length R.cc,.pointer none,.slice none 0 0]):=yG ((AZ.out S.a AB.out.rd.lt (fun e=>HA.out (by rw[e])) (fun e=>Ag.out (by rw[e]))).trans AB.out.rd);have Af:Hid (Blk w5 S.p 32 #[.slice S.A S.l.length S.ct,.slice R.At s.xH.length R.cT,.slice R.Ap s.procs.length R.cP,.slice (some ⟨S.bo,0,none⟩) S.l.length S.co]):=yG ((AZ.out S.p AB.out.pg.lt (fun e=>HP.out (by rw[e])) (fun e=>Az.out (by rw[e]))).trans AB.out.pg);have AH:Hid (Blk w5 g7 165 #[.string (xG nt),.slice A7 cs.length c7]):=yG ((AZ.out g7 AD.out.tb.lt (fun e=>by have:=AD.out.zFD.2.2; have:=AE.out.of.lt; omega) (fun e=>Ay.out.ne AD.out.tb e.symm)).trans AD.out.tb);have Ak:Hid (w5.ownsRow S.B 165 2 (.slice R.At s.xH.length R.cT) s.xH.length (VD s.xH R.th)):=yG (ZK AB.out.zBN fun b e=>AZ.out b (jD AB.out.zBN e).2 (AB.out.zEd b e).2.2.1 (AB.out.zEd b e).2.2.2.1);have Aj:Hid (w5.ownsRow S.B 110 1 (.slice R.Ac s.xH.length R.cc) s.xH.length (YL R.cm)):=yG (ZK AB.out.zFt fun b e=>AZ.out b (jD AB.out.zFt e).2 (AB.out.zEi b e).2.2.1 (AB.out.zEi b e).2.2.2.1)
    have Bl:Hid (S.B≤w5.heap.size):=yG (Nat.le_trans AB.out.low AP.out.sz);have al:=Ad.out.lt;have pl:=Af.out.lt;have tl:=AH.out.lt;have r0:w5.cell? ⟨S.a,0,none⟩=some (.pointer (some ⟨S.p,0,none⟩)):=Ad.out.cell 0;have r2:w5.cell? ⟨S.a,2,none⟩=some (.slice R.Ac s.xH.length R.cc):=Ad.out.cell 2;have p1:w5.cell? ⟨S.p,1,none⟩=some (.slice R.At s.xH.length R.cT):=Af.out.cell 1;have t0:w5.cell? ⟨g7,0,none⟩=some (.string (xG nt)):=AH.out.cell 0;have t1:w5.cell? ⟨g7,1,none⟩=some (.slice A7 cs.length c7):=AH.out.cell 1;obtain⟨o1,Ab⟩:∃o1,Hid ((Value.slice R.At s.xH.length R.cT).ownBlock=o1):=⟨_,yG rfl⟩;obtain⟨o2,Ai⟩:∃o2,Hid ((Value.slice R.Ac s.xH.length R.cc).ownBlock=o2):=⟨_,yG rfl⟩;have Bq:Hid (∀w',w'.ownsRow S.B 165 2 (.slice R.At s.xH.length R.cT) s.xH.length (VD s.xH R.th)→∀b,o1=some b→∃AT,Blk w' b 165 AT):=yG fun w' h b e=>zNw h b (by rw[Ab.out]; exact e);have Bg:Hid (∀w',w'.ownsRow S.B 110 1 (.slice R.Ac s.xH.length R.cc) s.xH.length (YL R.cm)→∀b,o2=some b→∃AT,Blk w' b 110 AT):=yG fun w' h b e=>zNw h b (by rw[Ai.out]; exact e)
    have Ar:Hid (∀(b:Nat) (t:TypeId) (c:Array Value),Blk w5 b t c→t≠165→some b≠o1):=yG fun b t c hb ht e=>by
     obtain⟨AT,hc⟩:=Bq.out w5 Ak.out b e.symm;exact Blk.differ hb hc ht rfl
    have AJ:Hid (∀(b:Nat) (t:TypeId) (c:Array Value),Blk w5 b t c→t≠110→some b≠o2):=yG fun b t c hb ht e=>by
     obtain⟨AT,hc⟩:=Bg.out w5 Aj.out b e.symm;exact Blk.differ hb hc ht rfl
    have A1:Hid (some S.a≠o1):=yG (Ar.out _ _ _ Ad.out (by decide));have A2:Hid (some S.a≠o2):=yG (AJ.out _ _ _ Ad.out (by decide));have BM:Hid (some S.p≠o1):=yG (Ar.out _ _ _ Af.out (by decide));have BB:Hid (some S.p≠o2):=yG (AJ.out _ _ _ Af.out (by decide))
    have B4:Hid (some g7≠o1):=yG fun e=>by
     have e2:=xP AB.out.zBN (Ab.out.trans e.symm)
     have:=(jD AE.out.zBN e2).2
     have:=AD.out.zFD.2.2
     omega
    have Bn:Hid (some g7≠o2):=yG (AJ.out _ _ _ AH.out (by decide));have Bc:Hid (∀g,(Value.slice R.At s.xH.length R.cT).ownBlock=some g→g<w5.heap.size):=yG fun g e=>(jD Ak.out (xP Ak.out e)).2;have A6:Hid (∀g,(Value.slice R.Ac s.xH.length R.cc).ownBlock=some g→g<w5.heap.size):=yG fun g e=>(jD Aj.out (xP Aj.out e)).2;have BY:Hid (zAX S.B 165 s.xH.length (VD s.xH R.th) (.slice R.At s.xH.length R.cT) w5):=yG ⟨Ak.out,R.At,R.cT,rfl,(fun e=>by have hv:=Ak.out; rw[e] at hv; rcases hv.2 with ⟨hv,_⟩ | ⟨g,_,_,hv,_⟩; (injection hv); (cases hv)),AB.out.zT⟩;have BW:Hid (VO S.B 110 s.xH.length (YL R.cm) (.slice R.Ac s.xH.length R.cc) w5):=yG ⟨Aj.out,R.Ac,R.cc,rfl,(fun e=>by have hv:=Aj.out; rw[e] at hv; rcases hv.2 with ⟨hv,_⟩ | ⟨g,_,_,hv,_⟩; (injection hv); (cases hv)),AB.out.zC⟩;obtain⟨Gs,AM⟩:∃Gs,Hid (Fs2 S.B 165 (.slice R.At s.xH.length R.cT) w5.heap.size s.xH.length (VD s.xH R.th) [Value.string (xG nt),Value.slice A7 cs.length c7]++FsH S.B 110 (.slice R.Ac s.xH.length R.cc) w5.heap.size s.xH.length (YL R.cm) [Value.map (some mb)]=Gs):=⟨_,yG rfl⟩;have GE:Hid (∀F ∈ Gs,∀v w w',F v w→Ext w w'→F v w'):=yG (by rw[←AM.out]; exact zRk);have G0:Hid ((fun (_:Value) w=>zAX S.B 165 s.xH.length (VD s.xH R.th) (.slice R.At s.xH.length R.cT) w) ∈ Gs):=yG (by rw[←AM.out]; simp only[Fs2,yC,zU,true_or])
    have G1:Hid (zBf 165 w5.heap.size #[Value.string (xG nt),Value.slice A7 cs.length c7] ∈ Gs):=yG (by rw[←AM.out]; simp only[Fs2,yC,zU,true_or,or_true]);have G2:Hid (zTt S.B 165 o1 w5.heap.size (s.xH.length+1) (VD s.xH R.th++[Value.string (xG nt),Value.slice A7 cs.length c7]) ∈ Gs):=yG (by rw[←AM.out,←Ab.out]; simp only[Fs2,yC,zU,true_or,or_true]);have G3:Hid ((fun (_:Value) w=>VO S.B 110 s.xH.length (YL R.cm) (.slice R.Ac s.xH.length R.cc) w) ∈ Gs):=yG (by rw[←AM.out]; exact List.mem_append_right _ (by simp only[FsH,zU,true_or]));have G4:Hid (zBf 110 w5.heap.size #[Value.map (some mb)] ∈ Gs):=yG (by rw[←AM.out]; exact List.mem_append_right _ (by simp only[FsH,zU,true_or,or_true]));have G5:Hid (zJB S.B 110 o2 w5.heap.size (s.xH.length+1) (YL R.cm++[Value.map (some mb)]) ∈ Gs):=yG (by rw[←AM.out,←Ai.out]; exact List.mem_append_right _ (by simp only[FsH,zU,true_or,or_true]));obtain⟨it,B5,BO,BU,BG⟩:=info_parts zQP;obtain⟨im,CF,BL,BE,BP⟩:=info_parts zSy;apply zMv o1 o2 Gs 24 4 0 134 (by kernel_rfl) (by kernel_rfl) (by kernel_rfl) GE.out;dsimp only[List.take_succ_cons,List.take_zero,List.drop_succ_cons,List.drop_zero];apply sG jH.refl (.pointer (some ⟨S.a,0,none⟩));apply sG jH.refl (.pointer (some ⟨S.a,0,none⟩));apply sG jH.refl (.pointer (some ⟨S.a,0,none⟩));apply xB (.pointer (some ⟨S.p,0,none⟩)) rfl rfl rfl
    ·intro w' AA hH;have hR:=jH.refl (o1:=o1) (o2:=o2) (Fs:=Gs) w';have cc:=(World.cell?_of_block (w:=w5) (a:=⟨S.a,0,none⟩) (AA.blk al A1.out A2.out)).trans r0;clear hH;simp[xA,go_sem,cc];exact hR
    (try simp only[Act.put,yD,yE,yF]);apply sG jH.refl (.pointer (some ⟨S.a,0,none⟩))
    apply sG jH.refl (.pointer (some ⟨S.a,0,none⟩));apply sG jH.refl (.pointer (some ⟨S.a,0,none⟩));apply sG jH.refl (.pointer (some ⟨S.a,0,none⟩));apply xB (.pointer (some ⟨S.p,0,none⟩)) rfl rfl rfl
    ·intro w' AA hH;have hR:=jH.refl (o1:=o1) (o2:=o2) (Fs:=Gs) w';have cc:=(World.cell?_of_block (w:=w5) (a:=⟨S.a,0,none⟩) (AA.blk al A1.out A2.out)).trans r0;clear hH;simp[xA,go_sem,cc];exact hR
    (try simp only[Act.put,yD,yE,yF]);apply sG jH.refl (.pointer (some ⟨S.p,0,none⟩))
    apply sG jH.refl (.pointer (some ⟨S.p,1,none⟩));apply xB (.slice R.At s.xH.length R.cT) rfl rfl rfl
    ·intro w' AA hH;have hR:=jH.refl (o1:=o1) (o2:=o2) (Fs:=Gs) w';have cc:=(World.cell?_of_block (w:=w5) (a:=⟨S.p,1,none⟩) (AA.blk pl BM.out BB.out)).trans p1;clear hH;simp[xA,go_sem,cc];exact hR
    (try simp only[Act.put,yD,yE,yF]);apply xB (.agg #[Value.string (xG nt),Value.slice A7 cs.length c7]) rfl rfl rfl
    ·intro w' AA hH;have hR:=jH.refl (o1:=o1) (o2:=o2) (Fs:=Gs) w';have cc:=(World.cell?_of_block (w:=w5) (a:=⟨g7,0,none⟩) (AA.blk tl B4.out Bn.out)).trans t0;have CA:=(World.cell?_of_block (w:=w5) (a:=⟨g7,1,none⟩) (AA.blk tl B4.out Bn.out)).trans t1;clear hH;simp[xA,go_sem,cc,CA];exact hR
    (try simp only[Act.put,yD,yE,yF]);apply xZ (zBf 165 w5.heap.size #[Value.string (xG nt),Value.slice A7 cs.length c7]) (fun v w w' h hx=>hx.2 _ G1.out v h) rfl rfl rfl
    ·intro w' AA hH;have hz:=AA.sz;clear hH AA;simp[xA,go_sem];exact⟨⟨_,rfl,Blk.new _ _ _,hz⟩,jH.ext GE.out (Ext.alloc _ _)⟩
    intro Bd;(try simp only[Act.put,yD,yE,yF]);apply xZ (zTt S.B 165 o1 w5.heap.size (s.xH.length+1) (VD s.xH R.th++[Value.string (xG nt),Value.slice A7 cs.length c7])) (fun v w w' h hx=>hx.2 _ G2.out v h) rfl rfl rfl
    ·intro w' AA hH;have AU:=hH _ (List.mem_cons_self ..) ⟨_,rfl,by decide⟩;have AF:=AA.2 _ G0.out undef BY.out;have hz:=AA.sz;clear hH AA;rw[←AM.out];refine xA.mono (zNG S.B w5.heap.size (.tmp 141) (.tmp 143) 28 rfl 165 it _ 40 Tryz.underlying28 B5 BO BU BG rfl (.slice R.At s.xH.length R.cT) s.xH.length (VD s.xH R.th) [Value.string (xG nt),Value.slice A7 cs.length c7] (by kernel_rfl) AF Bd (by kernel_rfl) AU rfl (by simp[Value.oneCell']) (by unfold maxLen; have:=HL.out; omega) (by have:=HL.out; omega) (Nat.le_trans Bl.out hz) hz Bc.out) fun v w2 hv=>?_;rw[Ab.out] at hv;exact⟨hv.1,jH.left hv.2 (Bq.out w' AF.1) (by decide)⟩
    intro Cf;(try simp only[Act.put,yD,yE,yF]);apply sG jH.refl (.pointer (some ⟨S.a,0,none⟩));apply sG jH.refl (.pointer (some ⟨S.a,0,none⟩));apply sG jH.refl (.pointer (some ⟨S.a,2,none⟩));apply xB (.slice R.Ac s.xH.length R.cc) rfl rfl rfl
    ·intro w' AA hH;have hR:=jH.refl (o1:=o1) (o2:=o2) (Fs:=Gs) w';have cc:=(World.cell?_of_block (w:=w5) (a:=⟨S.a,2,none⟩) (AA.blk al A1.out A2.out)).trans r2;clear hH;simp[xA,go_sem,cc];exact hR
    (try simp only[Act.put,yD,yE,yF]);apply sG jH.refl (.map (some mb))
    apply xZ (zBf 110 w5.heap.size #[Value.map (some mb)]) (fun v w w' h hx=>hx.2 _ G4.out v h) rfl rfl rfl
    ·intro w' AA hH;have hz:=AA.sz;clear hH AA;simp[xA,go_sem];exact⟨⟨_,rfl,Blk.new _ _ _,hz⟩,jH.ext GE.out (Ext.alloc _ _)⟩
    intro BF;(try simp only[Act.put,yD,yE,yF]);apply xZ (zJB S.B 110 o2 w5.heap.size (s.xH.length+1) (YL R.cm++[Value.map (some mb)])) (fun v w w' h hx=>hx.2 _ G5.out v h) rfl rfl rfl
    ·intro w' AA hH;have AU:=hH _ (List.mem_cons_self ..) ⟨_,rfl,by decide⟩;have AF:=AA.2 _ G3.out undef BW.out;have hz:=AA.sz;clear hH AA;rw[←AM.out];refine xA.mono (zCz S.B w5.heap.size (.tmp 148) (.tmp 150) 111 rfl 110 im _ 8 Tryz.underlying111 CF BL BE BP rfl (.slice R.Ac s.xH.length R.cc) s.xH.length (YL R.cm) [Value.map (some mb)] (by kernel_rfl) AF BF (by kernel_rfl) AU rfl (by simp[Value.oneCell']) (by unfold maxLen; have:=HL.out; omega) (by have:=HL.out; omega) (Nat.le_trans Bl.out hz) hz A6.out) fun v w2 hv=>?_;rw[Ai.out] at hv;exact⟨hv.1,jH.right hv.2 (Bg.out w' AF.1) (by decide)⟩
    intro CS;(try simp only[Act.put,yD,yE,yF]);apply sG jH.refl (.pointer (some ⟨S.p,0,none⟩));apply sG jH.refl (.pointer (some ⟨S.p,1,none⟩));apply xR;intro w7 B1 hH;have Av:=hH _ (List.mem_cons_self ..);have A3:=hH _ (List.mem_cons_of_mem _ (List.mem_cons_of_mem _ (List.mem_cons_self ..)));clear hH
    dsimp only at Av A3
    obtain⟨gm,AR,rfl⟩:=Av.1.at;obtain⟨gk,cap,rfl⟩:=A3.1.at;have AQ:=yG B1;have B2:=yG A3;have B0:=yG Av;clear B1 A3 Av
    try simp only[Act.put,yD,yE,yF]
    simp only[List.drop_succ_cons,List.drop_zero]
    have CD:Hid (∀b,(some ⟨gk,0,none⟩:Option Addr)=some ⟨b,0,none⟩→R.At=some ⟨b,0,none⟩∨wa.heap.size≤b):=yG fun b e=>by
     injection e with e;injection e with e;subst e
     rcases B2.out.2 with e | ⟨g',e,CE⟩
     ·left
      rw[←Ab.out] at e;exact xP AB.out.zBN e.symm
     ·right
      have h1:gk=g':=by simpa [Value.ownBlock] using e
      have:=AP.out.sz
      omega
    have Ba:Hid (∀b,(some ⟨gm,0,none⟩:Option Addr)=some ⟨b,0,none⟩→R.Ac=some ⟨b,0,none⟩∨wa.heap.size≤b):=yG fun b e=>by
     injection e with e;injection e with e;subst e
     rcases B0.out.2 with e | ⟨g',e,CE⟩
     ·left
      rw[←Ai.out] at e;exact xP AB.out.zFt e.symm
     ·right
      have h1:gm=g':=by simpa [Value.ownBlock] using e
      have:=AP.out.sz
      omega
    have BX:Hid (zD1 w S R (VU (tN S.l) i s) (.returned (.tuple #[])) ((w7.setCell ⟨S.p,1,none⟩ (.slice (some ⟨gk,0,none⟩) (s.xH.length+1) cap)).setCell ⟨S.a,2,none⟩ (.slice (some ⟨gm,0,none⟩) (s.xH.length+1) AR))):=yG (by
     have Bu:∀b,jB S R b→b<w.heap.size:=Bx.out
     have ha:=AB.out.zUC HL.out i ⟨nt,cs⟩ (A7,c7) mb AS.out
      ⟨AP.out.1.1,AP.out.1.2.1,AP.out.1.2.2.1,AP.out.sz,fun b hb hn=>AZ.out b hb (fun e=>hn (.inl e)) (fun e=>hn (.inr e)),fun b h=>.inl h⟩ B8.out CR.out
      ⟨AQ.out.1.1,AQ.out.1.2.1,AQ.out.1.2.2.1,AQ.out.sz,fun b hb hn=>AQ.out.blk hb (fun e=>hn (.inl (xP AB.out.zBN (Ab.out.trans e.symm)))) (fun e=>hn (.inr (xP AB.out.zFt (Ai.out.trans e.symm)))),fun b h=>.inl h⟩
      (some ⟨gk,0,none⟩) (some ⟨gm,0,none⟩) cap AR B2.out.1.1 B0.out.1.1 CD.out Ba.out ?_ ?_
     ·rw[B6.out];exact⟨rfl,_,ha.1,AD.out.mv.trans ha.2⟩
     ·have CK:(strs cs).length=cs.length:=zMr cs
      rcases AD.out.row.2 with ⟨hv,hz⟩ | ⟨g0,cp,AT,hv,hb,hh,hr⟩
      ·left
       exact List.eq_nil_of_length_eq_zero (show(strs cs).length=0 by omega)
      ·rcases zJ8 AD.out.row CK with hc | ⟨b,Ax,e1,e2,e3⟩
       ·exact .inl hc
       ·refine .inr ⟨b,Ax,e1,e2,fun hm=>?_,e3⟩;injection hv with hv1;rw[hv1] at e1;injection e1 with e1;injection e1 with e1
        have:=Bu b hm
        omega
     ·refine⟨AD.out.mp.mono (by have:=AY.out; omega),fun hm=>?_⟩
      have:=Bu mb hm
      have:=AD.out.zFD.1
      omega)
    have y1:w7.cell? ⟨S.p,1,none⟩=some (.slice R.At s.xH.length R.cT):=(World.cell?_of_block (w:=w5) (a:=⟨S.p,1,none⟩) (AQ.out.blk pl BM.out BB.out)).trans p1;have z1:w7.frozen? ⟨S.p,1,none⟩=false:=(World.frozen?_of_block (w:=w5) (a:=⟨S.p,1,none⟩) (AQ.out.blk pl BM.out BB.out)).trans (Af.out.frozen 1)
    have CI:S.p≠S.a:=fun e=>by obtain⟨n1,_⟩:=AB.out.apart; first | exact n1 e | exact n1 e.symm
    have Bh:(w7.setCell ⟨S.p,1,none⟩ (.slice (some ⟨gk,0,none⟩) (s.xH.length+1) cap)).heap[S.a]?=w5.heap[S.a]?:=(zS w7 ⟨S.p,1,none⟩ _ S.a fun e=>CI e.symm).trans (AQ.out.blk al A1.out A2.out);have y2:(w7.setCell ⟨S.p,1,none⟩ (.slice (some ⟨gk,0,none⟩) (s.xH.length+1) cap)).cell? ⟨S.a,2,none⟩=some (.slice R.Ac s.xH.length R.cc):=(World.cell?_of_block (a:=⟨S.a,2,none⟩) Bh).trans r2;have z2:(w7.setCell ⟨S.p,1,none⟩ (.slice (some ⟨gk,0,none⟩) (s.xH.length+1) cap)).frozen? ⟨S.a,2,none⟩=false:=(World.frozen?_of_block (a:=⟨S.a,2,none⟩) Bh).trans (Ad.out.frozen 2);apply zE4 undef (w7.setCell ⟨S.p,1,none⟩ (.slice (some ⟨gk,0,none⟩) (s.xH.length+1) cap)) rfl
    ·simp[xA,go_sem,y1,z1]
    (try simp only[Act.put,yD,yE,yF]);apply zE4 (.pointer (some ⟨S.a,0,none⟩)) (w7.setCell ⟨S.p,1,none⟩ (.slice (some ⟨gk,0,none⟩) (s.xH.length+1) cap)) rfl
    ·simp[xA,go_sem]
    (try simp only[Act.put,yD,yE,yF]);apply zE4 (.pointer (some ⟨S.a,2,none⟩)) (w7.setCell ⟨S.p,1,none⟩ (.slice (some ⟨gk,0,none⟩) (s.xH.length+1) cap)) rfl
    ·simp[xA,go_sem]
    (try simp only[Act.put,yD,yE,yF]);apply zE4 undef ((w7.setCell ⟨S.p,1,none⟩ (.slice (some ⟨gk,0,none⟩) (s.xH.length+1) cap)).setCell ⟨S.a,2,none⟩ (.slice (some ⟨gm,0,none⟩) (s.xH.length+1) AR)) rfl
    ·simp[xA,go_sem,y2,z2]
    (try simp only[Act.put,yD,yE,yF]);unfold zDo;go_end0;exact BX.out
end Go.Proofs.YtbadjmmjbpeocaaGreat
