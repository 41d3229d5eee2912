/- The reader of names while heads are read: its memory; head. (and what follows of it). The conditions stand at each lemma. -/
import Derived.Test.YtbadjmmjbpeocaaGreatKaa
import Derived.Test.YtbadjmmjbpeocaaGreatKam
import Derived.Test.YtbadjmmjbpeocaaGreatKak
import Derived.StillTailTactics
import Derived.Maps.OwnSet
set_option linter.unusedVariables false
set_option linter.unusedSimpArgs false
set_option maxRecDepth 100000
set_option maxHeartbeats 16000000
namespace Go.Proofs.YtbadjmmjbpeocaaGreat
open Go Go.RowKit
structure StH where
 a:Nat
 p:Nat
 bo:Nat
 co:Nat
 A:Option Addr
 ct:Nat
 l:List Tx
 mt:Nat
 B:Nat
structure DyH where
 At:Option Addr
 cT:Nat
 th:List Hd2
 Ac:Option Addr
 cc:Nat
 cm:List Nat
 Ap:Option Addr
 cP:Nat
def jB (S:StH)(R:DyH)(b:Nat):Prop:=b=S.a∨b=S.p∨b=S.bo∨b=S.mt∨R.At=some ⟨b,0,none⟩∨R.Ac=some ⟨b,0,none⟩∨R.Ap=some ⟨b,0,none⟩
def hp (l:List Np):List Pw:=l.map fun p=>(p,((none:Option Addr),0))
theorem zL8 (l:List Np):(hp l).length=l.length:=by simp[hp]
theorem zTg (l:List Np)(n:Bs):((hp l).findIdx? fun x=>x.1.name==n)=l.findIdx? fun x=>x.name==n:=by
 unfold hp;rw[List.findIdx?_map]
 rfl
structure NH (w:World)(S:StH)(s:Nr)(R:DyH):Prop where
 rd:Blk w S.a 115 #[.pointer (some ⟨S.p,0,none⟩),.map (some S.mt),.slice R.Ac s.xG.length R.cc,.pointer none,.slice none 0 0]
 pg:Blk w S.p 32 #[.slice S.A S.l.length S.ct,.slice R.At s.xG.length R.cT,.slice R.Ap s.procs.length R.cP,.slice (some ⟨S.bo,0,none⟩) S.l.length S.co]
 of:Blk w S.bo 3 (ofc s.of).toArray
 len:s.of.length=S.l.length
 tree:zAQ w (jB S R) S.A S.l
 zBP:w.ownsRow S.B 165 2 (.slice R.At s.xG.length R.cT) s.xG.length (VB s.xG R.th)
 thl:R.th.length=s.xG.length
 zHr:∀(k:Nat) (x:Nt) (h:Hd2),s.xG[k]?=some x→R.th[k]?=some h→XH w (jB S R) h.1 (strs x.zAX)
 zFs:w.ownsRow S.B 110 1 (.slice R.Ac s.xG.length R.cc) s.xG.length (YM R.cm)
 cml:R.cm.length=s.xG.length
 zEg:∀(k b:Nat) (x:Nt),s.xG[k]?=some x→R.cm[k]?=some b→zGW w (jB S R) b 64 fun n=>zBo (x.zAX.findIdx? fun c=>c==n)
 mt:MF Tryz.prog 9 w S.mt s.xG.length fun n=>zBo (s.xG.findIdx? fun x=>x.name==n)
 procs:w.ownsRow S.B 85 5 (.slice R.Ap s.procs.length R.cP) s.procs.length (zB4 (hp s.procs))
 zRu:s.xG.length≤64
 zQh:s.procs.length≤64
 zT:s.xG.length=0→R.cT=0
 zC:s.xG.length=0→R.cc=0
 zP:s.procs.length=0→R.cP=0
 low:S.B≤w.heap.size
section
variable {w:World} {S:StH} {s:Nr} {R:DyH}
theorem NH.ZX (h:NH w S s R){b:Nat}(hb:jB S R b):b<w.heap.size:=by
 rcases hb with rfl | rfl | rfl | rfl | hb | hb | hb
 ·exact h.rd.lt
 ·exact h.pg.lt
 ·exact h.of.lt
 ·exact h.mt.lt
 ·exact(jD h.zBP hb).2
 ·exact(jD h.zFs hb).2
 ·exact(jD h.procs hb).2
theorem NH.apart (h:NH w S s R):S.a≠S.p∧S.a≠S.bo∧S.p≠S.bo∧S.mt≠S.a∧S.mt≠S.p∧S.mt≠S.bo:=⟨Blk.differ h.rd h.pg (by decide),Blk.differ h.rd h.of (by decide),Blk.differ h.pg h.of (by decide),h.mt.ne h.rd,h.mt.ne h.pg,h.mt.ne h.of⟩
theorem NH.zD7 (h:NH w S s R):∀b,R.At=some ⟨b,0,none⟩→b≠S.a∧b≠S.p∧b≠S.bo∧b≠S.mt∧R.Ac≠some ⟨b,0,none⟩∧R.Ap≠some ⟨b,0,none⟩:=fun b e=>by
 obtain⟨cur,hc⟩:=xY h.zBP e;refine⟨Blk.differ hc h.rd (by decide),Blk.differ hc h.pg (by decide),Blk.differ hc h.of (by decide),Ne.symm (h.mt.ne hc),fun e2=>?_,fun e2=>?_⟩
 ·obtain⟨cur2,hc2⟩:=xY h.zFs e2;exact Blk.differ hc hc2 (by decide) rfl
 ·obtain⟨cur2,hc2⟩:=xY h.procs e2;exact Blk.differ hc hc2 (by decide) rfl
theorem NH.zEd (h:NH w S s R):∀b,R.Ac=some ⟨b,0,none⟩→b≠S.a∧b≠S.p∧b≠S.bo∧b≠S.mt∧R.Ap≠some ⟨b,0,none⟩:=fun b e=>by
 obtain⟨cur,hc⟩:=xY h.zFs e;refine⟨Blk.differ hc h.rd (by decide),Blk.differ hc h.pg (by decide),Blk.differ hc h.of (by decide),Ne.symm (h.mt.ne hc),fun e2=>?_⟩;obtain⟨cur2,hc2⟩:=xY h.procs e2;exact Blk.differ hc hc2 (by decide) rfl
theorem NH.zD2 (h:NH w S s R):∀b,R.Ap=some ⟨b,0,none⟩→b≠S.a∧b≠S.p∧b≠S.bo∧b≠S.mt:=fun b e=>by
 obtain⟨cur,hc⟩:=xY h.procs e;exact⟨Blk.differ hc h.rd (by decide),Blk.differ hc h.pg (by decide),Blk.differ hc h.of (by decide),Ne.symm (h.mt.ne hc)⟩
structure zUL (w':World)(S:StH)(s:Nr)(R:DyH)(G:Nat→Prop):Prop where
 rd:¬G S.a→Blk w' S.a 115 #[.pointer (some ⟨S.p,0,none⟩),.map (some S.mt),.slice R.Ac s.xG.length R.cc,.pointer none,.slice none 0 0]
 pg:¬G S.p→Blk w' S.p 32 #[.slice S.A S.l.length S.ct,.slice R.At s.xG.length R.cT,.slice R.Ap s.procs.length R.cP,.slice (some ⟨S.bo,0,none⟩) S.l.length S.co]
 of:¬G S.bo→Blk w' S.bo 3 (ofc s.of).toArray
 tree:zAQ w' (jB S R) S.A S.l
 zBP:(∀b,R.At=some ⟨b,0,none⟩→¬G b)→w'.ownsRow S.B 165 2 (.slice R.At s.xG.length R.cT) s.xG.length (VB s.xG R.th)
 zHr:∀(k:Nat) (x:Nt) (h:Hd2),s.xG[k]?=some x→R.th[k]?=some h→XH w' (jB S R) h.1 (strs x.zAX)
 zFs:(∀b,R.Ac=some ⟨b,0,none⟩→¬G b)→w'.ownsRow S.B 110 1 (.slice R.Ac s.xG.length R.cc) s.xG.length (YM R.cm)
 zEg:∀(k b:Nat) (x:Nt),s.xG[k]?=some x→R.cm[k]?=some b→zGW w' (jB S R) b 64 fun n=>zBo (x.zAX.findIdx? fun c=>c==n)
 mt:¬G S.mt→MF Tryz.prog 9 w' S.mt s.xG.length fun n=>zBo (s.xG.findIdx? fun x=>x.name==n)
 procs:(∀b,R.Ap=some ⟨b,0,none⟩→¬G b)→w'.ownsRow S.B 85 5 (.slice R.Ap s.procs.length R.cP) s.procs.length (zB4 (hp s.procs))
 low:S.B≤w'.heap.size
theorem NH.kept {w':World}(h:NH w S s R){G:Nat→Prop}(hM:∀g,G g→g<w.heap.size→jB S R g)(hg:xC w G w' G):zUL w' S s R G∧xC w (jB S R) w' (jB S R):=by
 have hm:xC w (jB S R) w' (jB S R):=⟨hg.os,hg.tape,hg.output,hg.size,fun b hb hn=>hg.jK b hb fun k=>hn (hM b k hb),fun b h=>.inl h⟩;exact⟨⟨fun hn=>(hg.jK _ h.rd.lt hn).trans h.rd,fun hn=>(hg.jK _ h.pg.lt hn).trans h.pg,fun hn=>(hg.jK _ h.of.lt hn).trans h.of,h.tree.xE hm,fun hn=>ZK h.zBP fun b e=>hg.jK b (jD h.zBP e).2 (hn b e),fun k x h0 h1 h2=>(h.zHr k x h0 h1 h2).xE hm,fun hn=>ZK h.zFs fun b e=>hg.jK b (jD h.zFs e).2 (hn b e),fun k b x h1 h2=>(h.zEg k b x h1 h2).xE hm,fun hn=>h.mt.jK (hg.jK _ h.mt.lt hn),fun hn=>ZK h.procs fun b e=>hg.jK b (jD h.procs e).2 (hn b e),Nat.le_trans h.low hg.size⟩,hm⟩
theorem NH.ext {w':World}(h:NH w S s R)(hx:Ext w w'):NH w' S s R:=by
 have k:=(h.kept (G:=fun _=>False) (fun g hg _=>hg.elim) (xC.ext hx)).1;exact⟨k.rd id,k.pg id,k.of id,h.len,k.tree,k.zBP fun _ _=>id,h.thl,k.zHr,k.zFs fun _ _=>id,h.cml,k.zEg,k.mt id,k.procs fun _ _=>id,h.zRu,h.zQh,h.zT,h.zC,h.zP,k.low⟩
theorem NH.setOf (h:NH w S s R)(i:Nat)(x:Int):NH (w.setCell ⟨S.bo,i,none⟩ (.int .i64 x)) S (s.set i x) R∧xC w (jB S R) (w.setCell ⟨S.bo,i,none⟩ (.int .i64 x)) (jB S R):=by
 obtain⟨k,hm⟩:=h.kept (G:=fun b=>b=S.bo) (fun g e _=>.inr (.inr (.inl e))) (JJ w S.bo i (.int .i64 x));obtain⟨n1,n2,n3,n4,n5,n6⟩:=h.apart;refine⟨⟨k.rd n2,k.pg n3,?_,by show(s.of.set i x).length=_; rw[zB]; exact h.len,k.tree,k.zBP fun b e=>(h.zD7 b e).2.2.1,h.thl,k.zHr,k.zFs fun b e=>(h.zEd b e).2.2.1,h.cml,k.zEg,k.mt n6,k.procs fun b e=>(h.zD2 b e).2.2.1,h.zRu,h.zQh,h.zT,h.zC,h.zP,k.low⟩,hm⟩
 have:=h.of.put i (.int .i64 x)
 rw[yD,zF7] at this;exact this
theorem NH.rds (h:NH w S s R):RdS w S.a S.p S.A S.ct S.l:=⟨h.rd.cell 0,h.pg.cell 0,h.tree.row.cells,h.rd.lt,h.pg.lt⟩
theorem NH.x1 (h:NH w S s R):w.cell? ⟨S.a,1,none⟩=some (.map (some S.mt)):=h.rd.cell 1
theorem NH.x2 (h:NH w S s R):w.cell? ⟨S.a,2,none⟩=some (.slice R.Ac s.xG.length R.cc):=h.rd.cell 2
theorem NH.p1 (h:NH w S s R):w.cell? ⟨S.p,1,none⟩=some (.slice R.At s.xG.length R.cT):=h.pg.cell 1
theorem NH.p2 (h:NH w S s R):w.cell? ⟨S.p,2,none⟩=some (.slice R.Ap s.procs.length R.cP):=h.pg.cell 2
theorem NH.p3 (h:NH w S s R):w.cell? ⟨S.p,3,none⟩=some (.slice (some ⟨S.bo,0,none⟩) S.l.length S.co):=h.pg.cell 3
theorem NH.zBR (h:NH w S s R)(i:Nat)(hi:i<S.l.length):w.cell? ⟨S.bo,i,none⟩=some (.int .i64 (zAL s i)):=by
 rw[h.of.cell i]
 show(ofc s.of).toArray[i]?=_
 rw[yL,zOC _ _ (by rw[h.len]; exact hi)]
 rfl
theorem NH.fresh (h:NH w S s R)(t:TypeId)(cs:Array Value):Safe (w.alloc (.cells cs t)) (jB S R) w.heap.size t cs:=⟨Blk.new _ _ _,fun hm=>by have:=h.ZX hm; omega⟩
theorem NH.zTV {w1:World}(h:NH w S s R)(hl:s.procs.length<64)(x:Np)(hxp:x.params=0)(hxv:x.vars=[])(hg1:w.grownBy w1 (Value.slice R.Ap s.procs.length R.cP).ownBlock)(A':Option Addr)(c':Nat)
  (ho1:w1.ownsRow S.B 85 5 (.slice A' (s.procs.length+1) c') (s.procs.length+1) (zB4 (hp s.procs)++prc (x,(none,0)))) (hn:∀b,A'=some ⟨b,0,none⟩→R.Ap=some ⟨b,0,none⟩∨w.heap.size≤b) :
  NH (w1.setCell ⟨S.p,2,none⟩ (.slice A' (s.procs.length+1) c')) S { s with procs:=s.procs++[x] } { R with Ap:=A',cP:=c' } ∧
  xC w (jB S R) (w1.setCell ⟨S.p,2,none⟩ (.slice A' (s.procs.length+1) c')) (jB S { R with Ap:=A',cP:=c' }):=by
 obtain⟨G,hG⟩:∃G:Nat→Prop,G=fun b=>R.Ap=some ⟨b,0,none⟩∨b=S.p:=⟨_,rfl⟩
 have m1:xC w G w1 G:=xC.grown hg1 fun g e=>by rw[hG]; exact .inl (xO h.procs e)
 have m2:=(JJ w1 S.p 2 (.slice A' (s.procs.length+1) c')).zFM (G':=G) fun b e=>by rw[hG]; exact .inr e
 have hGM:∀g,G g→g<w.heap.size→jB S R g:=fun g hg _=>by
  rw[hG] at hg
  rcases hg with e | e
  ·exact .inr (.inr (.inr (.inr (.inr (.inr e)))))
  ·exact .inr (.inl e)
 obtain⟨k,hm⟩:=h.kept hGM (m1.trans m2);obtain⟨n1,n2,n3,n4,n5,n6⟩:=h.apart
 have hmv:xC w (jB S R) (w1.setCell ⟨S.p,2,none⟩ (.slice A' (s.procs.length+1) c')) (jB S { R with Ap:=A',cP:=c' }):=hm.less fun b hb=>by
  rcases hb with e | e | e | e | e | e | e
  ·exact .inl (.inl e)
  ·exact .inl (.inr (.inl e))
  ·exact .inl (.inr (.inr (.inl e)))
  ·exact .inl (.inr (.inr (.inr (.inl e))))
  ·exact .inl (.inr (.inr (.inr (.inr (.inl e)))))
  ·exact .inl (.inr (.inr (.inr (.inr (.inr (.inl e))))))
  ·rcases hn b e with e | e
   ·exact .inl (.inr (.inr (.inr (.inr (.inr (.inr e))))))
   ·exact .inr e
 have hG1:∀ {b:Nat},b≠S.p→R.Ap≠some ⟨b,0,none⟩→¬G b:=fun h1 h2 hg=>by
  rw[hG] at hg
  rcases hg with e | e
  ·exact h2 e
  ·exact h1 e
 have hpg1:Blk w1 S.p 32 _:=h.pg.grown hg1 fun e=>(h.zD2 _ (xO h.procs e.symm)).2.1 rfl
 have hA0:∀b,A'=some ⟨b,0,none⟩→b≠S.p:=fun b e=>by
  obtain⟨cur,hc⟩:=xY ho1 e;exact Blk.differ hc hpg1 (by decide)
 refine⟨⟨k.rd (hG1 n1 fun e=>(h.zD2 _ e).1 rfl),?_,k.of (hG1 (Ne.symm n3) fun e=>(h.zD2 _ e).2.2.1 rfl),h.len,h.tree.xE hmv,k.zBP fun b e=>hG1 (h.zD7 b e).2.1 (h.zD7 b e).2.2.2.2.2,h.thl,fun i y h0 h1 h2=>(h.zHr i y h0 h1 h2).xE hmv,k.zFs fun b e=>hG1 (h.zEd b e).2.1 (h.zEd b e).2.2.2.2,h.cml,fun i b y h1 h2=>(h.zEg i b y h1 h2).xE hmv,k.mt (hG1 n5 fun e=>(h.zD2 _ e).2.2.2 rfl),?_,h.zRu,by simp; omega,h.zT,h.zC,fun h=>by simp at h,k.low⟩,hmv⟩
 ·have:=hpg1.put 2 (.slice A' (s.procs.length+1) c')
  simpa using this
 ·have:=ZK (w':=w1.setCell ⟨S.p,2,none⟩ (.slice A' (s.procs.length+1) c')) ho1 fun b e=>zS w1 ⟨S.p,2,none⟩ _ b (hA0 b e)
  rw[show zB4 (hp (s.procs++[x]))=zB4 (hp s.procs)++prc (x,(none,0)) by unfold hp; rw[List.map_append]; exact zQW _ _]
  simpa using this
end
def zDV (w:World)(S:StH)(R:DyH)(r:YU Nr)(e:Ending)(w':World):Prop:=
 match r with
 | .ok s'=>e=.returned (.tuple #[])∧∃R',NH w' S s' R'∧xC w (jB S R) w' (jB S R')
 | .err i er=>e=XJ (YQ S.l i) er∧i<S.l.length∧∃M',xC w (jB S R) w' M'
theorem zDV.err {w w':World}{S:StH}{R:DyH}{r:YU Nr}{i:Nat}{er:Int}(hr:r=.err i er)(hi:i<S.l.length)(hx:xC w (jB S R) w' (jB S R)):zDV w S R r (XJ (YQ S.l i) er) w':=by
 rw[hr];exact⟨rfl,hi,_,hx⟩
theorem zRW:(Tryz.prog.info? 85).map (fun i=>(i.zero,i.size,i.bytes))=some (some (.agg #[.string ⟨#[]⟩,.int .i64 0,.slice none 0 0,.bool false,.int .i64 0]),5,64):=by kernel_rfl
theorem zS4 (o:Option Nat):(decide (zHy o<0)) = !o.isSome:=by
 cases o with
 | none=>rfl
 | some k=>exact yR (by show ¬(k:Int)<0; omega)
theorem zQS (w:World)(S:StH)(s:Nr)(R:DyH)(i:Nat)(h:NH w S s R)(hi:i<S.l.length) :
  Calls Tryz.prog 50 #[.pointer (some ⟨S.a,0,none⟩),.int .i64 (i:Int)] w (zDV w S R (zB2 (tN S.l) i s)):=by
 have HNB:=yG h;have HIL:=yG hi;have HTX:Hid ((xB (tN S.l) i).text.length≤maxLen):=yG (h.tree.txt i);have HHD:Hid (zB2 (tN S.l) i s=if (zC2 s (xB (tN S.l) i).text).isSome=true then .err i 71 else if s.procs.length<64 then .ok { s.set i s.procs.length with procs:=s.procs++[⟨(xB (tN S.l) i).text,0,[],(xB (tN S.l) i).num==1,i⟩] } else .err i 3):=yG rfl;clear h hi
 go_enter Tryz.func50,Tryz.ntmps50
 go_wp2_with fail
 refine(vW w S.a S.p S.A S.ct S.l i HNB.out.rds HIL.out).mono ?_;rintro e w1 ⟨rfl,hx1⟩;obtain⟨W2,HW2⟩:∃W2,Hid (w1.alloc (.cells (vT S.l i) 38)=W2):=⟨_,yG rfl⟩;obtain⟨g,HG⟩:∃g,Hid (w1.heap.size=g):=⟨_,yG rfl⟩;have HN1:=yG (HNB.out.ext hx1);have HFR:Hid (Safe W2 (jB S R) g 38 (vT S.l i)):=yG (by rw[←HW2.out,←HG.out]; exact HN1.out.fresh 38 (vT S.l i));have HX2:Hid (Ext w W2):=yG (by rw[←HW2.out]; exact hx1.trans (Ext.alloc _ _));have HN2:=yG (HNB.out.ext HX2.out);clear hx1;unfold vT at *;obtain⟨nt,HNT⟩:∃nt,Hid ((xB (tN S.l) i).text=nt):=⟨_,yG rfl⟩;obtain⟨nn,HNN⟩:∃nn,Hid ((xB (tN S.l) i).num=nn):=⟨_,yG rfl⟩;rw[HNT.out,HNN.out] at HW2 HFR HHD;rw[HNT.out] at HTX;rw[HNT.out,HNN.out]
 go_upto_region 1 with fail
 rw[HW2.out,HG.out];clear HW2;have c2:W2.cell? ⟨g,2,none⟩=some (.string (xH nt)):=HFR.out.1.cell 2;have gl:=HFR.out.1.lt;have r0:=HN2.out.rds.r0;have al:=HN2.out.rds.al;have pl:=HN2.out.rds.pl;have y0:=HN2.out.rds.p0;have y1:=HN2.out.p1;have y2:=HN2.out.p2;have y3:=HN2.out.p3;obtain⟨b,HBB⟩:∃b,Hid ((!(zC2 s nt).isSome)=b):=⟨_,yG rfl⟩
 have HFD:Hid (∀w',Ext W2 w'→Calls Tryz.prog 84 #[.agg #[.slice S.A S.l.length S.ct,.slice R.At s.xG.length R.cT,.slice R.Ap s.procs.length R.cP,.slice (some ⟨S.bo,0,none⟩) S.l.length S.co],.string (xH nt)] w' fun e w2=>e=.returned (.int .i64 (zHy (zC2 s nt)))∧Ext w' w2):=yG fun w' hx=>by
  have hn:=HN2.out.ext hx;have hl:(hp s.procs).length=s.procs.length:=zL8 _
  have:=zRa w' (.slice S.A S.l.length S.ct) (.slice R.At s.xG.length R.cT) (.slice (some ⟨S.bo,0,none⟩) S.l.length S.co) ⟨_,_,_,rfl⟩ ⟨_,_,_,rfl⟩ ⟨_,_,_,rfl⟩ nt R.Ap (hp s.procs) R.cP (by rw[hl]; have:=hn.zQh; omega) (by
   have ho:=hn.procs
   rcases zAN ho with e | ⟨bb,e⟩
   ·left
    rw[e] at ho
    rcases ho.2 with ⟨_,h0⟩ | ⟨_,_,_,hv,_⟩
    ·rw[List.eq_nil_of_length_eq_zero h0]; rfl
    ·cases hv
   ·right
    refine⟨bb,0,e,(jD ho e).2,fun k hk=>?_⟩;rw[Nat.zero_add];rw[e] at ho
    exact ho.cellAt k (by rw[zEx,hl] at hk; exact hk))
  rw[hl,zTg] at this;exact this
 have hdb:decide (zHy (zC2 s nt)<0)=b:=by rw[zS4]; exact HBB.out
 apply xS 12 (by kernel_rfl) (by kernel_rfl) (by kernel_rfl);dsimp only[List.take_succ_cons,List.take_zero,List.drop_succ_cons,List.drop_zero];apply yZ (.pointer (some ⟨S.a,0,none⟩)) rfl rfl rfl
 ·intro w' hw' hH;clear hH;simp[xA,go_sem];exact Ext.refl _
 simp only[Act.put,yD,yE,yF];apply yZ (.pointer (some ⟨S.a,0,none⟩)) rfl rfl rfl
 ·intro w' hw' hH;clear hH;simp[xA,go_sem];exact Ext.refl _
 simp only[Act.put,yD,yE,yF];apply yZ (.pointer (some ⟨S.a,0,none⟩)) rfl rfl rfl
 ·intro w' hw' hH;clear hH;simp[xA,go_sem];exact Ext.refl _
 simp only[Act.put,yD,yE,yF];apply yZ (.pointer (some ⟨S.a,0,none⟩)) rfl rfl rfl
 ·intro w' hw' hH;clear hH;simp[xA,go_sem];exact Ext.refl _
 simp only[Act.put,yD,yE,yF];apply yZ (.pointer (some ⟨S.p,0,none⟩)) rfl rfl rfl
 ·intro w' hw' hH;have cc:=(hw'.cell (p:=⟨S.a,0,none⟩) al).trans r0;clear hH;simp[xA,go_sem,cc];exact Ext.refl _
 simp only[Act.put,yD,yE,yF];apply yZ (.pointer (some ⟨S.p,0,none⟩)) rfl rfl rfl
 ·intro w' hw' hH;clear hH;simp[xA,go_sem];exact Ext.refl _
 simp only[Act.put,yD,yE,yF];apply yZ (.agg #[.slice S.A S.l.length S.ct,.slice R.At s.xG.length R.cT,.slice R.Ap s.procs.length R.cP,.slice (some ⟨S.bo,0,none⟩) S.l.length S.co]) rfl rfl rfl
 ·intro w' hw' hH;have d0:=(hw'.cell (p:=⟨S.p,0,none⟩) pl).trans y0;have d1:=(hw'.cell (p:=⟨S.p,1,none⟩) pl).trans y1;have d2:=(hw'.cell (p:=⟨S.p,2,none⟩) pl).trans y2;have d3:=(hw'.cell (p:=⟨S.p,3,none⟩) pl).trans y3;clear hH;simp[xA,go_sem,d0,d1,d2,d3];exact Ext.refl _
 simp only[Act.put,yD,yE,yF];apply yZ (.pointer (some ⟨g,2,none⟩)) rfl rfl rfl
 ·intro w' hw' hH;clear hH;simp[xA,go_sem];exact Ext.refl _
 simp only[Act.put,yD,yE,yF];apply yZ (.string (xH nt)) rfl rfl rfl
 ·intro w' hw' hH;have cc:=(hw'.cell (p:=⟨g,2,none⟩) gl).trans c2;clear hH;simp[xA,go_sem,cc];exact Ext.refl _
 simp only[Act.put,yD,yE,yF];apply yZ (.int .i64 (zHy (zC2 s nt))) rfl rfl rfl
 ·intro w' hw' hH;clear hH;simp[xA,go_sem];refine(HFD.out w' hw').mono ?_;rintro e w2 ⟨rfl,hx⟩;exact⟨_,rfl,rfl,hx⟩
 simp only[Act.put,yD,yE,yF];apply yZ (.bool b) rfl rfl rfl
 ·intro w' hw' hH;clear hH;simp[xA,go_sem,hdb];exact Ext.refl _
 simp only[Act.put,yD,yE,yF];apply yZ (.int .i64 (i:Int)) rfl rfl rfl
 ·intro w' hw' hH;clear hH;simp[xA,go_sem];exact Ext.refl _
 simp only[Act.put,yD,yE,yF];apply xX;intro w3 hx3 hH;clear hH c2 gl r0 al pl y0 y1 y2 y3 hdb;simp only[Act.put,yD,yE,yF,List.drop_succ_cons,List.drop_zero];have HX3:=yG (HX2.out.trans hx3);have HN3:=yG (HN2.out.ext hx3);have HF3:=yG (HFR.out.xE (xC.ext (M:=jB S R) hx3));clear hx3
 go_wp2_with fail
 cases b with
 | false=>
  have HR:Hid (zB2 (tN S.l) i s=.err i 71):=yG (by rw[HHD.out,if_pos (by have:=HBB.out; simpa using this)]);refine(JS w3 S.a S.p S.A S.ct S.l i 71 HN3.out.rds HIL.out).mono ?_;rintro e w4 ⟨rfl,rfl⟩;exact xJ (P:=Tryz.prog) (fn:=Tryz.f50) rfl (zDV.err HR.out HIL.out (xC.ext HX3.out))
 | true=>
  have HHD2:Hid (zB2 (tN S.l) i s=if s.procs.length<64 then .ok { s.set i s.procs.length with procs:=s.procs++[⟨nt,0,[],nn==1,i⟩] } else .err i 3):=yG (by rw[HHD.out,if_neg (by have:=HBB.out; simpa using this)]);refine(XG w3 (.pointer (some ⟨S.a,0,none⟩)) (i:Int) 71).mono ?_;rintro e w4 ⟨rfl,rfl⟩;have r0:=HN3.out.rds.r0;have p2:=HN3.out.p2
  by_cases hl:s.procs.length<64
  ·have HL:=yG hl;have HR:Hid (zB2 (tN S.l) i s=.ok { s.set i s.procs.length with procs:=s.procs++[⟨nt,0,[],nn==1,i⟩] }):=yG (by rw[HHD2.out,if_pos hl]);have hq1:decide ((s.procs.length:Int)<64)=true:=yS (by omega);clear hl
   go_wp2_with fail
   refine(XG w3 (.pointer (some ⟨S.a,0,none⟩)) (i:Int) 3).mono ?_;rintro e w4 ⟨rfl,rfl⟩;have al:=HN3.out.rds.al;have pl:=HN3.out.rds.pl;have p3:=HN3.out.p3
   have q0:(i:Int)<(S.l.length:Int):=by have:=HIL.out; omega
   clear hq1
   go_upto_region 3 with fail
   go_still_tail 17,(by kernel_rfl)
   change wpList _ _ _ _ _ (World.drew w3)
   have hx5:Ext w3 (World.drew w3):=Below.drew (Below.refl _ _);generalize World.drew w3=w5 at *;clear r0 p2 al pl p3;have HN5:=yG (HN3.out.ext hx5);have HF5:=yG (HF3.out.xE (xC.ext (M:=jB S R) hx5));have HX5:=yG (HX3.out.trans hx5);clear hx5;have co:=HN5.out.zBR i HIL.out;have cz:=HN5.out.of.frozen i;have HSET:=yG (HN5.out.setOf i (s.procs.length:Int))
   go_upto_region 4 with fail
   clear co cz q0;have HF6:=yG (HF5.out.xE HSET.out.2);generalize w5.setCell ⟨S.bo,i,none⟩ (.int .i64 (s.procs.length:Int))=W at *;have HM6:=yG ((xC.ext (M:=jB S R) HX5.out).trans HSET.out.2);have HN6:=yG HSET.out.1;clear HSET;obtain⟨i0,hi0,hz0,hz1,hz2⟩:=info_parts zRW;obtain⟨o,HO⟩:∃o,Hid ((Value.slice R.Ap s.procs.length R.cP).ownBlock=o):=⟨_,yG rfl⟩
   have HAN:Hid (some S.a≠o):=yG fun e=>by
    rw[←HO.out] at e;exact(HN6.out.zD2 _ (xO HN6.out.procs e.symm)).1 rfl
   have HPN:Hid (some S.p≠o):=yG fun e=>by
    rw[←HO.out] at e;exact(HN6.out.zD2 _ (xO HN6.out.procs e.symm)).2.1 rfl
   have HGN:Hid (some g≠o):=yG fun e=>by
    rw[←HO.out] at e;exact HF6.out.2 (.inr (.inr (.inr (.inr (.inr (.inr (xO HN6.out.procs e.symm)))))))
   have HOG:Hid (∀g,o=some g→g<W.heap.size):=yG fun g e=>by
    rw[←HO.out] at e;exact(jD HN6.out.procs (xO HN6.out.procs e)).2
   have al:=HN6.out.rds.al;have pl:=HN6.out.rds.pl;have gl:=HF6.out.1.lt;have r0:=HN6.out.rds.r0;have p2:W.cell? ⟨S.p,2,none⟩=some (.slice R.Ap s.procs.length R.cP):=HN6.out.p2;have c2:W.cell? ⟨g,2,none⟩=some (.string (xH nt)):=HF6.out.1.cell 2;have c3:W.cell? ⟨g,3,none⟩=some (.int .i64 nn):=HF6.out.1.cell 3;obtain⟨sg,HSG⟩:∃sg,Hid ((nn==1)=sg):=⟨_,yG rfl⟩;have hsg:(nn==1)=sg:=HSG.out;have HBW:Hid (S.B≤W.heap.size):=yG HN6.out.low;have HKR:Hid (zAf S.B 85 s.procs.length (zB4 (hp s.procs)) (.slice R.Ap s.procs.length R.cP) W):=yG ⟨HN6.out.procs,R.Ap,R.cP,rfl,(fun e=>by have hv:=HN6.out.procs; rw[e] at hv; rcases hv.2 with ⟨hv,_⟩ | ⟨g,_,_,hv,_⟩; (injection hv); (cases hv)),HN6.out.zP⟩;obtain⟨Fs,HFS⟩:∃Fs,Hid (FsK S.B 85 (.slice R.Ap s.procs.length R.cP) W.heap.size s.procs.length (zB4 (hp s.procs)) [Value.string (xH nt),Value.int .i64 0,Value.slice none 0 0,Value.bool sg,Value.int .i64 (i:Int)]=Fs):=⟨_,yG rfl⟩
   have hE:∀F ∈ Fs,∀v w w',F v w→Ext w w'→F v w':=by rw[←HFS.out]; exact zHC _ _ _ _ _ _ _
   have m0:(fun (_:Value) w=>zAf S.B 85 s.procs.length (zB4 (hp s.procs)) (.slice R.Ap s.procs.length R.cP) w) ∈ Fs:=by rw[←HFS.out]; simp only[FsK,zU,true_or]
   have m1:zBe 85 W.heap.size #[Value.string (xH nt),Value.int .i64 0,Value.slice none 0 0,Value.bool sg,Value.int .i64 (i:Int)] ∈ Fs:=by rw[←HFS.out]; simp only[FsK,zU,true_or,or_true]
   have m2:zMR S.B 85 o W.heap.size (s.procs.length+1) (zB4 (hp s.procs)++[Value.string (xH nt),Value.int .i64 0,Value.slice none 0 0,Value.bool sg,Value.int .i64 (i:Int)]) ∈ Fs:=by rw[←HFS.out,←HO.out]; simp only[FsK,zU,true_or,or_true]
   have HE2:=yG hE;have M0:=yG m0;have M1:=yG m1;have M2:=yG m2;clear hE m0 m1 m2;apply zA8 o Fs 22 (by kernel_rfl) (by kernel_rfl) (by kernel_rfl) HE2.out;dsimp only[List.take_succ_cons,List.take_zero,List.drop_succ_cons,List.drop_zero];apply yZ (.pointer (some ⟨S.a,0,none⟩)) rfl rfl rfl
   ·intro w' hw' hH;clear hH;simp[xA,go_sem];exact vG.refl _
   simp only[Act.put,yD,yE,yF];apply yZ (.pointer (some ⟨S.a,0,none⟩)) rfl rfl rfl
   ·intro w' hw' hH;clear hH;simp[xA,go_sem];exact vG.refl _
   simp only[Act.put,yD,yE,yF];apply yZ (.pointer (some ⟨S.a,0,none⟩)) rfl rfl rfl
   ·intro w' hw' hH;clear hH;simp[xA,go_sem];exact vG.refl _
   simp only[Act.put,yD,yE,yF];apply yZ (.pointer (some ⟨S.p,0,none⟩)) rfl rfl rfl
   ·intro w' hw' hH;have hR:=vG.refl (o:=o) (Fs:=Fs) w';have cc:=(World.cell?_of_block (w:=W) (a:=⟨S.a,0,none⟩) (hw'.1.block S.a al HAN.out)).trans r0;clear hH;simp[xA,go_sem,cc];exact hR
   simp only[Act.put,yD,yE,yF];apply yZ (.pointer (some ⟨S.a,0,none⟩)) rfl rfl rfl
   ·intro w' hw' hH;clear hH;simp[xA,go_sem];exact vG.refl _
   simp only[Act.put,yD,yE,yF];apply yZ (.pointer (some ⟨S.a,0,none⟩)) rfl rfl rfl
   ·intro w' hw' hH;clear hH;simp[xA,go_sem];exact vG.refl _
   simp only[Act.put,yD,yE,yF];apply yZ (.pointer (some ⟨S.a,0,none⟩)) rfl rfl rfl
   ·intro w' hw' hH;clear hH;simp[xA,go_sem];exact vG.refl _
   simp only[Act.put,yD,yE,yF];apply yZ (.pointer (some ⟨S.p,0,none⟩)) rfl rfl rfl
   ·intro w' hw' hH;have hR:=vG.refl (o:=o) (Fs:=Fs) w';have cc:=(World.cell?_of_block (w:=W) (a:=⟨S.a,0,none⟩) (hw'.1.block S.a al HAN.out)).trans r0;clear hH;simp[xA,go_sem,cc];exact hR
   simp only[Act.put,yD,yE,yF];apply yZ (.pointer (some ⟨S.p,0,none⟩)) rfl rfl rfl
   ·intro w' hw' hH;clear hH;simp[xA,go_sem];exact vG.refl _
   simp only[Act.put,yD,yE,yF];apply yZ (.pointer (some ⟨S.p,2,none⟩)) rfl rfl rfl
   ·intro w' hw' hH;clear hH;simp[xA,go_sem];exact vG.refl _
   simp only[Act.put,yD,yE,yF];apply yZ (.slice R.Ap s.procs.length R.cP) rfl rfl rfl
   ·intro w' hw' hH;have hR:=vG.refl (o:=o) (Fs:=Fs) w';have cc:=(World.cell?_of_block (w:=W) (a:=⟨S.p,2,none⟩) (hw'.1.block S.p pl HPN.out)).trans p2;clear hH;simp[xA,go_sem,cc];exact hR
   simp only[Act.put,yD,yE,yF];apply yZ (.pointer (some ⟨g,2,none⟩)) rfl rfl rfl
   ·intro w' hw' hH;clear hH;simp[xA,go_sem];exact vG.refl _
   simp only[Act.put,yD,yE,yF];apply yZ (.string (xH nt)) rfl rfl rfl
   ·intro w' hw' hH;have hR:=vG.refl (o:=o) (Fs:=Fs) w';have cc:=(World.cell?_of_block (w:=W) (a:=⟨g,2,none⟩) (hw'.1.block g gl HGN.out)).trans c2;clear hH;simp[xA,go_sem,cc];exact hR
   simp only[Act.put,yD,yE,yF];apply yZ (.pointer (some ⟨g,3,none⟩)) rfl rfl rfl
   ·intro w' hw' hH;clear hH;simp[xA,go_sem];exact vG.refl _
   simp only[Act.put,yD,yE,yF];apply yZ (.int .i64 nn) rfl rfl rfl
   ·intro w' hw' hH;have hR:=vG.refl (o:=o) (Fs:=Fs) w';have cc:=(World.cell?_of_block (w:=W) (a:=⟨g,3,none⟩) (hw'.1.block g gl HGN.out)).trans c3;clear hH;simp[xA,go_sem,cc];exact hR
   simp only[Act.put,yD,yE,yF];apply yZ (.bool sg) rfl rfl rfl
   ·intro w' hw' hH;clear hH;simp[xA,go_sem,hsg];exact vG.refl _
   simp only[Act.put,yD,yE,yF];apply yZ (.int .i64 (i:Int)) rfl rfl rfl
   ·intro w' hw' hH;clear hH;simp[xA,go_sem];exact vG.refl _
   simp only[Act.put,yD,yE,yF];apply yZ (.agg #[Value.string (xH nt),Value.int .i64 0,Value.slice none 0 0,Value.bool sg,Value.int .i64 (i:Int)]) rfl rfl rfl
   ·intro w' hw' hH;clear hH;simp[xA,go_sem];exact vG.refl _
   simp only[Act.put,yD,yE,yF];apply vB (zBe 85 W.heap.size #[Value.string (xH nt),Value.int .i64 0,Value.slice none 0 0,Value.bool sg,Value.int .i64 (i:Int)]) (fun v w w' h hx=>hx.2 _ M1.out v h) rfl rfl rfl
   ·intro w' hw' hH;have hz:=hw'.1.size;clear hH hw';simp[xA,go_sem];exact⟨⟨_,rfl,Blk.new _ _ _,hz⟩,vG.ext HE2.out (Ext.alloc _ _)⟩
   intro v68;simp only[Act.put,yD,yE,yF];apply vB (zMR S.B 85 o W.heap.size (s.procs.length+1) (zB4 (hp s.procs)++[Value.string (xH nt),Value.int .i64 0,Value.slice none 0 0,Value.bool sg,Value.int .i64 (i:Int)])) (fun v w w' h hx=>hx.2 _ M2.out v h) rfl rfl rfl
   ·intro w' hw' hH;have hlit:=hH _ (List.mem_cons_self ..) ⟨_,rfl,by decide⟩;have hrow:=hw'.2 _ M0.out undef HKR.out;have hz:=hw'.1.size;clear hH hw';rw[←HFS.out,←HO.out];exact zEs S.B W.heap.size (.tmp 60) (.tmp 68) 29 rfl 85 i0 _ 64 Tryz.underlying29 hi0 hz0 hz1 hz2 rfl (.slice R.Ap s.procs.length R.cP) s.procs.length (zB4 (hp s.procs)) [Value.string (xH nt),Value.int .i64 0,Value.slice none 0 0,Value.bool sg,Value.int .i64 (i:Int)] (by kernel_rfl) hrow v68 (by kernel_rfl) hlit rfl (by simp[Value.oneCell']) (by unfold maxLen; have:=HL.out; omega) (by have:=HL.out; omega) (Nat.le_trans HBW.out hz) hz (fun g e=>HOG.out g (by rw[←HO.out]; exact e))
   intro v69;simp only[Act.put,yD,yE,yF];apply yZ (.pointer (some ⟨S.p,0,none⟩)) rfl rfl rfl
   ·intro w' hw' hH;clear hH;simp[xA,go_sem];exact vG.refl _
   simp only[Act.put,yD,yE,yF];apply yZ (.pointer (some ⟨S.p,2,none⟩)) rfl rfl rfl
   ·intro w' hw' hH;clear hH;simp[xA,go_sem];exact vG.refl _
   simp only[Act.put,yD,yE,yF];apply xX;intro w7 hw7 hH;have h69:=hH _ (List.mem_cons_self ..);clear hH;obtain⟨gk,cap,rfl⟩:=h69.1.at;have hgr:=hw7.1;rw[←HO.out] at hgr
   have HFIN:Hid (zDV w S R (zB2 (tN S.l) i s) (.returned (.tuple #[])) (w7.setCell ⟨S.p,2,none⟩ (.slice (some ⟨gk,0,none⟩) (s.procs.length+1) cap))):=yG (by
    have ha:=HN6.out.zTV HL.out ⟨nt,0,[],nn==1,i⟩ rfl rfl hgr (some ⟨gk,0,none⟩) cap (by rw[show prc ((⟨nt,0,[],nn==1,i⟩:Np),((none:Option Addr),0))=[Value.string (xH nt),Value.int .i64 0,Value.slice none 0 0,Value.bool sg,Value.int .i64 (i:Int)] by unfold prc; rw[HSG.out]; rfl]; exact h69.1.1) (fun b e=>by
     injection e with e;injection e with e;subst e
     rcases h69.2 with e | ⟨g',e,hg'⟩
     ·left
      rw[←HO.out] at e;exact xO HN6.out.procs e.symm
     ·right
      have:gk=g':=by simpa [Value.ownBlock] using e
      omega)
    rw[HR.out]
    exact⟨rfl,_,ha.1,HM6.out.trans ha.2⟩)
   have y2:w7.cell? ⟨S.p,2,none⟩=some (.slice R.Ap s.procs.length R.cP):=(World.cell?_of_block (w:=W) (a:=⟨S.p,2,none⟩) (hw7.1.block S.p pl HPN.out)).trans p2;have z2:w7.frozen? ⟨S.p,2,none⟩=false:=(World.frozen?_of_block (w:=W) (a:=⟨S.p,2,none⟩) (hw7.1.block S.p pl HPN.out)).trans (HN6.out.pg.frozen 2);clear h69 hgr hw7
   try simp only[Act.put,yD,yE,yF]
   go_wp2_with fail
   go_end0;exact HFIN.out
  ·have HR:Hid (zB2 (tN S.l) i s=.err i 3):=yG (by rw[HHD2.out,if_neg hl]);have hq1:decide ((s.procs.length:Int)<64)=false:=yR (by omega);clear hl
   go_wp2_with fail
   refine(JS w3 S.a S.p S.A S.ct S.l i 3 HN3.out.rds HIL.out).mono ?_;rintro e w4 ⟨rfl,rfl⟩;exact xJ (P:=Tryz.prog) (fn:=Tryz.f50) rfl (zDV.err HR.out HIL.out (xC.ext HX3.out))
section
variable {P:Program} {kt:TypeId} {w:World} {b n:Nat} {f:Bs→Option Value}
theorem zFL (es:Array MapEntry)(clock:Nat)(h:∀x ∈ es.toList,x.born<clock)(x:MapEntry)(hx:x.born=clock):(es.push x).findIdx? (fun e=>(e.born:Int)==(clock:Int))=some es.size:=by
 rw[Array.findIdx?_push]
 have:es.findIdx? (fun e=>(e.born:Int)==(clock:Int))=none:=by
  rw[Array.findIdx?_eq_none_iff];intro y hy
  have:=h y (by simpa using hy)
  rw[yI];omega
 rw[this];simp[hx]
theorem MF.entry {t e:TypeId}(h:MF P kt w b n f)(hk:P.underlying kt=some .string)(ht:P.underlying t=some (.map kt e))(hn:n<maxLen){z:Value}(hz:∀w,(zeroValue e).run P w=.ok z w)(k:Bs)(hl:k.length≤maxLen)(hf:f k=none) :
  ∃(es:Array MapEntry) (clock:Nat),w.heap[b]?=some (.map es clock) ∧
   (Instr.mapEntry t (.map (some b)) (.string (xH k))).run P w=.ok (.tuple #[z,.int .i64 (clock:Int)]) { w with heap:=w.heap.setIfInBounds b (.map (es.push { key:=.string (xH k),val:=z,born:=clock }) (clock+1)) } ∧
   ∀(v:Value) (w2:World),w2.heap[b]?=some (.map (es.push { key:=.string (xH k),val:=z,born:=clock }) (clock+1)) →
    ∃w3,(Instr.entryStore t (.map (some b)) (.int .i64 (clock:Int)) v).run P w2=.ok () w3∧w2.grownBy w3 (some b)∧w3.heap.size=w2.heap.size∧MF P kt w3 b (n+1) (fun y=>if y=k then some v else f y):=by
 have hkey:keyOf P kt (.string (xH k))=some (.string k):=WideMaps.keyOf_string_mk hk (s:=xH k) hl;have K:=Maps.string_keyed hk;have h0:=h;obtain⟨D,⟨es,clock,hb,F,hs,rfl⟩,h2,h3⟩:=h;have hlook:=h0.get hk ht (hz w) k hl;rw[hf] at hlook;simp only[Option.getD_none,Option.isSome_none] at hlook
 rcases K.find w hkey es.toList F.keys with ⟨g1,g2⟩ | ⟨j,e0,g1,g2,g3⟩
 ·refine⟨es,clock,hb,?_,fun v w2 hw2=>?_⟩
  ·simp[Instr.mapEntry,run_underlying ht,MapKept.run_getObj_map hb,K.check w false hkey,g1,hz w,MapKept.run_setObj_map _ hb,Result.andThen,goInt]
  ·obtain⟨w',hrun,r1,r2,r3⟩:=h0.put hk ht hn k hl v
   have hmu:(Instr.mapUpdate t (.map (some b)) (.string (xH k)) v).run P w=.ok () { w with heap:=w.heap.setIfInBounds b (.map (es.push { key:=.string (xH k),val:=v,born:=clock }) (clock+1)) }:=by
    simp[Instr.mapUpdate,run_underlying ht,MapKept.run_getObj_map hb,K.check w false hkey,g1,MapKept.run_setObj_map _ hb,Result.andThen]
   rw[hmu] at hrun;injection hrun with _ hrun
   have hwb:w'.heap[b]?=some (.map (es.push { key:=.string (xH k),val:=v,born:=clock }) (clock+1)):=by
    rw[←hrun];exact(MapKept.heap_set hb).1
   refine⟨{ w2 with heap:=w2.heap.setIfInBounds b (.map (es.push { key:=.string (xH k),val:=v,born:=clock }) (clock+1)) },?_,⟨rfl,rfl,rfl,by simp,fun k' _ hk'=>(MapKept.heap_set hw2).2 k' fun e=>hk' (by rw[e])⟩,by simp,r1.jK ((MapKept.heap_set hw2).1.trans hwb.symm)⟩;have hfi:=zFL es clock F.stamped.1 { key:=.string (xH k),val:=z,born:=clock } rfl
   have hmod:(es.push { key:=.string (xH k),val:=z,born:=clock }).modify es.size (fun e=>{ e with val:=v })=es.push { key:=.string (xH k),val:=v,born:=clock }:=by
    apply Array.ext
    ·simp
    ·intro i h1 h2;simp only[Array.size_modify,Array.size_push] at h1;rw[Array.getElem_modify]
     split
     ·rename_i e;subst e
      simp
     ·rename_i e
      have:i<es.size:=by omega
      simp[Array.getElem_push,this]
   simp[Instr.entryStore,MapKept.run_getObj_map hw2,asInt,asIntOf,hfi,hmod,MapKept.run_setObj_map _ hw2,Result.andThen]
 ·exfalso
  have:(Instr.lookup t (.map (some b)) (.string (xH k)) true).run P w=.ok (.tuple #[e0.val,.bool true]) w:=by
   simp[Instr.lookup,run_underlying ht,MapKept.run_getObj_map hb,K.check w _ hkey,g1,Result.andThen]
  rw[this] at hlook
  simp at hlook
end
end Go.Proofs.YtbadjmmjbpeocaaGreat
