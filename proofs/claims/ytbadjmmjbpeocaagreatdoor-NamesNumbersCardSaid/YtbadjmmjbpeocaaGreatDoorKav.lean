/- The reader of names while heads are read: its memory; head. (and what follows of it). The conditions stand at each lemma. -/
import Derived.Test.YtbadjmmjbpeocaaGreatDoorKaa
import Derived.Test.YtbadjmmjbpeocaaGreatDoorKau
import Derived.Test.YtbadjmmjbpeocaaGreatDoorKah
import Derived.StillTailTactics
import Derived.Maps.OwnSet
set_option linter.unusedVariables false
set_option linter.unusedSimpArgs false
set_option maxRecDepth 100000
set_option maxHeartbeats 16000000
namespace Go.Proofs.YtbadjmmjbpeocaaGreatDoor
open Go Go.RowKit
structure StH where
 a:Nat
 p:Nat
 bo:Nat
 co:Nat
 A:Option Addr
 ct:Nat
 l:List Tx
 mt:Nat
 B:Nat
structure DyH where
 At:Option Addr
 cT:Nat
 th:List Hd2
 Ac:Option Addr
 cc:Nat
 cm:List Nat
 Ap:Option Addr
 cP:Nat
def jC (S:StH)(R:DyH)(b:Nat):Prop:=b=S.a∨b=S.p∨b=S.bo∨b=S.mt∨R.At=some ⟨b,0,none⟩∨R.Ac=some ⟨b,0,none⟩∨R.Ap=some ⟨b,0,none⟩
def hp (l:List Np):List Pw:=l.map fun p=>(p,((none:Option Addr),0))
theorem zLK (l:List Np):(hp l).length=l.length:=by simp[hp]
theorem zTs (l:List Np)(n:Bs):((hp l).findIdx? fun x=>x.1.name==n)=l.findIdx? fun x=>x.name==n:=by
 unfold hp;rw[List.findIdx?_map]
 rfl
structure NH (w:World)(S:StH)(s:Nr)(R:DyH):Prop where
 rd:Blk w S.a 86 #[.pointer (some ⟨S.p,0,none⟩),.map (some S.mt),.slice R.Ac s.xH.length R.cc,.pointer none,.slice none 0 0]
 pg:Blk w S.p 35 #[.slice S.A S.l.length S.ct,.slice R.At s.xH.length R.cT,.slice R.Ap s.procs.length R.cP,.slice (some ⟨S.bo,0,none⟩) S.l.length S.co]
 of:Blk w S.bo 3 (ofc s.of).toArray
 len:s.of.length=S.l.length
 tree:zAT w (jC S R) S.A S.l
 zA2:w.ownsRow S.B 44 2 (.slice R.At s.xH.length R.cT) s.xH.length (JI s.xH R.th)
 thl:R.th.length=s.xH.length
 zII:∀(k:Nat) (x:Nt) (h:Hd2),s.xH[k]?=some x→R.th[k]?=some h→XE w (jC S R) h.1 (strs x.zA0)
 zFl:w.ownsRow S.B 81 1 (.slice R.Ac s.xH.length R.cc) s.xH.length (YK R.cm)
 cml:R.cm.length=s.xH.length
 zD8:∀(k b:Nat) (x:Nt),s.xH[k]?=some x→R.cm[k]?=some b→zGS w (jC S R) b 64 fun n=>zBs (x.zA0.findIdx? fun c=>c==n)
 mt:MF Tryz.prog 9 w S.mt s.xH.length fun n=>zBs (s.xH.findIdx? fun x=>x.name==n)
 procs:w.ownsRow S.B 42 5 (.slice R.Ap s.procs.length R.cP) s.procs.length (zCk (hp s.procs))
 zRw:s.xH.length≤64
 zQg:s.procs.length≤64
 zT:s.xH.length=0→R.cT=0
 zC:s.xH.length=0→R.cc=0
 zP:s.procs.length=0→R.cP=0
 low:S.B≤w.heap.size
section
variable {w:World} {S:StH} {s:Nr} {R:DyH}
theorem NH.ZU (h:NH w S s R){b:Nat}(hb:jC S R b):b<w.heap.size:=by
 rcases hb with rfl | rfl | rfl | rfl | hb | hb | hb
 ·exact h.rd.lt
 ·exact h.pg.lt
 ·exact h.of.lt
 ·exact h.mt.lt
 ·exact(jE h.zA2 hb).2
 ·exact(jE h.zFl hb).2
 ·exact(jE h.procs hb).2
theorem NH.apart (h:NH w S s R):S.a≠S.p∧S.a≠S.bo∧S.p≠S.bo∧S.mt≠S.a∧S.mt≠S.p∧S.mt≠S.bo:=⟨Blk.differ h.rd h.pg (by decide),Blk.differ h.rd h.of (by decide),Blk.differ h.pg h.of (by decide),h.mt.ne h.rd,h.mt.ne h.pg,h.mt.ne h.of⟩
theorem NH.zD1 (h:NH w S s R):∀b,R.At=some ⟨b,0,none⟩→b≠S.a∧b≠S.p∧b≠S.bo∧b≠S.mt∧R.Ac≠some ⟨b,0,none⟩∧R.Ap≠some ⟨b,0,none⟩:=fun b e=>by
 obtain⟨cur,hc⟩:=xY h.zA2 e;refine⟨Blk.differ hc h.rd (by decide),Blk.differ hc h.pg (by decide),Blk.differ hc h.of (by decide),Ne.symm (h.mt.ne hc),fun e2=>?_,fun e2=>?_⟩
 ·obtain⟨cur2,hc2⟩:=xY h.zFl e2;exact Blk.differ hc hc2 (by decide) rfl
 ·obtain⟨cur2,hc2⟩:=xY h.procs e2;exact Blk.differ hc hc2 (by decide) rfl
theorem NH.zD6 (h:NH w S s R):∀b,R.Ac=some ⟨b,0,none⟩→b≠S.a∧b≠S.p∧b≠S.bo∧b≠S.mt∧R.Ap≠some ⟨b,0,none⟩:=fun b e=>by
 obtain⟨cur,hc⟩:=xY h.zFl e;refine⟨Blk.differ hc h.rd (by decide),Blk.differ hc h.pg (by decide),Blk.differ hc h.of (by decide),Ne.symm (h.mt.ne hc),fun e2=>?_⟩;obtain⟨cur2,hc2⟩:=xY h.procs e2;exact Blk.differ hc hc2 (by decide) rfl
theorem NH.zDX (h:NH w S s R):∀b,R.Ap=some ⟨b,0,none⟩→b≠S.a∧b≠S.p∧b≠S.bo∧b≠S.mt:=fun b e=>by
 obtain⟨cur,hc⟩:=xY h.procs e;exact⟨Blk.differ hc h.rd (by decide),Blk.differ hc h.pg (by decide),Blk.differ hc h.of (by decide),Ne.symm (h.mt.ne hc)⟩
structure zU5 (w':World)(S:StH)(s:Nr)(R:DyH)(G:Nat→Prop):Prop where
 rd:¬G S.a→Blk w' S.a 86 #[.pointer (some ⟨S.p,0,none⟩),.map (some S.mt),.slice R.Ac s.xH.length R.cc,.pointer none,.slice none 0 0]
 pg:¬G S.p→Blk w' S.p 35 #[.slice S.A S.l.length S.ct,.slice R.At s.xH.length R.cT,.slice R.Ap s.procs.length R.cP,.slice (some ⟨S.bo,0,none⟩) S.l.length S.co]
 of:¬G S.bo→Blk w' S.bo 3 (ofc s.of).toArray
 tree:zAT w' (jC S R) S.A S.l
 zA2:(∀b,R.At=some ⟨b,0,none⟩→¬G b)→w'.ownsRow S.B 44 2 (.slice R.At s.xH.length R.cT) s.xH.length (JI s.xH R.th)
 zII:∀(k:Nat) (x:Nt) (h:Hd2),s.xH[k]?=some x→R.th[k]?=some h→XE w' (jC S R) h.1 (strs x.zA0)
 zFl:(∀b,R.Ac=some ⟨b,0,none⟩→¬G b)→w'.ownsRow S.B 81 1 (.slice R.Ac s.xH.length R.cc) s.xH.length (YK R.cm)
 zD8:∀(k b:Nat) (x:Nt),s.xH[k]?=some x→R.cm[k]?=some b→zGS w' (jC S R) b 64 fun n=>zBs (x.zA0.findIdx? fun c=>c==n)
 mt:¬G S.mt→MF Tryz.prog 9 w' S.mt s.xH.length fun n=>zBs (s.xH.findIdx? fun x=>x.name==n)
 procs:(∀b,R.Ap=some ⟨b,0,none⟩→¬G b)→w'.ownsRow S.B 42 5 (.slice R.Ap s.procs.length R.cP) s.procs.length (zCk (hp s.procs))
 low:S.B≤w'.heap.size
theorem NH.kept {w':World}(h:NH w S s R){G:Nat→Prop}(hM:∀g,G g→g<w.heap.size→jC S R g)(hg:xD w G w' G):zU5 w' S s R G∧xD w (jC S R) w' (jC S R):=by
 have hm:xD w (jC S R) w' (jC S R):=⟨hg.os,hg.tape,hg.output,hg.size,fun b hb hn=>hg.jL b hb fun k=>hn (hM b k hb),fun b h=>.inl h⟩;exact⟨⟨fun hn=>(hg.jL _ h.rd.lt hn).trans h.rd,fun hn=>(hg.jL _ h.pg.lt hn).trans h.pg,fun hn=>(hg.jL _ h.of.lt hn).trans h.of,h.tree.xG hm,fun hn=>ZK h.zA2 fun b e=>hg.jL b (jE h.zA2 e).2 (hn b e),fun k x h0 h1 h2=>(h.zII k x h0 h1 h2).xG hm,fun hn=>ZK h.zFl fun b e=>hg.jL b (jE h.zFl e).2 (hn b e),fun k b x h1 h2=>(h.zD8 k b x h1 h2).xG hm,fun hn=>h.mt.jL (hg.jL _ h.mt.lt hn),fun hn=>ZK h.procs fun b e=>hg.jL b (jE h.procs e).2 (hn b e),Nat.le_trans h.low hg.size⟩,hm⟩
theorem NH.ext {w':World}(h:NH w S s R)(hx:Ext w w'):NH w' S s R:=by
 have k:=(h.kept (G:=fun _=>False) (fun g hg _=>hg.elim) (xD.ext hx)).1;exact⟨k.rd id,k.pg id,k.of id,h.len,k.tree,k.zA2 fun _ _=>id,h.thl,k.zII,k.zFl fun _ _=>id,h.cml,k.zD8,k.mt id,k.procs fun _ _=>id,h.zRw,h.zQg,h.zT,h.zC,h.zP,k.low⟩
theorem NH.setOf (h:NH w S s R)(i:Nat)(x:Int):NH (w.setCell ⟨S.bo,i,none⟩ (.int .i64 x)) S (s.set i x) R∧xD w (jC S R) (w.setCell ⟨S.bo,i,none⟩ (.int .i64 x)) (jC S R):=by
 obtain⟨k,hm⟩:=h.kept (G:=fun b=>b=S.bo) (fun g e _=>.inr (.inr (.inl e))) (JE w S.bo i (.int .i64 x));obtain⟨n1,n2,n3,n4,n5,n6⟩:=h.apart;refine⟨⟨k.rd n2,k.pg n3,?_,by show(s.of.set i x).length=_; rw[zB]; exact h.len,k.tree,k.zA2 fun b e=>(h.zD1 b e).2.2.1,h.thl,k.zII,k.zFl fun b e=>(h.zD6 b e).2.2.1,h.cml,k.zD8,k.mt n6,k.procs fun b e=>(h.zDX b e).2.2.1,h.zRw,h.zQg,h.zT,h.zC,h.zP,k.low⟩,hm⟩
 have:=h.of.put i (.int .i64 x)
 rw[yD,zFU] at this;exact this
theorem NH.rds (h:NH w S s R):RdS w S.a S.p S.A S.ct S.l:=⟨h.rd.cell 0,h.pg.cell 0,h.tree.row.cells,h.rd.lt,h.pg.lt⟩
theorem NH.x1 (h:NH w S s R):w.cell? ⟨S.a,1,none⟩=some (.map (some S.mt)):=h.rd.cell 1
theorem NH.x2 (h:NH w S s R):w.cell? ⟨S.a,2,none⟩=some (.slice R.Ac s.xH.length R.cc):=h.rd.cell 2
theorem NH.p1 (h:NH w S s R):w.cell? ⟨S.p,1,none⟩=some (.slice R.At s.xH.length R.cT):=h.pg.cell 1
theorem NH.p2 (h:NH w S s R):w.cell? ⟨S.p,2,none⟩=some (.slice R.Ap s.procs.length R.cP):=h.pg.cell 2
theorem NH.p3 (h:NH w S s R):w.cell? ⟨S.p,3,none⟩=some (.slice (some ⟨S.bo,0,none⟩) S.l.length S.co):=h.pg.cell 3
theorem NH.zBZ (h:NH w S s R)(i:Nat)(hi:i<S.l.length):w.cell? ⟨S.bo,i,none⟩=some (.int .i64 (zAO s i)):=by
 rw[h.of.cell i]
 show(ofc s.of).toArray[i]?=_
 rw[yL,zOl _ _ (by rw[h.len]; exact hi)]
 rfl
theorem NH.fresh (h:NH w S s R)(t:TypeId)(cs:Array Value):Safe (w.alloc (.cells cs t)) (jC S R) w.heap.size t cs:=⟨Blk.new _ _ _,fun hm=>by have:=h.ZU hm; omega⟩
theorem NH.zUd {w1:World}(h:NH w S s R)(hl:s.procs.length<64)(x:Np)(hxp:x.params=0)(hxv:x.vars=[])(hg1:w.grownBy w1 (Value.slice R.Ap s.procs.length R.cP).ownBlock)(A':Option Addr)(c':Nat)
  (ho1:w1.ownsRow S.B 42 5 (.slice A' (s.procs.length+1) c') (s.procs.length+1) (zCk (hp s.procs)++prc (x,(none,0)))) (hn:∀b,A'=some ⟨b,0,none⟩→R.Ap=some ⟨b,0,none⟩∨w.heap.size≤b) :
  NH (w1.setCell ⟨S.p,2,none⟩ (.slice A' (s.procs.length+1) c')) S { s with procs:=s.procs++[x] } { R with Ap:=A',cP:=c' } ∧
  xD w (jC S R) (w1.setCell ⟨S.p,2,none⟩ (.slice A' (s.procs.length+1) c')) (jC S { R with Ap:=A',cP:=c' }):=by
 obtain⟨G,hG⟩:∃G:Nat→Prop,G=fun b=>R.Ap=some ⟨b,0,none⟩∨b=S.p:=⟨_,rfl⟩
 have m1:xD w G w1 G:=xD.grown hg1 fun g e=>by rw[hG]; exact .inl (xP h.procs e)
 have m2:=(JE w1 S.p 2 (.slice A' (s.procs.length+1) c')).zFD (G':=G) fun b e=>by rw[hG]; exact .inr e
 have hGM:∀g,G g→g<w.heap.size→jC S R g:=fun g hg _=>by
  rw[hG] at hg
  rcases hg with e | e
  ·exact .inr (.inr (.inr (.inr (.inr (.inr e)))))
  ·exact .inr (.inl e)
 obtain⟨k,hm⟩:=h.kept hGM (m1.trans m2);obtain⟨n1,n2,n3,n4,n5,n6⟩:=h.apart
 have hmv:xD w (jC S R) (w1.setCell ⟨S.p,2,none⟩ (.slice A' (s.procs.length+1) c')) (jC S { R with Ap:=A',cP:=c' }):=hm.less fun b hb=>by
  rcases hb with e | e | e | e | e | e | e
  ·exact .inl (.inl e)
  ·exact .inl (.inr (.inl e))
  ·exact .inl (.inr (.inr (.inl e)))
  ·exact .inl (.inr (.inr (.inr (.inl e))))
  ·exact .inl (.inr (.inr (.inr (.inr (.inl e)))))
  ·exact .inl (.inr (.inr (.inr (.inr (.inr (.inl e))))))
  ·rcases hn b e with e | e
   ·exact .inl (.inr (.inr (.inr (.inr (.inr (.inr e))))))
   ·exact .inr e
 have hG1:∀ {b:Nat},b≠S.p→R.Ap≠some ⟨b,0,none⟩→¬G b:=fun h1 h2 hg=>by
  rw[hG] at hg
  rcases hg with e | e
  ·exact h2 e
  ·exact h1 e
 have hpg1:Blk w1 S.p 35 _:=h.pg.grown hg1 fun e=>(h.zDX _ (xP h.procs e.symm)).2.1 rfl
 have hA0:∀b,A'=some ⟨b,0,none⟩→b≠S.p:=fun b e=>by
  obtain⟨cur,hc⟩:=xY ho1 e;exact Blk.differ hc hpg1 (by decide)
 refine⟨⟨k.rd (hG1 n1 fun e=>(h.zDX _ e).1 rfl),?_,k.of (hG1 (Ne.symm n3) fun e=>(h.zDX _ e).2.2.1 rfl),h.len,h.tree.xG hmv,k.zA2 fun b e=>hG1 (h.zD1 b e).2.1 (h.zD1 b e).2.2.2.2.2,h.thl,fun i y h0 h1 h2=>(h.zII i y h0 h1 h2).xG hmv,k.zFl fun b e=>hG1 (h.zD6 b e).2.1 (h.zD6 b e).2.2.2.2,h.cml,fun i b y h1 h2=>(h.zD8 i b y h1 h2).xG hmv,k.mt (hG1 n5 fun e=>(h.zDX _ e).2.2.2 rfl),?_,h.zRw,by simp; omega,h.zT,h.zC,fun h=>by simp at h,k.low⟩,hmv⟩
 ·have:=hpg1.put 2 (.slice A' (s.procs.length+1) c')
  simpa using this
 ·have:=ZK (w':=w1.setCell ⟨S.p,2,none⟩ (.slice A' (s.procs.length+1) c')) ho1 fun b e=>zS w1 ⟨S.p,2,none⟩ _ b (hA0 b e)
  rw[show zCk (hp (s.procs++[x]))=zCk (hp s.procs)++prc (x,(none,0)) by unfold hp; rw[List.map_append]; exact zQV _ _]
  simpa using this
end
def zDQ (w:World)(S:StH)(R:DyH)(r:YQ Nr)(e:Ending)(w':World):Prop:=
 match r with
 | .ok s'=>e=.returned (.tuple #[])∧∃R',NH w' S s' R'∧xD w (jC S R) w' (jC S R')
 | .err i er=>e=XG (YY S.l i) er∧i<S.l.length∧∃M',xD w (jC S R) w' M'
theorem zDQ.err {w w':World}{S:StH}{R:DyH}{r:YQ Nr}{i:Nat}{er:Int}(hr:r=.err i er)(hi:i<S.l.length)(hx:xD w (jC S R) w' (jC S R)):zDQ w S R r (XG (YY S.l i) er) w':=by
 rw[hr];exact⟨rfl,hi,_,hx⟩
theorem zR1:(Tryz.prog.info? 42).map (fun i=>(i.zero,i.size,i.bytes))=some (some (.agg #[.string ⟨#[]⟩,.int .i64 0,.slice none 0 0,.bool false,.int .i64 0]),5,64):=by kernel_rfl
theorem zTa (o:Option Nat):(decide (zIe o<0)) = !o.isSome:=by
 cases o with
 | none=>rfl
 | some k=>exact yR (by show ¬(k:Int)<0; omega)
theorem zQR (w:World)(S:StH)(s:Nr)(R:DyH)(i:Nat)(h:NH w S s R)(hi:i<S.l.length) :
  Calls Tryz.prog 30 #[.pointer (some ⟨S.a,0,none⟩),.int .i64 (i:Int)] w (zDQ w S R (zCi (tN S.l) i s)):=by
 have HNB:=yG h;have HIL:=yG hi;have HTX:Hid ((xC (tN S.l) i).text.length≤maxLen):=yG (h.tree.txt i);have HHD:Hid (zCi (tN S.l) i s=if (zC1 s (xC (tN S.l) i).text).isSome=true then .err i 71 else if s.procs.length<64 then .ok { s.set i s.procs.length with procs:=s.procs++[⟨(xC (tN S.l) i).text,0,[],(xC (tN S.l) i).num==1,i⟩] } else .err i 3):=yG rfl;clear h hi
 go_enter Tryz.func30,Tryz.ntmps30
 go_wp2_with fail
 refine(vV w S.a S.p S.A S.ct S.l i HNB.out.rds HIL.out).mono ?_;rintro e w1 ⟨rfl,hx1⟩;obtain⟨W2,HW2⟩:∃W2,Hid (w1.alloc (.cells (vX S.l i) 39)=W2):=⟨_,yG rfl⟩;obtain⟨g,HG⟩:∃g,Hid (w1.heap.size=g):=⟨_,yG rfl⟩;have HN1:=yG (HNB.out.ext hx1);have HFR:Hid (Safe W2 (jC S R) g 39 (vX S.l i)):=yG (by rw[←HW2.out,←HG.out]; exact HN1.out.fresh 39 (vX S.l i));have HX2:Hid (Ext w W2):=yG (by rw[←HW2.out]; exact hx1.trans (Ext.alloc _ _));have HN2:=yG (HNB.out.ext HX2.out);clear hx1;unfold vX at *;obtain⟨nt,HNT⟩:∃nt,Hid ((xC (tN S.l) i).text=nt):=⟨_,yG rfl⟩;obtain⟨nn,HNN⟩:∃nn,Hid ((xC (tN S.l) i).num=nn):=⟨_,yG rfl⟩;rw[HNT.out,HNN.out] at HW2 HFR HHD;rw[HNT.out] at HTX;rw[HNT.out,HNN.out]
 go_upto_region 1 with fail
 rw[HW2.out,HG.out];clear HW2;have c2:W2.cell? ⟨g,2,none⟩=some (.string (xI nt)):=HFR.out.1.cell 2;have gl:=HFR.out.1.lt;have r0:=HN2.out.rds.r0;have al:=HN2.out.rds.al;have pl:=HN2.out.rds.pl;have y0:=HN2.out.rds.p0;have y1:=HN2.out.p1;have y2:=HN2.out.p2;have y3:=HN2.out.p3;obtain⟨b,HBB⟩:∃b,Hid ((!(zC1 s nt).isSome)=b):=⟨_,yG rfl⟩
 have HFD:Hid (∀w',Ext W2 w'→Calls Tryz.prog 14 #[.agg #[.slice S.A S.l.length S.ct,.slice R.At s.xH.length R.cT,.slice R.Ap s.procs.length R.cP,.slice (some ⟨S.bo,0,none⟩) S.l.length S.co],.string (xI nt)] w' fun e w2=>e=.returned (.int .i64 (zIe (zC1 s nt)))∧Ext w' w2):=yG fun w' hx=>by
  have hn:=HN2.out.ext hx;have hl:(hp s.procs).length=s.procs.length:=zLK _
  have:=zQ9 w' (.slice S.A S.l.length S.ct) (.slice R.At s.xH.length R.cT) (.slice (some ⟨S.bo,0,none⟩) S.l.length S.co) ⟨_,_,_,rfl⟩ ⟨_,_,_,rfl⟩ ⟨_,_,_,rfl⟩ nt R.Ap (hp s.procs) R.cP (by rw[hl]; have:=hn.zQg; omega) (by
   have ho:=hn.procs
   rcases zAQ ho with e | ⟨bb,e⟩
   ·left
    rw[e] at ho
    rcases ho.2 with ⟨_,h0⟩ | ⟨_,_,_,hv,_⟩
    ·rw[List.eq_nil_of_length_eq_zero h0]; rfl
    ·cases hv
   ·right
    refine⟨bb,0,e,(jE ho e).2,fun k hk=>?_⟩;rw[Nat.zero_add];rw[e] at ho
    exact ho.cellAt k (by rw[zAW,hl] at hk; exact hk))
  rw[hl,zTs] at this;exact this
 have hdb:decide (zIe (zC1 s nt)<0)=b:=by rw[zTa]; exact HBB.out
 apply xU 12 (by kernel_rfl) (by kernel_rfl) (by kernel_rfl);dsimp only[List.take_succ_cons,List.take_zero,List.drop_succ_cons,List.drop_zero];apply yZ (.pointer (some ⟨S.a,0,none⟩)) rfl rfl rfl
 ·intro w' hw' hH;clear hH;simp[xB,go_sem];exact Ext.refl _
 simp only[Act.put,yD,yE,yF];apply yZ (.pointer (some ⟨S.a,0,none⟩)) rfl rfl rfl
 ·intro w' hw' hH;clear hH;simp[xB,go_sem];exact Ext.refl _
 simp only[Act.put,yD,yE,yF];apply yZ (.pointer (some ⟨S.a,0,none⟩)) rfl rfl rfl
 ·intro w' hw' hH;clear hH;simp[xB,go_sem];exact Ext.refl _
 simp only[Act.put,yD,yE,yF];apply yZ (.pointer (some ⟨S.a,0,none⟩)) rfl rfl rfl
 ·intro w' hw' hH;clear hH;simp[xB,go_sem];exact Ext.refl _
 simp only[Act.put,yD,yE,yF];apply yZ (.pointer (some ⟨S.p,0,none⟩)) rfl rfl rfl
 ·intro w' hw' hH;have cc:=(hw'.cell (p:=⟨S.a,0,none⟩) al).trans r0;clear hH;simp[xB,go_sem,cc];exact Ext.refl _
 simp only[Act.put,yD,yE,yF];apply yZ (.pointer (some ⟨S.p,0,none⟩)) rfl rfl rfl
 ·intro w' hw' hH;clear hH;simp[xB,go_sem];exact Ext.refl _
 simp only[Act.put,yD,yE,yF];apply yZ (.agg #[.slice S.A S.l.length S.ct,.slice R.At s.xH.length R.cT,.slice R.Ap s.procs.length R.cP,.slice (some ⟨S.bo,0,none⟩) S.l.length S.co]) rfl rfl rfl
 ·intro w' hw' hH;have d0:=(hw'.cell (p:=⟨S.p,0,none⟩) pl).trans y0;have d1:=(hw'.cell (p:=⟨S.p,1,none⟩) pl).trans y1;have d2:=(hw'.cell (p:=⟨S.p,2,none⟩) pl).trans y2;have d3:=(hw'.cell (p:=⟨S.p,3,none⟩) pl).trans y3;clear hH;simp[xB,go_sem,d0,d1,d2,d3];exact Ext.refl _
 simp only[Act.put,yD,yE,yF];apply yZ (.pointer (some ⟨g,2,none⟩)) rfl rfl rfl
 ·intro w' hw' hH;clear hH;simp[xB,go_sem];exact Ext.refl _
 simp only[Act.put,yD,yE,yF];apply yZ (.string (xI nt)) rfl rfl rfl
 ·intro w' hw' hH;have cc:=(hw'.cell (p:=⟨g,2,none⟩) gl).trans c2;clear hH;simp[xB,go_sem,cc];exact Ext.refl _
 simp only[Act.put,yD,yE,yF];apply yZ (.int .i64 (zIe (zC1 s nt))) rfl rfl rfl
 ·intro w' hw' hH;clear hH;simp[xB,go_sem];refine(HFD.out w' hw').mono ?_;rintro e w2 ⟨rfl,hx⟩;exact⟨_,rfl,rfl,hx⟩
 simp only[Act.put,yD,yE,yF];apply yZ (.bool b) rfl rfl rfl
 ·intro w' hw' hH;clear hH;simp[xB,go_sem,hdb];exact Ext.refl _
 simp only[Act.put,yD,yE,yF];apply yZ (.int .i64 (i:Int)) rfl rfl rfl
 ·intro w' hw' hH;clear hH;simp[xB,go_sem];exact Ext.refl _
 simp only[Act.put,yD,yE,yF];apply vC;intro w3 hx3 hH;clear hH c2 gl r0 al pl y0 y1 y2 y3 hdb;simp only[Act.put,yD,yE,yF,List.drop_succ_cons,List.drop_zero];have HX3:=yG (HX2.out.trans hx3);have HN3:=yG (HN2.out.ext hx3);have HF3:=yG (HFR.out.xG (xD.ext (M:=jC S R) hx3));clear hx3
 go_wp2_with fail
 cases b with
 | false=>
  have HR:Hid (zCi (tN S.l) i s=.err i 71):=yG (by rw[HHD.out,if_pos (by have:=HBB.out; simpa using this)]);refine(JP w3 S.a S.p S.A S.ct S.l i 71 HN3.out.rds HIL.out).mono ?_;rintro e w4 ⟨rfl,rfl⟩;exact xK (P:=Tryz.prog) (fn:=Tryz.f30) rfl (zDQ.err HR.out HIL.out (xD.ext HX3.out))
 | true=>
  have HHD2:Hid (zCi (tN S.l) i s=if s.procs.length<64 then .ok { s.set i s.procs.length with procs:=s.procs++[⟨nt,0,[],nn==1,i⟩] } else .err i 3):=yG (by rw[HHD.out,if_neg (by have:=HBB.out; simpa using this)]);refine(XC w3 (.pointer (some ⟨S.a,0,none⟩)) (i:Int) 71).mono ?_;rintro e w4 ⟨rfl,rfl⟩;have r0:=HN3.out.rds.r0;have p2:=HN3.out.p2
  by_cases hl:s.procs.length<64
  ·have HL:=yG hl;have HR:Hid (zCi (tN S.l) i s=.ok { s.set i s.procs.length with procs:=s.procs++[⟨nt,0,[],nn==1,i⟩] }):=yG (by rw[HHD2.out,if_pos hl]);have hq1:decide ((s.procs.length:Int)<64)=true:=yS (by omega);clear hl
   go_wp2_with fail
   refine(XC w3 (.pointer (some ⟨S.a,0,none⟩)) (i:Int) 3).mono ?_;rintro e w4 ⟨rfl,rfl⟩;have al:=HN3.out.rds.al;have pl:=HN3.out.rds.pl;have p3:=HN3.out.p3
   have q0:(i:Int)<(S.l.length:Int):=by have:=HIL.out; omega
   clear hq1
   go_upto_region 3 with fail
   go_still_tail 17,(by kernel_rfl)
   change wpList _ _ _ _ _ (World.drew w3)
   have hx5:Ext w3 (World.drew w3):=Below.drew (Below.refl _ _);generalize World.drew w3=w5 at *;clear r0 p2 al pl p3;have HN5:=yG (HN3.out.ext hx5);have HF5:=yG (HF3.out.xG (xD.ext (M:=jC S R) hx5));have HX5:=yG (HX3.out.trans hx5);clear hx5;have co:=HN5.out.zBZ i HIL.out;have cz:=HN5.out.of.frozen i;have HSET:=yG (HN5.out.setOf i (s.procs.length:Int))
   go_upto_region 4 with fail
   clear co cz q0;have HF6:=yG (HF5.out.xG HSET.out.2);generalize w5.setCell ⟨S.bo,i,none⟩ (.int .i64 (s.procs.length:Int))=W at *;have HM6:=yG ((xD.ext (M:=jC S R) HX5.out).trans HSET.out.2);have HN6:=yG HSET.out.1;clear HSET;obtain⟨i0,hi0,hz0,hz1,hz2⟩:=info_parts zR1;obtain⟨o,HO⟩:∃o,Hid ((Value.slice R.Ap s.procs.length R.cP).ownBlock=o):=⟨_,yG rfl⟩
   have HAN:Hid (some S.a≠o):=yG fun e=>by
    rw[←HO.out] at e;exact(HN6.out.zDX _ (xP HN6.out.procs e.symm)).1 rfl
   have HPN:Hid (some S.p≠o):=yG fun e=>by
    rw[←HO.out] at e;exact(HN6.out.zDX _ (xP HN6.out.procs e.symm)).2.1 rfl
   have HGN:Hid (some g≠o):=yG fun e=>by
    rw[←HO.out] at e;exact HF6.out.2 (.inr (.inr (.inr (.inr (.inr (.inr (xP HN6.out.procs e.symm)))))))
   have HOG:Hid (∀g,o=some g→g<W.heap.size):=yG fun g e=>by
    rw[←HO.out] at e;exact(jE HN6.out.procs (xP HN6.out.procs e)).2
   have al:=HN6.out.rds.al;have pl:=HN6.out.rds.pl;have gl:=HF6.out.1.lt;have r0:=HN6.out.rds.r0;have p2:W.cell? ⟨S.p,2,none⟩=some (.slice R.Ap s.procs.length R.cP):=HN6.out.p2;have c2:W.cell? ⟨g,2,none⟩=some (.string (xI nt)):=HF6.out.1.cell 2;have c3:W.cell? ⟨g,3,none⟩=some (.int .i64 nn):=HF6.out.1.cell 3;obtain⟨sg,HSG⟩:∃sg,Hid ((nn==1)=sg):=⟨_,yG rfl⟩;have hsg:(nn==1)=sg:=HSG.out;have HBW:Hid (S.B≤W.heap.size):=yG HN6.out.low;have HKR:Hid (zAj S.B 42 s.procs.length (zCk (hp s.procs)) (.slice R.Ap s.procs.length R.cP) W):=yG ⟨HN6.out.procs,R.Ap,R.cP,rfl,(fun e=>by have hv:=HN6.out.procs; rw[e] at hv; rcases hv.2 with ⟨hv,_⟩ | ⟨g,_,_,hv,_⟩; (injection hv); (cases hv)),HN6.out.zP⟩;obtain⟨Fs,HFS⟩:∃Fs,Hid (FsK S.B 42 (.slice R.Ap s.procs.length R.cP) W.heap.size s.procs.length (zCk (hp s.procs)) [Value.string (xI nt),Value.int .i64 0,Value.slice none 0 0,Value.bool sg,Value.int .i64 (i:Int)]=Fs):=⟨_,yG rfl⟩
   have hE:∀F ∈ Fs,∀v w w',F v w→Ext w w'→F v w':=by rw[←HFS.out]; exact zIr _ _ _ _ _ _ _
   have m0:(fun (_:Value) w=>zAj S.B 42 s.procs.length (zCk (hp s.procs)) (.slice R.Ap s.procs.length R.cP) w) ∈ Fs:=by rw[←HFS.out]; simp only[FsK,zU,true_or]
   have m1:zBj 42 W.heap.size #[Value.string (xI nt),Value.int .i64 0,Value.slice none 0 0,Value.bool sg,Value.int .i64 (i:Int)] ∈ Fs:=by rw[←HFS.out]; simp only[FsK,zU,true_or,or_true]
   have m2:zMv S.B 42 o W.heap.size (s.procs.length+1) (zCk (hp s.procs)++[Value.string (xI nt),Value.int .i64 0,Value.slice none 0 0,Value.bool sg,Value.int .i64 (i:Int)]) ∈ Fs:=by rw[←HFS.out,←HO.out]; simp only[FsK,zU,true_or,or_true]
   have HE2:=yG hE;have M0:=yG m0;have M1:=yG m1;have M2:=yG m2;clear hE m0 m1 m2;apply zBd o Fs 22 (by kernel_rfl) (by kernel_rfl) (by kernel_rfl) HE2.out;dsimp only[List.take_succ_cons,List.take_zero,List.drop_succ_cons,List.drop_zero];apply yZ (.pointer (some ⟨S.a,0,none⟩)) rfl rfl rfl
   ·intro w' hw' hH;clear hH;simp[xB,go_sem];exact vG.refl _
   simp only[Act.put,yD,yE,yF];apply yZ (.pointer (some ⟨S.a,0,none⟩)) rfl rfl rfl
   ·intro w' hw' hH;clear hH;simp[xB,go_sem];exact vG.refl _
   simp only[Act.put,yD,yE,yF];apply yZ (.pointer (some ⟨S.a,0,none⟩)) rfl rfl rfl
   ·intro w' hw' hH;clear hH;simp[xB,go_sem];exact vG.refl _
   simp only[Act.put,yD,yE,yF];apply yZ (.pointer (some ⟨S.p,0,none⟩)) rfl rfl rfl
   ·intro w' hw' hH;have hR:=vG.refl (o:=o) (Fs:=Fs) w';have cc:=(World.cell?_of_block (w:=W) (a:=⟨S.a,0,none⟩) (hw'.1.block S.a al HAN.out)).trans r0;clear hH;simp[xB,go_sem,cc];exact hR
   simp only[Act.put,yD,yE,yF];apply yZ (.pointer (some ⟨S.a,0,none⟩)) rfl rfl rfl
   ·intro w' hw' hH;clear hH;simp[xB,go_sem];exact vG.refl _
   simp only[Act.put,yD,yE,yF];apply yZ (.pointer (some ⟨S.a,0,none⟩)) rfl rfl rfl
   ·intro w' hw' hH;clear hH;simp[xB,go_sem];exact vG.refl _
   simp only[Act.put,yD,yE,yF];apply yZ (.pointer (some ⟨S.a,0,none⟩)) rfl rfl rfl
   ·intro w' hw' hH;clear hH;simp[xB,go_sem];exact vG.refl _
   simp only[Act.put,yD,yE,yF];apply yZ (.pointer (some ⟨S.p,0,none⟩)) rfl rfl rfl
   ·intro w' hw' hH;have hR:=vG.refl (o:=o) (Fs:=Fs) w';have cc:=(World.cell?_of_block (w:=W) (a:=⟨S.a,0,none⟩) (hw'.1.block S.a al HAN.out)).trans r0;clear hH;simp[xB,go_sem,cc];exact hR
   simp only[Act.put,yD,yE,yF];apply yZ (.pointer (some ⟨S.p,0,none⟩)) rfl rfl rfl
   ·intro w' hw' hH;clear hH;simp[xB,go_sem];exact vG.refl _
   simp only[Act.put,yD,yE,yF];apply yZ (.pointer (some ⟨S.p,2,none⟩)) rfl rfl rfl
   ·intro w' hw' hH;clear hH;simp[xB,go_sem];exact vG.refl _
   simp only[Act.put,yD,yE,yF];apply yZ (.slice R.Ap s.procs.length R.cP) rfl rfl rfl
   ·intro w' hw' hH;have hR:=vG.refl (o:=o) (Fs:=Fs) w';have cc:=(World.cell?_of_block (w:=W) (a:=⟨S.p,2,none⟩) (hw'.1.block S.p pl HPN.out)).trans p2;clear hH;simp[xB,go_sem,cc];exact hR
   simp only[Act.put,yD,yE,yF];apply yZ (.pointer (some ⟨g,2,none⟩)) rfl rfl rfl
   ·intro w' hw' hH;clear hH;simp[xB,go_sem];exact vG.refl _
   simp only[Act.put,yD,yE,yF];apply yZ (.string (xI nt)) rfl rfl rfl
   ·intro w' hw' hH;have hR:=vG.refl (o:=o) (Fs:=Fs) w';have cc:=(World.cell?_of_block (w:=W) (a:=⟨g,2,none⟩) (hw'.1.block g gl HGN.out)).trans c2;clear hH;simp[xB,go_sem,cc];exact hR
   simp only[Act.put,yD,yE,yF];apply yZ (.pointer (some ⟨g,3,none⟩)) rfl rfl rfl
   ·intro w' hw' hH;clear hH;simp[xB,go_sem];exact vG.refl _
   simp only[Act.put,yD,yE,yF];apply yZ (.int .i64 nn) rfl rfl rfl
   ·intro w' hw' hH;have hR:=vG.refl (o:=o) (Fs:=Fs) w';have cc:=(World.cell?_of_block (w:=W) (a:=⟨g,3,none⟩) (hw'.1.block g gl HGN.out)).trans c3;clear hH;simp[xB,go_sem,cc];exact hR
   simp only[Act.put,yD,yE,yF];apply yZ (.bool sg) rfl rfl rfl
   ·intro w' hw' hH;clear hH;simp[xB,go_sem,hsg];exact vG.refl _
   simp only[Act.put,yD,yE,yF];apply yZ (.int .i64 (i:Int)) rfl rfl rfl
   ·intro w' hw' hH;clear hH;simp[xB,go_sem];exact vG.refl _
   simp only[Act.put,yD,yE,yF];apply yZ (.agg #[Value.string (xI nt),Value.int .i64 0,Value.slice none 0 0,Value.bool sg,Value.int .i64 (i:Int)]) rfl rfl rfl
   ·intro w' hw' hH;clear hH;simp[xB,go_sem];exact vG.refl _
   simp only[Act.put,yD,yE,yF];apply vE (zBj 42 W.heap.size #[Value.string (xI nt),Value.int .i64 0,Value.slice none 0 0,Value.bool sg,Value.int .i64 (i:Int)]) (fun v w w' h hx=>hx.2 _ M1.out v h) rfl rfl rfl
   ·intro w' hw' hH;have hz:=hw'.1.size;clear hH hw';simp[xB,go_sem];exact⟨⟨_,rfl,Blk.new _ _ _,hz⟩,vG.ext HE2.out (Ext.alloc _ _)⟩
   intro v68;simp only[Act.put,yD,yE,yF];apply vE (zMv S.B 42 o W.heap.size (s.procs.length+1) (zCk (hp s.procs)++[Value.string (xI nt),Value.int .i64 0,Value.slice none 0 0,Value.bool sg,Value.int .i64 (i:Int)])) (fun v w w' h hx=>hx.2 _ M2.out v h) rfl rfl rfl
   ·intro w' hw' hH;have hlit:=hH _ (List.mem_cons_self ..) ⟨_,rfl,by decide⟩;have hrow:=hw'.2 _ M0.out undef HKR.out;have hz:=hw'.1.size;clear hH hw';rw[←HFS.out,←HO.out];exact zEj S.B W.heap.size (.tmp 60) (.tmp 68) 32 rfl 42 i0 _ 64 Tryz.underlying32 hi0 hz0 hz1 hz2 rfl (.slice R.Ap s.procs.length R.cP) s.procs.length (zCk (hp s.procs)) [Value.string (xI nt),Value.int .i64 0,Value.slice none 0 0,Value.bool sg,Value.int .i64 (i:Int)] (by kernel_rfl) hrow v68 (by kernel_rfl) hlit rfl (by simp[Value.oneCell']) (by unfold maxLen; have:=HL.out; omega) (by have:=HL.out; omega) (Nat.le_trans HBW.out hz) hz (fun g e=>HOG.out g (by rw[←HO.out]; exact e))
   intro v69;simp only[Act.put,yD,yE,yF];apply yZ (.pointer (some ⟨S.p,0,none⟩)) rfl rfl rfl
   ·intro w' hw' hH;clear hH;simp[xB,go_sem];exact vG.refl _
   simp only[Act.put,yD,yE,yF];apply yZ (.pointer (some ⟨S.p,2,none⟩)) rfl rfl rfl
   ·intro w' hw' hH;clear hH;simp[xB,go_sem];exact vG.refl _
   simp only[Act.put,yD,yE,yF];apply vC;intro w7 hw7 hH;have h69:=hH _ (List.mem_cons_self ..);clear hH;obtain⟨gk,cap,rfl⟩:=h69.1.at;have hgr:=hw7.1;rw[←HO.out] at hgr
   have HFIN:Hid (zDQ w S R (zCi (tN S.l) i s) (.returned (.tuple #[])) (w7.setCell ⟨S.p,2,none⟩ (.slice (some ⟨gk,0,none⟩) (s.procs.length+1) cap))):=yG (by
    have ha:=HN6.out.zUd HL.out ⟨nt,0,[],nn==1,i⟩ rfl rfl hgr (some ⟨gk,0,none⟩) cap (by rw[show prc ((⟨nt,0,[],nn==1,i⟩:Np),((none:Option Addr),0))=[Value.string (xI nt),Value.int .i64 0,Value.slice none 0 0,Value.bool sg,Value.int .i64 (i:Int)] by unfold prc; rw[HSG.out]; rfl]; exact h69.1.1) (fun b e=>by
     injection e with e;injection e with e;subst e
     rcases h69.2 with e | ⟨g',e,hg'⟩
     ·left
      rw[←HO.out] at e;exact xP HN6.out.procs e.symm
     ·right
      have:gk=g':=by simpa [Value.ownBlock] using e
      omega)
    rw[HR.out]
    exact⟨rfl,_,ha.1,HM6.out.trans ha.2⟩)
   have y2:w7.cell? ⟨S.p,2,none⟩=some (.slice R.Ap s.procs.length R.cP):=(World.cell?_of_block (w:=W) (a:=⟨S.p,2,none⟩) (hw7.1.block S.p pl HPN.out)).trans p2;have z2:w7.frozen? ⟨S.p,2,none⟩=false:=(World.frozen?_of_block (w:=W) (a:=⟨S.p,2,none⟩) (hw7.1.block S.p pl HPN.out)).trans (HN6.out.pg.frozen 2);clear h69 hgr hw7
   try simp only[Act.put,yD,yE,yF]
   go_wp2_with fail
   go_end0;exact HFIN.out
  ·have HR:Hid (zCi (tN S.l) i s=.err i 3):=yG (by rw[HHD2.out,if_neg hl]);have hq1:decide ((s.procs.length:Int)<64)=false:=yR (by omega);clear hl
   go_wp2_with fail
   refine(JP w3 S.a S.p S.A S.ct S.l i 3 HN3.out.rds HIL.out).mono ?_;rintro e w4 ⟨rfl,rfl⟩;exact xK (P:=Tryz.prog) (fn:=Tryz.f30) rfl (zDQ.err HR.out HIL.out (xD.ext HX3.out))
section
variable {P:Program} {kt:TypeId} {w:World} {b n:Nat} {f:Bs→Option Value}
theorem zFB (es:Array MapEntry)(clock:Nat)(h:∀x ∈ es.toList,x.born<clock)(x:MapEntry)(hx:x.born=clock):(es.push x).findIdx? (fun e=>(e.born:Int)==(clock:Int))=some es.size:=by
 rw[Array.findIdx?_push]
 have:es.findIdx? (fun e=>(e.born:Int)==(clock:Int))=none:=by
  rw[Array.findIdx?_eq_none_iff];intro y hy
  have:=h y (by simpa using hy)
  rw[yI];omega
 rw[this];simp[hx]
theorem MF.entry {t e:TypeId}(h:MF P kt w b n f)(hk:P.underlying kt=some .string)(ht:P.underlying t=some (.map kt e))(hn:n<maxLen){z:Value}(hz:∀w,(zeroValue e).run P w=.ok z w)(k:Bs)(hl:k.length≤maxLen)(hf:f k=none) :
  ∃(es:Array MapEntry) (clock:Nat),w.heap[b]?=some (.map es clock) ∧
   (Instr.mapEntry t (.map (some b)) (.string (xI k))).run P w=.ok (.tuple #[z,.int .i64 (clock:Int)]) { w with heap:=w.heap.setIfInBounds b (.map (es.push { key:=.string (xI k),val:=z,born:=clock }) (clock+1)) } ∧
   ∀(v:Value) (w2:World),w2.heap[b]?=some (.map (es.push { key:=.string (xI k),val:=z,born:=clock }) (clock+1)) →
    ∃w3,(Instr.entryStore t (.map (some b)) (.int .i64 (clock:Int)) v).run P w2=.ok () w3∧w2.grownBy w3 (some b)∧w3.heap.size=w2.heap.size∧MF P kt w3 b (n+1) (fun y=>if y=k then some v else f y):=by
 have hkey:keyOf P kt (.string (xI k))=some (.string k):=WideMaps.keyOf_string_mk hk (s:=xI k) hl;have K:=Maps.string_keyed hk;have h0:=h;obtain⟨D,⟨es,clock,hb,F,hs,rfl⟩,h2,h3⟩:=h;have hlook:=h0.get hk ht (hz w) k hl;rw[hf] at hlook;simp only[Option.getD_none,Option.isSome_none] at hlook
 rcases K.find w hkey es.toList F.keys with ⟨g1,g2⟩ | ⟨j,e0,g1,g2,g3⟩
 ·refine⟨es,clock,hb,?_,fun v w2 hw2=>?_⟩
  ·simp[Instr.mapEntry,run_underlying ht,MapKept.run_getObj_map hb,K.check w false hkey,g1,hz w,MapKept.run_setObj_map _ hb,Result.andThen,goInt]
  ·obtain⟨w',hrun,r1,r2,r3⟩:=h0.put hk ht hn k hl v
   have hmu:(Instr.mapUpdate t (.map (some b)) (.string (xI k)) v).run P w=.ok () { w with heap:=w.heap.setIfInBounds b (.map (es.push { key:=.string (xI k),val:=v,born:=clock }) (clock+1)) }:=by
    simp[Instr.mapUpdate,run_underlying ht,MapKept.run_getObj_map hb,K.check w false hkey,g1,MapKept.run_setObj_map _ hb,Result.andThen]
   rw[hmu] at hrun;injection hrun with _ hrun
   have hwb:w'.heap[b]?=some (.map (es.push { key:=.string (xI k),val:=v,born:=clock }) (clock+1)):=by
    rw[←hrun];exact(MapKept.heap_set hb).1
   refine⟨{ w2 with heap:=w2.heap.setIfInBounds b (.map (es.push { key:=.string (xI k),val:=v,born:=clock }) (clock+1)) },?_,⟨rfl,rfl,rfl,by simp,fun k' _ hk'=>(MapKept.heap_set hw2).2 k' fun e=>hk' (by rw[e])⟩,by simp,r1.jL ((MapKept.heap_set hw2).1.trans hwb.symm)⟩;have hfi:=zFB es clock F.stamped.1 { key:=.string (xI k),val:=z,born:=clock } rfl
   have hmod:(es.push { key:=.string (xI k),val:=z,born:=clock }).modify es.size (fun e=>{ e with val:=v })=es.push { key:=.string (xI k),val:=v,born:=clock }:=by
    apply Array.ext
    ·simp
    ·intro i h1 h2;simp only[Array.size_modify,Array.size_push] at h1;rw[Array.getElem_modify]
     split
     ·rename_i e;subst e
      simp
     ·rename_i e
      have:i<es.size:=by omega
      simp[Array.getElem_push,this]
   simp[Instr.entryStore,MapKept.run_getObj_map hw2,asInt,asIntOf,hfi,hmod,MapKept.run_setObj_map _ hw2,Result.andThen]
 ·exfalso
  have:(Instr.lookup t (.map (some b)) (.string (xI k)) true).run P w=.ok (.tuple #[e0.val,.bool true]) w:=by
   simp[Instr.lookup,run_underlying ht,MapKept.run_getObj_map hb,K.check w _ hkey,g1,Result.andThen]
  rw[this] at hlook
  simp at hlook
end
end Go.Proofs.YtbadjmmjbpeocaaGreatDoor
