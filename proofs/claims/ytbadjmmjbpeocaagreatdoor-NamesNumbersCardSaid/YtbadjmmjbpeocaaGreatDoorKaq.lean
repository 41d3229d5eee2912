/- The program's Parse: what it does behind a panic, and behind none. (and what follows of it). The conditions stand at each lemma. -/
import Derived.Test.YtbadjmmjbpeocaaGreatDoorKaa
import Derived.Test.YtbadjmmjbpeocaaGreatDoorKap
import Derived.Recover
import Derived.Defers
import Derived.Test.YtbadjmmjbpeocaaGreatDoorKae
import Derived.Lib.ConvBytes
import Derived.Test.YtbadjmmjbpeocaaGreatDoorKab
import Derived.Test.YtbadjmmjbpeocaaGreatDoorKac
import Derived.Maps.OwnSet
import Derived.Test.YtbadjmmjbpeocaaGreatDoorKaf
set_option linter.unusedVariables false
set_option linter.unusedSimpArgs false
set_option maxRecDepth 100000
set_option maxHeartbeats 16000000
namespace Go.Proofs.YtbadjmmjbpeocaaGreatDoor
open Go Go.RowKit
theorem zGu:∀(f p:Nat) (s:Bs) (l:List Tok),zD0 f p s=.ok l→∃m e,l=m++[e]∧e.kind=4
 | 0,p,s,l,h=>by cases h
 | f+1,p,s,l,h=>by
  unfold zD0 at h
  split at h
  ·injection h with h;subst h;exact⟨[],_,rfl,rfl⟩
  ·exact zGu f _ _ l h
  ·rename_i kd k n hs
   cases hr:zD0 f (p+k) (s.drop k) with
   | err a e=>rw[hr] at h; cases h
   | ok m=>
    rw[hr] at h;obtain⟨m',e,rfl,he⟩:=zGu f _ _ m hr;injection h with h;subst h;exact⟨_::m',e,rfl,he⟩
  ·cases h
theorem zGJ:∀(f p:Nat) (s:Bs) (l:List Tok),s.length<f→zD0 f p s=.ok l→l.length≤s.length+1∧∀t ∈ l,t.at_≤p+s.length
 | 0,p,s,l,hf,h=>by cases h
 | f+1,p,s,l,hf,h=>by
  have hw:=zDn s;unfold zD0 at h
  split at h
  ·injection h with h;subst h;refine⟨by simp,fun t ht=>?_⟩;rw[List.mem_singleton.1 ht]
   simp
  ·rename_i k hs;rw[hs] at hw;obtain⟨h1,h2⟩:1≤k∧k≤s.length:=hw;have hl:(s.drop k).length=s.length-k:=List.length_drop;obtain⟨r1,r2⟩:=zGJ f _ _ l (by omega) h;exact⟨by omega,fun t ht=>by have:=r2 t ht; omega⟩
  ·rename_i kd k n hs;rw[hs] at hw;obtain⟨h1,h2⟩:1≤k∧k≤s.length:=hw;have hl:(s.drop k).length=s.length-k:=List.length_drop
   cases hr:zD0 f (p+k) (s.drop k) with
   | err a e=>rw[hr] at h; cases h
   | ok m=>
    rw[hr] at h;injection h with h;subst h;obtain⟨r1,r2⟩:=zGJ f _ _ m (by omega) hr;refine⟨by simp only[zK]; omega,fun t ht=>?_⟩
    rcases List.mem_cons.1 ht with rfl | ht
    ·show p≤p+s.length; omega
    ·have:=r2 t ht; omega
  ·cases h
theorem zKE {l:Bs}{ts:List Tok}(h:zA4 0 l=.ok ts):(∃m e,ts=m++[e]∧e.kind=4)∧ts.length≤l.length+1∧∀t ∈ ts,t.at_≤l.length:=by
 obtain⟨h1,h2⟩:=zGJ _ 0 l ts (Nat.lt_succ_self _) h;exact⟨zGu _ 0 l ts h,h1,fun t ht=>by have:=h2 t ht; omega⟩
theorem zR3 {a n:Nat}(h:a≤n):atN a n=a:=by unfold atN; omega
theorem zJF (v:Value)(w:World):(Instr.typeAssert (.iface 52 v) 20 52 false).run Tryz.prog w=.ok v w:=by kernel_rfl
theorem zMU (w:World)(p gs gp gt ge:Nat)(l:Bs)(A:Option Addr)(c:Nat)(s:Ps)(R:xV)(er:Int)(her:er≠0)(hbig:l.length≤140737488355328)(hcap:l.length≤c)(hC:Cells w A (vB l))(hT:TS w p s R)(hat:s.hd.at_≤l.length)
  (hs:Blk w gs 22 #[.slice A l.length c]) (hp:Blk w gp 70 #[.pointer (some ⟨p,0,none⟩)]) (ht:Blk w gt 26 #[.slice none 0 0]) (he:Blk w ge 28 #[.nilIface]) (hne:gt≠ge) :
  CallsD Tryz.prog 21 #[.pointer (some ⟨gs,0,none⟩),.pointer (some ⟨gp,0,none⟩),.pointer (some ⟨gt,0,none⟩),.pointer (some ⟨ge,0,none⟩)] (.panicking ({ v:=.iface 52 (.int .i64 er),recovered:=false } :: [])) w fun e u' w'=>
   e=.returned (.tuple #[])∧u'=.panicking ({ v:=.iface 52 (.int .i64 er),recovered:=true } :: [])∧∃g w1,Ext w w1∧w.heap.size≤g∧Blk w1 g 102 #[.int .i64 (s.hd.at_:Int),.int .i64 (zE5 l s.hd.at_),.int .i64 (zJG l s.hd.at_),.int .i64 er]∧w'=(w1.setCell ⟨gt,0,none⟩ (.slice none 0 0)).setCell ⟨ge,0,none⟩ (.iface 98 (.pointer (some ⟨g,0,none⟩))):=by
 have HT:=yG hT;have HC:=yG hC;have HAT:=yG hat;have HS:=yG hs;have HP:=yG hp;have HTR:=yG ht;have HER:=yG he;have HN:=yG her;have HBG:=yG hbig;have HCP:=yG hcap;have hf1:=zKR;have hta:=zJF;clear hT hC hat hs hp ht he her hbig hcap;refine callsD_of_wpS Tryz.func21 rfl fun c₀ cs hu=>?_;apply wpS_seq;apply wpS_region;simp[wpOpsS,go_sem,recoverD,hu,Tryz.ntmps21,Exit.thenS];refine wpS_of_wp ?_;simp[Array.replicate]
 go_upto_region 2 with fail
 have hsl:=HS.out.lt;have hpl:=HP.out.lt;have HTS:Hid (∀w',Ext w w'→TS w' p s R):=yG fun w' hx=>⟨HT.out.blk.ext hx,fun j hj=>(hx.cell (p:=⟨R.bt,R.ot+j,none⟩) HT.out.btl).trans (HT.out.tok j hj),yU HT.out.btl hx.size,HT.out.pos⟩;apply xU 8 (by kernel_rfl) (by kernel_rfl) (by kernel_rfl);dsimp only[List.take_succ_cons,List.take_zero,List.drop_succ_cons,List.drop_zero];apply yZ (.agg #[.slice none 0 0]) rfl rfl rfl
 ·intro w' hw' hH;clear hH hw';simp[xB,go_sem];exact Ext.refl _
 apply yZ (.slice A l.length c) rfl rfl rfl
 ·intro w' hw' hH;have cc:=(hw'.cell (p:=⟨gs,0,none⟩) hsl).trans (HS.out.cell 0);clear hH hw';simp[xB,go_sem,cc];exact Ext.refl _
 apply yZ (.pointer (some ⟨p,0,none⟩)) rfl rfl rfl
 ·intro w' hw' hH;have cc:=(hw'.cell (p:=⟨gp,0,none⟩) hpl).trans (HP.out.cell 0);clear hH hw';simp[xB,go_sem,cc];exact Ext.refl _
 simp only[Act.put,yD,yE,yF];apply yZ (.agg (ZW s.hd).toArray) rfl rfl rfl
 ·intro w' hw' hH;have ht:=HTS.out w' hw';clear hH;simp[xB,go_sem];refine(ZE w' p s R ht).mono ?_;rintro e w2 ⟨rfl,hx⟩;exact⟨_,rfl,rfl,hx⟩
 apply yZ (.int .i64 (s.hd.at_:Int)) rfl rfl rfl
 ·intro w' hw' hH;clear hH hw';unfold ZW;simp[xB,go_sem,hf1];exact Ext.refl _
 apply yZ (.iface 52 (.int .i64 er)) rfl rfl rfl
 ·intro w' hw' hH;clear hH hw';simp[xB,go_sem];exact Ext.refl _
 simp only[Act.put,yD,yE,yF];apply yZ (.int .i64 er) rfl rfl rfl
 ·intro w' hw' hH;clear hH hw';simp[xB,go_sem,hta];exact Ext.refl _
 simp only[Act.put,yD,yE,yF];apply vE (fun v w'=>∃g,v=.iface 98 (.pointer (some ⟨g,0,none⟩))∧w.heap.size≤g∧Blk w' g 102 #[.int .i64 (s.hd.at_:Int),.int .i64 (zE5 l s.hd.at_),.int .i64 (zJG l s.hd.at_),.int .i64 er]) (fun v w w' h hx=>let ⟨g,a,b,c⟩:=h; ⟨g,a,b,c.ext hx⟩) rfl rfl rfl
 ·intro w' hw' hH;have hcc:=HC.out.ext hw';have hsz:=hw'.size;have hat:=HAT.out;have hbg:=HBG.out;clear hH;simp[xB,go_sem];refine(zIC A l l.length c (s.hd.at_:Int) er w' rfl HBG.out HCP.out (by omega) (by omega) hcc HN.out).mono ?_;rintro e w2 ⟨g,rfl,hg,hb,hx⟩;rw[zR3 HAT.out] at hb;exact⟨_,rfl,⟨g,rfl,Nat.le_trans hsz hg,hb⟩,hx⟩
 intro v15;simp only[Act.put,yD,yE,yF];apply vC;intro w2 hw2 hH;obtain⟨g,rfl,hg,hb⟩:=hH _ (List.mem_cons_self ..);have HX2:=yG hw2;have HB2:=yG hb;have HG2:=yG hg;have ct:=(HTR.out.ext hw2).cell 0;have zt:=(HTR.out.ext hw2).frozen 0;have ce:=(HER.out.ext hw2).cell 0;have ze:=(HER.out.ext hw2).frozen 0;simp only[yL,yM] at ct ce;clear hH hb hg hw2
 go_wp2_with fail
 simp[bodyPostS,results,Tryz.results21];exact⟨g,w2,HX2.out,HG2.out,HB2.out,rfl⟩
theorem zOg (w:World)(args:Array Value)(h4:args.size=4) :
  CallsD Tryz.prog 21 args .returning w fun e u' w'=>e=.returned (.tuple #[])∧u'=.returning∧w'=w:=by
 refine callsD_of_wpS Tryz.func21 rfl fun c₀ cs hu=>?_;obtain⟨l,rfl⟩:∃l:List Value,args=l.toArray:=⟨args.toList,by simp⟩
 obtain⟨a,b,c,d,rfl⟩:∃a b c d,l=[a,b,c,d]:=by
  match l,h4 with
  | [a,b,c,d],_=>exact⟨a,b,c,d,rfl⟩
 apply wpS_seq;apply wpS_region;simp[wpOpsS,go_sem,recoverD,hu,Tryz.ntmps21,Exit.thenS];refine wpS_of_wp ?_;simp[Array.replicate]
 go_wp2_with fail
 cases c₀
 simp_all [bodyPostS,results,Tryz.results21]
def zBc (l:Bs):zNI:=match zFs l with
 | .ok ts=>zCZ ts
 | .err p e=>.err p e
def zGl (l:Bs)(w:World)(r:zNI)(e:Ending)(w':World):Prop:=Ext w w'∧match r with
 | .ok nd=>∃A c nh,e=.returned (.tuple #[.agg #[.slice A nh.length c],.nilIface])∧nd=nh.map Prod.fst∧NS w' w.heap.size 39 3 A c nh
 | .err a er=>∃g,e=.returned (.tuple #[.agg #[.slice none 0 0],.iface 98 (.pointer (some ⟨g,0,none⟩))])∧w.heap.size≤g∧Blk w' g 102 #[.int .i64 (a:Int),.int .i64 (zE5 l a),.int .i64 (zJG l a),.int .i64 er]
theorem NS.nil (w:World)(B:Nat)(tn ti:TypeId):NS w B tn ti none 0 []:=⟨zR _ _ _ _,fun x hx=>(by cases hx),fun i j hi=>(by cases hi),fun _=>rfl,fun x hx=>(by cases hx)⟩
theorem Ext.set {w w1:World}(h:Ext w w1){g i:Nat}{u:Value}(hg:w.heap.size≤g):Ext w (w1.setCell ⟨g,i,none⟩ u):=
 ⟨h.os,h.tape,h.output,by have:=h.size; simp[World.setCell]; omega,fun b hb=>(zS w1 ⟨g,i,none⟩ u b (fun e=>by subst e; exact absurd hb (Nat.not_lt.2 hg))).trans (h.block b hb)⟩
theorem zLv (A:Option Addr)(l:Bs)(n c:Nat)(w:World)(hn:n=l.length)(hbig:l.length≤140737488355328)(hcap:l.length≤c)(hnil:A=none→c=0)(h:Cells w A (vB l))(a:Nat)(er:Int)(hl:zFs l=.err a er) :
  Calls Tryz.prog 7 #[.slice A n c] w (zGl l w (.err a er)):=by
 subst hn;have HC:=yG h;have HL:=yG hl;obtain⟨W0,HW0⟩:∃W0,Hid (((w.alloc (.cells #[.slice A l.length c] 22)).alloc (.cells #[.slice none 0 0] 26)).alloc (.cells #[.nilIface] 28)=W0):=⟨_,yG rfl⟩;have HX0:Hid (Ext w W0):=yG (by rw[←HW0.out]; exact((Ext.alloc _ _).trans (Ext.alloc _ _)).trans (Ext.alloc _ _));have HS0:Hid (Blk W0 w.heap.size 22 #[.slice A l.length c]):=yG (by rw[←HW0.out]; exact((Blk.new _ _ _).alloc _).alloc _)
 have HT0:Hid (Blk W0 (w.heap.size+1) 26 #[.slice none 0 0]):=yG (by
  have:=(Blk.new (w.alloc (.cells #[.slice A l.length c] 22)) 26 #[.slice none 0 0]).alloc (.cells #[.nilIface] 28)
  rw[←HW0.out]
  simpa using this)
 have HE0:Hid (Blk W0 (w.heap.size+1+1) 28 #[.nilIface]):=yG (by
  have:=Blk.new ((w.alloc (.cells #[.slice A l.length c] 22)).alloc (.cells #[.slice none 0 0] 26)) 28 #[.nilIface]
  rw[←HW0.out]
  simpa using this)
 have HLX:=yG (zO1 A l l.length c W0 rfl hbig hcap hnil (h.ext HX0.out));clear h hl
 go_enter_defers Tryz.func7,Tryz.ntmps7
 have cs0:W0.cell? ⟨w.heap.size,0,none⟩=some (.slice A l.length c):=HS0.out.cell 0
 go_upto_region 1 with fail
 rw[HW0.out]
 go_wp2_with fail
 refine HLX.out.mono ?_;rw[HL.out];rintro e w1 ⟨hx1,g,rfl,hg,hb⟩;have HX1:=yG (HX0.out.trans hx1);have HB1:=yG hb;have HG1:=yG (Nat.le_trans HX0.out.size hg);have HT1:=yG (HT0.out.ext hx1);have HE1:=yG (HE0.out.ext hx1);have c1:w1.cell? ⟨w.heap.size+1,0,none⟩=some (.slice none 0 0):=HT1.out.cell 0;have z1:=HT1.out.frozen 0;have c2:w1.cell? ⟨w.heap.size+1+1,0,none⟩=some .nilIface:=HE1.out.cell 0;have z2:=HE1.out.frozen 0;have HGL:=yG (yU HE0.out.lt (zX _));have HNG:Hid (g≠w.heap.size+1∧g≠w.heap.size+1+1):=yG (by have h1:=HE0.out.lt; omega);clear hx1 hb hg cs0
 go_wp2_with fail
 go_region
 go_wp2_with fail
 have HXA:=yG ((((HX1.out.set (u:=.iface 98 (.pointer (some ⟨g,0,none⟩))) (i:=0) (g:=w.heap.size+1+1) (by omega)).set (u:=.slice none 0 0) (i:=0) (g:=w.heap.size+1) (by omega)).set (u:=.iface 98 (.pointer (some ⟨g,0,none⟩))) (i:=0) (g:=w.heap.size+1+1) (by omega)).trans (Below.drew (Below.refl _ _)));have hE:=(((HE1.out.put 0 (.iface 98 (.pointer (some ⟨g,0,none⟩)))).far (p:=⟨w.heap.size+1,0,none⟩) (by simp) (.slice none 0 0)).put 0 (.iface 98 (.pointer (some ⟨g,0,none⟩)))).ext (Below.drew (Below.refl _ _));have hT:=(((HT1.out.far (p:=⟨w.heap.size+1+1,0,none⟩) (by simp) (.iface 98 (.pointer (some ⟨g,0,none⟩)))).put 0 (.slice none 0 0)).far (p:=⟨w.heap.size+1+1,0,none⟩) (by simp) (.iface 98 (.pointer (some ⟨g,0,none⟩)))).ext (Below.drew (Below.refl _ _));have hB:=(((HB1.out.far (p:=⟨w.heap.size+1+1,0,none⟩) HNG.out.2 (.iface 98 (.pointer (some ⟨g,0,none⟩)))).far (p:=⟨w.heap.size+1,0,none⟩) HNG.out.1 (.slice none 0 0)).far (p:=⟨w.heap.size+1+1,0,none⟩) HNG.out.2 (.iface 98 (.pointer (some ⟨g,0,none⟩)))).ext (Below.drew (Below.refl _ _));generalize (((w1.setCell ⟨w.heap.size+1+1,0,none⟩ (.iface 98 (.pointer (some ⟨g,0,none⟩)))).setCell ⟨w.heap.size+1,0,none⟩ (.slice none 0 0)).setCell ⟨w.heap.size+1+1,0,none⟩ (.iface 98 (.pointer (some ⟨g,0,none⟩)))).drew=W at *;have e0:W.cell? ⟨w.heap.size+1+1,0,none⟩=some (.iface 98 (.pointer (some ⟨g,0,none⟩))):=hE.cell 0;have t0:W.cell? ⟨w.heap.size+1,0,none⟩=some (.slice none 0 0):=hT.cell 0
 exact⟨.tuple #[.agg #[.slice none 0 0],.iface 98 (.pointer (some ⟨g,0,none⟩))],by simp[results,Tryz.results7,go_sem,e0,t0],HXA.out,g,rfl,HG1.out,hB⟩
theorem zJ1 {w:World}{B N:Nat}{t:TypeId}{sz n:Nat}{v:Value}{xs:List Value}(h:w.ownsRow B t sz v n xs)(hN:N≤B):w.ownsRow N t sz v n xs:=by
 refine⟨h.1,?_⟩
 rcases h.2 with hn | ⟨g,cap,cur,hv,hb,r⟩
 ·exact .inl hn
 ·exact .inr ⟨g,cap,cur,hv,Nat.le_trans hN hb,r⟩
theorem NS.lower {w:World}{B N:Nat}{tn ti:TypeId}{A:Option Addr}{c:Nat}{nh:List (Nd × Hd2)}(h:NS w B tn ti A c nh)(hN:N≤B):NS w N tn ti A c nh:=⟨zJ1 h.row hN,fun x hx=>zJ1 (h.kids x hx) hN,h.apart,h.rz,h.kz⟩
theorem zKq {w w':World}{N M:Nat}(h:Below N w w')(hM:M≤N):Below M w w':=⟨h.os,h.tape,h.output,h.size,fun b hb=>h.block b (yU hb hM)⟩
theorem zEd {w w':World}{N g:Nat}{t:TypeId}{cs:Array Value}(h:Below N w w')(hg:g<N)(hb:Blk w g t cs):Blk w' g t cs:=(h.block g hg).trans hb
theorem zRq (A:Option Addr)(l:Bs)(n c:Nat)(w:World)(hn:n=l.length)(hbig:l.length≤65536)(hcap:l.length≤c)(hnil:A=none→c=0)(h:Cells w A (vB l))(ts:List Tok)(hl:zFs l=.ok ts)(hl2:zA4 0 l=.ok ts) :
  Calls Tryz.prog 7 #[.slice A n c] w (zGl l w (zCZ ts)):=by
 subst hn;have HC:=yG h;have HL:=yG hl;have HTK:=yG (zKE hl2);have HBG:=yG hbig;have HCP:=yG hcap;obtain⟨W0,HW0⟩:∃W0,Hid (((w.alloc (.cells #[.slice A l.length c] 22)).alloc (.cells #[.slice none 0 0] 26)).alloc (.cells #[.nilIface] 28)=W0):=⟨_,yG rfl⟩;have HX0:Hid (Ext w W0):=yG (by rw[←HW0.out]; exact((Ext.alloc _ _).trans (Ext.alloc _ _)).trans (Ext.alloc _ _));have HS0:Hid (Blk W0 w.heap.size 22 #[.slice A l.length c]):=yG (by rw[←HW0.out]; exact((Blk.new _ _ _).alloc _).alloc _)
 have HT0:Hid (Blk W0 (w.heap.size+1) 26 #[.slice none 0 0]):=yG (by
  have:=(Blk.new (w.alloc (.cells #[.slice A l.length c] 22)) 26 #[.slice none 0 0]).alloc (.cells #[.nilIface] 28)
  rw[←HW0.out]
  simpa using this)
 have HE0:Hid (Blk W0 (w.heap.size+1+1) 28 #[.nilIface]):=yG (by
  have:=Blk.new ((w.alloc (.cells #[.slice A l.length c] 22)).alloc (.cells #[.slice none 0 0] 26)) 28 #[.nilIface]
  rw[←HW0.out]
  simpa using this)
 have HLX:=yG (zO1 A l l.length c W0 rfl (by omega) hcap hnil (h.ext HX0.out));have hm:=hmf;clear h hl hl2 hnil hcap hbig
 go_enter_defers Tryz.func7,Tryz.ntmps7
 have cs0:W0.cell? ⟨w.heap.size,0,none⟩=some (.slice A l.length c):=HS0.out.cell 0
 go_upto_region 1 with fail
 rw[HW0.out];obtain⟨g0,HG0⟩:∃g0,Hid (w.heap.size=g0):=⟨_,yG rfl⟩;rw[HG0.out] at cs0 HS0 HT0 HE0 ⊢
 go_wp2_with fail
 refine HLX.out.mono ?_;rw[HL.out];rintro e w1 ⟨hx1,A',c',rfl,hz,hr⟩
 have hpos:0<ts.length:=by
  obtain⟨⟨m,e,hm,_⟩,_⟩:=HTK.out;rw[hm]
  simp
 obtain⟨bt,rfl⟩:∃bt,A'=some ⟨bt,0,none⟩:=by
  rcases zAQ hr with e | e
  ·exfalso
   rw[e] at hr
   rcases hr.2 with ⟨_,h0⟩ | ⟨g,_,_,hv,_⟩
   ·omega
   ·cases hv
  ·exact e
 have hbt:=jE hr rfl;have HBT:=yG hbt;have HR:=yG hr
 have hcc:ts.length≤c':=by
  rcases hr.2 with ⟨hv,_⟩ | ⟨g,cap,cur,hv,_,_,hle,_⟩
  ·cases hv
  ·injection hv with _ _ e; omega
 have HCC:=yG hcc;have HX1:=yG (HX0.out.trans hx1);have HX01:=yG hx1;have HS1:=yG (HS0.out.ext hx1);have HT1:=yG (HT0.out.ext hx1);have HE1:=yG (HE0.out.ext hx1);have HSZ:Hid (g0+1+1<W0.heap.size∧W0.heap.size≤w1.heap.size):=yG ⟨HE0.out.lt,hx1.size⟩;have c2:w1.cell? ⟨g0+1+1,0,none⟩=some .nilIface:=HE1.out.cell 0;have z2:=HE1.out.frozen 0;have gl2:=HE1.out.lt;clear hx1 hr hz hbt hcc hpos cs0
 go_wp2_with fail
 obtain⟨wS,HWS⟩:∃wS,Hid (w1.setCell ⟨g0+1+1,0,none⟩ .nilIface=wS):=⟨_,yG rfl⟩
 have hss:wS.heap.size=w1.heap.size:=by rw[←HWS.out]; simp[World.setCell]
 have hso:∀b,b≠g0+1+1→wS.heap[b]?=w1.heap[b]?:=fun b hb=>by rw[←HWS.out]; exact zS w1 ⟨g0+1+1,0,none⟩ _ b hb
 have hES:Blk wS (g0+1+1) 28 #[.nilIface]:=by rw[←HWS.out]; exact HE1.out.put 0 .nilIface
 have hXS:Ext w wS:=by rw[←HWS.out]; exact HX1.out.set (by have:=HG0.out; omega)
 rw[HWS.out];obtain⟨W4,HW4⟩:∃W4,Hid ((wS.alloc (.cells #[.slice (some ⟨bt,0,none⟩) ts.length c',.slice none 0 0,.int .i64 0] 72)).alloc (.cells #[.pointer (some ⟨w1.heap.size,0,none⟩)] 70)=W4):=⟨_,yG rfl⟩;have HX4:Hid (Ext wS W4):=yG (by rw[←HW4.out]; exact(Ext.alloc _ _).trans (Ext.alloc _ _))
 have hPB:Blk W4 w1.heap.size 72 #[.slice (some ⟨bt,0,none⟩) ts.length c',.slice none 0 0,.int .i64 0]:=by
  have:=(Blk.new wS 72 #[.slice (some ⟨bt,0,none⟩) ts.length c',.slice none 0 0,.int .i64 0]).alloc (.cells #[.pointer (some ⟨w1.heap.size,0,none⟩)] 70)
  rw[←HW4.out,←hss];rw[←hss] at this;exact this
 have hGP:Blk W4 (w1.heap.size+1) 70 #[.pointer (some ⟨w1.heap.size,0,none⟩)]:=by
  have:=Blk.new (wS.alloc (.cells #[.slice (some ⟨bt,0,none⟩) ts.length c',.slice none 0 0,.int .i64 0] 72)) 70 #[.pointer (some ⟨w1.heap.size,0,none⟩)]
  rw[←HW4.out]
  simpa [hss] using this
 have hg0:=HG0.out;have hb1:=HBT.out;have hb2:=HSZ.out;have hS4:Blk W4 g0 22 #[.slice A l.length c]:=Blk.ext ((hso g0 (by omega)).trans HS1.out) HX4.out;have hT4:Blk W4 (g0+1) 26 #[.slice none 0 0]:=Blk.ext ((hso (g0+1) (by omega)).trans HT1.out) HX4.out;have hE4:Blk W4 (g0+1+1) 28 #[.nilIface]:=hES.ext HX4.out;have hXW:Ext w W4:=hXS.trans HX4.out
 have hPS:PS W4 w1.heap.size w1.heap.size ⟨ts,[],0⟩ ⟨bt,0,c',none,0,[]⟩:=by
  refine⟨hPB,fun k hk=>?_,HCC.out,hb1.2,rfl,NS.nil _ _ _ _,zX _,⟨HTK.out.1,zW _⟩⟩;have h1:=HR.out.cellAt k (by exact hk);rw[←h1,Nat.zero_add];refine World.cell?_of_block (w:=w1) (a:=⟨bt,k,none⟩) ((HX4.out.block bt ?_).trans (hso bt ?_))
  ·rw[hss]; exact hb1.2
  ·show bt≠_; omega
 have hgood:Good ⟨ts,[],0⟩:=⟨HTK.out.1,zW _,fun n hn=>by cases hn⟩
 have hphi:(⟨ts,[],0⟩:Ps).phi≤999999:=by
  have h1:=HTK.out.2.1;have h2:=HBG.out
  show 0+2*ts.length≤_
  omega
 have HPC:=yG (zLN W4 w1.heap.size w1.heap.size ⟨ts,[],0⟩ ⟨bt,0,c',none,0,[]⟩ hPS hgood rfl hphi);have HSUB:=yG (zMu (s:=⟨ts,[],0⟩) HTK.out.1);have HS4:=yG hS4;have HT4:=yG hT4;have HE4:=yG hE4;have HGP:=yG hGP;have HXW:=yG hXW;have HPL:Hid (w1.heap.size<W4.heap.size):=yG hPB.lt;have HNUM:Hid (w.heap.size=g0∧g0+1+1<w1.heap.size):=yG ⟨hg0,by omega⟩
 have HMV:Hid (∀w' R',xD W4 (xL w1.heap.size ⟨bt,0,c',none,0,[]⟩) w' (xL w1.heap.size R')→Below w1.heap.size W4 w'∧w'.heap[w1.heap.size+1]?=W4.heap[w1.heap.size+1]?):=yG fun w' R' h=>by
  have hm:∀b,xL w1.heap.size ⟨bt,0,c',none,0,[]⟩ b→b=w1.heap.size:=fun b hb=>by
   rcases hb with hb | hb | hb
   ·exact hb
   ·cases hb
   ·cases hb
  exact⟨⟨h.os,h.tape,h.output,h.size,fun b hb=>h.jL b (by have:=HPL.out; omega) (fun k=>by have:=hm b k; omega)⟩,h.jL _ hGP.lt (fun k=>by have:=hm _ k; omega)⟩
 rw[HW4.out];clear hXS hES hso hss hPB hGP hS4 hT4 hE4 hXW hPS hgood hphi HWS HW4 HX4 c2 z2 gl2 hg0 hb1 hb2;generalize hpp:w1.heap.size=p at *;clear hpp;refine HPC.out.mono ?_;intro e w5 hpost
 cases hq:zDh ⟨ts,[],0⟩ with
 | ok a s5=>
  have HPT:Hid (zCZ ts=.ok s5.nd):=yG (by unfold zCZ; rw[hq]);rw[hq] at hpost;obtain⟨rfl,R5,hp5,hm5⟩:=hpost;obtain⟨hb5,hk5⟩:=HMV.out _ _ hm5;have HP5:=yG hp5;have HB5:=yG hb5;have cg:w5.cell? ⟨p+1,0,none⟩=some (.pointer (some ⟨p,0,none⟩)):=Blk.cell (show Blk w5 (p+1) 70 _ from hk5.trans HGP.out) 0;have x1:=hp5.x1;have hT5:=zEd hb5 (by have:=HNUM.out; omega) HT4.out;have hE5:=zEd hb5 (by have:=HNUM.out; omega) HE4.out;have HT5:=yG hT5;have HE5:=yG hE5;have t0:w5.cell? ⟨g0+1,0,none⟩=some (.slice none 0 0):=hT5.cell 0;have e0:w5.cell? ⟨g0+1+1,0,none⟩=some .nilIface:=hE5.cell 0;have tz:=hT5.frozen 0;have ez:=hE5.frozen 0;have hpl:=hp5.blk.lt;clear hq hp5 hm5 hb5 hk5 hT5 hE5
  go_wp2_with fail
  have HX6:Hid (Ext w ((w5.setCell ⟨g0+1,0,none⟩ (.slice R5.A R5.nh.length R5.c)).setCell ⟨g0+1+1,0,none⟩ .nilIface)):=yG (((show Ext w w5 from Below.trans HXW.out (zKq HB5.out (by have:=HNUM.out; omega))).set (by have:=HNUM.out; omega)).set (by have:=HNUM.out; omega))
  have HN6:Hid (NS ((w5.setCell ⟨g0+1,0,none⟩ (.slice R5.A R5.nh.length R5.c)).setCell ⟨g0+1+1,0,none⟩ .nilIface) w.heap.size 39 3 R5.A R5.c R5.nh):=yG ((HP5.out.ns.jL fun b hb=>by
   have h1:=(HP5.out.ns.ZU hb).1;have h2:=HNUM.out
   rw[zS _ ⟨g0+1+1,0,none⟩ _ b (by show b≠g0+1+1; omega),zS _ ⟨g0+1,0,none⟩ _ b (by show b≠g0+1; omega)]).lower (by have:=HNUM.out; omega))
  have hT6:=(HT5.out.put 0 (.slice R5.A R5.nh.length R5.c)).far (p:=⟨g0+1+1,0,none⟩) (by simp) .nilIface;have hE6:=(HE5.out.far (p:=⟨g0+1,0,none⟩) (by simp) (.slice R5.A R5.nh.length R5.c)).put 0 .nilIface;generalize (w5.setCell ⟨g0+1,0,none⟩ (.slice R5.A R5.nh.length R5.c)).setCell ⟨g0+1+1,0,none⟩ .nilIface=W6 at *;have t6:W6.cell? ⟨g0+1,0,none⟩=some (.slice R5.A R5.nh.length R5.c):=hT6.cell 0;have e6:W6.cell? ⟨g0+1+1,0,none⟩=some .nilIface:=hE6.cell 0;refine leaves_cons (f:=21) (args:=#[.pointer (some ⟨g0,0,none⟩),.pointer (some ⟨p+1,0,none⟩),.pointer (some ⟨g0+1,0,none⟩),.pointer (some ⟨g0+1+1,0,none⟩)]) (by simp) (by simp[go_sem]) ?_;refine(zOg W6 _ rfl).mono ?_;rintro e u' w'' ⟨rfl,rfl,rfl⟩;refine⟨.tuple #[.agg #[.slice R5.A R5.nh.length R5.c],.nilIface],by simp[results,Tryz.results7,go_sem,t6,e6],?_⟩;rw[HPT.out];exact⟨HX6.out,R5.A,R5.c,R5.nh,rfl,HP5.out.nodes,HN6.out⟩
 | err er a=>
  have HPT:Hid (zCZ ts=.err a er):=yG (by unfold zCZ; rw[hq]);have hsub:=HSUB.out;rw[hq] at hpost hsub;obtain⟨rfl,s6,hat,R6,hp6,hm6⟩:=hpost;obtain⟨her,t,ht,hta⟩:=hsub;obtain⟨hb5,hk5⟩:=HMV.out _ _ hm6
  have hal:a≤l.length:=by rw[←hta.1]; exact HTK.out.2.2 t ht
  have hn0:er≠0:=by rcases her with h | h <;> (rw[h]; decide)
  have hT5:=zEd hb5 (by have:=HNUM.out; omega) HT4.out;have hE5:=zEd hb5 (by have:=HNUM.out; omega) HE4.out;have hS5:=zEd hb5 (by have:=HNUM.out; omega) HS4.out;have hG5:Blk w5 (p+1) 70 #[.pointer (some ⟨p,0,none⟩)]:=hk5.trans HGP.out;have hxw:=HXW.out.size;have hnum:=HNUM.out;have hX5:Ext w w5:=Below.trans HXW.out (zKq hb5 (by omega));refine leaves_cons (f:=21) (args:=#[.pointer (some ⟨g0,0,none⟩),.pointer (some ⟨p+1,0,none⟩),.pointer (some ⟨g0+1,0,none⟩),.pointer (some ⟨g0+1+1,0,none⟩)]) (by simp) (by simp[go_sem]) ?_;refine(zMU w5 p g0 (p+1) (g0+1) (g0+1+1) l A c s6 R6 er hn0 (by have:=HBG.out; omega) HCP.out (HC.out.ext hX5) hp6.ts (by rw[hat]; exact hal) hS5 hG5 hT5 hE5 (by omega)).mono ?_;rintro e u' w'' ⟨rfl,rfl,g,w6,hx6,hg,hbe,rfl⟩;rw[hat] at hbe;have h1:=hx6.size;have h2:=hX5.size;have h3:=hT5.lt;have h4:=hE5.lt;have hT6:=((hT5.ext hx6).put 0 (.slice none 0 0)).far (p:=⟨g0+1+1,0,none⟩) (by simp) (.iface 98 (.pointer (some ⟨g,0,none⟩)));have hE6:=((hE5.ext hx6).far (p:=⟨g0+1,0,none⟩) (by simp) (.slice none 0 0)).put 0 (.iface 98 (.pointer (some ⟨g,0,none⟩)));have hB6:=(hbe.far (p:=⟨g0+1,0,none⟩) (by show g≠g0+1; omega) (.slice none 0 0)).far (p:=⟨g0+1+1,0,none⟩) (by show g≠g0+1+1; omega) (.iface 98 (.pointer (some ⟨g,0,none⟩)));have hX6:=((hX5.trans hx6).set (u:=.slice none 0 0) (i:=0) (g:=g0+1) (by omega)).set (u:=.iface 98 (.pointer (some ⟨g,0,none⟩))) (i:=0) (g:=g0+1+1) (by omega)
  generalize (w6.setCell ⟨g0+1,0,none⟩ (.slice none 0 0)).setCell ⟨g0+1+1,0,none⟩ (.iface 98 (.pointer (some ⟨g,0,none⟩)))=W6 at *;have t6:W6.cell? ⟨g0+1,0,none⟩=some (.slice none 0 0):=hT6.cell 0;have e6:W6.cell? ⟨g0+1+1,0,none⟩=some (.iface 98 (.pointer (some ⟨g,0,none⟩))):=hE6.cell 0;refine⟨.tuple #[.agg #[.slice none 0 0],.iface 98 (.pointer (some ⟨g,0,none⟩))],by simp[results,Tryz.results7,go_sem,t6,e6],?_⟩;rw[HPT.out];exact⟨hX6,g,rfl,by omega,hB6⟩
theorem zKT (A:Option Addr)(l:Bs)(n c:Nat)(w:World)(hn:n=l.length)(hbig:l.length≤140737488355328)(hcap:l.length≤c)(hnil:A=none→c=0)(h:Cells w A (vB l)) :
  Calls Tryz.prog 7 #[.slice A n c] w (zGl l w (zBc l)):=by
 cases hl:zFs l with
 | err a er=>
  have:=zLv A l n c w hn hbig hcap hnil h a er hl
  unfold zBc;rw[hl];exact this
 | ok ts=>
  have hlim:l.length≤65536:=by
   unfold zFs at hl
   split at hl
   ·cases hl
   ·omega
  have hl2:zA4 0 l=.ok ts:=by
   unfold zFs at hl;rw[if_neg (by omega)] at hl;exact hl
  have:=zRq A l n c w hn hlim hcap hnil h ts hl hl2
  unfold zBc;rw[hl];exact this
theorem zRj (v:VK)(w:World)(hG:GT w)(hv:v.ok w):Calls Tryz.prog 12 #[.iface v.ty v.dat] w fun e w'=>e=.returned (.int .i64 v.code)∧Ext w w':=by
 have hb:Blk (w.alloc (.cells #[.int .i64 0] 52)) w.heap.size 52 #[.int .i64 0]:=Blk.new _ _ _;have HC:=yG (zTc v (w.alloc (.cells #[.int .i64 0] 52)) (hG.ext (Ext.alloc _ _)) (VK.zOF (Ext.alloc _ _) hv) 0 w.heap.size hb);obtain⟨vt,hvt⟩:∃vt,v.ty=vt:=⟨_,rfl⟩;obtain⟨vd,hvd⟩:∃vd,v.dat=vd:=⟨_,rfl⟩;obtain⟨vc,hvc⟩:∃vc,v.code=vc:=⟨_,rfl⟩;rw[hvt,hvd,hvc] at HC;rw[hvt,hvd,hvc];clear hvt hvd hvc hb hv hG
 go_enter Tryz.func12,Tryz.ntmps12
 go_wp2_with fail
 refine HC.out.mono ?_;rintro e w' ⟨rfl,hm,hb⟩;have c0:=hb.cell 0;have HX:=yG (hm.ext (Ext.alloc w (.cells #[.int .i64 0] 52)) (zX _));clear hm hb HC
 go_wp2_with fail
 go_ret;exact⟨rfl,HX.out⟩
theorem zRv (W:World)(cs:Array Value)(n:Nat)(hn:cs.size=n):(convert 22 22 (.slice (some ⟨W.heap.size,0,none⟩) n n)).run Tryz.prog (W.alloc (.cells cs 5))=.ok (.slice (some ⟨W.heap.size,0,none⟩) n n) ((W.alloc (.cells cs 5)).freeze ⟨W.heap.size,n,none⟩ 1):=by
 subst hn;exact zDi _ _ _ Tryz.underlying22 Tryz.underlying5 _ _ _ (zQ _ _)
theorem zUe (W:World)(cs:Array Value)(n:Nat):Ext W ((W.alloc (.cells cs 5)).freeze ⟨W.heap.size,n,none⟩ 1):=
 ⟨rfl,rfl,rfl,by simp[World.freeze],fun k hk=>(zEs _ _ _ _ (by omega)).trans ((Ext.alloc W _).block k hk)⟩
theorem zQD (W:World)(cs:Array Value)(n:Nat)(l:Bs)(hl:cs.toList=vB l):Cells ((W.alloc (.cells cs 5)).freeze ⟨W.heap.size,n,none⟩ 1) (some ⟨W.heap.size,0,none⟩) (vB l):=by
 obtain⟨fr,hfr⟩:=zAY (W.alloc (.cells cs 5)) W.heap.size n (zQ _ _);refine .inr ⟨W.heap.size,0,rfl,(Array.getElem?_eq_some_iff.1 hfr).1,fun k hk=>?_⟩;rw[Nat.zero_add,cell_of_row _ _ k _ _ fr hfr,←hl]
 simp
theorem zJ4 (w:World)(l:Bs):Cells (Lib.bytesWorld w 5 (xI l)) (some ⟨w.heap.size,0,none⟩) (vB l):=by
 have hsz:(xI l).size=l.length:=by simp[xI,ByteArray.size]
 exact .inr ⟨w.heap.size,0,rfl,by rw[Lib.bytesWorld_size]; omega,fun k hk=>by
  rw[jV] at hk;rw[Nat.zero_add,Lib.bytesWorld_cell w 5 (xI l) k (by rw[hsz]; exact hk),zAa l k hk]
  simp[xI,hk]⟩
theorem zMk (w:World)(l:Bs):(convert 9 22 (.string (xI l))).run Tryz.prog w=.ok (.slice (some ⟨w.heap.size,0,none⟩) l.length (grownCap w l.length 0 5)) (Lib.bytesWorld w 5 (xI l))∧l.length≤grownCap w l.length 0 5:=by
 have hsz:(xI l).size=l.length:=by simp[xI,ByteArray.size]
 have h:=Lib.run_convert_string_bytes (P:=Tryz.prog) w 9 22 5 (xI l) Tryz.underlying9 Tryz.underlying22 Tryz.underlying5;have hcp:=grownCap_ge w (xI l).size 0 5;rw[hsz] at h hcp;exact⟨h,hcp⟩
theorem zPh (w:World)(l:Bs):Ext w (Lib.bytesWorld w 5 (xI l)):=Ext.bytesWorld w 5 (xI l)
theorem zTW (g:Nat)(a l c e':Int)(w:World)(hG:GT w)(hg:Blk w g 102 #[.int .i64 a,.int .i64 l,.int .i64 c,.int .i64 e']):Calls Tryz.prog 12 #[.iface 98 (.pointer (some ⟨g,0,none⟩))] w fun e w'=>e=.returned (.int .i64 e')∧Ext w w':=zRj (.at_ g a l c e') w hG hg
structure TR (w:World)(A:Option Addr)(nh:List (Nd × Hd2)):Prop where
 row:Cells w A (ncs nh)
 kids:∀x ∈ nh,Cells w x.2.1 (ints x.1.kids)
theorem TR.ext {w w':World}{A:Option Addr}{nh:List (Nd × Hd2)}(h:TR w A nh)(hx:Ext w w'):TR w' A nh:=⟨h.row.ext hx,fun x hx'=>(h.kids x hx').ext hx⟩
theorem NS.tr {w:World}{B:Nat}{tn ti:TypeId}{A:Option Addr}{c:Nat}{nh:List (Nd × Hd2)}(h:NS w B tn ti A c nh):TR w A nh:=⟨Cells.own h.row,fun x hx=>Cells.own (h.kids x hx)⟩
theorem TR.at {w:World}{A:Option Addr}{nh:List (Nd × Hd2)}(h:TR w A nh)(h0:0<nh.length):∃b off,A=some ⟨b,off,none⟩∧b<w.heap.size∧∀k (hk:k<nh.length) j,j<5→w.cell? ⟨b,off+(k*5+j),none⟩=(YH nh[k])[j]?:=by
 obtain⟨b,off,hA,hb,hc⟩:=h.row.at_ (by rw[zPd]; omega);exact⟨b,off,hA,hb,fun k hk j hj=>by rw[hc (k*5+j) (by rw[zPd]; omega),zSW nh k hk j hj]⟩
theorem zI2 (A:Option Addr)(l:Bs)(n c:Nat)(w:World)(hn:n=l.length)(hbig:l.length≤140737488355328)(hcap:l.length≤c)(hnil:A=none→c=0)(h:Cells w A (vB l))(nd:List Nd)(hr:zBc l=.ok nd) :
  Calls Tryz.prog 7 #[.slice A n c] w fun e w'=>∃A' c' nh,e=.returned (.tuple #[.agg #[.slice A' nh.length c'],.nilIface])∧nd=nh.map Prod.fst∧NS w' w.heap.size 39 3 A' c' nh∧Ext w w':=by
 refine(zKT A l n c w hn hbig hcap hnil h).mono ?_;rintro e w' ⟨hx,h⟩;rw[hr] at h;obtain⟨A',c',nh,h1,h2,h3⟩:=h;exact⟨A',c',nh,h1,h2,h3,hx⟩
theorem zPS (A:Option Addr)(l:Bs)(n c:Nat)(w:World)(hn:n=l.length)(hbig:l.length≤140737488355328)(hcap:l.length≤c)(hnil:A=none→c=0)(h:Cells w A (vB l))(a:Nat)(er:Int)(hr:zBc l=.err a er) :
  Calls Tryz.prog 7 #[.slice A n c] w fun e w'=>∃g,e=.returned (.tuple #[.agg #[.slice none 0 0],.iface 98 (.pointer (some ⟨g,0,none⟩))])∧w.heap.size≤g∧Blk w' g 102 #[.int .i64 (a:Int),.int .i64 (zE5 l a),.int .i64 (zJG l a),.int .i64 er]∧Ext w w':=by
 refine(zKT A l n c w hn hbig hcap hnil h).mono ?_;rintro e w' ⟨hx,h⟩;rw[hr] at h;obtain⟨g,h1,h2,h3⟩:=h;exact⟨g,h1,h2,h3,hx⟩
def zUm:Value→Option (DataW Value × List MemPlace):=fun v=>some (.held v,[])
def MF (P:Program)(kt:TypeId)(w:World)(b n:Nat)(f:Bs→Option Value):Prop:=
 ∃D:DataW Value,w.ownsMap P kt zUm b n D∧Maps.IsMap D∧∀k:Bs,Maps.has D (.string k)=(f k).isSome∧∀z,D.atKey (.string k) (.held z)=.held ((f k).getD z)
section
variable {P:Program} {kt:TypeId} {w w':World} {b n:Nat} {f:Bs→Option Value}
theorem MF.lt (h:MF P kt w b n f):b<w.heap.size:=let ⟨_,h1,_⟩:=h; h1.lt
theorem MF.jL (h:MF P kt w b n f)(hk:w'.heap[b]?=w.heap[b]?):MF P kt w' b n f:=by
 obtain⟨D,⟨es,clock,hb,r⟩,h2⟩:=h;exact⟨D,⟨es,clock,hk.trans hb,r⟩,h2⟩
theorem MF.mono (h:MF P kt w b n f){m:Nat}(hm:n≤m):MF P kt w b m f:=let ⟨D,h1,h2⟩:=h; ⟨D,h1.mono hm,h2⟩
theorem MF.ext (h:MF P kt w b n f)(hx:Ext w w'):MF P kt w' b n f:=h.jL (hx.block b h.lt)
theorem MF.congr (h:MF P kt w b n f){g:Bs→Option Value}(e:∀k,g k=f k):MF P kt w b n g:=by rw[show g=f from funext e]; exact h
theorem MF.isMap (h:MF P kt w b n f):∃es clock,w.heap[b]?=some (.map es clock):=let ⟨_,⟨es,clock,hb,_⟩,_⟩:=h; ⟨es,clock,hb⟩
theorem MF.ne (h:MF P kt w b n f){g:Nat}{t:TypeId}{cs:Array Value}(hg:Blk w g t cs):b≠g:=by
 rintro rfl;obtain⟨es,clock,hb⟩:=h.isMap
 have:=hg.symm.trans hb
 cases this
theorem MF.new (w:World):MF P kt (w.alloc (.map #[] 0)) w.heap.size 0 fun _=>none:=
 ⟨.map [],World.ownsMap_made w P kt zUm,Maps.isMap_empty,fun k=>⟨rfl,fun z=>rfl⟩⟩
theorem MF.get {t e:TypeId}(h:MF P kt w b n f)(hk:P.underlying kt=some .string)(ht:P.underlying t=some (.map kt e)){z:Value}(hz:(zeroValue e).run P w=.ok z w)(k:Bs)(hl:k.length≤maxLen) :
  (Instr.lookup t (.map (some b)) (.string (xI k)) true).run P w=.ok (.tuple #[(f k).getD z,.bool (f k).isSome]) w:=by
 obtain⟨D,h1,h2,h3⟩:=h;have hkey:keyOf P kt (.string (xI k))=some (.string k):=WideMaps.keyOf_string_mk hk (s:=xI k) hl;obtain⟨v,ps,hrun,hv⟩:=h1.look_ok (Maps.string_keyed hk) ht hz (zd:=.held z) (zp:=[]) rfl hkey
 have e1:DataW.held v=.held ((f k).getD z):=by
  rw[←(h3 k).2 z];exact congrArg Prod.fst (Option.some.inj hv)
 injection e1 with e1;rw[hrun,(h3 k).1,e1]
theorem MF.put {t e:TypeId}(h:MF P kt w b n f)(hk:P.underlying kt=some .string)(ht:P.underlying t=some (.map kt e))(hn:n<maxLen)(k:Bs)(hl:k.length≤maxLen)(v:Value) :
  ∃w',(Instr.mapUpdate t (.map (some b)) (.string (xI k)) v).run P w=.ok () w'∧MF P kt w' b (n+1) (fun x=>if x=k then some v else f x)∧w.grownBy w' (some b)∧w'.heap.size=w.heap.size:=by
 obtain⟨D,h1,h2,h3⟩:=h;have hkey:keyOf P kt (.string (xI k))=some (.string k):=WideMaps.keyOf_string_mk hk (s:=xI k) hl;have hlit:WideAt.IsKeyLit (.string k):=(Maps.string_keyed hk).key hkey;obtain⟨w',hrun,r1,r2⟩:=h1.store (Maps.string_keyed hk) ht hn (d:=.held v) (ps:=[]) hkey rfl;refine⟨w',hrun,⟨_,r1,h2.put _ _,fun x=>?_⟩,r2.grown,?_⟩
 ·by_cases hx:x=k
  ·subst hx;simp only[if_true];exact⟨Maps.has_put_same h2 hlit _,fun z=>Maps.atKey_put_same h2 hlit _ _⟩
  ·simp only[if_neg hx];have hne:Lit.string x≠Lit.string k:=fun e=>hx (by injection e);exact⟨(Maps.has_put_other hne _).trans (h3 x).1,fun z=>(Maps.atKey_put_other hne _ _).trans ((h3 x).2 z)⟩
 ·obtain⟨es,clock,es',clock',hb,rfl⟩:=r2;simp[Go.ChangeMaps.setBlock]
end
section
variable {P:Program} {ops:Array Oper} {rest:List Oper} {o:Oper} {a:Act} {w:World} {Q:Exit→Act→World→Prop}
theorem zE2 (hg:o.guard=none)(m x v:Operand)(t:TypeId)(hop:o.op=Op.mapUpdate t m x v){kt e:TypeId}(hk:P.underlying kt=some .string)(ht:P.underlying t=some (.map kt e))
  (b n:Nat) (f:Bs→Option Value) (k:Bs) (u:Value) (hm:a.eval m=.map (some b)) (hx:a.eval x=.string (xI k)) (hv:a.eval v=u) (h:MF P kt w b n f) (hn:n<maxLen) (hl:k.length≤maxLen)
  (hK:∀w',MF P kt w' b (n+1) (fun y=>if y=k then some u else f y)→w.grownBy w' (some b)→w'.heap.size=w.heap.size→wpList P ops Q rest (a.put o.dst undef) w'):wpList P ops Q (o::rest) a w:=by
 refine wpList_plain hg fun K' hK'=>?_;obtain⟨w',hrun,r1,r2,r3⟩:=h.put hk ht hn k hl u;unfold Oper.wp;simp[execOp,hop,hm,hx,hv,hrun,Result.andThen];exact hK' _ _ (hK w' r1 r2 r3)
end
end Go.Proofs.YtbadjmmjbpeocaaGreatDoor
namespace Go.Proofs.YtbadjmmjbpeocaaGreatDoor
structure Nt where
 name:Bs
 zA0:List Bs
 deriving DecidableEq
structure Np where
 name:Bs
 params:Nat
 vars:List Bs
 single:Bool
 root:Nat
 deriving DecidableEq
structure Vr where
 name:Bs
 n:Nat
 loop:Bool
 deriving DecidableEq
structure Nr where
 xH:List Nt
 procs:List Np
 of:List Int
 vars:List Bs
 blocks:List (List Vr)
 deriving DecidableEq
inductive YQ (α:Type) where
 | ok (a:α)
 | err (i:Nat) (e:Int)
 deriving DecidableEq
def YQ.bind {α β:Type}:YQ α→(α→YQ β)→YQ β
 | .ok a,f=>f a
 | .err i e,_=>.err i e
abbrev Nn:=Nr→YQ Nr
def xC (t:List Nd)(i:Nat):Nd:=t.getD i ⟨0,0,[],0,[]⟩
def Nr.set (s:Nr)(i:Nat)(x:Int):Nr:={ s with of:=s.of.set i x }
def zCg (s:Nr)(t:Bs):Option Nat:=s.xH.findIdx? fun x=>x.name==t
def zC1 (s:Nr)(t:Bs):Option Nat:=s.procs.findIdx? fun x=>x.name==t
def zSG (s:Nr)(k:Nat)(t:Bs):Option Nat:=((s.xH[k]?).map fun x=>x.zA0.findIdx? fun c=>c==t).join
def VJ (s:Nr)(t:Bs):Option Vr:=s.blocks.findSome? fun b=>b.find? fun v=>v.name==t
def zAr (t:List Nd):List Nat→List Bs→Nr→YQ (List Bs × Nr)
 | [],cs,s=>.ok (cs,s)
 | k::l,cs,s=>if cs.contains (xC t k).text=true then .err k 71 else zAr t l (cs++[(xC t k).text]) (s.set k cs.length)
def JQ (t:List Nd)(i:Nat):Nn:=fun s=>
 if (zCg s (xC t i).text).isSome=true then .err i 71
 else if s.xH.length<64∧(xC t i).kids.length≤16 then
  (zAr t (xC t i).kids [] s).bind fun x=>.ok { x.2.set i s.xH.length with xH:=s.xH++[⟨(xC t i).text,x.1⟩] }
 else .err i 3
def zCi (t:List Nd)(i:Nat):Nn:=fun s=>
 if (zC1 s (xC t i).text).isSome=true then .err i 71
 else if s.procs.length<64 then .ok { s.set i s.procs.length with procs:=s.procs++[⟨(xC t i).text,0,[],(xC t i).num==1,i⟩] }
 else .err i 3
def XF (t:List Nd):List Nat→Nn
 | [],s=>.ok s
 | k::l,s=>((if (xC t k).kind=2 then JQ t k else zCi t k) s).bind (XF t l)
def vT (t:List Nd)(i:Nat)(loop:Bool):Nn:=fun s=>
 if s.vars.length<64 then .ok { s.set i s.vars.length with vars:=s.vars++[(xC t i).text],blocks:=(⟨(xC t i).text,s.vars.length,loop⟩::s.blocks.headD [])::s.blocks.tail }
 else .err i 3
def ZR (t:List Nd)(i:Nat):Nn:=fun s=>match VJ s (xC t i).text with
 | none=>vT t i false s
 | some v=>if v.loop=true then .err i 71 else .ok (s.set i v.n)
def jQ (does:Nn):Nn:=fun s=>(does { s with blocks:=[]::s.blocks }).bind fun s=>.ok { s with blocks:=s.blocks.tail }
def ofN (t:List Nd)(i:Nat):Nn:=fun s=>match zCg s (xC t i).text with
 | none=>.err i 70
 | some k=>.ok (s.set i k)
def ZH (t:List Nd)(i:Nat)(table:Int):Nn:=fun s=>match zSG s table.toNat (xC t i).text with
 | none=>.err i 70
 | some c=>.ok (s.set i c)
def vD (one:Nat→Nn):List Nat→Nn
 | [],s=>.ok s
 | k::l,s=>(one k s).bind (vD one l)
def xX (t:List Nd):Nat→Nat→Nn
 | 0,_,s=>.ok s
 | f+1,i,s=>
  ((if (xC t i).kind=22 then (match VJ s (xC t i).text with | none=>.err i 70 | some v=>.ok (s.set i v.n))
   else if (xC t i).kind=20 then ofN t i s else .ok s):YQ Nr).bind (vD (xX t f) (xC t i).kids)
def YI (t:List Nd)(i j:Nat):Nat:=(xC t i).kids.getD j 0
def zAO (s:Nr)(i:Nat):Int:=s.of.getD i (-1)
def jN (t:List Nd)(st:Nat→Nn)(i:Nat)(top:Bool):Nn:=
 jQ (vD (fun k s=>if (top||(xC t k).kind != 19)=true then st k s else .err k 73) (xC t i).kids)
def ZC (t:List Nd)(i:Nat):Nn:=fun s=>if (xC t i).kind=7∨(xC t i).kind=11∨(xC t i).kind=16 then ZR t i s else .ok s
def vF (t:List Nd):Nat→Nat→Nn
 | 0,_,s=>.ok s
 | f+1,i,s=>
  ((if (xC t i).kind=7∨(xC t i).kind=8 then
    (xX t (f+1) (YI t i 0) s).bind fun s=>(ZH t (YI t i 1) (zAO s (YI t i 0)) s).bind (vD (xX t (f+1)) ((xC t i).kids.drop 2))
   else if (xC t i).kind=9 then
    (ofN t (YI t i 0) s).bind fun s=>
     (if (xC t i).kids.length=((s.xH[(zAO s (YI t i 0)).toNat]?).map fun x=>x.zA0.length).getD 0+1 then YQ.ok (s.set i (zAO s (YI t i 0))) else .err i 72).bind
      (vD (xX t (f+1)) (xC t i).kids)
   else if (xC t i).kind=11 then (ofN t (YI t i 0) s).bind fun s=>ZH t (YI t i 1) (zAO s (YI t i 0)) s
   else if (xC t i).kind=15 then
    (if (VJ s (xC t i).text).isSome=true then .err i 71
     else jQ (fun s=>(vT t i true s).bind (jN t (vF t f) (YI t i 2) false)) s)
   else vD (fun k s=>if (xC t k).kind=5 then ofN t k s else if (xC t k).kind=6 then jN t (vF t f) k false s else xX t (f+1) k s) (xC t i).kids s):YQ Nr).bind (ZC t i)
def ZP (t:List Nd):List Nat→Nn
 | [],s=>.ok s
 | k::l,s=>if (VJ s (xC t k).text).isSome=true then .err k 71 else (vT t k false s).bind (ZP t l)
def zFO (t:List Nd)(j:Nat):Nn:=fun s=>match s.procs[j]? with
 | none=>.ok s
 | some p=>(jQ (fun s=>(ZP t (xC t (YI t p.root 0)).kids s).bind (jN t (vF t t.length) (YI t p.root 1) true)) { s with vars:=[] }).bind fun s=>
   .ok { s with procs:=s.procs.set j { p with params:=(xC t (YI t p.root 0)).kids.length,vars:=s.vars } }
def JX (t:List Nd):Nat→Nat→Nn
 | 0,_,s=>.ok s
 | f+1,j,s=>if j<s.procs.length then (zFO t j s).bind (JX t f (j+1)) else .ok s
def jK (t:List Nd):YQ Nr:=
 (XF t (xC t 0).kids ⟨[],[],List.replicate t.length (-1),[],[]⟩).bind fun s=>JX t s.procs.length 0 s
structure Qn where
 xH:List Nt
 procs:List Np
 of:List Int
 vars:List Bs
 params:Nat
 there:List Vr
 e:Int
 at_:Nat
 deriving DecidableEq
def Qn.fail (i:Nat)(e:Int)(q:Qn):Qn:=if q.e=0 then { q with e:=e,at_:=i } else q
def Qn.set (q:Qn)(i:Nat)(x:Int):Qn:={ q with of:=q.of.set i x }
def zIe (o:Option Nat):Int:=match o with
 | some k=>k
 | none=>-1
def Qn.tab (q:Qn)(t:Bs):Int:=zIe (q.xH.findIdx? fun x=>x.name==t)
def Qn.proc (q:Qn)(t:Bs):Int:=zIe (q.procs.findIdx? fun x=>x.name==t)
def Qn.find (q:Qn)(t:Bs):Option Vr:=q.there.find? fun v=>v.name==t
structure Sim (s:Nr)(q:Qn):Prop where
 xH:q.xH=s.xH
 procs:q.procs=s.procs
 of:q.of=s.of
 vars:q.vars=s.vars
 there:q.there=s.blocks.flatten
 e:q.e=0
def zKk (x:YQ Nr)(q:Qn):Prop:=match x with
 | .ok s=>Sim s q
 | .err i e=>q.e=e∧q.at_=i∧e≠0
def zGZ (M:Qn→Qn):Prop:=∀q,q.e≠0→(M q).e=q.e∧(M q).at_=q.at_
structure zLO (m:Nn)(M:Qn→Qn):Prop where
 dead:zGZ M
 live:∀s q,Sim s q→zKk (m s) (M q)
theorem zGZ.comp {M N:Qn→Qn}(h:zGZ M)(k:zGZ N):zGZ fun q=>N (M q):=fun q hq=>by
 obtain⟨h1,h2⟩:=h q hq;obtain⟨k1,k2⟩:=k (M q) (by rw[h1]; exact hq);exact⟨k1.trans h1,k2.trans h2⟩
theorem zKk.bind {x:YQ Nr}{q:Qn}{f:Nr→YQ Nr}{N:Qn→Qn}(h:zKk x q)(hN:zGZ N)(k:∀s,x=.ok s→Sim s q→zKk (f s) (N q)):zKk (x.bind f) (N q):=by
 cases x with
 | ok s=>exact k s rfl h
 | err i e=>
  obtain⟨h1,h2,h3⟩:=h;obtain⟨k1,k2⟩:=hN q (by rw[h1]; exact h3);exact⟨k1.trans h1,k2.trans h2,h3⟩
theorem zLO.bind {m f:Nn}{M N:Qn→Qn}(h:zLO m M)(k:zLO f N):zLO (fun s=>(m s).bind f) fun q=>N (M q):=
 ⟨h.dead.comp k.dead,fun s q hs=>zKk.bind (h.live s q hs) k.dead fun s' _ hs'=>k.live s' _ hs'⟩
theorem Sim.set {s:Nr}{q:Qn}(h:Sim s q)(i:Nat)(x:Int):Sim (s.set i x) (q.set i x):=⟨h.xH,h.procs,by show q.of.set i x=s.of.set i x; rw[h.of],h.vars,h.there,h.e⟩
theorem Sim.tab {s:Nr}{q:Qn}(h:Sim s q)(t:Bs):q.tab t=zIe (zCg s t):=by unfold Qn.tab zCg; rw[h.xH]
theorem Sim.proc {s:Nr}{q:Qn}(h:Sim s q)(t:Bs):q.proc t=zIe (zC1 s t):=by unfold Qn.proc zC1; rw[h.procs]
theorem Sim.find {s:Nr}{q:Qn}(h:Sim s q)(t:Bs):q.find t=VJ s t:=by
 unfold Qn.find VJ;rw[h.there,List.find?_flatten]
def zDA (k:Nat):Prop:=21≤k∧k≤26
def zAg (t:List Nd)(i:Nat):Prop:=match (xC t i).kind with
 | 2=>True
 | 3=>∃a b,(xC t i).kids=[a,b]∧(xC t b).kind=6
 | 6=>∀k ∈ (xC t i).kids,7≤(xC t k).kind∧(xC t k).kind≤19
 | 7=>∃a b,(xC t i).kids=[a,b]∧(xC t a).kind=20
 | 8=>∃a b c,(xC t i).kids=[a,b,c]∧(xC t a).kind=20∧zDA (xC t c).kind
 | 9=>∃a l,(xC t i).kids=a::l∧(xC t a).kind=20∧∀k ∈ l,zDA (xC t k).kind
 | 10=>∃a,(xC t i).kids=[a]∧(xC t a).kind=20
 | 11=>∃a b,(xC t i).kids=[a,b]
 | 12=>∃a,(xC t i).kids=[a]∧((xC t a).kind=5∨(xC t a).kind=20)
 | 13=>∃a,(xC t i).kids=[a]∧((xC t a).kind=5∨(xC t a).kind=20)
 | 14=>∃a b l,(xC t i).kids=a::b::l∧zDA (xC t a).kind∧zDA (xC t b).kind∧∀k ∈ l,(xC t k).kind=6
 | 15=>∃a b c,(xC t i).kids=[a,b,c]∧(xC t c).kind=6
 | 16=>∃a,(xC t i).kids=[a]∧zDA (xC t a).kind
 | 17=>∃a,(xC t i).kids=[a]∧zDA (xC t a).kind
 | 18=>(xC t i).kids=[]
 | 19=>(xC t i).kids=[]
 | 20=>∃a,(xC t i).kids=[a]∧zDA (xC t a).kind
 | _=>∀k ∈ (xC t i).kids,zDA (xC t k).kind
structure VA (t:List Nd):Prop where
 up:∀i,∀k ∈ (xC t i).kids,i<k∧k<t.length
 form:∀i,i<t.length→(xC t i).kind≠1→(xC t i).kind≠4→zAg t i
theorem zTz {t:List Nd}(R:VA t){i:Nat}(hi:i<t.length)(hx:zDA (xC t i).kind):∀k ∈ (xC t i).kids,zDA (xC t k).kind∧k<t.length:=by
 have h:=R.form i hi (by have:=hx.1; omega) (by have:=hx.1; omega);have hx':=hx;unfold zDA at hx';unfold zAg at h;obtain⟨x,hk⟩:∃x,x=(xC t i).kind:=⟨_,rfl⟩;rw[←hk] at h hx'
 have:x=21∨x=22∨x=23∨x=24∨x=25∨x=26:=by omega
 rcases this with rfl | rfl | rfl | rfl | rfl | rfl <;> exact fun k hk=>⟨h k hk,(R.up i k hk).2⟩
end Go.Proofs.YtbadjmmjbpeocaaGreatDoor
