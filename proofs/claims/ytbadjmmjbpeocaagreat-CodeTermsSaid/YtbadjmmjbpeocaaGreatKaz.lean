/- The program's Parse: what it does behind a panic, and behind none. (and what follows of it). The conditions stand at each lemma. -/
import Derived.Test.YtbadjmmjbpeocaaGreatKaa
import Derived.Test.YtbadjmmjbpeocaaGreatKay
import Derived.Recover
import Derived.Defers
import Derived.Test.YtbadjmmjbpeocaaGreatKaq
import Derived.Test.YtbadjmmjbpeocaaGreatKam
set_option linter.unusedVariables false
set_option linter.unusedSimpArgs false
set_option maxRecDepth 100000
set_option maxHeartbeats 16000000
namespace Go.Proofs.YtbadjmmjbpeocaaGreat
open Go Go.RowKit
theorem zGy:∀(f p:Nat) (s:Bs) (l:List Tok),zD6 f p s=.ok l→∃m e,l=m++[e]∧e.kind=4
 | 0,p,s,l,h=>by cases h
 | f+1,p,s,l,h=>by
  unfold zD6 at h
  split at h
  ·injection h with h;subst h;exact⟨[],_,rfl,rfl⟩
  ·exact zGy f _ _ l h
  ·rename_i kd k n hs
   cases hr:zD6 f (p+k) (s.drop k) with
   | err a e=>rw[hr] at h; cases h
   | ok m=>
    rw[hr] at h;obtain⟨m',e,rfl,he⟩:=zGy f _ _ m hr;injection h with h;subst h;exact⟨_::m',e,rfl,he⟩
  ·cases h
theorem zGO:∀(f p:Nat) (s:Bs) (l:List Tok),s.length<f→zD6 f p s=.ok l→l.length≤s.length+1∧∀t ∈ l,t.at_≤p+s.length
 | 0,p,s,l,hf,h=>by cases h
 | f+1,p,s,l,hf,h=>by
  have hw:=zDu s;unfold zD6 at h
  split at h
  ·injection h with h;subst h;refine⟨by simp,fun t ht=>?_⟩;rw[List.mem_singleton.1 ht]
   simp
  ·rename_i k hs;rw[hs] at hw;obtain⟨h1,h2⟩:1≤k∧k≤s.length:=hw;have hl:(s.drop k).length=s.length-k:=List.length_drop;obtain⟨r1,r2⟩:=zGO f _ _ l (by omega) h;exact⟨by omega,fun t ht=>by have:=r2 t ht; omega⟩
  ·rename_i kd k n hs;rw[hs] at hw;obtain⟨h1,h2⟩:1≤k∧k≤s.length:=hw;have hl:(s.drop k).length=s.length-k:=List.length_drop
   cases hr:zD6 f (p+k) (s.drop k) with
   | err a e=>rw[hr] at h; cases h
   | ok m=>
    rw[hr] at h;injection h with h;subst h;obtain⟨r1,r2⟩:=zGO f _ _ m (by omega) hr;refine⟨by simp only[zK]; omega,fun t ht=>?_⟩
    rcases List.mem_cons.1 ht with rfl | ht
    ·show p≤p+s.length; omega
    ·have:=r2 t ht; omega
  ·cases h
theorem zK2 {l:Bs}{ts:List Tok}(h:zAZ 0 l=.ok ts):(∃m e,ts=m++[e]∧e.kind=4)∧ts.length≤l.length+1∧∀t ∈ ts,t.at_≤l.length:=by
 obtain⟨h1,h2⟩:=zGO _ 0 l ts (Nat.lt_succ_self _) h;exact⟨zGy _ 0 l ts h,h1,fun t ht=>by have:=h2 t ht; omega⟩
theorem zRY {a n:Nat}(h:a≤n):atN a n=a:=by unfold atN; omega
theorem zI5 (v:Value)(w:World):(Instr.typeAssert (.iface 75 v) 20 75 false).run Tryz.prog w=.ok v w:=by kernel_rfl
theorem zNd (w:World)(p gs gp gt ge:Nat)(l:Bs)(A:Option Addr)(c:Nat)(s:Ps)(R:xU)(er:Int)(her:er≠0)(hbig:l.length≤140737488355328)(hcap:l.length≤c)(hC:Cells w A (vC l))(hT:TS w p s R)(hat:s.hd.at_≤l.length)
  (hs:Blk w gs 22 #[.slice A l.length c]) (hp:Blk w gp 99 #[.pointer (some ⟨p,0,none⟩)]) (ht:Blk w gt 27 #[.slice none 0 0]) (he:Blk w ge 62 #[.nilIface]) (hne:gt≠ge) :
  CallsD Tryz.prog 41 #[.pointer (some ⟨gs,0,none⟩),.pointer (some ⟨gp,0,none⟩),.pointer (some ⟨gt,0,none⟩),.pointer (some ⟨ge,0,none⟩)] (.panicking ({ v:=.iface 75 (.int .i64 er),recovered:=false } :: [])) w fun e u' w'=>
   e=.returned (.tuple #[])∧u'=.panicking ({ v:=.iface 75 (.int .i64 er),recovered:=true } :: [])∧∃g w1,Ext w w1∧w.heap.size≤g∧Blk w1 g 153 #[.int .i64 (s.hd.at_:Int),.int .i64 (zFV l s.hd.at_),.int .i64 (zLD l s.hd.at_),.int .i64 er]∧w'=(w1.setCell ⟨gt,0,none⟩ (.slice none 0 0)).setCell ⟨ge,0,none⟩ (.iface 149 (.pointer (some ⟨g,0,none⟩))):=by
 have HT:=yG hT;have HC:=yG hC;have HAT:=yG hat;have HS:=yG hs;have HP:=yG hp;have HTR:=yG ht;have HER:=yG he;have HN:=yG her;have HBG:=yG hbig;have HCP:=yG hcap;have hf1:=zLf;have hta:=zI5;clear hT hC hat hs hp ht he her hbig hcap;refine callsD_of_wpS Tryz.func41 rfl fun c₀ cs hu=>?_;apply wpS_seq;apply wpS_region;simp[wpOpsS,go_sem,recoverD,hu,Tryz.ntmps41,Exit.thenS];refine wpS_of_wp ?_;simp[Array.replicate]
 go_upto_region 2 with fail
 have hsl:=HS.out.lt;have hpl:=HP.out.lt;have HTS:Hid (∀w',Ext w w'→TS w' p s R):=yG fun w' hx=>⟨HT.out.blk.ext hx,fun j hj=>(hx.cell (p:=⟨R.bt,R.ot+j,none⟩) HT.out.btl).trans (HT.out.tok j hj),yU HT.out.btl hx.size,HT.out.pos⟩;apply xS 8 (by kernel_rfl) (by kernel_rfl) (by kernel_rfl);dsimp only[List.take_succ_cons,List.take_zero,List.drop_succ_cons,List.drop_zero];apply yZ (.agg #[.slice none 0 0]) rfl rfl rfl
 ·intro w' hw' hH;clear hH hw';simp[xA,go_sem];exact Ext.refl _
 apply yZ (.slice A l.length c) rfl rfl rfl
 ·intro w' hw' hH;have cc:=(hw'.cell (p:=⟨gs,0,none⟩) hsl).trans (HS.out.cell 0);clear hH hw';simp[xA,go_sem,cc];exact Ext.refl _
 apply yZ (.pointer (some ⟨p,0,none⟩)) rfl rfl rfl
 ·intro w' hw' hH;have cc:=(hw'.cell (p:=⟨gp,0,none⟩) hpl).trans (HP.out.cell 0);clear hH hw';simp[xA,go_sem,cc];exact Ext.refl _
 simp only[Act.put,yD,yE,yF];apply yZ (.agg (ZZ s.hd).toArray) rfl rfl rfl
 ·intro w' hw' hH;have ht:=HTS.out w' hw';clear hH;simp[xA,go_sem];refine(ZF w' p s R ht).mono ?_;rintro e w2 ⟨rfl,hx⟩;exact⟨_,rfl,rfl,hx⟩
 apply yZ (.int .i64 (s.hd.at_:Int)) rfl rfl rfl
 ·intro w' hw' hH;clear hH hw';unfold ZZ;simp[xA,go_sem,hf1];exact Ext.refl _
 apply yZ (.iface 75 (.int .i64 er)) rfl rfl rfl
 ·intro w' hw' hH;clear hH hw';simp[xA,go_sem];exact Ext.refl _
 simp only[Act.put,yD,yE,yF];apply yZ (.int .i64 er) rfl rfl rfl
 ·intro w' hw' hH;clear hH hw';simp[xA,go_sem,hta];exact Ext.refl _
 simp only[Act.put,yD,yE,yF];apply vB (fun v w'=>∃g,v=.iface 149 (.pointer (some ⟨g,0,none⟩))∧w.heap.size≤g∧Blk w' g 153 #[.int .i64 (s.hd.at_:Int),.int .i64 (zFV l s.hd.at_),.int .i64 (zLD l s.hd.at_),.int .i64 er]) (fun v w w' h hx=>let ⟨g,a,b,c⟩:=h; ⟨g,a,b,c.ext hx⟩) rfl rfl rfl
 ·intro w' hw' hH;have hcc:=HC.out.ext hw';have hsz:=hw'.size;have hat:=HAT.out;have hbg:=HBG.out;clear hH;simp[xA,go_sem];refine(zHQ A l l.length c (s.hd.at_:Int) er w' rfl HBG.out HCP.out (by omega) (by omega) hcc HN.out).mono ?_;rintro e w2 ⟨g,rfl,hg,hb,hx⟩;rw[zRY HAT.out] at hb;exact⟨_,rfl,⟨g,rfl,Nat.le_trans hsz hg,hb⟩,hx⟩
 intro v15;simp only[Act.put,yD,yE,yF];apply xX;intro w2 hw2 hH;obtain⟨g,rfl,hg,hb⟩:=hH _ (List.mem_cons_self ..);have HX2:=yG hw2;have HB2:=yG hb;have HG2:=yG hg;have ct:=(HTR.out.ext hw2).cell 0;have zt:=(HTR.out.ext hw2).frozen 0;have ce:=(HER.out.ext hw2).cell 0;have ze:=(HER.out.ext hw2).frozen 0;simp only[yL,yM] at ct ce;clear hH hb hg hw2
 go_wp2_with fail
 simp[bodyPostS,results,Tryz.results41];exact⟨g,w2,HX2.out,HG2.out,HB2.out,rfl⟩
theorem zOw (w:World)(args:Array Value)(h4:args.size=4) :
  CallsD Tryz.prog 41 args .returning w fun e u' w'=>e=.returned (.tuple #[])∧u'=.returning∧w'=w:=by
 refine callsD_of_wpS Tryz.func41 rfl fun c₀ cs hu=>?_;obtain⟨l,rfl⟩:∃l:List Value,args=l.toArray:=⟨args.toList,by simp⟩
 obtain⟨a,b,c,d,rfl⟩:∃a b c d,l=[a,b,c,d]:=by
  match l,h4 with
  | [a,b,c,d],_=>exact⟨a,b,c,d,rfl⟩
 apply wpS_seq;apply wpS_region;simp[wpOpsS,go_sem,recoverD,hu,Tryz.ntmps41,Exit.thenS];refine wpS_of_wp ?_;simp[Array.replicate]
 go_wp2_with fail
 cases c₀
 simp_all [bodyPostS,results,Tryz.results41]
def zCk (l:Bs):zN1:=match zFA l with
 | .ok ts=>zC1 ts
 | .err p e=>.err p e
def zGr (l:Bs)(w:World)(r:zN1)(e:Ending)(w':World):Prop:=Ext w w'∧match r with
 | .ok nd=>∃A c nh,e=.returned (.tuple #[.agg #[.slice A nh.length c],.nilIface])∧nd=nh.map Prod.fst∧NS w' w.heap.size 38 3 A c nh
 | .err a er=>∃g,e=.returned (.tuple #[.agg #[.slice none 0 0],.iface 149 (.pointer (some ⟨g,0,none⟩))])∧w.heap.size≤g∧Blk w' g 153 #[.int .i64 (a:Int),.int .i64 (zFV l a),.int .i64 (zLD l a),.int .i64 er]
theorem NS.nil (w:World)(B:Nat)(tn ti:TypeId):NS w B tn ti none 0 []:=⟨zR _ _ _ _,fun x hx=>(by cases hx),fun i j hi=>(by cases hi),fun _=>rfl,fun x hx=>(by cases hx)⟩
theorem Ext.set {w w1:World}(h:Ext w w1){g i:Nat}{u:Value}(hg:w.heap.size≤g):Ext w (w1.setCell ⟨g,i,none⟩ u):=
 ⟨h.os,h.tape,h.output,by have:=h.size; simp[World.setCell]; omega,fun b hb=>(zS w1 ⟨g,i,none⟩ u b (fun e=>by subst e; exact absurd hb (Nat.not_lt.2 hg))).trans (h.block b hb)⟩
theorem zLU (A:Option Addr)(l:Bs)(n c:Nat)(w:World)(hn:n=l.length)(hbig:l.length≤140737488355328)(hcap:l.length≤c)(hnil:A=none→c=0)(h:Cells w A (vC l))(a:Nat)(er:Int)(hl:zFA l=.err a er) :
  Calls Tryz.prog 21 #[.slice A n c] w (zGr l w (.err a er)):=by
 subst hn;have HC:=yG h;have HL:=yG hl;obtain⟨W0,HW0⟩:∃W0,Hid (((w.alloc (.cells #[.slice A l.length c] 22)).alloc (.cells #[.slice none 0 0] 27)).alloc (.cells #[.nilIface] 62)=W0):=⟨_,yG rfl⟩;have HX0:Hid (Ext w W0):=yG (by rw[←HW0.out]; exact((Ext.alloc _ _).trans (Ext.alloc _ _)).trans (Ext.alloc _ _));have HS0:Hid (Blk W0 w.heap.size 22 #[.slice A l.length c]):=yG (by rw[←HW0.out]; exact((Blk.new _ _ _).alloc _).alloc _)
 have HT0:Hid (Blk W0 (w.heap.size+1) 27 #[.slice none 0 0]):=yG (by
  have:=(Blk.new (w.alloc (.cells #[.slice A l.length c] 22)) 27 #[.slice none 0 0]).alloc (.cells #[.nilIface] 62)
  rw[←HW0.out]
  simpa using this)
 have HE0:Hid (Blk W0 (w.heap.size+1+1) 62 #[.nilIface]):=yG (by
  have:=Blk.new ((w.alloc (.cells #[.slice A l.length c] 22)).alloc (.cells #[.slice none 0 0] 27)) 62 #[.nilIface]
  rw[←HW0.out]
  simpa using this)
 have HLX:=yG (zPd A l l.length c W0 rfl hbig hcap hnil (h.ext HX0.out));clear h hl
 go_enter_defers Tryz.func21,Tryz.ntmps21
 have cs0:W0.cell? ⟨w.heap.size,0,none⟩=some (.slice A l.length c):=HS0.out.cell 0
 go_upto_region 1 with fail
 rw[HW0.out]
 go_wp2_with fail
 refine HLX.out.mono ?_;rw[HL.out];rintro e w1 ⟨hx1,g,rfl,hg,hb⟩;have HX1:=yG (HX0.out.trans hx1);have HB1:=yG hb;have HG1:=yG (Nat.le_trans HX0.out.size hg);have HT1:=yG (HT0.out.ext hx1);have HE1:=yG (HE0.out.ext hx1);have c1:w1.cell? ⟨w.heap.size+1,0,none⟩=some (.slice none 0 0):=HT1.out.cell 0;have z1:=HT1.out.frozen 0;have c2:w1.cell? ⟨w.heap.size+1+1,0,none⟩=some .nilIface:=HE1.out.cell 0;have z2:=HE1.out.frozen 0;have HGL:=yG (yU HE0.out.lt (zX _));have HNG:Hid (g≠w.heap.size+1∧g≠w.heap.size+1+1):=yG (by have h1:=HE0.out.lt; omega);clear hx1 hb hg cs0
 go_wp2_with fail
 go_region
 go_wp2_with fail
 have HXA:=yG ((((HX1.out.set (u:=.iface 149 (.pointer (some ⟨g,0,none⟩))) (i:=0) (g:=w.heap.size+1+1) (by omega)).set (u:=.slice none 0 0) (i:=0) (g:=w.heap.size+1) (by omega)).set (u:=.iface 149 (.pointer (some ⟨g,0,none⟩))) (i:=0) (g:=w.heap.size+1+1) (by omega)).trans (Below.drew (Below.refl _ _)));have hE:=(((HE1.out.put 0 (.iface 149 (.pointer (some ⟨g,0,none⟩)))).far (p:=⟨w.heap.size+1,0,none⟩) (by simp) (.slice none 0 0)).put 0 (.iface 149 (.pointer (some ⟨g,0,none⟩)))).ext (Below.drew (Below.refl _ _));have hT:=(((HT1.out.far (p:=⟨w.heap.size+1+1,0,none⟩) (by simp) (.iface 149 (.pointer (some ⟨g,0,none⟩)))).put 0 (.slice none 0 0)).far (p:=⟨w.heap.size+1+1,0,none⟩) (by simp) (.iface 149 (.pointer (some ⟨g,0,none⟩)))).ext (Below.drew (Below.refl _ _));have hB:=(((HB1.out.far (p:=⟨w.heap.size+1+1,0,none⟩) HNG.out.2 (.iface 149 (.pointer (some ⟨g,0,none⟩)))).far (p:=⟨w.heap.size+1,0,none⟩) HNG.out.1 (.slice none 0 0)).far (p:=⟨w.heap.size+1+1,0,none⟩) HNG.out.2 (.iface 149 (.pointer (some ⟨g,0,none⟩)))).ext (Below.drew (Below.refl _ _));generalize (((w1.setCell ⟨w.heap.size+1+1,0,none⟩ (.iface 149 (.pointer (some ⟨g,0,none⟩)))).setCell ⟨w.heap.size+1,0,none⟩ (.slice none 0 0)).setCell ⟨w.heap.size+1+1,0,none⟩ (.iface 149 (.pointer (some ⟨g,0,none⟩)))).drew=W at *;have e0:W.cell? ⟨w.heap.size+1+1,0,none⟩=some (.iface 149 (.pointer (some ⟨g,0,none⟩))):=hE.cell 0;have t0:W.cell? ⟨w.heap.size+1,0,none⟩=some (.slice none 0 0):=hT.cell 0
 exact⟨.tuple #[.agg #[.slice none 0 0],.iface 149 (.pointer (some ⟨g,0,none⟩))],by simp[results,Tryz.results21,go_sem,e0,t0],HXA.out,g,rfl,HG1.out,hB⟩
theorem zKn {w:World}{B N:Nat}{t:TypeId}{sz n:Nat}{v:Value}{xs:List Value}(h:w.ownsRow B t sz v n xs)(hN:N≤B):w.ownsRow N t sz v n xs:=by
 refine⟨h.1,?_⟩
 rcases h.2 with hn | ⟨g,cap,cur,hv,hb,r⟩
 ·exact .inl hn
 ·exact .inr ⟨g,cap,cur,hv,Nat.le_trans hN hb,r⟩
theorem NS.lower {w:World}{B N:Nat}{tn ti:TypeId}{A:Option Addr}{c:Nat}{nh:List (Nd × Hd2)}(h:NS w B tn ti A c nh)(hN:N≤B):NS w N tn ti A c nh:=⟨zKn h.row hN,fun x hx=>zKn (h.kids x hx) hN,h.apart,h.rz,h.kz⟩
theorem zKQ {w w':World}{N M:Nat}(h:Below N w w')(hM:M≤N):Below M w w':=⟨h.os,h.tape,h.output,h.size,fun b hb=>h.block b (yU hb hM)⟩
theorem zEl {w w':World}{N g:Nat}{t:TypeId}{cs:Array Value}(h:Below N w w')(hg:g<N)(hb:Blk w g t cs):Blk w' g t cs:=(h.block g hg).trans hb
theorem zRp (A:Option Addr)(l:Bs)(n c:Nat)(w:World)(hn:n=l.length)(hbig:l.length≤65536)(hcap:l.length≤c)(hnil:A=none→c=0)(h:Cells w A (vC l))(ts:List Tok)(hl:zFA l=.ok ts)(hl2:zAZ 0 l=.ok ts) :
  Calls Tryz.prog 21 #[.slice A n c] w (zGr l w (zC1 ts)):=by
 subst hn;have HC:=yG h;have HL:=yG hl;have HTK:=yG (zK2 hl2);have HBG:=yG hbig;have HCP:=yG hcap;obtain⟨W0,HW0⟩:∃W0,Hid (((w.alloc (.cells #[.slice A l.length c] 22)).alloc (.cells #[.slice none 0 0] 27)).alloc (.cells #[.nilIface] 62)=W0):=⟨_,yG rfl⟩;have HX0:Hid (Ext w W0):=yG (by rw[←HW0.out]; exact((Ext.alloc _ _).trans (Ext.alloc _ _)).trans (Ext.alloc _ _));have HS0:Hid (Blk W0 w.heap.size 22 #[.slice A l.length c]):=yG (by rw[←HW0.out]; exact((Blk.new _ _ _).alloc _).alloc _)
 have HT0:Hid (Blk W0 (w.heap.size+1) 27 #[.slice none 0 0]):=yG (by
  have:=(Blk.new (w.alloc (.cells #[.slice A l.length c] 22)) 27 #[.slice none 0 0]).alloc (.cells #[.nilIface] 62)
  rw[←HW0.out]
  simpa using this)
 have HE0:Hid (Blk W0 (w.heap.size+1+1) 62 #[.nilIface]):=yG (by
  have:=Blk.new ((w.alloc (.cells #[.slice A l.length c] 22)).alloc (.cells #[.slice none 0 0] 27)) 62 #[.nilIface]
  rw[←HW0.out]
  simpa using this)
 have HLX:=yG (zPd A l l.length c W0 rfl (by omega) hcap hnil (h.ext HX0.out));have hm:=hmf;clear h hl hl2 hnil hcap hbig
 go_enter_defers Tryz.func21,Tryz.ntmps21
 have cs0:W0.cell? ⟨w.heap.size,0,none⟩=some (.slice A l.length c):=HS0.out.cell 0
 go_upto_region 1 with fail
 rw[HW0.out];obtain⟨g0,HG0⟩:∃g0,Hid (w.heap.size=g0):=⟨_,yG rfl⟩;rw[HG0.out] at cs0 HS0 HT0 HE0 ⊢
 go_wp2_with fail
 refine HLX.out.mono ?_;rw[HL.out];rintro e w1 ⟨hx1,A',c',rfl,hz,hr⟩
 have hpos:0<ts.length:=by
  obtain⟨⟨m,e,hm,_⟩,_⟩:=HTK.out;rw[hm]
  simp
 obtain⟨bt,rfl⟩:∃bt,A'=some ⟨bt,0,none⟩:=by
  rcases zAN hr with e | e
  ·exfalso
   rw[e] at hr
   rcases hr.2 with ⟨_,h0⟩ | ⟨g,_,_,hv,_⟩
   ·omega
   ·cases hv
  ·exact e
 have hbt:=jD hr rfl;have HBT:=yG hbt;have HR:=yG hr
 have hcc:ts.length≤c':=by
  rcases hr.2 with ⟨hv,_⟩ | ⟨g,cap,cur,hv,_,_,hle,_⟩
  ·cases hv
  ·injection hv with _ _ e; omega
 have HCC:=yG hcc;have HX1:=yG (HX0.out.trans hx1);have HX01:=yG hx1;have HS1:=yG (HS0.out.ext hx1);have HT1:=yG (HT0.out.ext hx1);have HE1:=yG (HE0.out.ext hx1);have HSZ:Hid (g0+1+1<W0.heap.size∧W0.heap.size≤w1.heap.size):=yG ⟨HE0.out.lt,hx1.size⟩;have c2:w1.cell? ⟨g0+1+1,0,none⟩=some .nilIface:=HE1.out.cell 0;have z2:=HE1.out.frozen 0;have gl2:=HE1.out.lt;clear hx1 hr hz hbt hcc hpos cs0
 go_wp2_with fail
 obtain⟨wS,HWS⟩:∃wS,Hid (w1.setCell ⟨g0+1+1,0,none⟩ .nilIface=wS):=⟨_,yG rfl⟩
 have hss:wS.heap.size=w1.heap.size:=by rw[←HWS.out]; simp[World.setCell]
 have hso:∀b,b≠g0+1+1→wS.heap[b]?=w1.heap[b]?:=fun b hb=>by rw[←HWS.out]; exact zS w1 ⟨g0+1+1,0,none⟩ _ b hb
 have hES:Blk wS (g0+1+1) 62 #[.nilIface]:=by rw[←HWS.out]; exact HE1.out.put 0 .nilIface
 have hXS:Ext w wS:=by rw[←HWS.out]; exact HX1.out.set (by have:=HG0.out; omega)
 rw[HWS.out];obtain⟨W4,HW4⟩:∃W4,Hid ((wS.alloc (.cells #[.slice (some ⟨bt,0,none⟩) ts.length c',.slice none 0 0,.int .i64 0] 101)).alloc (.cells #[.pointer (some ⟨w1.heap.size,0,none⟩)] 99)=W4):=⟨_,yG rfl⟩;have HX4:Hid (Ext wS W4):=yG (by rw[←HW4.out]; exact(Ext.alloc _ _).trans (Ext.alloc _ _))
 have hPB:Blk W4 w1.heap.size 101 #[.slice (some ⟨bt,0,none⟩) ts.length c',.slice none 0 0,.int .i64 0]:=by
  have:=(Blk.new wS 101 #[.slice (some ⟨bt,0,none⟩) ts.length c',.slice none 0 0,.int .i64 0]).alloc (.cells #[.pointer (some ⟨w1.heap.size,0,none⟩)] 99)
  rw[←HW4.out,←hss];rw[←hss] at this;exact this
 have hGP:Blk W4 (w1.heap.size+1) 99 #[.pointer (some ⟨w1.heap.size,0,none⟩)]:=by
  have:=Blk.new (wS.alloc (.cells #[.slice (some ⟨bt,0,none⟩) ts.length c',.slice none 0 0,.int .i64 0] 101)) 99 #[.pointer (some ⟨w1.heap.size,0,none⟩)]
  rw[←HW4.out]
  simpa [hss] using this
 have hg0:=HG0.out;have hb1:=HBT.out;have hb2:=HSZ.out;have hS4:Blk W4 g0 22 #[.slice A l.length c]:=Blk.ext ((hso g0 (by omega)).trans HS1.out) HX4.out;have hT4:Blk W4 (g0+1) 27 #[.slice none 0 0]:=Blk.ext ((hso (g0+1) (by omega)).trans HT1.out) HX4.out;have hE4:Blk W4 (g0+1+1) 62 #[.nilIface]:=hES.ext HX4.out;have hXW:Ext w W4:=hXS.trans HX4.out
 have hPS:PS W4 w1.heap.size w1.heap.size ⟨ts,[],0⟩ ⟨bt,0,c',none,0,[]⟩:=by
  refine⟨hPB,fun k hk=>?_,HCC.out,hb1.2,rfl,NS.nil _ _ _ _,zX _,⟨HTK.out.1,zW _⟩⟩;have h1:=HR.out.cellAt k (by exact hk);rw[←h1,Nat.zero_add];refine World.cell?_of_block (w:=w1) (a:=⟨bt,k,none⟩) ((HX4.out.block bt ?_).trans (hso bt ?_))
  ·rw[hss]; exact hb1.2
  ·show bt≠_; omega
 have hgood:Good ⟨ts,[],0⟩:=⟨HTK.out.1,zW _,fun n hn=>by cases hn⟩
 have hphi:(⟨ts,[],0⟩:Ps).phi≤999999:=by
  have h1:=HTK.out.2.1;have h2:=HBG.out
  show 0+2*ts.length≤_
  omega
 have HPC:=yG (zMa W4 w1.heap.size w1.heap.size ⟨ts,[],0⟩ ⟨bt,0,c',none,0,[]⟩ hPS hgood rfl hphi);have HSUB:=yG (zMQ (s:=⟨ts,[],0⟩) HTK.out.1);have HS4:=yG hS4;have HT4:=yG hT4;have HE4:=yG hE4;have HGP:=yG hGP;have HXW:=yG hXW;have HPL:Hid (w1.heap.size<W4.heap.size):=yG hPB.lt;have HNUM:Hid (w.heap.size=g0∧g0+1+1<w1.heap.size):=yG ⟨hg0,by omega⟩
 have HMV:Hid (∀w' R',xC W4 (xK w1.heap.size ⟨bt,0,c',none,0,[]⟩) w' (xK w1.heap.size R')→Below w1.heap.size W4 w'∧w'.heap[w1.heap.size+1]?=W4.heap[w1.heap.size+1]?):=yG fun w' R' h=>by
  have hm:∀b,xK w1.heap.size ⟨bt,0,c',none,0,[]⟩ b→b=w1.heap.size:=fun b hb=>by
   rcases hb with hb | hb | hb
   ·exact hb
   ·cases hb
   ·cases hb
  exact⟨⟨h.os,h.tape,h.output,h.size,fun b hb=>h.jK b (by have:=HPL.out; omega) (fun k=>by have:=hm b k; omega)⟩,h.jK _ hGP.lt (fun k=>by have:=hm _ k; omega)⟩
 rw[HW4.out];clear hXS hES hso hss hPB hGP hS4 hT4 hE4 hXW hPS hgood hphi HWS HW4 HX4 c2 z2 gl2 hg0 hb1 hb2;generalize hpp:w1.heap.size=p at *;clear hpp;refine HPC.out.mono ?_;intro e w5 hpost
 cases hq:zDp ⟨ts,[],0⟩ with
 | ok a s5=>
  have HPT:Hid (zC1 ts=.ok s5.nd):=yG (by unfold zC1; rw[hq]);rw[hq] at hpost;obtain⟨rfl,R5,hp5,hm5⟩:=hpost;obtain⟨hb5,hk5⟩:=HMV.out _ _ hm5;have HP5:=yG hp5;have HB5:=yG hb5;have cg:w5.cell? ⟨p+1,0,none⟩=some (.pointer (some ⟨p,0,none⟩)):=Blk.cell (show Blk w5 (p+1) 99 _ from hk5.trans HGP.out) 0;have x1:=hp5.x1;have hT5:=zEl hb5 (by have:=HNUM.out; omega) HT4.out;have hE5:=zEl hb5 (by have:=HNUM.out; omega) HE4.out;have HT5:=yG hT5;have HE5:=yG hE5;have t0:w5.cell? ⟨g0+1,0,none⟩=some (.slice none 0 0):=hT5.cell 0;have e0:w5.cell? ⟨g0+1+1,0,none⟩=some .nilIface:=hE5.cell 0;have tz:=hT5.frozen 0;have ez:=hE5.frozen 0;have hpl:=hp5.blk.lt;clear hq hp5 hm5 hb5 hk5 hT5 hE5
  go_wp2_with fail
  have HX6:Hid (Ext w ((w5.setCell ⟨g0+1,0,none⟩ (.slice R5.A R5.nh.length R5.c)).setCell ⟨g0+1+1,0,none⟩ .nilIface)):=yG (((show Ext w w5 from Below.trans HXW.out (zKQ HB5.out (by have:=HNUM.out; omega))).set (by have:=HNUM.out; omega)).set (by have:=HNUM.out; omega))
  have HN6:Hid (NS ((w5.setCell ⟨g0+1,0,none⟩ (.slice R5.A R5.nh.length R5.c)).setCell ⟨g0+1+1,0,none⟩ .nilIface) w.heap.size 38 3 R5.A R5.c R5.nh):=yG ((HP5.out.ns.jK fun b hb=>by
   have h1:=(HP5.out.ns.ZX hb).1;have h2:=HNUM.out
   rw[zS _ ⟨g0+1+1,0,none⟩ _ b (by show b≠g0+1+1; omega),zS _ ⟨g0+1,0,none⟩ _ b (by show b≠g0+1; omega)]).lower (by have:=HNUM.out; omega))
  have hT6:=(HT5.out.put 0 (.slice R5.A R5.nh.length R5.c)).far (p:=⟨g0+1+1,0,none⟩) (by simp) .nilIface;have hE6:=(HE5.out.far (p:=⟨g0+1,0,none⟩) (by simp) (.slice R5.A R5.nh.length R5.c)).put 0 .nilIface;generalize (w5.setCell ⟨g0+1,0,none⟩ (.slice R5.A R5.nh.length R5.c)).setCell ⟨g0+1+1,0,none⟩ .nilIface=W6 at *;have t6:W6.cell? ⟨g0+1,0,none⟩=some (.slice R5.A R5.nh.length R5.c):=hT6.cell 0;have e6:W6.cell? ⟨g0+1+1,0,none⟩=some .nilIface:=hE6.cell 0;refine leaves_cons (f:=41) (args:=#[.pointer (some ⟨g0,0,none⟩),.pointer (some ⟨p+1,0,none⟩),.pointer (some ⟨g0+1,0,none⟩),.pointer (some ⟨g0+1+1,0,none⟩)]) (by simp) (by simp[go_sem]) ?_;refine(zOw W6 _ rfl).mono ?_;rintro e u' w'' ⟨rfl,rfl,rfl⟩;refine⟨.tuple #[.agg #[.slice R5.A R5.nh.length R5.c],.nilIface],by simp[results,Tryz.results21,go_sem,t6,e6],?_⟩;rw[HPT.out];exact⟨HX6.out,R5.A,R5.c,R5.nh,rfl,HP5.out.nodes,HN6.out⟩
 | err er a=>
  have HPT:Hid (zC1 ts=.err a er):=yG (by unfold zC1; rw[hq]);have hsub:=HSUB.out;rw[hq] at hpost hsub;obtain⟨rfl,s6,hat,R6,hp6,hm6⟩:=hpost;obtain⟨her,t,ht,hta⟩:=hsub;obtain⟨hb5,hk5⟩:=HMV.out _ _ hm6
  have hal:a≤l.length:=by rw[←hta.1]; exact HTK.out.2.2 t ht
  have hn0:er≠0:=by rcases her with h | h <;> (rw[h]; decide)
  have hT5:=zEl hb5 (by have:=HNUM.out; omega) HT4.out;have hE5:=zEl hb5 (by have:=HNUM.out; omega) HE4.out;have hS5:=zEl hb5 (by have:=HNUM.out; omega) HS4.out;have hG5:Blk w5 (p+1) 99 #[.pointer (some ⟨p,0,none⟩)]:=hk5.trans HGP.out;have hxw:=HXW.out.size;have hnum:=HNUM.out;have hX5:Ext w w5:=Below.trans HXW.out (zKQ hb5 (by omega));refine leaves_cons (f:=41) (args:=#[.pointer (some ⟨g0,0,none⟩),.pointer (some ⟨p+1,0,none⟩),.pointer (some ⟨g0+1,0,none⟩),.pointer (some ⟨g0+1+1,0,none⟩)]) (by simp) (by simp[go_sem]) ?_;refine(zNd w5 p g0 (p+1) (g0+1) (g0+1+1) l A c s6 R6 er hn0 (by have:=HBG.out; omega) HCP.out (HC.out.ext hX5) hp6.ts (by rw[hat]; exact hal) hS5 hG5 hT5 hE5 (by omega)).mono ?_;rintro e u' w'' ⟨rfl,rfl,g,w6,hx6,hg,hbe,rfl⟩;rw[hat] at hbe;have h1:=hx6.size;have h2:=hX5.size;have h3:=hT5.lt;have h4:=hE5.lt;have hT6:=((hT5.ext hx6).put 0 (.slice none 0 0)).far (p:=⟨g0+1+1,0,none⟩) (by simp) (.iface 149 (.pointer (some ⟨g,0,none⟩)));have hE6:=((hE5.ext hx6).far (p:=⟨g0+1,0,none⟩) (by simp) (.slice none 0 0)).put 0 (.iface 149 (.pointer (some ⟨g,0,none⟩)));have hB6:=(hbe.far (p:=⟨g0+1,0,none⟩) (by show g≠g0+1; omega) (.slice none 0 0)).far (p:=⟨g0+1+1,0,none⟩) (by show g≠g0+1+1; omega) (.iface 149 (.pointer (some ⟨g,0,none⟩)));have hX6:=((hX5.trans hx6).set (u:=.slice none 0 0) (i:=0) (g:=g0+1) (by omega)).set (u:=.iface 149 (.pointer (some ⟨g,0,none⟩))) (i:=0) (g:=g0+1+1) (by omega)
  generalize (w6.setCell ⟨g0+1,0,none⟩ (.slice none 0 0)).setCell ⟨g0+1+1,0,none⟩ (.iface 149 (.pointer (some ⟨g,0,none⟩)))=W6 at *;have t6:W6.cell? ⟨g0+1,0,none⟩=some (.slice none 0 0):=hT6.cell 0;have e6:W6.cell? ⟨g0+1+1,0,none⟩=some (.iface 149 (.pointer (some ⟨g,0,none⟩))):=hE6.cell 0;refine⟨.tuple #[.agg #[.slice none 0 0],.iface 149 (.pointer (some ⟨g,0,none⟩))],by simp[results,Tryz.results21,go_sem,t6,e6],?_⟩;rw[HPT.out];exact⟨hX6,g,rfl,by omega,hB6⟩
theorem zLh (A:Option Addr)(l:Bs)(n c:Nat)(w:World)(hn:n=l.length)(hbig:l.length≤140737488355328)(hcap:l.length≤c)(hnil:A=none→c=0)(h:Cells w A (vC l)) :
  Calls Tryz.prog 21 #[.slice A n c] w (zGr l w (zCk l)):=by
 cases hl:zFA l with
 | err a er=>
  have:=zLU A l n c w hn hbig hcap hnil h a er hl
  unfold zCk;rw[hl];exact this
 | ok ts=>
  have hlim:l.length≤65536:=by
   unfold zFA at hl
   split at hl
   ·cases hl
   ·omega
  have hl2:zAZ 0 l=.ok ts:=by
   unfold zFA at hl;rw[if_neg (by omega)] at hl;exact hl
  have:=zRp A l n c w hn hlim hcap hnil h ts hl hl2
  unfold zCk;rw[hl];exact this
theorem zIZ (v:Value)(w:World):(Instr.typeAssert (.iface 117 v) 20 117 false).run Tryz.prog w=.ok v w:=by kernel_rfl
def XE:Array Value:=#[.slice none 0 0,.slice none 0 0,.slice none 0 0,.slice none 0 0]
theorem zLy (w:World)(gs gt ge:Nat)(l:Bs)(A:Option Addr)(c:Nat)(at_ er:Int)(old:Array Value)(hat1:-9223372036854775808≤at_)(hat2:at_≤9223372036854775807)(her:er≠0)(hbig:l.length≤140737488355328)(hcap:l.length≤c)(hC:Cells w A (vC l))
  (hs:Blk w gs 22 #[.slice A l.length c]) (ht:Blk w gt 32 old) (hold:old.size=4) (he:Blk w ge 62 #[.nilIface]) (hne:gt≠ge) :
  CallsD Tryz.prog 47 #[.pointer (some ⟨gs,0,none⟩),.pointer (some ⟨gt,0,none⟩),.pointer (some ⟨ge,0,none⟩)] (.panicking ({ v:=.iface 117 (.agg #[.int .i64 at_,.int .i64 er]),recovered:=false } :: [])) w fun e u' w'=>
   e=.returned (.tuple #[])∧u'=.panicking ({ v:=.iface 117 (.agg #[.int .i64 at_,.int .i64 er]),recovered:=true } :: [])∧∃g w1 w2,Ext w w1∧w.heap.size≤g∧Blk w1 g 153 #[.int .i64 (atN at_ l.length:Int),.int .i64 (zFV l (atN at_ l.length)),.int .i64 (zLD l (atN at_ l.length)),.int .i64 er]∧Touch gt w1 w2∧Blk w2 gt 32 XE∧w'=w2.setCell ⟨ge,0,none⟩ (.iface 149 (.pointer (some ⟨g,0,none⟩))):=by
 have HC:=yG hC;have HS:=yG hs;have HTR:=yG ht;have HOLD:=yG hold;have HER:=yG he;have HNE:=yG hne;have HN:=yG her;have HBG:=yG hbig;have HCP:=yG hcap;have HA1:=yG hat1;have HA2:=yG hat2;have hta:=zIZ;clear hC hs ht he her hbig hcap hold hne hat1 hat2;refine callsD_of_wpS Tryz.func47 rfl fun c₀ cs hu=>?_;apply wpS_seq;apply wpS_region;simp[wpOpsS,go_sem,recoverD,hu,Tryz.ntmps47,Exit.thenS];refine wpS_of_wp ?_;simp[Array.replicate]
 go_upto_region 3 with fail
 obtain⟨W,HW⟩:∃W,Hid (w.alloc (.cells #[.int .i64 at_,.int .i64 er] 117)=W):=⟨_,yG rfl⟩;have HX:Hid (Ext w W):=yG (by rw[←HW.out]; exact Ext.alloc _ _);have HB:Hid (Blk W w.heap.size 117 #[.int .i64 at_,.int .i64 er]):=yG (by rw[←HW.out]; exact Blk.new _ _ _);rw[HW.out];obtain⟨b4,HB4⟩:∃b4,Hid (w.heap.size=b4):=⟨_,yG rfl⟩;rw[HB4.out] at HB ⊢;have cs0:W.cell? ⟨gs,0,none⟩=some (.slice A l.length c):=(HS.out.ext HX.out).cell 0;have cw0:W.cell? ⟨b4,0,none⟩=some (.int .i64 at_):=HB.out.cell 0;have cw1:W.cell? ⟨b4,1,none⟩=some (.int .i64 er):=HB.out.cell 1;clear HW hta
 go_wp2_with fail
 refine(zHQ A l l.length c at_ er W rfl HBG.out HCP.out HA1.out HA2.out (HC.out.ext HX.out) HN.out).mono ?_;rintro e w1 ⟨g,rfl,hg,hb,hx⟩;have HX1:=yG (HX.out.trans hx);have HB1:=yG hb;have HG1:=yG (Nat.le_trans HX.out.size hg);clear hg hb hx cs0 cw0 cw1
 go_wp2_with (refine vI rfl 32 (.tmp 1) (.tmp 10) rfl gt XE rfl rfl 32 old (HTR.out.ext HX1.out) (by kernel_rfl) HOLD.out rfl ?_)
 intro w2 ht2 hb2;have HT2:=yG ht2;have HP2:=yG hb2;have hE2:=ht2.blk (HER.out.ext HX1.out) (fun e=>HNE.out e.symm);have ce:w2.cell? ⟨ge,0,none⟩=some .nilIface:=hE2.cell 0;have ze:=hE2.frozen 0;clear ht2 hb2 hE2
 go_wp2_with fail
 simp[bodyPostS,results,Tryz.results47];exact⟨g,w1,HX1.out,HG1.out,HB1.out,w2,HT2.out,HP2.out,rfl⟩
theorem zHb (w:World)(args:Array Value)(h4:args.size=3) :
  CallsD Tryz.prog 47 args .returning w fun e u' w'=>e=.returned (.tuple #[])∧u'=.returning∧w'=w:=by
 refine callsD_of_wpS Tryz.func47 rfl fun c₀ cs hu=>?_;obtain⟨l,rfl⟩:∃l:List Value,args=l.toArray:=⟨args.toList,by simp⟩
 obtain⟨a,b,c,rfl⟩:∃a b c,l=[a,b,c]:=by
  match l,h4 with
  | [a,b,c],_=>exact⟨a,b,c,rfl⟩
 apply wpS_seq;apply wpS_region;simp[wpOpsS,go_sem,recoverD,hu,Tryz.ntmps47,Exit.thenS];refine wpS_of_wp ?_;simp[Array.replicate]
 go_wp2_with fail
 cases c₀
 simp_all [bodyPostS,results,Tryz.results47]
end Go.Proofs.YtbadjmmjbpeocaaGreat
namespace Go.Proofs.YtbadjmmjbpeocaaGreat
open Go Go.RowKit TT
def zLp (x:xQ):Tx:=(⟨x.kind.toNat,x.pos.toNat,x.text.data.toList,x.num,x.kids.map Int.toNat⟩,x.pos,x.kA,x.kc)
def txM (l:List xQ):List Tx:=l.map zLp
theorem JG (l:List xQ):(txM l).length=l.length:=by simp[txM]
structure zG0 (x:xQ):Prop where
 kind:0≤x.kind
 kids:∀k ∈ x.kids,1≤k
 text:x.text.size≤maxLen
theorem zHo {l:List Int}(h:∀k ∈ l,1≤k):TT.jP l=ints (l.map Int.toNat):=by
 unfold TT.jP ints;rw[List.map_map];apply List.map_congr_left;intro k hk
 have:=h k hk
 simp only[Function.comp];rw[Int.toNat_of_nonneg (by omega)]
theorem zTN (t:ByteArray):xH t.data.toList=t:=by cases t; rfl
theorem zRI {x:xQ}(h:zG0 x):zH3 (zLp x)=x.cells:=by
 unfold zH3 zLp xQ.cells;simp only[zTN,yQ];rw[Int.toNat_of_nonneg h.kind]
theorem zUo {l:List xQ}(h:∀x ∈ l,zG0 x):tcs (txM l)=YL l:=by
 unfold tcs txM YL
 induction l with
 | nil=>rfl
 | cons x l ih=>rw[List.map_cons,List.flatMap_cons,List.flatMap_cons,zRI (h x (by simp)),ih fun y hy=>h y (by simp[hy])]
theorem zGl {w:World}{B:Nat}{t:TypeId}{s n c m:Nat}{A:Option Addr}{xs:List Value}(h:w.ownsRow B t s (.slice A m c) n xs)(hn:xs≠[]):∃b,A=some ⟨b,0,none⟩∧B≤b∧∃cur,Blk w b t cur:=by
 rcases h.2 with ⟨hv,h0⟩ | ⟨g,cap,cur,hv,hb,hh,_⟩
 ·exfalso
  have:=h.1
  rw[h0,Nat.zero_mul] at this;exact hn (List.eq_nil_of_length_eq_zero this)
 ·injection hv with h1;exact⟨g,h1,hb,cur,hh⟩
theorem zDw.tree {N:Nat}{w:World}{g c:Nat}{l l':List xQ}(h:zDw N w g c l l' l.length)(hl:0<l.length)(hn:∀x ∈ l',zG0 x){M:Nat→Prop}(h1:∀b cur,M b→Blk w b 38 cur→False)(h2:∀b cur,M b→Blk w b 3 cur→∀(j:Nat) (v:Value),cur[j]?=some v→v=Value.int .i64 0):zAQ w M (some ⟨g,0,none⟩) (txM l'):=by
 have hkid:∀x ∈ l',w.ownsRow N 3 1 (.slice x.kA x.kids.length x.kc) x.kids.length (TT.jP x.kids):=fun x hx=>by
  obtain⟨i,hi,rfl⟩:=List.getElem_of_mem hx;exact h.done i hi (by rw[←h.len]; exact hi)
 refine⟨?_,fun y hy=>?_,fun y hy=>?_,fun y hy=>?_⟩
 ·rw[zUo hn]
  have hne:YL l'≠[]:=fun e=>by
   have:=congrArg List.length e
   rw[zBB,h.len] at this
   simp at this
   omega
  rcases Cells.own h.row with hc | ⟨b,off,e1,e2,e3⟩
  ·exact absurd hc hne
  ·refine .inr ⟨b,off,e1,e2,fun hm=>?_,e3⟩;injection e1 with e1;injection e1 with e1;subst e1;obtain⟨cur,hcur⟩:=xY h.row rfl;exact h1 _ _ hm hcur
 ·obtain⟨x,hx,rfl⟩:=List.mem_map.1 hy
  show XH w M x.kA (ints (x.kids.map Int.toNat))
  rw[←zHo (hn x hx).kids]
  rcases Cells.own (hkid x hx) with hc | ⟨b,off,e1,e2,e3⟩
  ·exact .inl hc
  ·by_cases hk:TT.jP x.kids=[]
   ·exact .inl hk
   ·refine .inr ⟨b,off,e1,e2,fun hm=>?_,e3⟩;obtain⟨b',e4,_,cur,hcur⟩:=zGl (hkid x hx) hk;rw[e1] at e4;injection e4 with e4;injection e4 with e4 e5;subst e4;subst e5
    have hlen:0<x.kids.length:=by
     rcases Nat.eq_zero_or_pos x.kids.length with h0 | h0
     ·exact absurd (by rw[List.eq_nil_of_length_eq_zero h0]; rfl) hk
     ·exact h0
    have hc0:=e3 0 (by rw[TT.zBp]; exact hlen);rw[TT.zKU x.kids 0 hlen] at hc0;have hcur0:=hcur.cell 0;rw[show(⟨b,0+0,none⟩:Addr)=⟨b,0,none⟩ from rfl] at hc0;rw[hc0] at hcur0
    have:=h2 b cur hm hcur 0 _ hcur0.symm
    injection this with _ this
    have:=(hn x hx).kids x.kids[0] (yO hlen)
    omega
 ·obtain⟨x,hx,rfl⟩:=List.mem_map.1 hy
  have:=(hn x hx).text
  show x.text.data.toList.length≤maxLen
  rw[Array.length_toList];exact this
 ·obtain⟨x,hx,rfl⟩:=List.mem_map.1 hy
  show(x.kids.map Int.toNat).length≤x.kc
  rw[yQ]
  have:=hkid x hx
  rcases this.2 with ⟨hv,h0⟩ | ⟨g,cap,cur,hv,_,_,hle,_⟩
  ·omega
  ·injection hv with _ _ e;omega
theorem zDw.zSY {N:Nat}{w:World}{g c k:Nat}{l l':List xQ}(h:zDw N w g c l l' k):tN (txM l')=tN (txM l)∧∀i,YQ (txM l') i=YQ (txM l) i:=by
 have hs:=h.same;have hl:=h.len
 constructor
 ·apply List.ext_getElem
  ·simp[tN,txM,hl]
  ·intro i h1 h2
   have h3:i<l'.length:=by simpa [tN,txM] using h1
   obtain⟨a,b,c,d,e⟩:=hs i (by omega) h3;simp[tN,txM,zLp,a,b,c,d,e]
 ·intro i;unfold YQ txM;rw[zN,zN]
  by_cases h3:i<l'.length
  ·obtain⟨a,b,c,d,e⟩:=hs i (by omega) h3;rw[yJ h3,yJ (show i<l.length by omega)];simp[zLp,b]
  ·rw[zM (by omega),zM (by omega)]
end Go.Proofs.YtbadjmmjbpeocaaGreat
