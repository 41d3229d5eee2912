/- The program's Parse: what it does behind a panic, and behind none. (and what follows of it). The conditions stand at each lemma. -/
import Derived.Test.YtbadjmmjbpeocaaGreatJaa
import Derived.Test.YtbadjmmjbpeocaaGreatJas
import Derived.Recover
import Derived.Defers
import Derived.Test.YtbadjmmjbpeocaaGreatJan
import Derived.Test.YtbadjmmjbpeocaaGreatJak
import Derived.Test.YtbadjmmjbpeocaaGreatJaj
import Derived.Deep.QuietTactic
import Derived.BigQuiet
import Derived.Deep.Cut
set_option linter.unusedVariables false
set_option linter.unusedSimpArgs false
set_option maxRecDepth 100000
set_option maxHeartbeats 16000000
namespace Go.Proofs.YtbadjmmjbpeocaaGreat
open Go Go.RowKit
theorem zGq:∀(f p:Nat) (s:Bs) (l:List Tok),zEc f p s=.ok l→∃m e,l=m++[e]∧e.kind=4
 | 0,p,s,l,h=>by cases h
 | f+1,p,s,l,h=>by
  unfold zEc at h
  split at h
  ·injection h with h;subst h;exact⟨[],_,rfl,rfl⟩
  ·exact zGq f _ _ l h
  ·rename_i kd k n hs
   cases hr:zEc f (p+k) (s.drop k) with
   | err a e=>rw[hr] at h; cases h
   | ok m=>
    rw[hr] at h;obtain⟨m',e,rfl,he⟩:=zGq f _ _ m hr;injection h with h;subst h;exact⟨_::m',e,rfl,he⟩
  ·cases h
theorem zGH:∀(f p:Nat) (s:Bs) (l:List Tok),s.length<f→zEc f p s=.ok l→l.length≤s.length+1∧∀t ∈ l,t.at_≤p+s.length
 | 0,p,s,l,hf,h=>by cases h
 | f+1,p,s,l,hf,h=>by
  have hw:=zDz s;unfold zEc at h
  split at h
  ·injection h with h;subst h;refine⟨by simp,fun t ht=>?_⟩;rw[List.mem_singleton.1 ht]
   simp
  ·rename_i k hs;rw[hs] at hw;obtain⟨h1,h2⟩:1≤k∧k≤s.length:=hw;have hl:(s.drop k).length=s.length-k:=List.length_drop;obtain⟨r1,r2⟩:=zGH f _ _ l (by omega) h;exact⟨by omega,fun t ht=>by have:=r2 t ht; omega⟩
  ·rename_i kd k n hs;rw[hs] at hw;obtain⟨h1,h2⟩:1≤k∧k≤s.length:=hw;have hl:(s.drop k).length=s.length-k:=List.length_drop
   cases hr:zEc f (p+k) (s.drop k) with
   | err a e=>rw[hr] at h; cases h
   | ok m=>
    rw[hr] at h;injection h with h;subst h;obtain⟨r1,r2⟩:=zGH f _ _ m (by omega) hr;refine⟨by simp only[zK]; omega,fun t ht=>?_⟩
    rcases List.mem_cons.1 ht with rfl | ht
    ·show p≤p+s.length; omega
    ·have:=r2 t ht; omega
  ·cases h
theorem zKL {l:Bs}{ts:List Tok}(h:zAZ 0 l=.ok ts):(∃m e,ts=m++[e]∧e.kind=4)∧ts.length≤l.length+1∧∀t ∈ ts,t.at_≤l.length:=by
 obtain⟨h1,h2⟩:=zGH _ 0 l ts (Nat.lt_succ_self _) h;exact⟨zGq _ 0 l ts h,h1,fun t ht=>by have:=h2 t ht; omega⟩
theorem zRX {a n:Nat}(h:a≤n):atN a n=a:=by unfold atN; omega
theorem zIR (v:Value)(w:World):(Instr.typeAssert (.iface 75 v) 20 75 false).run Tryz.prog w=.ok v w:=by kernel_rfl
theorem zM1 (w:World)(p gs gp gt ge:Nat)(l:Bs)(A:Option Addr)(c:Nat)(s:Ps)(R:xX)(er:Int)(her:er≠0)(hbig:l.length≤140737488355328)(hcap:l.length≤c)(hC:Cells w A (vE l))(hT:TS w p s R)(AC:s.hd.at_≤l.length)
  (hs:Blk w gs 22 #[.slice A l.length c]) (hp:Blk w gp 99 #[.pointer (some ⟨p,0,none⟩)]) (ht:Blk w gt 27 #[.slice none 0 0]) (he:Blk w ge 62 #[.nilIface]) (hne:gt≠ge) :
  CallsD Tryz.prog 41 #[.pointer (some ⟨gs,0,none⟩),.pointer (some ⟨gp,0,none⟩),.pointer (some ⟨gt,0,none⟩),.pointer (some ⟨ge,0,none⟩)] (.panicking ({ v:=.iface 75 (.int .i64 er),recovered:=false } :: [])) w fun e u' w'=>
   e=.returned (.tuple #[])∧u'=.panicking ({ v:=.iface 75 (.int .i64 er),recovered:=true } :: [])∧∃g w1,Ext w w1∧w.heap.size≤g∧Blk w1 g 153 #[.int .i64 (s.hd.at_:Int),.int .i64 (zFT l s.hd.at_),.int .i64 (zLn l s.hd.at_),.int .i64 er]∧w'=(w1.setCell ⟨gt,0,none⟩ (.slice none 0 0)).setCell ⟨ge,0,none⟩ (.iface 149 (.pointer (some ⟨g,0,none⟩))):=by
 have HT:=yG hT;have HC:=yG hC;have AF:=yG AC;have HS:=yG hs;have HP:=yG hp;have AG:=yG ht;have AD:=yG he;have HN:=yG her;have AE:=yG hbig;have AH:=yG hcap;have AP:=zKY;have AL:=zIR;clear hT hC AC hs hp ht he her hbig hcap;refine callsD_of_wpS Tryz.func41 rfl fun c₀ cs hu=>?_;apply wpS_seq;apply wpS_region;simp[wpOpsS,go_sem,recoverD,hu,Tryz.ntmps41,Exit.thenS];refine wpS_of_wp ?_;simp[Array.replicate]
 go_upto_region 2 with fail
 have AK:=HS.out.lt;have AM:=HP.out.lt;have AR:Hid (∀w',Ext w w'→TS w' p s R):=yG fun w' hx=>⟨HT.out.blk.ext hx,fun j hj=>(hx.cell (p:=⟨R.bt,R.ot+j,none⟩) HT.out.btl).trans (HT.out.tok j hj),yU HT.out.btl hx.size,HT.out.pos⟩;apply xN 8 (by kernel_rfl) (by kernel_rfl) (by kernel_rfl);dsimp only[List.take_succ_cons,List.take_zero,List.drop_succ_cons,List.drop_zero];apply sQ (.agg #[.slice none 0 0]);apply xB (.slice A l.length c) rfl rfl rfl
 ·intro w' AA hH;have cc:=(AA.cell (p:=⟨gs,0,none⟩) AK).trans (HS.out.cell 0);clear hH AA;simp[xA,go_sem,cc];exact Ext.refl _
 apply xB (.pointer (some ⟨p,0,none⟩)) rfl rfl rfl
 ·intro w' AA hH;have cc:=(AA.cell (p:=⟨gp,0,none⟩) AM).trans (HP.out.cell 0);clear hH AA;simp[xA,go_sem,cc];exact Ext.refl _
 (try simp only[Act.put,yD,yE,yF]);apply xB (.agg (ZY s.hd).toArray) rfl rfl rfl
 ·intro w' AA hH;have ht:=AR.out w' AA;clear hH;simp[xA,go_sem];refine(ZC w' p s R ht).mono ?_;rintro e w2 ⟨rfl,hx⟩;exact⟨_,rfl,rfl,hx⟩
 apply xB (.int .i64 (s.hd.at_:Int)) rfl rfl rfl
 ·intro w' AA hH;clear hH AA;unfold ZY;simp[xA,go_sem,AP];exact Ext.refl _
 apply sQ (.iface 75 (.int .i64 er));apply sP AL (.int .i64 er);apply xZ (fun v w'=>∃g,v=.iface 149 (.pointer (some ⟨g,0,none⟩))∧w.heap.size≤g∧Blk w' g 153 #[.int .i64 (s.hd.at_:Int),.int .i64 (zFT l s.hd.at_),.int .i64 (zLn l s.hd.at_),.int .i64 er]) (fun v w w' h hx=>let ⟨g,a,b,c⟩:=h; ⟨g,a,b,c.ext hx⟩) rfl rfl rfl
 ·intro w' AA hH;have AI:=HC.out.ext AA;have AO:=AA.size;have AC:=AF.out;have AT:=AE.out;clear hH;simp[xA,go_sem];refine(zHE A l l.length c (s.hd.at_:Int) er w' rfl AE.out AH.out (by omega) (by omega) AI HN.out).mono ?_;rintro e w2 ⟨g,rfl,hg,hb,hx⟩;rw[zRX AF.out] at hb;exact⟨_,rfl,⟨g,rfl,Nat.le_trans AO hg,hb⟩,hx⟩
 intro AS;(try simp only[Act.put,yD,yE,yF]);apply xR;intro w2 AB hH;obtain⟨g,rfl,hg,hb⟩:=hH _ (List.mem_cons_self ..);have AQ:=yG AB;have AN:=yG hb;have AJ:=yG hg;have ct:=(AG.out.ext AB).cell 0;have zt:=(AG.out.ext AB).frozen 0;have ce:=(AD.out.ext AB).cell 0;have ze:=(AD.out.ext AB).frozen 0;simp only[yL,yM] at ct ce;clear hH hb hg AB
 go_wp2_with fail
 simp[bodyPostS,results,Tryz.results41];exact⟨g,w2,AQ.out,AJ.out,AN.out,rfl⟩
theorem zOn (w:World)(args:Array Value)(h4:args.size=4) :
  CallsD Tryz.prog 41 args .returning w fun e u' w'=>e=.returned (.tuple #[])∧u'=.returning∧w'=w:=by
 refine callsD_of_wpS Tryz.func41 rfl fun c₀ cs hu=>?_;obtain⟨l,rfl⟩:∃l:List Value,args=l.toArray:=⟨args.toList,by simp⟩
 obtain⟨a,b,c,d,rfl⟩:∃a b c d,l=[a,b,c,d]:=by
  match l,h4 with
  | [a,b,c,d],_=>exact⟨a,b,c,d,rfl⟩
 apply wpS_seq;apply wpS_region;simp[wpOpsS,go_sem,recoverD,hu,Tryz.ntmps41,Exit.thenS];refine wpS_of_wp ?_;simp[Array.replicate]
 go_wp2_with fail
 cases c₀
 simp_all [bodyPostS,results,Tryz.results41]
def zAR (l:Bs):zNQ:=match zFA l with
 | .ok ts=>zC3 ts
 | .err p e=>.err p e
def zGj (l:Bs)(w:World)(r:zNQ)(e:Ending)(w':World):Prop:=Ext w w'∧match r with
 | .ok nd=>∃A c nh,e=.returned (.tuple #[.agg #[.slice A nh.length c],.nilIface])∧nd=nh.map Prod.fst∧NS w' w.heap.size 38 3 A c nh
 | .err a er=>∃g,e=.returned (.tuple #[.agg #[.slice none 0 0],.iface 149 (.pointer (some ⟨g,0,none⟩))])∧w.heap.size≤g∧Blk w' g 153 #[.int .i64 (a:Int),.int .i64 (zFT l a),.int .i64 (zLn l a),.int .i64 er]
theorem NS.nil (w:World)(B:Nat)(tn ti:TypeId):NS w B tn ti none 0 []:=⟨zR _ _ _ _,fun x hx=>(by cases hx),fun i j hi=>(by cases hi),fun _=>rfl,fun x hx=>(by cases hx)⟩
theorem Ext.set {w w1:World}(h:Ext w w1){g i:Nat}{u:Value}(hg:w.heap.size≤g):Ext w (w1.setCell ⟨g,i,none⟩ u):=
 ⟨h.os,h.tape,h.output,by have:=h.size; simp[World.setCell]; omega,fun b hb=>(zS w1 ⟨g,i,none⟩ u b (fun e=>by subst e; exact absurd hb (Nat.not_lt.2 hg))).trans (h.block b hb)⟩
theorem zLG (A:Option Addr)(l:Bs)(n c:Nat)(w:World)(hn:n=l.length)(hbig:l.length≤140737488355328)(hcap:l.length≤c)(hnil:A=none→c=0)(h:Cells w A (vE l))(a:Nat)(er:Int)(hl:zFA l=.err a er) :
  Calls Tryz.prog 21 #[.slice A n c] w (zGj l w (.err a er)):=by
 subst hn;have HC:=yG h;have HL:=yG hl;obtain⟨W0,AA⟩:∃W0,Hid (((w.alloc (.cells #[.slice A l.length c] 22)).alloc (.cells #[.slice none 0 0] 27)).alloc (.cells #[.nilIface] 62)=W0):=⟨_,yG rfl⟩;have AC:Hid (Ext w W0):=yG (by rw[←AA.out]; exact((Ext.alloc _ _).trans (Ext.alloc _ _)).trans (Ext.alloc _ _));have AM:Hid (Blk W0 w.heap.size 22 #[.slice A l.length c]):=yG (by rw[←AA.out]; exact((Blk.new _ _ _).alloc _).alloc _)
 have AI:Hid (Blk W0 (w.heap.size+1) 27 #[.slice none 0 0]):=yG (by
  have:=(Blk.new (w.alloc (.cells #[.slice A l.length c] 22)) 27 #[.slice none 0 0]).alloc (.cells #[.nilIface] 62)
  rw[←AA.out]
  simpa using this)
 have AE:Hid (Blk W0 (w.heap.size+1+1) 62 #[.nilIface]):=yG (by
  have:=Blk.new ((w.alloc (.cells #[.slice A l.length c] 22)).alloc (.cells #[.slice none 0 0] 27)) 62 #[.nilIface]
  rw[←AA.out]
  simpa using this)
 have AK:=yG (zO2 A l l.length c W0 rfl hbig hcap hnil (h.ext AC.out));clear h hl
 go_enter_defers Tryz.func21,Tryz.ntmps21
 have AL:W0.cell? ⟨w.heap.size,0,none⟩=some (.slice A l.length c):=AM.out.cell 0
 go_upto_region 1 with fail
 rw[AA.out]
 go_wp2_with fail
 refine AK.out.mono ?_;rw[HL.out];rintro e w1 ⟨AB,g,rfl,hg,hb⟩;have AJ:=yG (AC.out.trans AB);have AH:=yG hb;have AO:=yG (Nat.le_trans AC.out.size hg);have AG:=yG (AI.out.ext AB);have AD:=yG (AE.out.ext AB);have c1:w1.cell? ⟨w.heap.size+1,0,none⟩=some (.slice none 0 0):=AG.out.cell 0;have z1:=AG.out.frozen 0;have c2:w1.cell? ⟨w.heap.size+1+1,0,none⟩=some .nilIface:=AD.out.cell 0;have z2:=AD.out.frozen 0;have AP:=yG (yU AE.out.lt (zX _));have AF:Hid (g≠w.heap.size+1∧g≠w.heap.size+1+1):=yG (by have h1:=AE.out.lt; omega);clear AB hb hg AL
 go_wp2_with fail
 go_region
 go_wp2_with fail
 have AN:=yG ((((AJ.out.set (u:=.iface 149 (.pointer (some ⟨g,0,none⟩))) (i:=0) (g:=w.heap.size+1+1) (by omega)).set (u:=.slice none 0 0) (i:=0) (g:=w.heap.size+1) (by omega)).set (u:=.iface 149 (.pointer (some ⟨g,0,none⟩))) (i:=0) (g:=w.heap.size+1+1) (by omega)).trans (Below.drew (Below.refl _ _)));have hE:=(((AD.out.put 0 (.iface 149 (.pointer (some ⟨g,0,none⟩)))).far (p:=⟨w.heap.size+1,0,none⟩) (by simp) (.slice none 0 0)).put 0 (.iface 149 (.pointer (some ⟨g,0,none⟩)))).ext (Below.drew (Below.refl _ _));have hT:=(((AG.out.far (p:=⟨w.heap.size+1+1,0,none⟩) (by simp) (.iface 149 (.pointer (some ⟨g,0,none⟩)))).put 0 (.slice none 0 0)).far (p:=⟨w.heap.size+1+1,0,none⟩) (by simp) (.iface 149 (.pointer (some ⟨g,0,none⟩)))).ext (Below.drew (Below.refl _ _));have hB:=(((AH.out.far (p:=⟨w.heap.size+1+1,0,none⟩) AF.out.2 (.iface 149 (.pointer (some ⟨g,0,none⟩)))).far (p:=⟨w.heap.size+1,0,none⟩) AF.out.1 (.slice none 0 0)).far (p:=⟨w.heap.size+1+1,0,none⟩) AF.out.2 (.iface 149 (.pointer (some ⟨g,0,none⟩)))).ext (Below.drew (Below.refl _ _));generalize (((w1.setCell ⟨w.heap.size+1+1,0,none⟩ (.iface 149 (.pointer (some ⟨g,0,none⟩)))).setCell ⟨w.heap.size+1,0,none⟩ (.slice none 0 0)).setCell ⟨w.heap.size+1+1,0,none⟩ (.iface 149 (.pointer (some ⟨g,0,none⟩)))).drew=W at *;have e0:W.cell? ⟨w.heap.size+1+1,0,none⟩=some (.iface 149 (.pointer (some ⟨g,0,none⟩))):=hE.cell 0;have t0:W.cell? ⟨w.heap.size+1,0,none⟩=some (.slice none 0 0):=hT.cell 0
 exact⟨.tuple #[.agg #[.slice none 0 0],.iface 149 (.pointer (some ⟨g,0,none⟩))],by simp[results,Tryz.results21,go_sem,e0,t0],AN.out,g,rfl,AO.out,hB⟩
theorem zJ9 {w:World}{B N:Nat}{t:TypeId}{sz n:Nat}{v:Value}{xs:List Value}(h:w.ownsRow B t sz v n xs)(hN:N≤B):w.ownsRow N t sz v n xs:=by
 refine⟨h.1,?_⟩
 rcases h.2 with hn | ⟨g,cap,AA,hv,hb,r⟩
 ·exact .inl hn
 ·exact .inr ⟨g,cap,AA,hv,Nat.le_trans hN hb,r⟩
theorem NS.lower {w:World}{B N:Nat}{tn ti:TypeId}{A:Option Addr}{c:Nat}{nh:List (Nd × Hd2)}(h:NS w B tn ti A c nh)(hN:N≤B):NS w N tn ti A c nh:=⟨zJ9 h.row hN,fun x hx=>zJ9 (h.kids x hx) hN,h.apart,h.rz,h.kz⟩
theorem zKy {w w':World}{N M:Nat}(h:Below N w w')(hM:M≤N):Below M w w':=⟨h.os,h.tape,h.output,h.size,fun b hb=>h.block b (yU hb hM)⟩
theorem zEp {w w':World}{N g:Nat}{t:TypeId}{cs:Array Value}(h:Below N w w')(hg:g<N)(hb:Blk w g t cs):Blk w' g t cs:=(h.block g hg).trans hb
theorem zRn (A:Option Addr)(l:Bs)(n c:Nat)(w:World)(hn:n=l.length)(hbig:l.length≤65536)(hcap:l.length≤c)(hnil:A=none→c=0)(h:Cells w A (vE l))(ts:List Tok)(hl:zFA l=.ok ts)(hl2:zAZ 0 l=.ok ts) :
  Calls Tryz.prog 21 #[.slice A n c] w (zGj l w (zC3 ts)):=by
 subst hn;have HC:=yG h;have HL:=yG hl;have AJ:=yG (zKL hl2);have Az:=yG hbig;have BK:=yG hcap;obtain⟨W0,AM⟩:∃W0,Hid (((w.alloc (.cells #[.slice A l.length c] 22)).alloc (.cells #[.slice none 0 0] 27)).alloc (.cells #[.nilIface] 62)=W0):=⟨_,yG rfl⟩;have Ai:Hid (Ext w W0):=yG (by rw[←AM.out]; exact((Ext.alloc _ _).trans (Ext.alloc _ _)).trans (Ext.alloc _ _));have Ae:Hid (Blk W0 w.heap.size 22 #[.slice A l.length c]):=yG (by rw[←AM.out]; exact((Blk.new _ _ _).alloc _).alloc _)
 have Ay:Hid (Blk W0 (w.heap.size+1) 27 #[.slice none 0 0]):=yG (by
  have:=(Blk.new (w.alloc (.cells #[.slice A l.length c] 22)) 27 #[.slice none 0 0]).alloc (.cells #[.nilIface] 62)
  rw[←AM.out]
  simpa using this)
 have AW:Hid (Blk W0 (w.heap.size+1+1) 62 #[.nilIface]):=yG (by
  have:=Blk.new ((w.alloc (.cells #[.slice A l.length c] 22)).alloc (.cells #[.slice none 0 0] 27)) 62 #[.nilIface]
  rw[←AM.out]
  simpa using this)
 have BM:=yG (zO2 A l l.length c W0 rfl (by omega) hcap hnil (h.ext Ai.out));have hm:=hmf;clear h hl hl2 hnil hcap hbig
 go_enter_defers Tryz.func21,Tryz.ntmps21
 have Ar:W0.cell? ⟨w.heap.size,0,none⟩=some (.slice A l.length c):=Ae.out.cell 0
 go_upto_region 1 with fail
 rw[AM.out];obtain⟨g0,Ah⟩:∃g0,Hid (w.heap.size=g0):=⟨_,yG rfl⟩;rw[Ah.out] at Ar Ae Ay AW ⊢
 go_wp2_with fail
 refine BM.out.mono ?_;rw[HL.out];rintro e w1 ⟨AG,A',c',rfl,hz,hr⟩
 have AV:0<ts.length:=by
  obtain⟨⟨m,e,hm,_⟩,_⟩:=AJ.out;rw[hm]
  simp
 obtain⟨bt,rfl⟩:∃bt,A'=some ⟨bt,0,none⟩:=by
  rcases zAO hr with e | e
  ·exfalso
   rw[e] at hr
   rcases hr.2 with ⟨_,h0⟩ | ⟨g,_,_,hv,_⟩
   ·omega
   ·cases hv
  ·exact e
 have Aj:=jD hr rfl;have BY:=yG Aj;have HR:=yG hr
 have Am:ts.length≤c':=by
  rcases hr.2 with ⟨hv,_⟩ | ⟨g,cap,Bb,hv,_,_,BZ,_⟩
  ·cases hv
  ·injection hv with _ _ e; omega
 have BT:=yG Am;have BS:=yG (Ai.out.trans AG);have BJ:=yG AG;have A4:=yG (Ae.out.ext AG);have BG:=yG (Ay.out.ext AG);have AQ:=yG (AW.out.ext AG);have BQ:Hid (g0+1+1<W0.heap.size∧W0.heap.size≤w1.heap.size):=yG ⟨AW.out.lt,AG.size⟩;have c2:w1.cell? ⟨g0+1+1,0,none⟩=some .nilIface:=AQ.out.cell 0;have z2:=AQ.out.frozen 0;have BB:=AQ.out.lt;clear AG hr hz Aj Am AV Ar
 go_wp2_with fail
 obtain⟨wS,AI⟩:∃wS,Hid (w1.setCell ⟨g0+1+1,0,none⟩ .nilIface=wS):=⟨_,yG rfl⟩
 have AO:wS.heap.size=w1.heap.size:=by rw[←AI.out]; simp[World.setCell]
 have AP:∀b,b≠g0+1+1→wS.heap[b]?=w1.heap[b]?:=fun b hb=>by rw[←AI.out]; exact zS w1 ⟨g0+1+1,0,none⟩ _ b hb
 have An:Blk wS (g0+1+1) 62 #[.nilIface]:=by rw[←AI.out]; exact AQ.out.put 0 .nilIface
 have A0:Ext w wS:=by rw[←AI.out]; exact BS.out.set (by have:=Ah.out; omega)
 rw[AI.out];obtain⟨W4,AN⟩:∃W4,Hid ((wS.alloc (.cells #[.slice (some ⟨bt,0,none⟩) ts.length c',.slice none 0 0,.int .i64 0] 101)).alloc (.cells #[.pointer (some ⟨w1.heap.size,0,none⟩)] 99)=W4):=⟨_,yG rfl⟩;have AH:Hid (Ext wS W4):=yG (by rw[←AN.out]; exact(Ext.alloc _ _).trans (Ext.alloc _ _))
 have Ab:Blk W4 w1.heap.size 101 #[.slice (some ⟨bt,0,none⟩) ts.length c',.slice none 0 0,.int .i64 0]:=by
  have:=(Blk.new wS 101 #[.slice (some ⟨bt,0,none⟩) ts.length c',.slice none 0 0,.int .i64 0]).alloc (.cells #[.pointer (some ⟨w1.heap.size,0,none⟩)] 99)
  rw[←AN.out,←AO];rw[←AO] at this;exact this
 have Ag:Blk W4 (w1.heap.size+1) 99 #[.pointer (some ⟨w1.heap.size,0,none⟩)]:=by
  have:=Blk.new (wS.alloc (.cells #[.slice (some ⟨bt,0,none⟩) ts.length c',.slice none 0 0,.int .i64 0] 101)) 99 #[.pointer (some ⟨w1.heap.size,0,none⟩)]
  rw[←AN.out]
  simpa [AO] using this
 have Al:=Ah.out;have Aa:=BY.out;have BN:=BQ.out;have Ap:Blk W4 g0 22 #[.slice A l.length c]:=Blk.ext ((AP g0 (by omega)).trans A4.out) AH.out;have Ak:Blk W4 (g0+1) 27 #[.slice none 0 0]:=Blk.ext ((AP (g0+1) (by omega)).trans BG.out) AH.out;have Ax:Blk W4 (g0+1+1) 62 #[.nilIface]:=An.ext AH.out;have Au:Ext w W4:=A0.trans AH.out
 have Av:PS W4 w1.heap.size w1.heap.size ⟨ts,[],0⟩ ⟨bt,0,c',none,0,[]⟩:=by
  refine⟨Ab,fun k hk=>?_,BT.out,Aa.2,rfl,NS.nil _ _ _ _,zX _,⟨AJ.out.1,zW _⟩⟩;have h1:=HR.out.cellAt k (by exact hk);rw[←h1,Nat.zero_add];refine World.cell?_of_block (w:=w1) (a:=⟨bt,k,none⟩) ((AH.out.block bt ?_).trans (AP bt ?_))
  ·rw[AO]; exact Aa.2
  ·show bt≠_; omega
 have AF:Good ⟨ts,[],0⟩:=⟨AJ.out.1,zW _,fun n hn=>by cases hn⟩
 have AK:(⟨ts,[],0⟩:Ps).phi≤999999:=by
  have h1:=AJ.out.2.1;have h2:=Az.out
  show 0+2*ts.length≤_
  omega
 have BV:=yG (zLX W4 w1.heap.size w1.heap.size ⟨ts,[],0⟩ ⟨bt,0,c',none,0,[]⟩ Av AF rfl AK);have Ad:=yG (zMD (s:=⟨ts,[],0⟩) AJ.out.1);have BD:=yG Ap;have Aq:=yG Ak;have At:=yG Ax;have Aw:=yG Ag;have Af:=yG Au;have A6:Hid (w1.heap.size<W4.heap.size):=yG Ab.lt;have AA:Hid (w.heap.size=g0∧g0+1+1<w1.heap.size):=yG ⟨Al,by omega⟩
 have A2:Hid (∀w' R',xC W4 (xK w1.heap.size ⟨bt,0,c',none,0,[]⟩) w' (xK w1.heap.size R')→Below w1.heap.size W4 w'∧w'.heap[w1.heap.size+1]?=W4.heap[w1.heap.size+1]?):=yG fun w' R' h=>by
  have hm:∀b,xK w1.heap.size ⟨bt,0,c',none,0,[]⟩ b→b=w1.heap.size:=fun b hb=>by
   rcases hb with hb | hb | hb
   ·exact hb
   ·cases hb
   ·cases hb
  exact⟨⟨h.os,h.tape,h.output,h.size,fun b hb=>h.jL b (by have:=A6.out; omega) (fun k=>by have:=hm b k; omega)⟩,h.jL _ Ag.lt (fun k=>by have:=hm _ k; omega)⟩
 rw[AN.out];clear A0 An AP AO Ab Ag Ap Ak Ax Au Av AF AK AI AN AH c2 z2 BB Al Aa BN;generalize hpp:w1.heap.size=p at *;clear hpp;refine BV.out.mono ?_;intro e w5 AB
 cases hq:zDs ⟨ts,[],0⟩ with
 | ok a s5=>
  have AY:Hid (zC3 ts=.ok s5.nd):=yG (by unfold zC3; rw[hq]);rw[hq] at AB;obtain⟨rfl,R5,AT,As⟩:=AB;obtain⟨AC,AR⟩:=A2.out _ _ As;have AU:=yG AT;have A5:=yG AC;have cg:w5.cell? ⟨p+1,0,none⟩=some (.pointer (some ⟨p,0,none⟩)):=Blk.cell (show Blk w5 (p+1) 99 _ from AR.trans Aw.out) 0;have x1:=AT.x1;have AE:=zEp AC (by have:=AA.out; omega) Aq.out;have AD:=zEp AC (by have:=AA.out; omega) At.out;have A9:=yG AE;have BW:=yG AD;have t0:w5.cell? ⟨g0+1,0,none⟩=some (.slice none 0 0):=AE.cell 0;have e0:w5.cell? ⟨g0+1+1,0,none⟩=some .nilIface:=AD.cell 0;have tz:=AE.frozen 0;have ez:=AD.frozen 0;have Ba:=AT.blk.lt;clear hq AT As AC AR AE AD
  go_wp2_with fail
  have BC:Hid (Ext w ((w5.setCell ⟨g0+1,0,none⟩ (.slice R5.A R5.nh.length R5.c)).setCell ⟨g0+1+1,0,none⟩ .nilIface)):=yG (((show Ext w w5 from Below.trans Af.out (zKy A5.out (by have:=AA.out; omega))).set (by have:=AA.out; omega)).set (by have:=AA.out; omega))
  have BE:Hid (NS ((w5.setCell ⟨g0+1,0,none⟩ (.slice R5.A R5.nh.length R5.c)).setCell ⟨g0+1+1,0,none⟩ .nilIface) w.heap.size 38 3 R5.A R5.c R5.nh):=yG ((AU.out.ns.jL fun b hb=>by
   have h1:=(AU.out.ns.ZW hb).1;have h2:=AA.out
   rw[zS _ ⟨g0+1+1,0,none⟩ _ b (by show b≠g0+1+1; omega),zS _ ⟨g0+1,0,none⟩ _ b (by show b≠g0+1; omega)]).lower (by have:=AA.out; omega))
  have Ac:=(A9.out.put 0 (.slice R5.A R5.nh.length R5.c)).far (p:=⟨g0+1+1,0,none⟩) (by simp) .nilIface;have AZ:=(BW.out.far (p:=⟨g0+1,0,none⟩) (by simp) (.slice R5.A R5.nh.length R5.c)).put 0 .nilIface;generalize (w5.setCell ⟨g0+1,0,none⟩ (.slice R5.A R5.nh.length R5.c)).setCell ⟨g0+1+1,0,none⟩ .nilIface=W6 at *;have t6:W6.cell? ⟨g0+1,0,none⟩=some (.slice R5.A R5.nh.length R5.c):=Ac.cell 0;have e6:W6.cell? ⟨g0+1+1,0,none⟩=some .nilIface:=AZ.cell 0;refine leaves_cons (f:=41) (args:=#[.pointer (some ⟨g0,0,none⟩),.pointer (some ⟨p+1,0,none⟩),.pointer (some ⟨g0+1,0,none⟩),.pointer (some ⟨g0+1+1,0,none⟩)]) (by simp) (by simp[go_sem]) ?_;refine(zOn W6 _ rfl).mono ?_;rintro e u' A7 ⟨rfl,rfl,rfl⟩;refine⟨.tuple #[.agg #[.slice R5.A R5.nh.length R5.c],.nilIface],by simp[results,Tryz.results21,go_sem,t6,e6],?_⟩;rw[AY.out];exact⟨BC.out,R5.A,R5.c,R5.nh,rfl,AU.out.nodes,BE.out⟩
 | err er a=>
  have AY:Hid (zC3 ts=.err a er):=yG (by unfold zC3; rw[hq]);have AL:=Ad.out;rw[hq] at AB AL;obtain⟨rfl,s6,A1,R6,BL,A8⟩:=AB;obtain⟨BH,t,ht,BX⟩:=AL;obtain⟨AC,AR⟩:=A2.out _ _ A8
  have BF:a≤l.length:=by rw[←BX.1]; exact AJ.out.2.2 t ht
  have A3:er≠0:=by rcases BH with h | h <;> (rw[h]; decide)
  have AE:=zEp AC (by have:=AA.out; omega) Aq.out;have AD:=zEp AC (by have:=AA.out; omega) At.out;have BP:=zEp AC (by have:=AA.out; omega) BD.out;have BU:Blk w5 (p+1) 99 #[.pointer (some ⟨p,0,none⟩)]:=AR.trans Aw.out;have Bc:=Af.out.size;have BO:=AA.out;have AX:Ext w w5:=Below.trans Af.out (zKy AC (by omega));refine leaves_cons (f:=41) (args:=#[.pointer (some ⟨g0,0,none⟩),.pointer (some ⟨p+1,0,none⟩),.pointer (some ⟨g0+1,0,none⟩),.pointer (some ⟨g0+1+1,0,none⟩)]) (by simp) (by simp[go_sem]) ?_;refine(zM1 w5 p g0 (p+1) (g0+1) (g0+1+1) l A c s6 R6 er A3 (by have:=Az.out; omega) BK.out (HC.out.ext AX) BL.ts (by rw[A1]; exact BF) BP BU AE AD (by omega)).mono ?_;rintro e u' A7 ⟨rfl,rfl,g,w6,AS,hg,Ao,rfl⟩;rw[A1] at Ao;have h1:=AS.size;have h2:=AX.size;have h3:=AE.lt;have h4:=AD.lt;have Ac:=((AE.ext AS).put 0 (.slice none 0 0)).far (p:=⟨g0+1+1,0,none⟩) (by simp) (.iface 149 (.pointer (some ⟨g,0,none⟩)));have AZ:=((AD.ext AS).far (p:=⟨g0+1,0,none⟩) (by simp) (.slice none 0 0)).put 0 (.iface 149 (.pointer (some ⟨g,0,none⟩)));have BA:=(Ao.far (p:=⟨g0+1,0,none⟩) (by show g≠g0+1; omega) (.slice none 0 0)).far (p:=⟨g0+1+1,0,none⟩) (by show g≠g0+1+1; omega) (.iface 149 (.pointer (some ⟨g,0,none⟩)));have BR:=((AX.trans AS).set (u:=.slice none 0 0) (i:=0) (g:=g0+1) (by omega)).set (u:=.iface 149 (.pointer (some ⟨g,0,none⟩))) (i:=0) (g:=g0+1+1) (by omega)
  generalize (w6.setCell ⟨g0+1,0,none⟩ (.slice none 0 0)).setCell ⟨g0+1+1,0,none⟩ (.iface 149 (.pointer (some ⟨g,0,none⟩)))=W6 at *;have t6:W6.cell? ⟨g0+1,0,none⟩=some (.slice none 0 0):=Ac.cell 0;have e6:W6.cell? ⟨g0+1+1,0,none⟩=some (.iface 149 (.pointer (some ⟨g,0,none⟩))):=AZ.cell 0;refine⟨.tuple #[.agg #[.slice none 0 0],.iface 149 (.pointer (some ⟨g,0,none⟩))],by simp[results,Tryz.results21,go_sem,t6,e6],?_⟩;rw[AY.out];exact⟨BR,g,rfl,by omega,BA⟩
theorem zK0 (A:Option Addr)(l:Bs)(n c:Nat)(w:World)(hn:n=l.length)(hbig:l.length≤140737488355328)(hcap:l.length≤c)(hnil:A=none→c=0)(h:Cells w A (vE l)) :
  Calls Tryz.prog 21 #[.slice A n c] w (zGj l w (zAR l)):=by
 cases hl:zFA l with
 | err a er=>
  have:=zLG A l n c w hn hbig hcap hnil h a er hl
  unfold zAR;rw[hl];exact this
 | ok ts=>
  have AA:l.length≤65536:=by
   unfold zFA at hl
   split at hl
   ·cases hl
   ·omega
  have AB:zAZ 0 l=.ok ts:=by
   unfold zFA at hl;rw[if_neg (by omega)] at hl;exact hl
  have:=zRn A l n c w hn AA hcap hnil h ts hl AB
  unfold zAR;rw[hl];exact this
theorem zIL (v:Value)(w:World):(Instr.typeAssert (.iface 117 v) 20 117 false).run Tryz.prog w=.ok v w:=by kernel_rfl
def XG:Array Value:=#[.slice none 0 0,.slice none 0 0,.slice none 0 0,.slice none 0 0]
theorem zLj (w:World)(gs gt ge:Nat)(l:Bs)(A:Option Addr)(c:Nat)(at_ er:Int)(old:Array Value)(hat1:-9223372036854775808≤at_)(hat2:at_≤9223372036854775807)(her:er≠0)(hbig:l.length≤140737488355328)(hcap:l.length≤c)(hC:Cells w A (vE l))
  (hs:Blk w gs 22 #[.slice A l.length c]) (ht:Blk w gt 32 old) (hold:old.size=4) (he:Blk w ge 62 #[.nilIface]) (hne:gt≠ge) :
  CallsD Tryz.prog 47 #[.pointer (some ⟨gs,0,none⟩),.pointer (some ⟨gt,0,none⟩),.pointer (some ⟨ge,0,none⟩)] (.panicking ({ v:=.iface 117 (.agg #[.int .i64 at_,.int .i64 er]),recovered:=false } :: [])) w fun e u' w'=>
   e=.returned (.tuple #[])∧u'=.panicking ({ v:=.iface 117 (.agg #[.int .i64 at_,.int .i64 er]),recovered:=true } :: [])∧∃g w1 w2,Ext w w1∧w.heap.size≤g∧Blk w1 g 153 #[.int .i64 (atN at_ l.length:Int),.int .i64 (zFT l (atN at_ l.length)),.int .i64 (zLn l (atN at_ l.length)),.int .i64 er]∧Touch gt w1 w2∧Blk w2 gt 32 XG∧w'=w2.setCell ⟨ge,0,none⟩ (.iface 149 (.pointer (some ⟨g,0,none⟩))):=by
 have HC:=yG hC;have HS:=yG hs;have AT:=yG ht;have AB:=yG hold;have AI:=yG he;have AG:=yG hne;have HN:=yG her;have AN:=yG hbig;have AH:=yG hcap;have AL:=yG hat1;have AO:=yG hat2;have AR:=zIL;clear hC hs ht he her hbig hcap hold hne hat1 hat2;refine callsD_of_wpS Tryz.func47 rfl fun c₀ cs hu=>?_;apply wpS_seq;apply wpS_region;simp[wpOpsS,go_sem,recoverD,hu,Tryz.ntmps47,Exit.thenS];refine wpS_of_wp ?_;simp[Array.replicate]
 go_upto_region 3 with fail
 obtain⟨W,HW⟩:∃W,Hid (w.alloc (.cells #[.int .i64 at_,.int .i64 er] 117)=W):=⟨_,yG rfl⟩;have HX:Hid (Ext w W):=yG (by rw[←HW.out]; exact Ext.alloc _ _);have HB:Hid (Blk W w.heap.size 117 #[.int .i64 at_,.int .i64 er]):=yG (by rw[←HW.out]; exact Blk.new _ _ _);rw[HW.out];obtain⟨b4,AJ⟩:∃b4,Hid (w.heap.size=b4):=⟨_,yG rfl⟩;rw[AJ.out] at HB ⊢;have AM:W.cell? ⟨gs,0,none⟩=some (.slice A l.length c):=(HS.out.ext HX.out).cell 0;have AP:W.cell? ⟨b4,0,none⟩=some (.int .i64 at_):=HB.out.cell 0;have AF:W.cell? ⟨b4,1,none⟩=some (.int .i64 er):=HB.out.cell 1;clear HW AR
 go_wp2_with fail
 refine(zHE A l l.length c at_ er W rfl AN.out AH.out AL.out AO.out (HC.out.ext HX.out) HN.out).mono ?_;rintro e w1 ⟨g,rfl,hg,hb,hx⟩;have AA:=yG (HX.out.trans hx);have AK:=yG hb;have AS:=yG (Nat.le_trans HX.out.size hg);clear hg hb hx AM AP AF
 go_wp2_with (refine xQ rfl 32 (.tmp 1) (.tmp 10) rfl gt XG rfl rfl 32 old (AT.out.ext AA.out) (by kernel_rfl) AB.out rfl ?_)
 intro w2 AC AE;have AQ:=yG AC;have AU:=yG AE;have AD:=AC.blk (AI.out.ext AA.out) (fun e=>AG.out e.symm);have ce:w2.cell? ⟨ge,0,none⟩=some .nilIface:=AD.cell 0;have ze:=AD.frozen 0;clear AC AE AD
 go_wp2_with fail
 simp[bodyPostS,results,Tryz.results47];exact⟨g,w1,AA.out,AS.out,AK.out,w2,AQ.out,AU.out,rfl⟩
theorem zG2 (w:World)(args:Array Value)(h4:args.size=3) :
  CallsD Tryz.prog 47 args .returning w fun e u' w'=>e=.returned (.tuple #[])∧u'=.returning∧w'=w:=by
 refine callsD_of_wpS Tryz.func47 rfl fun c₀ cs hu=>?_;obtain⟨l,rfl⟩:∃l:List Value,args=l.toArray:=⟨args.toList,by simp⟩
 obtain⟨a,b,c,rfl⟩:∃a b c,l=[a,b,c]:=by
  match l,h4 with
  | [a,b,c],_=>exact⟨a,b,c,rfl⟩
 apply wpS_seq;apply wpS_region;simp[wpOpsS,go_sem,recoverD,hu,Tryz.ntmps47,Exit.thenS];refine wpS_of_wp ?_;simp[Array.replicate]
 go_wp2_with fail
 cases c₀
 simp_all [bodyPostS,results,Tryz.results47]
end Go.Proofs.YtbadjmmjbpeocaaGreat
namespace Go.Proofs.YtbadjmmjbpeocaaGreat
open Go Go.RowKit TT
def zK8 (x:xU):Tx:=(⟨x.kind.toNat,x.pos.toNat,x.text.data.toList,x.num,x.kids.map Int.toNat⟩,x.pos,x.kA,x.kc)
def txM (l:List xU):List Tx:=l.map zK8
theorem JF (l:List xU):(txM l).length=l.length:=by simp[txM]
structure zGU (x:xU):Prop where
 kind:0≤x.kind
 kids:∀k ∈ x.kids,1≤k
 text:x.text.size≤maxLen
theorem zHe {l:List Int}(h:∀k ∈ l,1≤k):TT.jP l=ints (l.map Int.toNat):=by
 unfold TT.jP ints;rw[List.map_map];apply List.map_congr_left;intro k hk
 have:=h k hk
 simp only[Function.comp];rw[Int.toNat_of_nonneg (by omega)]
theorem zTK (t:ByteArray):xG t.data.toList=t:=by cases t; rfl
theorem zRG {x:xU}(h:zGU x):zHR (zK8 x)=x.cells:=by
 unfold zHR zK8 xU.cells;simp only[zTK,yQ];rw[Int.toNat_of_nonneg h.kind]
theorem zUt {l:List xU}(h:∀x ∈ l,zGU x):tcs (txM l)=YK l:=by
 unfold tcs txM YK
 induction l with
 | nil=>rfl
 | cons x l ih=>rw[List.map_cons,List.flatMap_cons,List.flatMap_cons,zRG (h x (by simp)),ih fun y hy=>h y (by simp[hy])]
theorem zGd {w:World}{B:Nat}{t:TypeId}{s n c m:Nat}{A:Option Addr}{xs:List Value}(h:w.ownsRow B t s (.slice A m c) n xs)(hn:xs≠[]):∃b,A=some ⟨b,0,none⟩∧B≤b∧∃cur,Blk w b t cur:=by
 rcases h.2 with ⟨hv,h0⟩ | ⟨g,cap,cur,hv,hb,hh,_⟩
 ·exfalso
  have:=h.1
  rw[h0,Nat.zero_mul] at this;exact hn (List.eq_nil_of_length_eq_zero this)
 ·injection hv with h1;exact⟨g,h1,hb,cur,hh⟩
theorem zDB.tree {N:Nat}{w:World}{g c:Nat}{l l':List xU}(h:zDB N w g c l l' l.length)(hl:0<l.length)(hn:∀x ∈ l',zGU x){M:Nat→Prop}(h1:∀b AB,M b→Blk w b 38 AB→False)(h2:∀b AB,M b→Blk w b 3 AB→∀(j:Nat) (v:Value),AB[j]?=some v→v=Value.int .i64 0):zAS w M (some ⟨g,0,none⟩) (txM l'):=by
 have AE:∀x ∈ l',w.ownsRow N 3 1 (.slice x.kA x.kids.length x.kc) x.kids.length (TT.jP x.kids):=fun x hx=>by
  obtain⟨i,hi,rfl⟩:=List.getElem_of_mem hx;exact h.done i hi (by rw[←h.len]; exact hi)
 refine⟨?_,fun y hy=>?_,fun y hy=>?_,fun y hy=>?_⟩
 ·rw[zUt hn]
  have AH:YK l'≠[]:=fun e=>by
   have:=congrArg List.length e
   rw[zBA,h.len] at this
   simp at this
   omega
  rcases Cells.own h.row with hc | ⟨b,AG,e1,e2,e3⟩
  ·exact absurd hc AH
  ·refine .inr ⟨b,AG,e1,e2,fun hm=>?_,e3⟩;injection e1 with e1;injection e1 with e1;subst e1;obtain⟨AB,AA⟩:=vA h.row rfl;exact h1 _ _ hm AA
 ·obtain⟨x,hx,rfl⟩:=List.mem_map.1 hy
  show XF w M x.kA (ints (x.kids.map Int.toNat))
  rw[←zHe (hn x hx).kids]
  rcases Cells.own (AE x hx) with hc | ⟨b,AG,e1,e2,e3⟩
  ·exact .inl hc
  ·by_cases hk:TT.jP x.kids=[]
   ·exact .inl hk
   ·refine .inr ⟨b,AG,e1,e2,fun hm=>?_,e3⟩;obtain⟨b',e4,_,AB,AA⟩:=zGd (AE x hx) hk;rw[e1] at e4;injection e4 with e4;injection e4 with e4 e5;subst e4;subst e5
    have AD:0<x.kids.length:=by
     rcases Nat.eq_zero_or_pos x.kids.length with h0 | h0
     ·exact absurd (by rw[List.eq_nil_of_length_eq_zero h0]; rfl) hk
     ·exact h0
    have AF:=e3 0 (by rw[TT.zBo]; exact AD);rw[TT.zKC x.kids 0 AD] at AF;have AC:=AA.cell 0;rw[show(⟨b,0+0,none⟩:Addr)=⟨b,0,none⟩ from rfl] at AF;rw[AF] at AC
    have:=h2 b AB hm AA 0 _ AC.symm
    injection this with _ this
    have:=(hn x hx).kids x.kids[0] (yO AD)
    omega
 ·obtain⟨x,hx,rfl⟩:=List.mem_map.1 hy
  have:=(hn x hx).text
  show x.text.data.toList.length≤maxLen
  rw[Array.length_toList];exact this
 ·obtain⟨x,hx,rfl⟩:=List.mem_map.1 hy
  show(x.kids.map Int.toNat).length≤x.kc
  rw[yQ]
  have:=AE x hx
  rcases this.2 with ⟨hv,h0⟩ | ⟨g,cap,AB,hv,_,_,AI,_⟩
  ·omega
  ·injection hv with _ _ e;omega
theorem zDB.zSS {N:Nat}{w:World}{g c k:Nat}{l l':List xU}(h:zDB N w g c l l' k):tN (txM l')=tN (txM l)∧∀i,YT (txM l') i=YT (txM l) i:=by
 have hs:=h.same;have hl:=h.len
 constructor
 ·apply List.ext_getElem
  ·simp[tN,txM,hl]
  ·intro i h1 h2
   have h3:i<l'.length:=by simpa [tN,txM] using h1
   obtain⟨a,b,c,d,e⟩:=hs i (by omega) h3;simp[tN,txM,zK8,a,b,c,d,e]
 ·intro i;unfold YT txM;rw[zN,zN]
  by_cases h3:i<l'.length
  ·obtain⟨a,b,c,d,e⟩:=hs i (by omega) h3;rw[yJ h3,yJ (show i<l.length by omega)];simp[zK8,b]
  ·rw[zM (by omega),zM (by omega)]
end Go.Proofs.YtbadjmmjbpeocaaGreat
namespace Go.Proofs.YtbadjmmjbpeocaaGreat.TT
def VS (k:Int):Bool:=decide (21≤k)&&decide (k≤26)
def zAW (k:Int):Bool:=decide (7≤k)&&decide (k≤19)
def zBH (k:Int):Bool:=k==2||k==3
inductive vS where
 | ZL (k:Int)
 | expr
 | stmt
 | part
def vS.holds:vS→Int→Bool
 | .ZL j,k=>k==j
 | .expr,k=>VS k
 | .stmt,k=>zAW k
 | .part,k=>zBH k
structure vR where
 kids:List vS
 more:Option vS
 named:Bool
 most:Int
def XY (k:Int):List vR:=
 if k=1 then [⟨[],some .part,false,0⟩]
 else if k=2 then [⟨[.ZL 5],some (.ZL 5),true,0⟩]
 else if k=3 then [⟨[.ZL 4,.ZL 6],none,true,1⟩]
 else if k=4 then [⟨[],some (.ZL 5),false,0⟩]
 else if k=5 then [⟨[],none,true,0⟩]
 else if k=6 then [⟨[],some .stmt,false,0⟩]
 else if k=7 then [⟨[.ZL 20,.ZL 5],none,true,1⟩]
 else if k=8 then [⟨[.ZL 20,.ZL 5,.expr],none,false,0⟩]
 else if k=9 then [⟨[.ZL 20,.expr],some .expr,false,0⟩]
 else if k=10 then [⟨[.ZL 20],none,false,0⟩]
 else if k=11 then [⟨[.ZL 5,.ZL 5],none,true,0⟩]
 else if k=12 then [⟨[.ZL 5],none,false,1⟩]
 else if k=13 then [⟨[.ZL 5],none,false,0⟩,⟨[.ZL 20],none,false,0⟩]
 else if k=14 then [⟨[.expr,.expr,.ZL 6],none,false,1⟩,⟨[.expr,.expr,.ZL 6,.ZL 6],none,false,1⟩]
 else if k=15 then [⟨[.ZL 21,.ZL 21,.ZL 6],none,true,0⟩]
 else if k=16 then [⟨[.expr],none,true,0⟩]
 else if k=17 then [⟨[.expr],none,false,0⟩]
 else if k=18 then [⟨[],none,false,0⟩]
 else if k=19 then [⟨[],none,false,0⟩]
 else if k=20 then [⟨[.expr],none,true,0⟩]
 else if k=21 then [⟨[],none,false,2147483647⟩]
 else if k=22 then [⟨[],none,true,0⟩]
 else if k=23 then [⟨[.expr,.expr],none,false,0⟩]
 else if k=24 then [⟨[.expr,.expr],none,false,0⟩]
 else if k=25 then [⟨[.expr,.expr],none,false,0⟩]
 else if k=26 then [⟨[.expr],none,false,0⟩]
 else []
def vR.want (f:vR)(i:Nat):Option vS:=if i<f.kids.length then f.kids[i]? else f.more
def vI (p:Option vS)(k:Int):Bool:=match p with | none=>false | some p=>p.holds k
def vR.fits (f:vR)(l:List Int):Bool:=
 if l.length<f.kids.length∨(f.kids.length<l.length∧f.more.isNone=true) then false
 else (List.range l.length).all fun i=>vI (f.want i) (l.getD i 0)
def JC (c:Int):Bool:=decide (97≤c)&&decide (c≤122)
def ZU (c:Int):Bool:=decide (48≤c)&&decide (c≤57)
def zD4 (c:Int):Bool:=JC c||(ZU c||c==95)
def VM (l:List UInt8):Bool:=match l with
 | []=>false
 | c::r=>JC (c.toNat:Int)&&r.all fun c=>zD4 (c.toNat:Int)
def YE (f:vR)(num:Int)(text:List UInt8)(l:List Int):Bool:=
 f.fits l&&(decide (0≤num)&&(decide (num≤f.most)&&((f.named&&VM text)||(!f.named&&text.isEmpty))))
def zAA (kind num:Int)(text:List UInt8)(l:List Int):Bool:=(XY kind).any fun f=>YE f num text l
def zJ4 (what x:Int):Bool:=if what=0 then VS x else if what=1 then zAW x else x==what
def zDk (l:List Int)(frm:Nat)(what:Int):Bool:=(l.drop frm).all (zJ4 what)
def jJ (w x:Int):Bool:=if w=0 then VS x else x==w
def isR (l want:List Int):Bool:=l.length==want.length&&(List.range l.length).all fun i=>jJ (want.getD i 0) (l.getD i 0)
def ZB (kind:Int)(l:List Int):Bool:=
 if kind=1 then l.all zBH
 else if kind=2 then decide (0<l.length)&&zDk l 0 5
 else if kind=3 then isR l [4,6]
 else if kind=4 then zDk l 0 5
 else if kind=6 then zDk l 0 1
 else if kind=7 then isR l [20,5]
 else if kind=8 then isR l [20,5,0]
 else if kind=9 then decide (1<l.length)&&(l.getD 0 0==20&&zDk l 1 0)
 else if kind=10 then isR l [20]
 else if kind=11 then isR l [5,5]
 else if kind=12 then isR l [5]
 else if kind=13 then isR l [5]||isR l [20]
 else if kind=14 then isR l [0,0,6]||isR l [0,0,6,6]
 else if kind=15 then isR l [21,21,6]
 else if kind=16∨kind=17∨kind=20∨kind=26 then isR l [0]
 else if kind=23∨kind=24∨kind=25 then isR l [0,0]
 else l.length==0
def zIz (k:Int):Bool:=k==2||(k==3||(k==5||(k==7||(k==11||(k==15||(k==16||(k==20||k==22)))))))
def zGa (k:Int):Int:=if k=3∨k=7∨k=12∨k=14 then 1 else if k=21 then 2147483647 else 0
def zFF (kind num:Int)(text:List UInt8):Bool:=(zIz kind==VM text)&&((zIz kind||text.isEmpty)&&(decide (0≤num)&&decide (num≤zGa kind)))
theorem zAx (f:Int→Bool)(l:List Int):((List.range l.length).all fun i=>f (l.getD i 0))=l.all f:=by
 induction l with
 | nil=>rfl
 | cons x l ih=>
  rw[zK,List.range_succ_eq_map,List.all_cons,List.all_map,List.all_cons]
  congr 1
theorem xO (ps:List vS)(ws:List Int)(named:Bool)(most:Int)(hl:ps.length=ws.length)(h:∀i,i<ws.length→∀x,vI ps[i]? x=jJ (ws.getD i 0) x)(l:List Int) :
  (vR.mk ps none named most).fits l=isR l ws:=by
 unfold vR.fits isR;simp only[Option.isNone_none,and_true]
 by_cases AA:l.length=ws.length
 ·rw[if_neg (by omega),AA];simp only[beq_self_eq_true,Bool.true_and];rw[Bool.eq_iff_iff];simp only[zH,List.mem_range]
  constructor
  ·intro hh i hi
   have:=hh i hi
   unfold vR.want at this
   simp only at this
   rw[if_pos (by omega),h i hi] at this;exact this
  ·intro hh i hi
   have:=hh i hi
   unfold vR.want
   simp only
   rw[if_pos (by omega),h i hi];exact this
 ·rw[if_pos (by omega)];simp[AA]
theorem zBi (p:vS)(named:Bool)(most:Int)(l:List Int):(vR.mk [] (some p) named most).fits l=l.all p.holds:=by
 unfold vR.fits;rw[if_neg (by simp)];unfold vR.want vI;simp only[zL,Nat.not_lt_zero,if_false];exact zAx p.holds l
theorem zGD (q p:vS)(named:Bool)(most:Int)(l:List Int):(vR.mk [q] (some p) named most).fits l=(decide (0<l.length)&&(q.holds (l.getD 0 0)&&(l.drop 1).all p.holds)):=by
 unfold vR.fits
 cases l with
 | nil=>simp
 | cons x l=>
  rw[if_neg (by simp)];rw[zK,List.range_succ_eq_map,List.all_cons,List.all_map];simp only[vR.want,vI,zK,zL]
  simp
  congr 1
  rw[←zAx p.holds l];simp[Function.comp_def,yH]
theorem zFw (q r p:vS)(named:Bool)(most:Int)(l:List Int):(vR.mk [q,r] (some p) named most).fits l=(decide (1<l.length)&&(q.holds (l.getD 0 0)&&(r.holds (l.getD 1 0)&&(l.drop 2).all p.holds))):=by
 unfold vR.fits
 match l with
 | []=>simp
 | [x]=>simp
 | x::y::l=>
  rw[if_neg (by simp)];rw[zK,List.range_succ_eq_map,List.all_cons,List.all_map,zK,List.range_succ_eq_map,List.all_cons,List.all_map];simp only[vR.want,vI,zK,zL]
  simp
  congr 2
  rw[←zAx p.holds l];simp[Function.comp_def,yH,show ∀x:Nat,¬(x+1+1<2) from fun x=>by omega]
theorem zDZ {t:List UInt8}(h:VM t=true):t.isEmpty=false:=by
 cases t with
 | nil=>cases h
 | cons c r=>rfl
theorem zCh (kind num:Int)(text:List UInt8)(F:Bool)(named:Bool)(most:Int)(hn:zIz kind=named)(hm:zGa kind=most) :
  (F&&(decide (0≤num)&&(decide (num≤most)&&((named&&VM text)||(!named&&text.isEmpty)))))=(zFF kind num text&&F):=by
 unfold zFF;rw[hn,hm]
 cases hI:VM text
 ·cases named <;> cases F <;> cases text.isEmpty <;> cases decide (0≤num) <;> cases decide (num≤most) <;> rfl
 ·rw[zDZ hI]
  cases named <;> cases F <;> cases decide (0≤num) <;> cases decide (num≤most) <;> rfl
theorem xY (kind num:Int)(text:List UInt8)(l:List Int)(ps:List vS)(more:Option vS)(named:Bool)(most:Int)(hf:XY kind=[⟨ps,more,named,most⟩])(hn:zIz kind=named)(hm:zGa kind=most)(hk:(vR.mk ps more named most).fits l=ZB kind l) :
  zAA kind num text l=(zFF kind num text&&ZB kind l):=by
 unfold zAA;rw[hf,←zCh kind num text _ named most hn hm,←hk];simp[YE]
theorem zEL (kind num:Int)(text:List UInt8)(l:List Int)(ps qs:List vS)(most:Int)(hf:XY kind=[⟨ps,none,false,most⟩,⟨qs,none,false,most⟩])(hn:zIz kind=false)(hm:zGa kind=most)(hk:((vR.mk ps none false most).fits l||(vR.mk qs none false most).fits l)=ZB kind l) :
  zAA kind num text l=(zFF kind num text&&ZB kind l):=by
 unfold zAA;rw[hf,←zCh kind num text _ false most hn hm,←hk];simp only[List.any_cons,List.any_nil,Bool.or_false,YE];rw[Bool.and_or_distrib_right]
theorem vL (w:Int)(hw:w≠0)(x:Int):vI (some (.ZL w)) x=jJ w x:=by
 unfold vI vS.holds jJ;rw[if_neg hw]
theorem vY (x:Int):vI (some .expr) x=jJ 0 x:=rfl
theorem ex1 (p:vS)(w:Int)(h:∀x,vI (some p) x=jJ w x):∀i,i < [w].length→∀x,vI [p][i]? x=jJ ([w].getD i 0) x:=by
 intro i hi x
 match i,hi with
 | 0,_=>exact h x
theorem ex2 (p q:vS)(w v:Int)(h:∀x,vI (some p) x=jJ w x)(h2:∀x,vI (some q) x=jJ v x):∀i,i < [w,v].length→∀x,vI [p,q][i]? x=jJ ([w,v].getD i 0) x:=by
 intro i hi x
 match i,hi with
 | 0,_=>exact h x
 | 1,_=>exact h2 x
theorem ex3 (p q r:vS)(w v u:Int)(h:∀x,vI (some p) x=jJ w x)(h2:∀x,vI (some q) x=jJ v x)(h3:∀x,vI (some r) x=jJ u x):∀i,i < [w,v,u].length→∀x,vI [p,q,r][i]? x=jJ ([w,v,u].getD i 0) x:=by
 intro i hi x
 match i,hi with
 | 0,_=>exact h x
 | 1,_=>exact h2 x
 | 2,_=>exact h3 x
theorem ex4 (p q r s:vS)(w v u t:Int)(h:∀x,vI (some p) x=jJ w x)(h2:∀x,vI (some q) x=jJ v x)(h3:∀x,vI (some r) x=jJ u x)(h4:∀x,vI (some s) x=jJ t x):∀i,i < [w,v,u,t].length→∀x,vI [p,q,r,s][i]? x=jJ ([w,v,u,t].getD i 0) x:=by
 intro i hi x
 match i,hi with
 | 0,_=>exact h x
 | 1,_=>exact h2 x
 | 2,_=>exact h3 x
 | 3,_=>exact h4 x
theorem ex0:∀i,i<([]:List Int).length→∀x,vI ([]:List vS)[i]? x=jJ (([]:List Int).getD i 0) x:=by
 intro i hi
 simp at hi
theorem zAM (l:List Int):isR l []=(l.length==0):=by
 cases l <;> simp[isR]
theorem zM6 (kind num:Int)(text:List UInt8)(l:List Int):zAA kind num text l=(decide (1≤kind)&&(decide (kind≤26)&&(zFF kind num text&&ZB kind l))):=by
 by_cases hk:1≤kind∧kind≤26
 ·rw[yS hk.1,yS hk.2,Bool.true_and,Bool.true_and]
  have hc:kind=1∨kind=2∨kind=3∨kind=4∨kind=5∨kind=6∨kind=7∨kind=8∨kind=9∨kind=10∨kind=11∨kind=12∨kind=13∨kind=14∨kind=15∨kind=16∨kind=17∨kind=18∨kind=19∨kind=20∨kind=21∨kind=22∨kind=23∨kind=24∨kind=25∨kind=26:=by omega
  rcases hc with rfl | rfl | rfl | rfl | rfl | rfl | rfl | rfl | rfl | rfl | rfl | rfl | rfl | rfl | rfl | rfl | rfl | rfl | rfl | rfl | rfl | rfl | rfl | rfl | rfl | rfl
  ·exact xY _ _ _ _ _ _ _ _ rfl rfl rfl (zBi _ _ _ _)
  ·refine xY _ _ _ _ _ _ _ _ rfl rfl rfl ((zGD _ _ _ _ _).trans ?_)
   show _=(decide (0<l.length)&&zDk l 0 5)
   cases l <;> rfl
  ·exact xY _ _ _ _ _ _ _ _ rfl rfl rfl (xO _ _ _ _ rfl (ex2 _ _ _ _ (vL 4 (by decide)) (vL 6 (by decide))) l)
  ·exact xY _ _ _ _ _ _ _ _ rfl rfl rfl (zBi _ _ _ _)
  ·exact xY _ _ _ _ _ _ _ _ rfl rfl rfl ((xO [] [] _ _ rfl ex0 l).trans (zAM l))
  ·exact xY _ _ _ _ _ _ _ _ rfl rfl rfl (zBi _ _ _ _)
  ·exact xY _ _ _ _ _ _ _ _ rfl rfl rfl (xO _ _ _ _ rfl (ex2 _ _ _ _ (vL 20 (by decide)) (vL 5 (by decide))) l)
  ·exact xY _ _ _ _ _ _ _ _ rfl rfl rfl (xO _ _ _ _ rfl (ex3 _ _ _ _ _ _ (vL 20 (by decide)) (vL 5 (by decide)) vY) l)
  ·refine xY _ _ _ _ _ _ _ _ rfl rfl rfl ((zFw _ _ _ _ _ _).trans ?_)
   show _=(decide (1<l.length)&&(l.getD 0 0==20&&zDk l 1 0))
   match l with
   | []=>rfl
   | [x]=>rfl
   | x::y::l=>rfl
  ·exact xY _ _ _ _ _ _ _ _ rfl rfl rfl (xO _ _ _ _ rfl (ex1 _ _ (vL 20 (by decide))) l)
  ·exact xY _ _ _ _ _ _ _ _ rfl rfl rfl (xO _ _ _ _ rfl (ex2 _ _ _ _ (vL 5 (by decide)) (vL 5 (by decide))) l)
  ·exact xY _ _ _ _ _ _ _ _ rfl rfl rfl (xO _ _ _ _ rfl (ex1 _ _ (vL 5 (by decide))) l)
  ·refine zEL _ _ _ _ _ _ _ rfl rfl rfl ?_;rw[xO _ [5] _ _ rfl (ex1 _ _ (vL 5 (by decide))) l,xO _ [20] _ _ rfl (ex1 _ _ (vL 20 (by decide))) l]
   rfl
  ·refine zEL _ _ _ _ _ _ _ rfl rfl rfl ?_;rw[xO _ [0,0,6] _ _ rfl (ex3 _ _ _ _ _ _ vY vY (vL 6 (by decide))) l,xO _ [0,0,6,6] _ _ rfl (ex4 _ _ _ _ _ _ _ _ vY vY (vL 6 (by decide)) (vL 6 (by decide))) l]
   rfl
  ·exact xY _ _ _ _ _ _ _ _ rfl rfl rfl (xO _ _ _ _ rfl (ex3 _ _ _ _ _ _ (vL 21 (by decide)) (vL 21 (by decide)) (vL 6 (by decide))) l)
  ·exact xY _ _ _ _ _ _ _ _ rfl rfl rfl (xO _ _ _ _ rfl (ex1 _ _ vY) l)
  ·exact xY _ _ _ _ _ _ _ _ rfl rfl rfl (xO _ _ _ _ rfl (ex1 _ _ vY) l)
  ·exact xY _ _ _ _ _ _ _ _ rfl rfl rfl ((xO [] [] _ _ rfl ex0 l).trans (zAM l))
  ·exact xY _ _ _ _ _ _ _ _ rfl rfl rfl ((xO [] [] _ _ rfl ex0 l).trans (zAM l))
  ·exact xY _ _ _ _ _ _ _ _ rfl rfl rfl (xO _ _ _ _ rfl (ex1 _ _ vY) l)
  ·exact xY _ _ _ _ _ _ _ _ rfl rfl rfl ((xO [] [] _ _ rfl ex0 l).trans (zAM l))
  ·exact xY _ _ _ _ _ _ _ _ rfl rfl rfl ((xO [] [] _ _ rfl ex0 l).trans (zAM l))
  ·exact xY _ _ _ _ _ _ _ _ rfl rfl rfl (xO _ _ _ _ rfl (ex2 _ _ _ _ vY vY) l)
  ·exact xY _ _ _ _ _ _ _ _ rfl rfl rfl (xO _ _ _ _ rfl (ex2 _ _ _ _ vY vY) l)
  ·exact xY _ _ _ _ _ _ _ _ rfl rfl rfl (xO _ _ _ _ rfl (ex2 _ _ _ _ vY vY) l)
  ·exact xY _ _ _ _ _ _ _ _ rfl rfl rfl (xO _ _ _ _ rfl (ex1 _ _ vY) l)
 ·have h0:XY kind=[]:=by
   unfold XY
   repeat (rw[if_neg (by omega)])
  have h1:(decide (1≤kind)&&(decide (kind≤26)&&(zFF kind num text&&ZB kind l)))=false:=by
   by_cases h1:1≤kind
   ·rw[yR (show ¬kind≤26 from by omega)]
    simp
   ·rw[yR h1]
    simp
  rw[h1];unfold zAA;rw[h0]
  rfl
end Go.Proofs.YtbadjmmjbpeocaaGreat.TT
namespace Go.Proofs.YtbadjmmjbpeocaaGreat.TT
open Go Go.RowKit
theorem jN {a b:Bool}(h:a=b):Ending.returned (.bool a)=.returned (.bool b):=by rw[h]
theorem zBC (k:Int)(w:World):Calls Tryz.prog 148 #[.int .u8 k] w fun e w'=>e=.returned (.bool (VS k))∧w=w':=by
 by_cases h:21≤k
 ·have H:Hid (VS k=decide (k≤26)):=yG (by unfold VS; rw[yS h,Bool.true_and]);have h1:decide (21≤k)=true:=yS h
  go_enter Tryz.func148,Tryz.ntmps148
  go_wp2
  go_ret;exact⟨jN H.out.symm,rfl⟩
 ·have H:Hid (VS k=false):=yG (by unfold VS; rw[yR h,Bool.false_and]);have h1:decide (21≤k)=false:=yR h
  go_enter Tryz.func148,Tryz.ntmps148
  go_wp2
  go_ret;exact⟨jN H.out.symm,rfl⟩
theorem zBF (k:Int)(w:World):Calls Tryz.prog 147 #[.int .u8 k] w fun e w'=>e=.returned (.bool (zAW k))∧w=w':=by
 by_cases h:7≤k
 ·have H:Hid (zAW k=decide (k≤19)):=yG (by unfold zAW; rw[yS h,Bool.true_and]);have h1:decide (7≤k)=true:=yS h
  go_enter Tryz.func147,Tryz.ntmps147
  go_wp2
  go_ret;exact⟨jN H.out.symm,rfl⟩
 ·have H:Hid (zAW k=false):=yG (by unfold zAW; rw[yR h,Bool.false_and]);have h1:decide (7≤k)=false:=yR h
  go_enter Tryz.func147,Tryz.ntmps147
  go_wp2
  go_ret;exact⟨jN H.out.symm,rfl⟩
theorem zBD (k:Int)(w:World):Calls Tryz.prog 145 #[.int .u8 k] w fun e w'=>e=.returned (.bool (zBH k))∧w=w':=by
 by_cases h:k=2
 ·subst h
  go_enter Tryz.func145,Tryz.ntmps145
  go_wp2
  go_ret;exact⟨rfl,rfl⟩
 ·have h1:(k==2)=false:=beq_eq_false_iff_ne.2 h;have H:Hid (zBH k=(k==3)):=yG (by unfold zBH; rw[h1,Bool.false_or])
  go_enter Tryz.func145,Tryz.ntmps145
  go_wp2
  go_ret;exact⟨jN H.out.symm,rfl⟩
theorem zAH (k j:Int)(g:Nat)(w:World)(hg:Blk w g 5 #[.int .u8 j]):Calls Tryz.prog 158 #[.int .u8 k,.pointer (some ⟨g,0,none⟩)] w fun e w'=>e=.returned (.bool (k==j))∧w=w':=by
 have h0:=hg.cell 0;have hf:=hg.frozen 0;clear hg
 go_enter Tryz.func158,Tryz.ntmps158
 go_wp2
 go_ret;exact⟨rfl,rfl⟩
theorem zHJ (k:Int)(w:World):Calls Tryz.prog 146 #[.int .u8 k] w fun e w'=>e=.returned (.func (.func 158) #[] #[.pointer (some ⟨w.heap.size,0,none⟩)])∧w'=w.alloc (.cells #[.int .u8 k] 5):=by
 go_enter Tryz.func146,Tryz.ntmps146
 go_wp2
 go_ret;exact⟨rfl,rfl⟩
def zBg (w:World):vS→Value→Prop
 | .ZL k,v=>∃g,v=.func (.func 158) #[] #[.pointer (some ⟨g,0,none⟩)]∧Blk w g 5 #[.int .u8 k]
 | .expr,v=>v=.func (.func 148) #[] #[]
 | .stmt,v=>v=.func (.func 147) #[] #[]
 | .part,v=>v=.func (.func 145) #[] #[]
theorem zBg.ext {w w':World}{p:vS}{v:Value}(h:zBg w p v)(hx:Ext w w'):zBg w' p v:=by
 cases p with
 | ZL k=>obtain⟨g,h1,h2⟩:=h; exact⟨g,h1,h2.ext hx⟩
 | expr=>exact h
 | stmt=>exact h
 | part=>exact h
theorem zBg.form {w:World}{p:vS}{v:Value}(h:zBg w p v):∃f lb,v=.func (.func f) #[] lb∧v.oneCell'=true:=by
 cases p with
 | ZL k=>obtain⟨g,h1,h2⟩:=h; subst h1; exact⟨_,_,rfl,rfl⟩
 | expr=>subst h; exact⟨_,_,rfl,rfl⟩
 | stmt=>subst h; exact⟨_,_,rfl,rfl⟩
 | part=>subst h; exact⟨_,_,rfl,rfl⟩
end Go.Proofs.YtbadjmmjbpeocaaGreat.TT
