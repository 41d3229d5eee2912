/- The program's Parse: what it does behind a panic, and behind none. (and what follows of it). The conditions stand at each lemma. -/
import Derived.Test.YtioffpjajhalaaaGreatDoorLaa
import Derived.Test.YtioffpjajhalaaaGreatDoorLav
import Derived.Test.YtioffpjajhalaaaGreatDoorLam
import Derived.Recover
import Derived.Defers
import Derived.Test.YtioffpjajhalaaaGreatDoorLal
import Derived.Lib.ItoaLen
import Derived.Shelf.Strconv.Itoa3
import Derived.Test.YtioffpjajhalaaaGreatDoorChecked
import Derived.Test.YtioffpjajhalaaaGreatDoorLag
set_option linter.unusedVariables false
set_option linter.unusedSimpArgs false
set_option maxRecDepth 100000
set_option maxHeartbeats 16000000
namespace Go.Proofs.YtioffpjajhalaaaGreatDoor
open Go Go.RowKit
theorem zEH:∀(f p:Nat) (s:Bs) (l:List Tok),zDK f p s=.ok l→∃m e,l=m++[e]∧e.kind=4
 | 0,p,s,l,h=>by cases h
 | f+1,p,s,l,h=>by
  unfold zDK at h
  split at h
  ·injection h with h;subst h;exact⟨[],_,rfl,rfl⟩
  ·exact zEH f _ _ l h
  ·rename_i kd k n hs
   cases hr:zDK f (p+k) (s.drop k) with
   | err a e=>rw[hr] at h; cases h
   | ok m=>
    rw[hr] at h;obtain⟨m',e,rfl,he⟩:=zEH f _ _ m hr;injection h with h;subst h;exact⟨_::m',e,rfl,he⟩
  ·cases h
theorem zE2:∀(f p:Nat) (s:Bs) (l:List Tok),s.length<f→zDK f p s=.ok l→l.length≤s.length+1∧∀t ∈ l,t.at_≤p+s.length
 | 0,p,s,l,hf,h=>by cases h
 | f+1,p,s,l,hf,h=>by
  have hw:=zCh s;unfold zDK at h
  split at h
  ·injection h with h;subst h;refine⟨by simp,fun t ht=>?_⟩;rw[List.mem_singleton.1 ht]
   simp
  ·rename_i k hs;rw[hs] at hw;obtain⟨h1,h2⟩:1≤k∧k≤s.length:=hw;have hl:(s.drop k).length=s.length-k:=List.length_drop;obtain⟨r1,r2⟩:=zE2 f _ _ l (by omega) h;exact⟨by omega,fun t ht=>by have:=r2 t ht; omega⟩
  ·rename_i kd k n hs;rw[hs] at hw;obtain⟨h1,h2⟩:1≤k∧k≤s.length:=hw;have hl:(s.drop k).length=s.length-k:=List.length_drop
   cases hr:zDK f (p+k) (s.drop k) with
   | err a e=>rw[hr] at h; cases h
   | ok m=>
    rw[hr] at h;injection h with h;subst h;obtain⟨r1,r2⟩:=zE2 f _ _ m (by omega) hr;refine⟨by simp only[zJ]; omega,fun t ht=>?_⟩
    rcases List.mem_cons.1 ht with rfl | ht
    ·show p≤p+s.length; omega
    ·have:=r2 t ht; omega
  ·cases h
theorem zOQ {l:Bs}{ts:List Tok}(h:zAj 0 l=.ok ts):(∃m e,ts=m++[e]∧e.kind=4)∧ts.length≤l.length+1∧∀t ∈ ts,t.at_≤l.length:=by
 obtain⟨h1,h2⟩:=zE2 _ 0 l ts (Nat.lt_succ_self _) h;exact⟨zEH _ 0 l ts h,h1,fun t ht=>by have:=h2 t ht; omega⟩
theorem zQa {a n:Nat}(h:a≤n):atN a n=a:=by unfold atN; omega
theorem zHU (v:Value)(w:World):(Instr.typeAssert (.iface 54 v) 20 54 false).run Tryz.prog w=.ok v w:=by kernel_rfl
theorem zKJ (w:World)(p gs gp gt ge:Nat)(l:Bs)(A:Option Addr)(c:Nat)(s:Ps)(R:xW)(er:Int)(her:er≠0)(hbig:l.length≤140737488355328)(hcap:l.length≤c)(hC:Cells w A (xL l))(hT:TS w p s R)(AC:s.hd.at_≤l.length)
  (hs:Blk w gs 22 #[.slice A l.length c]) (hp:Blk w gp 73 #[.pointer (some ⟨p,0,none⟩)]) (ht:Blk w gt 39 #[.slice none 0 0]) (he:Blk w ge 25 #[.nilIface]) (hne:gt≠ge) :
  CallsD Tryz.prog 37 #[.pointer (some ⟨gs,0,none⟩),.pointer (some ⟨gp,0,none⟩),.pointer (some ⟨gt,0,none⟩),.pointer (some ⟨ge,0,none⟩)] (.panicking ({ v:=.iface 54 (.int .i64 er),recovered:=false } :: [])) w fun e u' w'=>
   e=.returned (.tuple #[])∧u'=.panicking ({ v:=.iface 54 (.int .i64 er),recovered:=true } :: [])∧∃g w1,Ext w w1∧w.heap.size≤g∧Blk w1 g 110 #[.int .i64 (s.hd.at_:Int),.int .i64 (zHg l s.hd.at_),.int .i64 (zLE l s.hd.at_),.int .i64 er]∧w'=(w1.setCell ⟨gt,0,none⟩ (.slice none 0 0)).setCell ⟨ge,0,none⟩ (.iface 107 (.pointer (some ⟨g,0,none⟩))):=by
 have HT:=yD hT;have HC:=yD hC;have AE:=yD AC;have HS:=yD hs;have HP:=yD hp;have AD:=yD ht;have AG:=yD he;have HN:=yD her;have AF:=yD hbig;have AM:=yD hcap;have AO:=zIG;have AI:=zHU;clear hT hC AC hs hp ht he her hbig hcap;refine callsD_of_wpS Tryz.func37 rfl fun c₀ cs hu=>?_;apply wpS_seq;apply wpS_region;simp[wpOpsS,go_sem,recoverD,hu,Tryz.ntmps37,Exit.thenS];refine wpS_of_wp ?_;simp[Array.replicate]
 go_upto_region 2 with fail
 have AH:=HS.out.lt;have AN:=HP.out.lt;have AJ:Hid (∀w',Ext w w'→TS w' p s R):=yD fun w' hx=>⟨HT.out.blk.ext hx,fun j hj=>(hx.cell (p:=⟨R.bt,R.ot+j,none⟩) HT.out.btl).trans (HT.out.tok j hj),yR HT.out.btl hx.size,HT.out.pos⟩;apply xI 8 (by kernel_rfl) (by kernel_rfl) (by kernel_rfl);dsimp only[List.take_succ_cons,List.take_zero,List.drop_succ_cons,List.drop_zero];apply sQ (.agg #[.slice none 0 0]);apply yZ (.slice A l.length c) rfl rfl rfl
 ·intro w' AA hH;have cc:=(AA.cell (p:=⟨gs,0,none⟩) AH).trans (HS.out.cell 0);clear hH AA;simp[yY,go_sem,cc];exact Ext.refl _
 apply yZ (.pointer (some ⟨p,0,none⟩)) rfl rfl rfl
 ·intro w' AA hH;have cc:=(AA.cell (p:=⟨gp,0,none⟩) AN).trans (HP.out.cell 0);clear hH AA;simp[yY,go_sem,cc];exact Ext.refl _
 (try simp only[Act.put,yA,yB,yC]);apply yZ (.agg (ZM s.hd).toArray) rfl rfl rfl
 ·intro w' AA hH;have ht:=AJ.out w' AA;clear hH;simp[yY,go_sem];refine(jS w' p s R ht).mono ?_;rintro e w2 ⟨rfl,hx⟩;exact⟨_,rfl,rfl,hx⟩
 apply yZ (.int .i64 (s.hd.at_:Int)) rfl rfl rfl
 ·intro w' AA hH;clear hH AA;unfold ZM;simp[yY,go_sem,AO];exact Ext.refl _
 apply sQ (.iface 54 (.int .i64 er));apply sP AI (.int .i64 er);apply vA (fun v w'=>∃g,v=.iface 107 (.pointer (some ⟨g,0,none⟩))∧w.heap.size≤g∧Blk w' g 110 #[.int .i64 (s.hd.at_:Int),.int .i64 (zHg l s.hd.at_),.int .i64 (zLE l s.hd.at_),.int .i64 er]) (fun v w w' h hx=>let ⟨g,a,b,c⟩:=h; ⟨g,a,b,c.ext hx⟩) rfl rfl rfl
 ·intro w' AA hH;have AR:=HC.out.ext AA;have AP:=AA.size;have AC:=AE.out;have AT:=AF.out;clear hH;simp[yY,go_sem];refine(zJx A l l.length c (s.hd.at_:Int) er w' rfl AF.out AM.out (by omega) (by omega) AR HN.out).mono ?_;rintro e w2 ⟨g,rfl,hg,hb,hx⟩;rw[zQa AE.out] at hb;exact⟨_,rfl,⟨g,rfl,Nat.le_trans AP hg,hb⟩,hx⟩
 intro AS;(try simp only[Act.put,yA,yB,yC]);apply xN;intro w2 AB hH;obtain⟨g,rfl,hg,hb⟩:=hH _ (List.mem_cons_self ..);have AK:=yD AB;have AL:=yD hb;have AQ:=yD hg;have ct:=(AD.out.ext AB).cell 0;have zt:=(AD.out.ext AB).frozen 0;have ce:=(AG.out.ext AB).cell 0;have ze:=(AG.out.ext AB).frozen 0;simp only[yI,yJ] at ct ce;clear hH hb hg AB
 go_wp2_with fail
 simp[bodyPostS,results,Tryz.results37];exact⟨g,w2,AK.out,AQ.out,AL.out,rfl⟩
theorem zLZ (w:World)(args:Array Value)(h4:args.size=4) :
  CallsD Tryz.prog 37 args .returning w fun e u' w'=>e=.returned (.tuple #[])∧u'=.returning∧w'=w:=by
 refine callsD_of_wpS Tryz.func37 rfl fun c₀ cs hu=>?_;obtain⟨l,rfl⟩:∃l:List Value,args=l.toArray:=⟨args.toList,by simp⟩
 obtain⟨a,b,c,d,rfl⟩:∃a b c d,l=[a,b,c,d]:=by
  match l,h4 with
  | [a,b,c,d],_=>exact⟨a,b,c,d,rfl⟩
 apply wpS_seq;apply wpS_region;simp[wpOpsS,go_sem,recoverD,hu,Tryz.ntmps37,Exit.thenS];refine wpS_of_wp ?_;simp[Array.replicate]
 go_wp2_with fail
 cases c₀
 simp_all [bodyPostS,results,Tryz.results37]
def zDI (l:Bs):zLr:=match zEZ l with
 | .ok ts=>zEV ts
 | .err p e=>.err p e
def zED (l:Bs)(w:World)(r:zLr)(e:Ending)(w':World):Prop:=Ext w w'∧match r with
 | .ok nd=>∃A c nh,e=.returned (.tuple #[.agg #[.slice A nh.length c],.nilIface])∧nd=nh.map Prod.fst∧NS w' w.heap.size 48 3 A c nh
 | .err a er=>∃g,e=.returned (.tuple #[.agg #[.slice none 0 0],.iface 107 (.pointer (some ⟨g,0,none⟩))])∧w.heap.size≤g∧Blk w' g 110 #[.int .i64 (a:Int),.int .i64 (zHg l a),.int .i64 (zLE l a),.int .i64 er]
theorem NS.nil (w:World)(B:Nat)(tn ti:TypeId):NS w B tn ti none 0 []:=⟨zP _ _ _ _,fun x hx=>(by cases hx),fun i j hi=>(by cases hi),fun _=>rfl,fun x hx=>(by cases hx)⟩
theorem Ext.set {w w1:World}(h:Ext w w1){g i:Nat}{u:Value}(hg:w.heap.size≤g):Ext w (w1.setCell ⟨g,i,none⟩ u):=
 ⟨h.os,h.tape,h.output,by have:=h.size; simp[World.setCell]; omega,fun b hb=>(zQ w1 ⟨g,i,none⟩ u b (fun e=>by subst e; exact absurd hb (Nat.not_lt.2 hg))).trans (h.block b hb)⟩
theorem zI9 (A:Option Addr)(l:Bs)(n c:Nat)(w:World)(hn:n=l.length)(hbig:l.length≤140737488355328)(hcap:l.length≤c)(hnil:A=none→c=0)(h:Cells w A (xL l))(a:Nat)(er:Int)(hl:zEZ l=.err a er) :
  Calls Tryz.prog 16 #[.slice A n c] w (zED l w (.err a er)):=by
 subst hn;have HC:=yD h;have HL:=yD hl;obtain⟨W0,AA⟩:∃W0,Hid (((w.alloc (.cells #[.slice A l.length c] 22)).alloc (.cells #[.slice none 0 0] 39)).alloc (.cells #[.nilIface] 25)=W0):=⟨_,yD rfl⟩;have AF:Hid (Ext w W0):=yD (by rw[←AA.out]; exact((Ext.alloc _ _).trans (Ext.alloc _ _)).trans (Ext.alloc _ _));have AL:Hid (Blk W0 w.heap.size 22 #[.slice A l.length c]):=yD (by rw[←AA.out]; exact((Blk.new _ _ _).alloc _).alloc _)
 have AH:Hid (Blk W0 (w.heap.size+1) 39 #[.slice none 0 0]):=yD (by
  have:=(Blk.new (w.alloc (.cells #[.slice A l.length c] 22)) 39 #[.slice none 0 0]).alloc (.cells #[.nilIface] 25)
  rw[←AA.out]
  simpa using this)
 have AE:Hid (Blk W0 (w.heap.size+1+1) 25 #[.nilIface]):=yD (by
  have:=Blk.new ((w.alloc (.cells #[.slice A l.length c] 22)).alloc (.cells #[.slice none 0 0] 39)) 25 #[.nilIface]
  rw[←AA.out]
  simpa using this)
 have AI:=yD (zM8 A l l.length c W0 rfl hbig hcap hnil (h.ext AF.out));clear h hl
 go_enter_defers Tryz.func16,Tryz.ntmps16
 have AJ:W0.cell? ⟨w.heap.size,0,none⟩=some (.slice A l.length c):=AL.out.cell 0
 go_upto_region 1 with fail
 rw[AA.out]
 go_wp2_with fail
 refine AI.out.mono ?_;rw[HL.out];rintro e w1 ⟨AB,g,rfl,hg,hb⟩;have AN:=yD (AF.out.trans AB);have AO:=yD hb;have AK:=yD (Nat.le_trans AF.out.size hg);have AC:=yD (AH.out.ext AB);have AG:=yD (AE.out.ext AB);have c1:w1.cell? ⟨w.heap.size+1,0,none⟩=some (.slice none 0 0):=AC.out.cell 0;have z1:=AC.out.frozen 0;have c2:w1.cell? ⟨w.heap.size+1+1,0,none⟩=some .nilIface:=AG.out.cell 0;have z2:=AG.out.frozen 0;have AP:=yD (yR AE.out.lt (zU _));have AD:Hid (g≠w.heap.size+1∧g≠w.heap.size+1+1):=yD (by have h1:=AE.out.lt; omega);clear AB hb hg AJ
 go_wp2_with fail
 go_region
 go_wp2_with fail
 have AM:=yD ((((AN.out.set (u:=.iface 107 (.pointer (some ⟨g,0,none⟩))) (i:=0) (g:=w.heap.size+1+1) (by omega)).set (u:=.slice none 0 0) (i:=0) (g:=w.heap.size+1) (by omega)).set (u:=.iface 107 (.pointer (some ⟨g,0,none⟩))) (i:=0) (g:=w.heap.size+1+1) (by omega)).trans (Below.drew (Below.refl _ _)));have hE:=(((AG.out.put 0 (.iface 107 (.pointer (some ⟨g,0,none⟩)))).far (p:=⟨w.heap.size+1,0,none⟩) (by simp) (.slice none 0 0)).put 0 (.iface 107 (.pointer (some ⟨g,0,none⟩)))).ext (Below.drew (Below.refl _ _));have hT:=(((AC.out.far (p:=⟨w.heap.size+1+1,0,none⟩) (by simp) (.iface 107 (.pointer (some ⟨g,0,none⟩)))).put 0 (.slice none 0 0)).far (p:=⟨w.heap.size+1+1,0,none⟩) (by simp) (.iface 107 (.pointer (some ⟨g,0,none⟩)))).ext (Below.drew (Below.refl _ _));have hB:=(((AO.out.far (p:=⟨w.heap.size+1+1,0,none⟩) AD.out.2 (.iface 107 (.pointer (some ⟨g,0,none⟩)))).far (p:=⟨w.heap.size+1,0,none⟩) AD.out.1 (.slice none 0 0)).far (p:=⟨w.heap.size+1+1,0,none⟩) AD.out.2 (.iface 107 (.pointer (some ⟨g,0,none⟩)))).ext (Below.drew (Below.refl _ _));generalize (((w1.setCell ⟨w.heap.size+1+1,0,none⟩ (.iface 107 (.pointer (some ⟨g,0,none⟩)))).setCell ⟨w.heap.size+1,0,none⟩ (.slice none 0 0)).setCell ⟨w.heap.size+1+1,0,none⟩ (.iface 107 (.pointer (some ⟨g,0,none⟩)))).drew=W at *;have e0:W.cell? ⟨w.heap.size+1+1,0,none⟩=some (.iface 107 (.pointer (some ⟨g,0,none⟩))):=hE.cell 0;have t0:W.cell? ⟨w.heap.size+1,0,none⟩=some (.slice none 0 0):=hT.cell 0
 exact⟨.tuple #[.agg #[.slice none 0 0],.iface 107 (.pointer (some ⟨g,0,none⟩))],by simp[results,Tryz.results16,go_sem,e0,t0],AM.out,g,rfl,AK.out,hB⟩
theorem zH6 {w:World}{B N:Nat}{t:TypeId}{sz n:Nat}{v:Value}{xs:List Value}(h:w.ownsRow B t sz v n xs)(hN:N≤B):w.ownsRow N t sz v n xs:=by
 refine⟨h.1,?_⟩
 rcases h.2 with hn | ⟨g,AA,AB,hv,hb,r⟩
 ·exact .inl hn
 ·exact .inr ⟨g,AA,AB,hv,Nat.le_trans hN hb,r⟩
theorem NS.lower {w:World}{B N:Nat}{tn ti:TypeId}{A:Option Addr}{c:Nat}{nh:List (Nd × Hd2)}(h:NS w B tn ti A c nh)(hN:N≤B):NS w N tn ti A c nh:=⟨zH6 h.row hN,fun x hx=>zH6 (h.kids x hx) hN,h.apart,h.rz,h.kz⟩
theorem zIn {w w':World}{N M:Nat}(h:Below N w w')(hM:M≤N):Below M w w':=⟨h.os,h.tape,h.output,h.size,fun b hb=>h.block b (yR hb hM)⟩
theorem zCQ {w w':World}{N g:Nat}{t:TypeId}{cs:Array Value}(h:Below N w w')(hg:g<N)(hb:Blk w g t cs):Blk w' g t cs:=(h.block g hg).trans hb
theorem zPD (A:Option Addr)(l:Bs)(n c:Nat)(w:World)(hn:n=l.length)(hbig:l.length≤65536)(hcap:l.length≤c)(hnil:A=none→c=0)(h:Cells w A (xL l))(ts:List Tok)(hl:zEZ l=.ok ts)(hl2:zAj 0 l=.ok ts) :
  Calls Tryz.prog 16 #[.slice A n c] w (zED l w (zEV ts)):=by
 subst hn;have HC:=yD h;have HL:=yD hl;have AH:=yD (zOQ hl2);have Am:=yD hbig;have BU:=yD hcap;obtain⟨W0,AN⟩:∃W0,Hid (((w.alloc (.cells #[.slice A l.length c] 22)).alloc (.cells #[.slice none 0 0] 39)).alloc (.cells #[.nilIface] 25)=W0):=⟨_,yD rfl⟩;have A0:Hid (Ext w W0):=yD (by rw[←AN.out]; exact((Ext.alloc _ _).trans (Ext.alloc _ _)).trans (Ext.alloc _ _));have AU:Hid (Blk W0 w.heap.size 22 #[.slice A l.length c]):=yD (by rw[←AN.out]; exact((Blk.new _ _ _).alloc _).alloc _)
 have Ai:Hid (Blk W0 (w.heap.size+1) 39 #[.slice none 0 0]):=yD (by
  have:=(Blk.new (w.alloc (.cells #[.slice A l.length c] 22)) 39 #[.slice none 0 0]).alloc (.cells #[.nilIface] 25)
  rw[←AN.out]
  simpa using this)
 have Ac:Hid (Blk W0 (w.heap.size+1+1) 25 #[.nilIface]):=yD (by
  have:=Blk.new ((w.alloc (.cells #[.slice A l.length c] 22)).alloc (.cells #[.slice none 0 0] 39)) 25 #[.nilIface]
  rw[←AN.out]
  simpa using this)
 have BC:=yD (zM8 A l l.length c W0 rfl (by omega) hcap hnil (h.ext A0.out));have hm:=hmf;clear h hl hl2 hnil hcap hbig
 go_enter_defers Tryz.func16,Tryz.ntmps16
 have Aw:W0.cell? ⟨w.heap.size,0,none⟩=some (.slice A l.length c):=AU.out.cell 0
 go_upto_region 1 with fail
 rw[AN.out];obtain⟨g0,AW⟩:∃g0,Hid (w.heap.size=g0):=⟨_,yD rfl⟩;rw[AW.out] at Aw AU Ai Ac ⊢
 go_wp2_with fail
 refine BC.out.mono ?_;rw[HL.out];rintro e w1 ⟨AG,A',c',rfl,hz,hr⟩
 have AZ:0<ts.length:=by
  obtain⟨⟨m,e,hm,_⟩,_⟩:=AH.out;rw[hm]
  simp
 obtain⟨bt,rfl⟩:∃bt,A'=some ⟨bt,0,none⟩:=by
  rcases zD1 hr with e | e
  ·exfalso
   rw[e] at hr
   rcases hr.2 with ⟨_,h0⟩ | ⟨g,_,_,hv,_⟩
   ·omega
   ·cases hv
  ·exact e
 have Ar:=XY hr rfl;have BE:=yD Ar;have HR:=yD hr
 have Au:ts.length≤c':=by
  rcases hr.2 with ⟨hv,_⟩ | ⟨g,Bc,BZ,hv,_,_,Ba,_⟩
  ·cases hv
  ·injection hv with _ _ e; omega
 have BP:=yD Au;have BW:=yD (A0.out.trans AG);have A3:=yD AG;have BG:=yD (AU.out.ext AG);have BB:=yD (Ai.out.ext AG);have AT:=yD (Ac.out.ext AG);have A8:Hid (g0+1+1<W0.heap.size∧W0.heap.size≤w1.heap.size):=yD ⟨Ac.out.lt,AG.size⟩;have c2:w1.cell? ⟨g0+1+1,0,none⟩=some .nilIface:=AT.out.cell 0;have z2:=AT.out.frozen 0;have BI:=AT.out.lt;clear AG hr hz Ar Au AZ Aw
 go_wp2_with fail
 obtain⟨wS,AJ⟩:∃wS,Hid (w1.setCell ⟨g0+1+1,0,none⟩ .nilIface=wS):=⟨_,yD rfl⟩
 have AL:wS.heap.size=w1.heap.size:=by rw[←AJ.out]; simp[World.setCell]
 have AR:∀b,b≠g0+1+1→wS.heap[b]?=w1.heap[b]?:=fun b hb=>by rw[←AJ.out]; exact zQ w1 ⟨g0+1+1,0,none⟩ _ b hb
 have A1:Blk wS (g0+1+1) 25 #[.nilIface]:=by rw[←AJ.out]; exact AT.out.put 0 .nilIface
 have Ay:Ext w wS:=by rw[←AJ.out]; exact BW.out.set (by have:=AW.out; omega)
 rw[AJ.out];obtain⟨W4,AM⟩:∃W4,Hid ((wS.alloc (.cells #[.slice (some ⟨bt,0,none⟩) ts.length c',.slice none 0 0,.int .i64 0] 75)).alloc (.cells #[.pointer (some ⟨w1.heap.size,0,none⟩)] 73)=W4):=⟨_,yD rfl⟩;have AI:Hid (Ext wS W4):=yD (by rw[←AM.out]; exact(Ext.alloc _ _).trans (Ext.alloc _ _))
 have Aa:Blk W4 w1.heap.size 75 #[.slice (some ⟨bt,0,none⟩) ts.length c',.slice none 0 0,.int .i64 0]:=by
  have:=(Blk.new wS 75 #[.slice (some ⟨bt,0,none⟩) ts.length c',.slice none 0 0,.int .i64 0]).alloc (.cells #[.pointer (some ⟨w1.heap.size,0,none⟩)] 73)
  rw[←AM.out,←AL];rw[←AL] at this;exact this
 have Ag:Blk W4 (w1.heap.size+1) 73 #[.pointer (some ⟨w1.heap.size,0,none⟩)]:=by
  have:=Blk.new (wS.alloc (.cells #[.slice (some ⟨bt,0,none⟩) ts.length c',.slice none 0 0,.int .i64 0] 75)) 73 #[.pointer (some ⟨w1.heap.size,0,none⟩)]
  rw[←AM.out]
  simpa [AL] using this
 have Az:=AW.out;have Af:=BE.out;have A6:=A8.out;have Av:Blk W4 g0 22 #[.slice A l.length c]:=Blk.ext ((AR g0 (by omega)).trans BG.out) AI.out;have Ak:Blk W4 (g0+1) 39 #[.slice none 0 0]:=Blk.ext ((AR (g0+1) (by omega)).trans BB.out) AI.out;have A2:Blk W4 (g0+1+1) 25 #[.nilIface]:=A1.ext AI.out;have At:Ext w W4:=Ay.trans AI.out
 have Ax:PS W4 w1.heap.size w1.heap.size ⟨ts,[],0⟩ ⟨bt,0,c',none,0,[]⟩:=by
  refine⟨Aa,fun k hk=>?_,BP.out,Af.2,rfl,NS.nil _ _ _ _,zU _,⟨AH.out.1,zT _⟩⟩;have h1:=HR.out.cellAt k (by exact hk);rw[←h1,Nat.zero_add];refine World.cell?_of_block (w:=w1) (a:=⟨bt,k,none⟩) ((AI.out.block bt ?_).trans (AR bt ?_))
  ·rw[AL]; exact Af.2
  ·show bt≠_; omega
 have AF:Good ⟨ts,[],0⟩:=⟨AH.out.1,zT _,fun n hn=>by cases hn⟩
 have AO:(⟨ts,[],0⟩:Ps).phi≤999999:=by
  have h1:=AH.out.2.1;have h2:=Am.out
  show 0+2*ts.length≤_
  omega
 have BX:=yD (zJq W4 w1.heap.size w1.heap.size ⟨ts,[],0⟩ ⟨bt,0,c',none,0,[]⟩ Ax AF rfl AO);have AX:=yD (zKb (s:=⟨ts,[],0⟩) AH.out.1);have BK:=yD Av;have Ao:=yD Ak;have Aj:=yD A2;have Aq:=yD Ag;have Ad:=yD At;have BD:Hid (w1.heap.size<W4.heap.size):=yD Aa.lt;have AA:Hid (w.heap.size=g0∧g0+1+1<w1.heap.size):=yD ⟨Az,by omega⟩
 have As:Hid (∀w' R',xK W4 (xJ w1.heap.size ⟨bt,0,c',none,0,[]⟩) w' (xJ w1.heap.size R')→Below w1.heap.size W4 w'∧w'.heap[w1.heap.size+1]?=W4.heap[w1.heap.size+1]?):=yD fun w' R' h=>by
  have hm:∀b,xJ w1.heap.size ⟨bt,0,c',none,0,[]⟩ b→b=w1.heap.size:=fun b hb=>by
   rcases hb with hb | hb | hb
   ·exact hb
   ·cases hb
   ·cases hb
  exact⟨⟨h.os,h.tape,h.output,h.size,fun b hb=>h.JX b (by have:=BD.out; omega) (fun k=>by have:=hm b k; omega)⟩,h.JX _ Ag.lt (fun k=>by have:=hm _ k; omega)⟩
 rw[AM.out];clear Ay A1 AR AL Aa Ag Av Ak A2 At Ax AF AO AJ AM AI c2 z2 BI Az Af A6;generalize hpp:w1.heap.size=p at *;clear hpp;refine BX.out.mono ?_;intro e w5 AB
 cases hq:zCW ⟨ts,[],0⟩ with
 | ok a s5=>
  have Ab:Hid (zEV ts=.ok s5.nd):=yD (by unfold zEV; rw[hq]);rw[hq] at AB;obtain⟨rfl,R5,AS,Ap⟩:=AB;obtain⟨AC,AP⟩:=As.out _ _ Ap;have AV:=yD AS;have BA:=yD AC;have cg:w5.cell? ⟨p+1,0,none⟩=some (.pointer (some ⟨p,0,none⟩)):=Blk.cell (show Blk w5 (p+1) 73 _ from AP.trans Aq.out) 0;have x1:=AS.x1;have AD:=zCQ AC (by have:=AA.out; omega) Ao.out;have AE:=zCQ AC (by have:=AA.out; omega) Aj.out;have BJ:=yD AD;have BR:=yD AE;have t0:w5.cell? ⟨g0+1,0,none⟩=some (.slice none 0 0):=AD.cell 0;have e0:w5.cell? ⟨g0+1+1,0,none⟩=some .nilIface:=AE.cell 0;have tz:=AD.frozen 0;have ez:=AE.frozen 0;have BY:=AS.blk.lt;clear hq AS Ap AC AP AD AE
  go_wp2_with fail
  have BS:Hid (Ext w ((w5.setCell ⟨g0+1,0,none⟩ (.slice R5.A R5.nh.length R5.c)).setCell ⟨g0+1+1,0,none⟩ .nilIface)):=yD (((show Ext w w5 from Below.trans Ad.out (zIn BA.out (by have:=AA.out; omega))).set (by have:=AA.out; omega)).set (by have:=AA.out; omega))
  have BQ:Hid (NS ((w5.setCell ⟨g0+1,0,none⟩ (.slice R5.A R5.nh.length R5.c)).setCell ⟨g0+1+1,0,none⟩ .nilIface) w.heap.size 48 3 R5.A R5.c R5.nh):=yD ((AV.out.ns.JX fun b hb=>by
   have h1:=(AV.out.ns.zCy hb).1;have h2:=AA.out
   rw[zQ _ ⟨g0+1+1,0,none⟩ _ b (by show b≠g0+1+1; omega),zQ _ ⟨g0+1,0,none⟩ _ b (by show b≠g0+1; omega)]).lower (by have:=AA.out; omega))
  have AY:=(BJ.out.put 0 (.slice R5.A R5.nh.length R5.c)).far (p:=⟨g0+1+1,0,none⟩) (by simp) .nilIface;have Ah:=(BR.out.far (p:=⟨g0+1,0,none⟩) (by simp) (.slice R5.A R5.nh.length R5.c)).put 0 .nilIface;generalize (w5.setCell ⟨g0+1,0,none⟩ (.slice R5.A R5.nh.length R5.c)).setCell ⟨g0+1+1,0,none⟩ .nilIface=W6 at *;have t6:W6.cell? ⟨g0+1,0,none⟩=some (.slice R5.A R5.nh.length R5.c):=AY.cell 0;have e6:W6.cell? ⟨g0+1+1,0,none⟩=some .nilIface:=Ah.cell 0;refine leaves_cons (f:=37) (args:=#[.pointer (some ⟨g0,0,none⟩),.pointer (some ⟨p+1,0,none⟩),.pointer (some ⟨g0+1,0,none⟩),.pointer (some ⟨g0+1+1,0,none⟩)]) (by simp) (by simp[go_sem]) ?_;refine(zLZ W6 _ rfl).mono ?_;rintro e u' BL ⟨rfl,rfl,rfl⟩;refine⟨.tuple #[.agg #[.slice R5.A R5.nh.length R5.c],.nilIface],by simp[results,Tryz.results16,go_sem,t6,e6],?_⟩;rw[Ab.out];exact⟨BS.out,R5.A,R5.c,R5.nh,rfl,AV.out.nodes,BQ.out⟩
 | err er a=>
  have Ab:Hid (zEV ts=.err a er):=yD (by unfold zEV; rw[hq]);have AK:=AX.out;rw[hq] at AB AK;obtain⟨rfl,s6,An,R6,BV,BH⟩:=AB;obtain⟨BF,t,ht,A4⟩:=AK;obtain⟨AC,AP⟩:=As.out _ _ BH
  have BN:a≤l.length:=by rw[←A4.1]; exact AH.out.2.2 t ht
  have A7:er≠0:=by rcases BF with h | h <;> (rw[h]; decide)
  have AD:=zCQ AC (by have:=AA.out; omega) Ao.out;have AE:=zCQ AC (by have:=AA.out; omega) Aj.out;have BT:=zCQ AC (by have:=AA.out; omega) BK.out;have A5:Blk w5 (p+1) 73 #[.pointer (some ⟨p,0,none⟩)]:=AP.trans Aq.out;have Bb:=Ad.out.size;have BO:=AA.out;have Ae:Ext w w5:=Below.trans Ad.out (zIn AC (by omega));refine leaves_cons (f:=37) (args:=#[.pointer (some ⟨g0,0,none⟩),.pointer (some ⟨p+1,0,none⟩),.pointer (some ⟨g0+1,0,none⟩),.pointer (some ⟨g0+1+1,0,none⟩)]) (by simp) (by simp[go_sem]) ?_;refine(zKJ w5 p g0 (p+1) (g0+1) (g0+1+1) l A c s6 R6 er A7 (by have:=Am.out; omega) BU.out (HC.out.ext Ae) BV.ts (by rw[An]; exact BN) BT A5 AD AE (by omega)).mono ?_;rintro e u' BL ⟨rfl,rfl,g,w6,AQ,hg,Al,rfl⟩;rw[An] at Al;have h1:=AQ.size;have h2:=Ae.size;have h3:=AD.lt;have h4:=AE.lt;have AY:=((AD.ext AQ).put 0 (.slice none 0 0)).far (p:=⟨g0+1+1,0,none⟩) (by simp) (.iface 107 (.pointer (some ⟨g,0,none⟩)));have Ah:=((AE.ext AQ).far (p:=⟨g0+1,0,none⟩) (by simp) (.slice none 0 0)).put 0 (.iface 107 (.pointer (some ⟨g,0,none⟩)));have A9:=(Al.far (p:=⟨g0+1,0,none⟩) (by show g≠g0+1; omega) (.slice none 0 0)).far (p:=⟨g0+1+1,0,none⟩) (by show g≠g0+1+1; omega) (.iface 107 (.pointer (some ⟨g,0,none⟩)));have BM:=((Ae.trans AQ).set (u:=.slice none 0 0) (i:=0) (g:=g0+1) (by omega)).set (u:=.iface 107 (.pointer (some ⟨g,0,none⟩))) (i:=0) (g:=g0+1+1) (by omega)
  generalize (w6.setCell ⟨g0+1,0,none⟩ (.slice none 0 0)).setCell ⟨g0+1+1,0,none⟩ (.iface 107 (.pointer (some ⟨g,0,none⟩)))=W6 at *;have t6:W6.cell? ⟨g0+1,0,none⟩=some (.slice none 0 0):=AY.cell 0;have e6:W6.cell? ⟨g0+1+1,0,none⟩=some (.iface 107 (.pointer (some ⟨g,0,none⟩))):=Ah.cell 0;refine⟨.tuple #[.agg #[.slice none 0 0],.iface 107 (.pointer (some ⟨g,0,none⟩))],by simp[results,Tryz.results16,go_sem,t6,e6],?_⟩;rw[Ab.out];exact⟨BM,g,rfl,by omega,A9⟩
theorem zPi (A:Option Addr)(l:Bs)(n c:Nat)(w:World)(hn:n=l.length)(hbig:l.length≤140737488355328)(hcap:l.length≤c)(hnil:A=none→c=0)(h:Cells w A (xL l)) :
  Calls Tryz.prog 16 #[.slice A n c] w (zED l w (zDI l)):=by
 cases hl:zEZ l with
 | err a er=>
  have:=zI9 A l n c w hn hbig hcap hnil h a er hl
  unfold zDI;rw[hl];exact this
 | ok ts=>
  have AA:l.length≤65536:=by
   unfold zEZ at hl
   split at hl
   ·cases hl
   ·omega
  have AB:zAj 0 l=.ok ts:=by
   unfold zEZ at hl;rw[if_neg (by omega)] at hl;exact hl
  have:=zPD A l n c w hn AA hcap hnil h ts hl AB
  unfold zDI;rw[hl];exact this
end Go.Proofs.YtioffpjajhalaaaGreatDoor
namespace Go.Proofs.YtioffpjajhalaaaGreatDoor

def zKW (n:Nd):TT.xB:=⟨n.kind,n.pos,yX n.text,n.num,none,0,n.kids.map fun (k:Nat)=>(k:Int)⟩
inductive Fo where
 | nil
 | cons (k p:Nat) (t:Bs) (x:Int) (c r:Fo)
def Fo.size:Fo→Nat
 | .nil=>0
 | .cons _ _ _ _ c r=>1+c.size+r.size
def Fo.roots:Nat→Fo→List Nat
 | _,.nil=>[]
 | a,.cons _ _ _ _ c r=>a::Fo.roots (a+1+c.size) r
def Fo.kinds:Fo→List Nat
 | .nil=>[]
 | .cons k _ _ _ _ r=>k::r.kinds
def Fo.flat:Nat→Fo→List Nd
 | _,.nil=>[]
 | a,.cons k p t x c r=>⟨k,p,t,x,Fo.roots (a+1) c⟩::(Fo.flat (a+1) c++Fo.flat (a+1+c.size) r)
def Fo.app:Fo→Fo→Fo
 | .nil,g=>g
 | .cons k p t x c r,g=>.cons k p t x c (r.app g)
def ZY (k:Nat)(t:Bs)(x:Int)(kk:List Nat):Prop:=1≤k∧k≤26∧TT.vL (k:Int) x t=true∧TT.vY (k:Int) (kk.map fun (j:Nat)=>(j:Int))=true
def Fo.ok (M:Nat):Fo→Prop
 | .nil=>True
 | .cons k p t x c r=>(ZY k t x c.kinds∧p≤M)∧Fo.ok M c∧Fo.ok M r
def Fo.one (k p:Nat)(t:Bs)(x:Int)(c:Fo):Fo:=.cons k p t x c .nil
theorem ZQ:∀(a:Nat) (f:Fo),(f.flat a).length=f.size
 | a,.nil=>rfl
 | a,.cons k p t x c r=>by
  show(c.flat _++r.flat _).length+1=1+c.size+r.size
  rw[yM,ZQ,ZQ]; omega
def xG (l:List Nat):List Int:=l.map fun (j:Nat)=>(j:Int)
end Go.Proofs.YtioffpjajhalaaaGreatDoor
namespace Go.Proofs.YtioffpjajhalaaaGreatDoor
open Go Go.RowKit
def VE (L:List TT.xB):Nat→Fo→Prop
 | _,.nil=>True
 | a,.cons k p t x c r=>(∃n,L[a]?=some n∧n.kind=(k:Int)∧n.num=x∧n.text.data.toList=t∧n.kids=xG (c.roots (a+1)))∧VE L (a+1) c∧VE L (a+1+c.size) r
theorem zH1 {L:List TT.xB}:∀(f:Fo) (a:Nat),VE L a f→TT.vG L (xG (f.roots a))=xG f.kinds
 | .nil,a,_=>rfl
 | .cons k p t x c r,a,h=>by
  obtain⟨⟨n,hn,hk,_⟩,_,hr⟩:=h
  show TT.JH L (a:Int)::TT.vG L (xG (r.roots (a+1+c.size)))=(k:Int)::xG r.kinds
  rw[zH1 r _ hr]
  congr 1
  unfold TT.JH;rw[zH,hn];exact hk
theorem zHo {L:List TT.xB}(hnb:∀n ∈ L,TT.zDu L n=true):∀(m:Nat) (ks:List Int) (a e:Nat),e≤a+m→TT.zAt (TT.XD (TT.XE L)) (TT.XE L).length ks (some a)=some e→∃f:Fo,xG (f.roots a)=ks∧a+f.size=e∧VE L a f∧f.ok 0
 | m,[],a,e,hm,h=>by
  injection h with h;subst h;exact⟨.nil,rfl,rfl,trivial,trivial⟩
 | 0,k::r,a,e,hm,h=>by
  rw[TT.YW] at h
  split at h
  ·rename_i hc
   cases he:TT.XD (TT.XE L) a with
   | none=>rw[he,TT.VP] at h; cases h
   | some e1=>
    rw[he] at h;have h1:=TT.JJ he;have h2:=TT.zHq (fun a e h=>TT.JJ h) r e1 e h1.2 h;omega
  ·cases h
 | m+1,k::r,a,e,hm,h=>by
  rw[TT.YW] at h
  split at h
  ·rename_i hc;obtain⟨ha,rfl⟩:=hc
   cases he:TT.XD (TT.XE L) a with
   | none=>rw[he,TT.VP] at h; cases h
   | some e1=>
    rw[he] at h;have h1:=TT.JJ he;have h2:=TT.zHq (fun a e h=>TT.JJ h) r e1 e h1.2 h;rw[TT.zBE,if_pos ha] at he
    have AB:a<L.length:=by rw[TT.ZH] at ha; exact ha
    obtain⟨c,c1,c2,c3,c4⟩:=zHo hnb m _ (a+1) e1 (by omega) he;obtain⟨s,s1,s2,s3,s4⟩:=zHo hnb m r e1 e (by omega) h;have hb:=hnb _ (yL AB);unfold TT.zDu at hb;simp only[zF,zE] at hb;have AA:(L[a].kind.toNat:Int)=L[a].kind:=Int.toNat_of_nonneg (by omega)
    have AC:L[a].kids=xG (c.roots (a+1)):=by rw[c1,TT.zAA L a AB]
    refine⟨.cons L[a].kind.toNat 0 L[a].text.data.toList L[a].num c s,?_,?_,⟨⟨L[a],yG AB,AA.symm,rfl,rfl,AC⟩,c3,by rw[c2]; exact s3⟩,⟨⟨⟨by omega,by omega,?_,?_⟩,zU _⟩,c4,s4⟩⟩
    ·show(a:Int)::xG (s.roots (a+1+c.size))=_
     rw[c2,s1]
    ·show a+(1+c.size+s.size)=e
     omega
    ·rw[AA]; exact hb.2.2.1
    ·rw[AA]
     have:=hb.2.2.2
     rw[AC,zH1 c _ c3] at this;exact this
  ·cases h
theorem zSX {L:List TT.xB}(h:TT.XL L=true):∃(t:Bs) (x:Int) (c:Fo),VE L 0 (Fo.one 1 0 t x c)∧(Fo.one 1 0 t x c).ok 0∧1+c.size=L.length:=by
 rw[TT.zIe] at h;unfold TT.JN at h;simp only[zF,zE,zN] at h;obtain⟨h0,h1,h2,h3,h4⟩:=h;have AA:=TT.ZH L;obtain⟨f,f1,f2,f3,f4⟩:=zHo (L:=L) (fun n hn=>List.all_eq_true.1 h4 n hn) L.length [((0:Nat):Int)] 0 L.length (by omega) (by rw[TT.YW,if_pos ⟨by rw[AA]; exact h0,rfl⟩,h3]; rfl)
 match f,f1,f2,f3,f4 with
 | .nil,f1,_,_,_=>cases f1
 | .cons k p t x c (.cons _ _ _ _ _ _),f1,_,_,_=>exact absurd (congrArg List.length f1) (by simp[Fo.roots,xG])
 | .cons k p t x c .nil,f1,f2,f3,f4=>
  have hk:k=1:=by
   obtain⟨⟨n,hn,hk,_⟩,_⟩:=f3
   have:TT.JH L 0=n.kind:=by unfold TT.JH; rw[show(0:Int).toNat=0 from rfl,hn]
   rw[h1] at this;omega
  have hp:p=0:=by have:=f4.1.2; omega
  subst hk hp;refine⟨t,x,c,f3,f4,?_⟩
  have:0+(1+c.size+0)=L.length:=f2
  omega
def YO (k:Nat):Nat:=if k=23∨k=24 then 1 else if k=25 then 2 else 3
def jE (least k:Nat)(s:Bs):Bs:=if YO k<least then [40]++s++[41] else s
def YH (k:Nat)(t:Bs)(x:Int)(ls:List Bs)(kk:List Nat):Bs:=
 if k=20 then t++[91]++ls.getD 0 []++[93]
 else if k=21 then Lib.itoa x
 else if k=23 then jE 1 (kk.getD 0 0) (ls.getD 0 [])++[32,43,32]++jE 2 (kk.getD 1 0) (ls.getD 1 [])
 else if k=24 then jE 1 (kk.getD 0 0) (ls.getD 0 [])++[32,45,32]++jE 2 (kk.getD 1 0) (ls.getD 1 [])
 else if k=25 then jE 2 (kk.getD 0 0) (ls.getD 0 [])++[32,42,32]++jE 3 (kk.getD 1 0) (ls.getD 1 [])
 else if k=26 then [45]++jE 3 (kk.getD 0 0) (ls.getD 0 [])
 else t
def Fo.txt:Fo→List Bs
 | .nil=>[]
 | .cons k p t x c r=>YH k t x c.txt c.kinds::r.txt
theorem YU:∀(f:Fo) (a:Nat),f.txt.length=(f.roots a).length
 | .nil,a=>rfl
 | .cons k p t x c r,a=>by
  show r.txt.length+1=(r.roots _).length+1
  rw[YU r (a+1+c.size)]
theorem ZR:∀(f:Fo) (a:Nat),f.kinds.length=(f.roots a).length
 | .nil,a=>rfl
 | .cons k p t x c r,a=>by
  show r.kinds.length+1=(r.roots _).length+1
  rw[ZR r (a+1+c.size)]
def Fo.wt:Fo→Nat
 | .nil=>0
 | .cons k p t x c r=>t.length+30+c.wt+r.wt
def vR (l:List Bs):Nat:=(l.map List.length).sum
theorem zJL (l:List Bs):(l.getD 0 []).length+(l.getD 1 []).length≤vR l:=by
 unfold vR
 match l with
 | []=>simp
 | [a]=>simp
 | a::b::l=>simp
theorem jF (l:List Bs)(i:Nat):(l.getD i []).length≤vR l:=by
 unfold vR
 induction l generalizing i with
 | nil=>simp
 | cons a l ih=>
  cases i with
  | zero=>simp
  | succ i=>have:=ih i; simp at this ⊢; omega
theorem YQ (a b:Nat)(s:Bs):(jE a b s).length≤s.length+2:=by
 unfold jE
 split
 ·simp
 ·omega
theorem XU {M:Nat}:∀(f:Fo),f.ok M→vR f.txt≤f.wt
 | .nil,_=>zU _
 | .cons k p t x c r,h=>by
  have hc:=XU c h.2.1;have hr:=XU r h.2.2
  have hx:0≤x∧x≤TT.zBB (k:Int):=by
   have:=h.1.1.2.2.1
   unfold TT.vL at this;simp only[zF,zE] at this;exact this.2.2
  have hm:TT.zBB (k:Int)≤9223372036854775807:=by
   unfold TT.zBB
   split
   ·decide
   ·split <;> decide
  have hi:=Lib.itoa_length_le x (by omega) (by omega);have hg:=zJL c.txt;have p1:=YQ 1 (c.kinds.getD 0 0) (c.txt.getD 0 []);have p2:=YQ 2 (c.kinds.getD 1 0) (c.txt.getD 1 []);have p3:=YQ 2 (c.kinds.getD 0 0) (c.txt.getD 0 []);have p4:=YQ 3 (c.kinds.getD 1 0) (c.txt.getD 1 []);have p5:=YQ 3 (c.kinds.getD 0 0) (c.txt.getD 0 [])
  have ht:(YH k t x c.txt c.kinds).length≤t.length+30+vR c.txt:=by
   unfold YH
   repeat' split
   all_goals try simp only[yM,zJ,zK]
   all_goals omega
  show(YH k t x c.txt c.kinds).length+vR r.txt≤t.length+30+c.wt+r.wt
  omega
end Go.Proofs.YtioffpjajhalaaaGreatDoor
namespace Go.Proofs.YtioffpjajhalaaaGreatDoor
open Go Go.Shelf
def zMD:Ren:=
 {
  f:=fun x=>
   match x with
   | 246=>108
   | 283=>150
   | 284=>151
   | 285=>152
   | 286=>153
   | 129=>172
   | 317=>171
   | 318=>173
   | 319=>174
   | 320=>175
   | 337=>185
   | 338=>186
   | n=>n,
  t:=fun x=>
   match x with
   | 2=>2
   | 3=>3
   | 9=>9
   | 4=>4
   | 171=>193
   | 0=>0
   | 53=>194
   | 37=>22
   | 5=>5
   | 173=>197
   | 212=>206
   | 51=>207
   | 20=>20
   | 213=>208
   | 46=>201
   | 232=>227
   | 233=>228
   | n=>n,
  g:=fun x=>
   match x with
   | 17=>2
   | 18=>3
   | 19=>4
   | n=>n }
theorem zRz:LaysM.n246 Tryz.prog zMD where
 mixed:=by kernel_rfl
 f129:=by kernel_rfl
 f246:=by kernel_rfl
 f283:=by kernel_rfl
 f284:=by kernel_rfl
 f285:=by kernel_rfl
 f286:=by kernel_rfl
 f317:=by kernel_rfl
 f318:=by kernel_rfl
 f319:=by kernel_rfl
 f320:=by kernel_rfl
 f337:=by kernel_rfl
 f338:=by kernel_rfl
 t0:=Tryz.underlying0
 a0:=Tryz.isAgg0
 z0:=Tryz.sizeOf0
 v0:=Tryz.zeroValue0
 t2:=Tryz.underlying2
 a2:=Tryz.isAgg2
 z2:=Tryz.sizeOf2
 v2:=Tryz.zeroValue2
 t3:=Tryz.underlying3
 a3:=Tryz.isAgg3
 z3:=Tryz.sizeOf3
 v3:=Tryz.zeroValue3
 t4:=Tryz.underlying4
 a4:=Tryz.isAgg4
 z4:=Tryz.sizeOf4
 v4:=Tryz.zeroValue4
 t5:=Tryz.underlying5
 a5:=Tryz.isAgg5
 z5:=Tryz.sizeOf5
 v5:=Tryz.zeroValue5
 t9:=Tryz.underlying9
 a9:=Tryz.isAgg9
 z9:=Tryz.sizeOf9
 v9:=Tryz.zeroValue9
 t20:=Tryz.underlying20
 a20:=Tryz.isAgg20
 z20:=Tryz.sizeOf20
 v20:=Tryz.zeroValue20
 t37:=Tryz.underlying22
 a37:=Tryz.isAgg22
 z37:=Tryz.sizeOf22
 v37:=Tryz.zeroValue22
 t46:=Tryz.underlying201
 a46:=Tryz.isAgg201
 z46:=Tryz.sizeOf201
 v46:=Tryz.zeroValue201
 t51:=Tryz.underlying207
 a51:=Tryz.isAgg207
 z51:=Tryz.sizeOf207
 v51:=Tryz.zeroValue207
 t53:=Tryz.underlying194
 a53:=Tryz.isAgg194
 z53:=Tryz.sizeOf194
 v53:=Tryz.zeroValue194
 t171:=Tryz.underlying193
 a171:=Tryz.isAgg193
 z171:=Tryz.sizeOf193
 v171:=Tryz.zeroValue193
 t173:=Tryz.underlying197
 a173:=Tryz.isAgg197
 z173:=Tryz.sizeOf197
 v173:=Tryz.zeroValue197
 t212:=Tryz.underlying206
 a212:=Tryz.isAgg206
 z212:=Tryz.sizeOf206
 v212:=Tryz.zeroValue206
 t213:=Tryz.underlying208
 a213:=Tryz.isAgg208
 z213:=Tryz.sizeOf208
 t232:=Tryz.underlying227
 a232:=Tryz.isAgg227
 z232:=Tryz.sizeOf227
 v232:=Tryz.zeroValue227
 t233:=Tryz.underlying228
 a233:=Tryz.isAgg228
 z233:=Tryz.sizeOf228
 v233:=Tryz.zeroValue228
 g17:=by kernel_rfl
 g18:=by kernel_rfl
 g19:=by kernel_rfl
 i0:=by kernel_rfl
 i2:=by kernel_rfl
 i3:=by kernel_rfl
 i4:=by kernel_rfl
 i5:=by kernel_rfl
 i9:=by kernel_rfl
 i20:=by kernel_rfl
 i37:=by kernel_rfl
 i46:=by kernel_rfl
 i51:=by kernel_rfl
 i53:=by kernel_rfl
 i171:=by kernel_rfl
 i173:=by kernel_rfl
 i212:=by kernel_rfl
 i232:=by kernel_rfl
 i233:=by kernel_rfl
 m17:=by kernel_rfl
 m18:=by kernel_rfl
 m19:=by kernel_rfl
theorem zQV (n:Int)(h0:-9223372036854775808≤n)(h1:n≤9223372036854775807)(w:World)(htab:Lib.TabIs Tryz.prog w "internal/strconv.uint64pow10" .u64 Lib.pow10Tab) :
  Calls Tryz.prog 108 #[.int .i64 n,.int .i64 10] w fun e w'=>e=.returned (.string ⟨(Lib.itoa n).toArray⟩)∧∃k os,w'=Sort.grow (w.drewN k) os:=Any.internal_strconv_FormatInt_10 zRz n h0 h1 w htab
end Go.Proofs.YtioffpjajhalaaaGreatDoor
namespace Go.Proofs.YtioffpjajhalaaaGreatDoor
open Go Go.RowKit
def PW (w:World):Prop:=Lib.TabIs Tryz.prog w "internal/strconv.uint64pow10" .u64 Lib.pow10Tab
theorem PW.ext {w w':World}(h:PW w)(hx:Ext w w'):PW w':=by
 have AB:Tryz.prog.globalNamed "internal/strconv.uint64pow10" = some 2:=by kernel_rfl
 unfold PW Lib.TabIs World.var? at h ⊢;rw[AB] at h ⊢;simp only[Option.bind_some] at h ⊢
 have AA:2<w.heap.size:=by
  rcases Nat.lt_or_ge 2 w.heap.size with h' | h'
  ·exact h'
  ·rw[Array.getElem?_eq_none h'] at h; cases h
 rw[hx.block 2 AA];exact h
theorem zON (w:World)(k:Nat)(os:Array Obj):Ext w (Sort.grow (w.drewN k) os):=⟨rfl,rfl,rfl,by rw[Sort.size_grow]; exact Nat.le_add_right _ _,fun b hb=>Sort.heap_grow_old _ _ hb⟩
theorem zNt (n:Int)(h0:-9223372036854775808≤n)(h1:n≤9223372036854775807)(w:World)(h:PW w):Calls Tryz.prog 63 #[.int .i64 n,.int .i64 10] w fun e w'=>e=.returned (.string (yX (Lib.itoa n)))∧Ext w w':=by
 go_enter Tryz.func63,Tryz.ntmps63
 go_wp2_with fail
 refine(zQV n h0 h1 w h).mono ?_;rintro e w' ⟨rfl,k,os,rfl⟩;have HX:=yD (zON w k os);generalize Sort.grow (w.drewN k) os=w2 at *
 go_wp2_with fail
 go_ret;exact⟨rfl,HX.out⟩
theorem YR (a b:Bs):yX a++yX b=yX (a++b):=by
 apply ByteArray.ext;simp[yX,ByteArray.data_append]
structure PrT (w:World)(g n c:Nat)(A:Option Addr)(L:List TT.xB):Prop where
 tree:TT.vV w A L
 len:n=L.length
 at0:w.cell? ⟨g,0,none⟩=some (.slice A n c)
 lt:g<w.heap.size
 tab:PW w
theorem PrT.ext {w w':World}{g n c:Nat}{A:Option Addr}{L:List TT.xB}(h:PrT w g n c A L)(hx:Ext w w'):PrT w' g n c A L:=
 ⟨h.tree.ext hx,h.len,(hx.cell (p:=⟨g,0,none⟩) h.lt).trans h.at0,yR h.lt hx.size,h.tab.ext hx⟩
def zCE (least:Int)(k:Int)(s:ByteArray):ByteArray:=if zDj k<least then ⟨#[40]⟩++s++⟨#[41]⟩ else s
theorem YC (w:World)(g n c bp bn:Nat)(A:Option Addr)(L:List TT.xB)(hP:PrT w g n c A L)(x:TT.xB)(hbp:Blk w bp 77 #[.pointer (some ⟨g,0,none⟩)])(hbn:Blk w bn 48 #[.int .u8 x.kind,.int .i64 x.pos,.string x.text,.int .i64 x.num,.slice x.kA x.kids.length x.kc])(hx:Cells w x.kA (TT.xD x.kids))(i k:Nat)(hi:i<x.kids.length)(hk:x.kids[i]=(k:Int))(y:TT.xB)(hy:L[k]?=some y)(s:ByteArray)(hs:s.size≤4611686018427387904)(least:Int)
  (HT:∀w',Ext w w'→Calls Tryz.prog 56 #[.pointer (some ⟨g,0,none⟩),vZ y] w' fun e AL=>e=.returned (.string s)∧Ext w' AL) :
  Calls Tryz.prog 96 #[.int .i64 (i:Int),.int .i64 least,.pointer (some ⟨bp,0,none⟩),.pointer (some ⟨bn,0,none⟩)] w fun e w'=>e=.returned (.string (zCE least y.kind s))∧Ext w w':=by
 have AJ:k<L.length:=(List.getElem?_eq_some_iff.1 hy).1;have HK:=yD (zAl w g n c A L hP.tree hP.len hP.at0 hP.lt x hx i k hi hk AJ y hy);have AH:=yD HT;have AM:=yD hbp;have x0:w.cell? ⟨bp,0,none⟩=some (.pointer (some ⟨g,0,none⟩)):=hbp.cell 0;have AQ:=yD hbn;have n0:w.cell? ⟨bn,0,none⟩=some (.int .u8 x.kind):=hbn.cell 0;have n1:w.cell? ⟨bn,1,none⟩=some (.int .i64 x.pos):=hbn.cell 1;have n2:w.cell? ⟨bn,2,none⟩=some (.string x.text):=hbn.cell 2;have n3:w.cell? ⟨bn,3,none⟩=some (.int .i64 x.num):=hbn.cell 3;have n4:w.cell? ⟨bn,4,none⟩=some (.slice x.kA x.kids.length x.kc):=hbn.cell 4;have HS:Hid (¬(9223372036854775807<1+s.size)∧¬(9223372036854775807<1+s.size+1)):=yD ⟨by omega,by omega⟩;obtain⟨AP,AA⟩:∃r,Hid (zCE least y.kind s=r):=⟨_,yD rfl⟩;rw[AA.out];unfold zCE at AA;unfold vZ at HK AH;clear hP hbp hbn hx hi hk hy hs HT AJ
 go_enter Tryz.func96,Tryz.ntmps96
 go_wp2_with fail
 refine HK.out.mono ?_;rintro e w1 ⟨rfl,AI⟩;have AG:=yD AI;clear AI x0 n0 n1 n2 n3 n4 HK
 go_wp2_with (refine vF rfl 48 _ _ rfl w1.heap.size #[.int .u8 y.kind,.int .i64 y.pos,.string y.text,.int .i64 y.num,.slice y.kA y.kids.length y.kc] (by kernel_rfl) (by kernel_rfl) 48 _ (Blk.new _ _ _) (by kernel_rfl) rfl rfl ?_)
 intro w2 AE AF;have AC:Hid (Ext w w2):=yD (AG.out.trans (AE.ext (Ext.alloc w1 _) (zU _)));have AB:=yD AF;clear AE AF;generalize w1.heap.size=gk at *;have x0:w2.cell? ⟨bp,0,none⟩=some (.pointer (some ⟨g,0,none⟩)):=(AM.out.ext AC.out).cell 0;have n0:w2.cell? ⟨gk,0,none⟩=some (.int .u8 y.kind):=AB.out.cell 0;have n1:w2.cell? ⟨gk,1,none⟩=some (.int .i64 y.pos):=AB.out.cell 1;have n2:w2.cell? ⟨gk,2,none⟩=some (.string y.text):=AB.out.cell 2;have n3:w2.cell? ⟨gk,3,none⟩=some (.int .i64 y.num):=AB.out.cell 3;have n4:w2.cell? ⟨gk,4,none⟩=some (.slice y.kA y.kids.length y.kc):=AB.out.cell 4
 go_wp2_with fail
 refine(AH.out w2 AC.out).mono ?_;rintro e w3 ⟨rfl,AD⟩;have AK:=yD (AC.out.trans AD);have AN:=yD (AB.out.ext AD);clear AD x0 n0 n1 n2 n3 n4 AG AC AB;have n0:w3.cell? ⟨gk,0,none⟩=some (.int .u8 y.kind):=AN.out.cell 0
 go_wp2_with fail
 refine(zMV y.kind w3).mono ?_;rintro e _ ⟨rfl,rfl⟩;obtain⟨sk,AO⟩:∃sk,Hid (zDj y.kind=sk):=⟨_,yD rfl⟩;rw[AO.out] at AA ⊢;obtain⟨AS,AR⟩:=HS.out
 by_cases hl:sk<least
 ·have d0:decide (sk<least)=true:=yP hl;have HR:=yD ((if_pos hl).symm.trans AA.out);clear hl AA
  go_wp2_with fail
  go_ret;rw[←HR.out];exact⟨rfl,AK.out⟩
 ·have d0:decide (sk<least)=false:=yO hl;have HR:=yD ((if_neg hl).symm.trans AA.out);clear hl AA
  go_wp2_with fail
  go_ret;rw[←HR.out];exact⟨rfl,AK.out⟩
end Go.Proofs.YtioffpjajhalaaaGreatDoor
