/- The program's Parse: what it does behind a panic, and behind none. (and what follows of it). The conditions stand at each lemma. -/
import Derived.Test.YtioffpjajhalaaaGreatDoorJaa
import Derived.Test.YtioffpjajhalaaaGreatDoorJau
import Derived.Test.YtioffpjajhalaaaGreatDoorJak
import Derived.Recover
import Derived.Defers
import Derived.Test.YtioffpjajhalaaaGreatDoorJal
import Derived.Test.YtioffpjajhalaaaGreatDoorJaj
import Derived.Lib.ItoaLen
set_option linter.unusedVariables false
set_option linter.unusedSimpArgs false
set_option maxRecDepth 100000
set_option maxHeartbeats 16000000
namespace Go.Proofs.YtioffpjajhalaaaGreatDoor
open Go Go.RowKit
theorem zGy:∀(f p:Nat) (s:Bs) (l:List Tok),zBn f p s=.ok l→∃m e,l=m++[e]∧e.kind=4
 | 0,p,s,l,h=>by cases h
 | f+1,p,s,l,h=>by
  unfold zBn at h
  split at h
  ·injection h with h;subst h;exact⟨[],_,rfl,rfl⟩
  ·exact zGy f _ _ l h
  ·rename_i kd k n hs
   cases hr:zBn f (p+k) (s.drop k) with
   | err a e=>rw[hr] at h; cases h
   | ok m=>
    rw[hr] at h;obtain⟨m',e,rfl,he⟩:=zGy f _ _ m hr;injection h with h;subst h;exact⟨_::m',e,rfl,he⟩
  ·cases h
theorem zG5:∀(f p:Nat) (s:Bs) (l:List Tok),s.length<f→zBn f p s=.ok l→l.length≤s.length+1∧∀t ∈ l,t.at_≤p+s.length
 | 0,p,s,l,hf,h=>by cases h
 | f+1,p,s,l,hf,h=>by
  have hw:=zCs s;unfold zBn at h
  split at h
  ·injection h with h;subst h;refine⟨by simp,fun t ht=>?_⟩;rw[List.mem_singleton.1 ht]
   simp
  ·rename_i k hs;rw[hs] at hw;obtain⟨h1,h2⟩:1≤k∧k≤s.length:=hw;have hl:(s.drop k).length=s.length-k:=List.length_drop;obtain⟨r1,r2⟩:=zG5 f _ _ l (by omega) h;exact⟨by omega,fun t ht=>by have:=r2 t ht; omega⟩
  ·rename_i kd k n hs;rw[hs] at hw;obtain⟨h1,h2⟩:1≤k∧k≤s.length:=hw;have hl:(s.drop k).length=s.length-k:=List.length_drop
   cases hr:zBn f (p+k) (s.drop k) with
   | err a e=>rw[hr] at h; cases h
   | ok m=>
    rw[hr] at h;injection h with h;subst h;obtain⟨r1,r2⟩:=zG5 f _ _ m (by omega) hr;refine⟨by simp only[zJ]; omega,fun t ht=>?_⟩
    rcases List.mem_cons.1 ht with rfl | ht
    ·show p≤p+s.length; omega
    ·have:=r2 t ht; omega
  ·cases h
theorem zEX {l:Bs}{ts:List Tok}(h:VJ 0 l=.ok ts):(∃m e,ts=m++[e]∧e.kind=4)∧ts.length≤l.length+1∧∀t ∈ ts,t.at_≤l.length:=by
 obtain⟨h1,h2⟩:=zG5 _ 0 l ts (Nat.lt_succ_self _) h;exact⟨zGy _ 0 l ts h,h1,fun t ht=>by have:=h2 t ht; omega⟩
theorem zSL {a n:Nat}(h:a≤n):atN a n=a:=by unfold atN; omega
theorem zKd (v:Value)(w:World):(Instr.typeAssert (.iface 54 v) 20 54 false).run Tryz.prog w=.ok v w:=by kernel_rfl
theorem zND (w:World)(p gs gp gt ge:Nat)(l:Bs)(A:Option Addr)(c:Nat)(s:Ps)(R:xS)(er:Int)(her:er≠0)(hbig:l.length≤140737488355328)(hcap:l.length≤c)(hC:Cells w A (xO l))(hT:TS w p s R)(AC:s.hd.at_≤l.length)
  (hs:Blk w gs 22 #[.slice A l.length c]) (hp:Blk w gp 73 #[.pointer (some ⟨p,0,none⟩)]) (ht:Blk w gt 39 #[.slice none 0 0]) (he:Blk w ge 25 #[.nilIface]) (hne:gt≠ge) :
  CallsD Tryz.prog 37 #[.pointer (some ⟨gs,0,none⟩),.pointer (some ⟨gp,0,none⟩),.pointer (some ⟨gt,0,none⟩),.pointer (some ⟨ge,0,none⟩)] (.panicking ({ v:=.iface 54 (.int .i64 er),recovered:=false } :: [])) w fun e u' w'=>
   e=.returned (.tuple #[])∧u'=.panicking ({ v:=.iface 54 (.int .i64 er),recovered:=true } :: [])∧∃g w1,Ext w w1∧w.heap.size≤g∧Blk w1 g 110 #[.int .i64 (s.hd.at_:Int),.int .i64 (zJm l s.hd.at_),.int .i64 (zOB l s.hd.at_),.int .i64 er]∧w'=(w1.setCell ⟨gt,0,none⟩ (.slice none 0 0)).setCell ⟨ge,0,none⟩ (.iface 107 (.pointer (some ⟨g,0,none⟩))):=by
 have HT:=yD hT;have HC:=yD hC;have AG:=yD AC;have HS:=yD hs;have HP:=yD hp;have AD:=yD ht;have AE:=yD he;have HN:=yD her;have AF:=yD hbig;have AI:=yD hcap;have AL:=zLg;have AO:=zKd;clear hT hC AC hs hp ht he her hbig hcap;refine callsD_of_wpS Tryz.func37 rfl fun c₀ cs hu=>?_;apply wpS_seq;apply wpS_region;simp[wpOpsS,go_sem,recoverD,hu,Tryz.ntmps37,Exit.thenS];refine wpS_of_wp ?_;simp[Array.replicate]
 go_upto_region 2 with fail
 have AJ:=HS.out.lt;have AP:=HP.out.lt;have AR:Hid (∀w',Ext w w'→TS w' p s R):=yD fun w' hx=>⟨HT.out.blk.ext hx,fun j hj=>(hx.cell (p:=⟨R.bt,R.ot+j,none⟩) HT.out.btl).trans (HT.out.tok j hj),yR HT.out.btl hx.size,HT.out.pos⟩;apply xE 8 (by kernel_rfl) (by kernel_rfl) (by kernel_rfl);dsimp only[List.take_succ_cons,List.take_zero,List.drop_succ_cons,List.drop_zero];apply sQ (.agg #[.slice none 0 0]);apply xA (.slice A l.length c) rfl rfl rfl
 ·intro w' AA hH;have cc:=(AA.cell (p:=⟨gs,0,none⟩) AJ).trans (HS.out.cell 0);clear hH AA;simp[yY,go_sem,cc];exact Ext.refl _
 apply xA (.pointer (some ⟨p,0,none⟩)) rfl rfl rfl
 ·intro w' AA hH;have cc:=(AA.cell (p:=⟨gp,0,none⟩) AP).trans (HP.out.cell 0);clear hH AA;simp[yY,go_sem,cc];exact Ext.refl _
 (try simp only[Act.put,yA,yB,yC]);apply xA (.agg (YC s.hd).toArray) rfl rfl rfl
 ·intro w' AA hH;have ht:=AR.out w' AA;clear hH;simp[yY,go_sem];refine(ZG w' p s R ht).mono ?_;rintro e w2 ⟨rfl,hx⟩;exact⟨_,rfl,rfl,hx⟩
 apply xA (.int .i64 (s.hd.at_:Int)) rfl rfl rfl
 ·intro w' AA hH;clear hH AA;unfold YC;simp[yY,go_sem,AL];exact Ext.refl _
 apply sQ (.iface 54 (.int .i64 er));apply sP AO (.int .i64 er);apply vF (fun v w'=>∃g,v=.iface 107 (.pointer (some ⟨g,0,none⟩))∧w.heap.size≤g∧Blk w' g 110 #[.int .i64 (s.hd.at_:Int),.int .i64 (zJm l s.hd.at_),.int .i64 (zOB l s.hd.at_),.int .i64 er]) (fun v w w' h hx=>let ⟨g,a,b,c⟩:=h; ⟨g,a,b,c.ext hx⟩) rfl rfl rfl
 ·intro w' AA hH;have AM:=HC.out.ext AA;have AH:=AA.size;have AC:=AG.out;have AT:=AF.out;clear hH;simp[yY,go_sem];refine(zMq A l l.length c (s.hd.at_:Int) er w' rfl AF.out AI.out (by omega) (by omega) AM HN.out).mono ?_;rintro e w2 ⟨g,rfl,hg,hb,hx⟩;rw[zSL AG.out] at hb;exact⟨_,rfl,⟨g,rfl,Nat.le_trans AH hg,hb⟩,hx⟩
 intro AS;(try simp only[Act.put,yA,yB,yC]);apply vA;intro w2 AB hH;obtain⟨g,rfl,hg,hb⟩:=hH _ (List.mem_cons_self ..);have AN:=yD AB;have AK:=yD hb;have AQ:=yD hg;have ct:=(AD.out.ext AB).cell 0;have zt:=(AD.out.ext AB).frozen 0;have ce:=(AE.out.ext AB).cell 0;have ze:=(AE.out.ext AB).frozen 0;simp only[yI,yJ] at ct ce;clear hH hb hg AB
 go_wp2_with fail
 simp[bodyPostS,results,Tryz.results37];exact⟨g,w2,AN.out,AQ.out,AK.out,rfl⟩
theorem zOV (w:World)(args:Array Value)(h4:args.size=4) :
  CallsD Tryz.prog 37 args .returning w fun e u' w'=>e=.returned (.tuple #[])∧u'=.returning∧w'=w:=by
 refine callsD_of_wpS Tryz.func37 rfl fun c₀ cs hu=>?_;obtain⟨l,rfl⟩:∃l:List Value,args=l.toArray:=⟨args.toList,by simp⟩
 obtain⟨a,b,c,d,rfl⟩:∃a b c d,l=[a,b,c,d]:=by
  match l,h4 with
  | [a,b,c,d],_=>exact⟨a,b,c,d,rfl⟩
 apply wpS_seq;apply wpS_region;simp[wpOpsS,go_sem,recoverD,hu,Tryz.ntmps37,Exit.thenS];refine wpS_of_wp ?_;simp[Array.replicate]
 go_wp2_with fail
 cases c₀
 simp_all [bodyPostS,results,Tryz.results37]
def VU (l:Bs):zGq:=match zDS l with
 | .ok ts=>XY ts
 | .err p e=>.err p e
def zGt (l:Bs)(w:World)(r:zGq)(e:Ending)(w':World):Prop:=Ext w w'∧match r with
 | .ok nd=>∃A c nh,e=.returned (.tuple #[.agg #[.slice A nh.length c],.nilIface])∧nd=nh.map Prod.fst∧NS w' w.heap.size 48 3 A c nh
 | .err a er=>∃g,e=.returned (.tuple #[.agg #[.slice none 0 0],.iface 107 (.pointer (some ⟨g,0,none⟩))])∧w.heap.size≤g∧Blk w' g 110 #[.int .i64 (a:Int),.int .i64 (zJm l a),.int .i64 (zOB l a),.int .i64 er]
theorem NS.nil (w:World)(B:Nat)(tn ti:TypeId):NS w B tn ti none 0 []:=⟨zP _ _ _ _,fun x hx=>(by cases hx),fun i j hi=>(by cases hi),fun _=>rfl,fun x hx=>(by cases hx)⟩
theorem Ext.set {w w1:World}(h:Ext w w1){g i:Nat}{u:Value}(hg:w.heap.size≤g):Ext w (w1.setCell ⟨g,i,none⟩ u):=
 ⟨h.os,h.tape,h.output,by have:=h.size; simp[World.setCell]; omega,fun b hb=>(zQ w1 ⟨g,i,none⟩ u b (fun e=>by subst e; exact absurd hb (Nat.not_lt.2 hg))).trans (h.block b hb)⟩
theorem zLY (A:Option Addr)(l:Bs)(n c:Nat)(w:World)(hn:n=l.length)(hbig:l.length≤140737488355328)(hcap:l.length≤c)(hnil:A=none→c=0)(h:Cells w A (xO l))(a:Nat)(er:Int)(hl:zDS l=.err a er) :
  Calls Tryz.prog 16 #[.slice A n c] w (zGt l w (.err a er)):=by
 subst hn;have HC:=yD h;have HL:=yD hl;obtain⟨W0,AA⟩:∃W0,Hid (((w.alloc (.cells #[.slice A l.length c] 22)).alloc (.cells #[.slice none 0 0] 39)).alloc (.cells #[.nilIface] 25)=W0):=⟨_,yD rfl⟩;have AE:Hid (Ext w W0):=yD (by rw[←AA.out]; exact((Ext.alloc _ _).trans (Ext.alloc _ _)).trans (Ext.alloc _ _));have AM:Hid (Blk W0 w.heap.size 22 #[.slice A l.length c]):=yD (by rw[←AA.out]; exact((Blk.new _ _ _).alloc _).alloc _)
 have AO:Hid (Blk W0 (w.heap.size+1) 39 #[.slice none 0 0]):=yD (by
  have:=(Blk.new (w.alloc (.cells #[.slice A l.length c] 22)) 39 #[.slice none 0 0]).alloc (.cells #[.nilIface] 25)
  rw[←AA.out]
  simpa using this)
 have AD:Hid (Blk W0 (w.heap.size+1+1) 25 #[.nilIface]):=yD (by
  have:=Blk.new ((w.alloc (.cells #[.slice A l.length c] 22)).alloc (.cells #[.slice none 0 0] 39)) 25 #[.nilIface]
  rw[←AA.out]
  simpa using this)
 have AI:=yD (zPF A l l.length c W0 rfl hbig hcap hnil (h.ext AE.out));clear h hl
 go_enter_defers Tryz.func16,Tryz.ntmps16
 have AJ:W0.cell? ⟨w.heap.size,0,none⟩=some (.slice A l.length c):=AM.out.cell 0
 go_upto_region 1 with fail
 rw[AA.out]
 go_wp2_with fail
 refine AI.out.mono ?_;rw[HL.out];rintro e w1 ⟨AB,g,rfl,hg,hb⟩;have AH:=yD (AE.out.trans AB);have AK:=yD hb;have AN:=yD (Nat.le_trans AE.out.size hg);have AG:=yD (AO.out.ext AB);have AC:=yD (AD.out.ext AB);have c1:w1.cell? ⟨w.heap.size+1,0,none⟩=some (.slice none 0 0):=AG.out.cell 0;have z1:=AG.out.frozen 0;have c2:w1.cell? ⟨w.heap.size+1+1,0,none⟩=some .nilIface:=AC.out.cell 0;have z2:=AC.out.frozen 0;have AP:=yD (yR AD.out.lt (zU _));have AF:Hid (g≠w.heap.size+1∧g≠w.heap.size+1+1):=yD (by have h1:=AD.out.lt; omega);clear AB hb hg AJ
 go_wp2_with fail
 go_region
 go_wp2_with fail
 have AL:=yD ((((AH.out.set (u:=.iface 107 (.pointer (some ⟨g,0,none⟩))) (i:=0) (g:=w.heap.size+1+1) (by omega)).set (u:=.slice none 0 0) (i:=0) (g:=w.heap.size+1) (by omega)).set (u:=.iface 107 (.pointer (some ⟨g,0,none⟩))) (i:=0) (g:=w.heap.size+1+1) (by omega)).trans (Below.drew (Below.refl _ _)));have hE:=(((AC.out.put 0 (.iface 107 (.pointer (some ⟨g,0,none⟩)))).far (p:=⟨w.heap.size+1,0,none⟩) (by simp) (.slice none 0 0)).put 0 (.iface 107 (.pointer (some ⟨g,0,none⟩)))).ext (Below.drew (Below.refl _ _));have hT:=(((AG.out.far (p:=⟨w.heap.size+1+1,0,none⟩) (by simp) (.iface 107 (.pointer (some ⟨g,0,none⟩)))).put 0 (.slice none 0 0)).far (p:=⟨w.heap.size+1+1,0,none⟩) (by simp) (.iface 107 (.pointer (some ⟨g,0,none⟩)))).ext (Below.drew (Below.refl _ _));have hB:=(((AK.out.far (p:=⟨w.heap.size+1+1,0,none⟩) AF.out.2 (.iface 107 (.pointer (some ⟨g,0,none⟩)))).far (p:=⟨w.heap.size+1,0,none⟩) AF.out.1 (.slice none 0 0)).far (p:=⟨w.heap.size+1+1,0,none⟩) AF.out.2 (.iface 107 (.pointer (some ⟨g,0,none⟩)))).ext (Below.drew (Below.refl _ _));generalize (((w1.setCell ⟨w.heap.size+1+1,0,none⟩ (.iface 107 (.pointer (some ⟨g,0,none⟩)))).setCell ⟨w.heap.size+1,0,none⟩ (.slice none 0 0)).setCell ⟨w.heap.size+1+1,0,none⟩ (.iface 107 (.pointer (some ⟨g,0,none⟩)))).drew=W at *;have e0:W.cell? ⟨w.heap.size+1+1,0,none⟩=some (.iface 107 (.pointer (some ⟨g,0,none⟩))):=hE.cell 0;have t0:W.cell? ⟨w.heap.size+1,0,none⟩=some (.slice none 0 0):=hT.cell 0
 exact⟨.tuple #[.agg #[.slice none 0 0],.iface 107 (.pointer (some ⟨g,0,none⟩))],by simp[results,Tryz.results16,go_sem,e0,t0],AL.out,g,rfl,AN.out,hB⟩
theorem zKr {w:World}{B N:Nat}{t:TypeId}{sz n:Nat}{v:Value}{xs:List Value}(h:w.ownsRow B t sz v n xs)(hN:N≤B):w.ownsRow N t sz v n xs:=by
 refine⟨h.1,?_⟩
 rcases h.2 with hn | ⟨g,AB,AA,hv,hb,r⟩
 ·exact .inl hn
 ·exact .inr ⟨g,AB,AA,hv,Nat.le_trans hN hb,r⟩
theorem NS.lower {w:World}{B N:Nat}{tn ti:TypeId}{A:Option Addr}{c:Nat}{nh:List (Nd × Hd2)}(h:NS w B tn ti A c nh)(hN:N≤B):NS w N tn ti A c nh:=⟨zKr h.row hN,fun x hx=>zKr (h.kids x hx) hN,h.apart,h.rz,h.kz⟩
theorem zKV {w w':World}{N M:Nat}(h:Below N w w')(hM:M≤N):Below M w w':=⟨h.os,h.tape,h.output,h.size,fun b hb=>h.block b (yR hb hM)⟩
theorem zEh {w w':World}{N g:Nat}{t:TypeId}{cs:Array Value}(h:Below N w w')(hg:g<N)(hb:Blk w g t cs):Blk w' g t cs:=(h.block g hg).trans hb
theorem zR3 (A:Option Addr)(l:Bs)(n c:Nat)(w:World)(hn:n=l.length)(hbig:l.length≤65536)(hcap:l.length≤c)(hnil:A=none→c=0)(h:Cells w A (xO l))(ts:List Tok)(hl:zDS l=.ok ts)(hl2:VJ 0 l=.ok ts) :
  Calls Tryz.prog 16 #[.slice A n c] w (zGt l w (XY ts)):=by
 subst hn;have HC:=yD h;have HL:=yD hl;have AJ:=yD (zEX hl2);have Aq:=yD hbig;have A5:=yD hcap;obtain⟨W0,AK⟩:∃W0,Hid (((w.alloc (.cells #[.slice A l.length c] 22)).alloc (.cells #[.slice none 0 0] 39)).alloc (.cells #[.nilIface] 25)=W0):=⟨_,yD rfl⟩;have Ak:Hid (Ext w W0):=yD (by rw[←AK.out]; exact((Ext.alloc _ _).trans (Ext.alloc _ _)).trans (Ext.alloc _ _));have AZ:Hid (Blk W0 w.heap.size 22 #[.slice A l.length c]):=yD (by rw[←AK.out]; exact((Blk.new _ _ _).alloc _).alloc _)
 have Ay:Hid (Blk W0 (w.heap.size+1) 39 #[.slice none 0 0]):=yD (by
  have:=(Blk.new (w.alloc (.cells #[.slice A l.length c] 22)) 39 #[.slice none 0 0]).alloc (.cells #[.nilIface] 25)
  rw[←AK.out]
  simpa using this)
 have AX:Hid (Blk W0 (w.heap.size+1+1) 25 #[.nilIface]):=yD (by
  have:=Blk.new ((w.alloc (.cells #[.slice A l.length c] 22)).alloc (.cells #[.slice none 0 0] 39)) 25 #[.nilIface]
  rw[←AK.out]
  simpa using this)
 have BC:=yD (zPF A l l.length c W0 rfl (by omega) hcap hnil (h.ext Ak.out));have hm:=hmf;clear h hl hl2 hnil hcap hbig
 go_enter_defers Tryz.func16,Tryz.ntmps16
 have Ap:W0.cell? ⟨w.heap.size,0,none⟩=some (.slice A l.length c):=AZ.out.cell 0
 go_upto_region 1 with fail
 rw[AK.out];obtain⟨g0,AV⟩:∃g0,Hid (w.heap.size=g0):=⟨_,yD rfl⟩;rw[AV.out] at Ap AZ Ay AX ⊢
 go_wp2_with fail
 refine BC.out.mono ?_;rw[HL.out];rintro e w1 ⟨AG,A',c',rfl,hz,hr⟩
 have AY:0<ts.length:=by
  obtain⟨⟨m,e,hm,_⟩,_⟩:=AJ.out;rw[hm]
  simp
 obtain⟨bt,rfl⟩:∃bt,A'=some ⟨bt,0,none⟩:=by
  rcases zFI hr with e | e
  ·exfalso
   rw[e] at hr
   rcases hr.2 with ⟨_,h0⟩ | ⟨g,_,_,hv,_⟩
   ·omega
   ·cases hv
  ·exact e
 have Ax:=VY hr rfl;have BH:=yD Ax;have HR:=yD hr
 have Al:ts.length≤c':=by
  rcases hr.2 with ⟨hv,_⟩ | ⟨g,Bd,Bf,hv,_,_,Bc,_⟩
  ·cases hv
  ·injection hv with _ _ e; omega
 have Ba:=yD Al;have BB:=yD (Ak.out.trans AG);have BF:=yD AG;have BV:=yD (AZ.out.ext AG);have BR:=yD (Ay.out.ext AG);have AS:=yD (AX.out.ext AG);have A8:Hid (g0+1+1<W0.heap.size∧W0.heap.size≤w1.heap.size):=yD ⟨AX.out.lt,AG.size⟩;have c2:w1.cell? ⟨g0+1+1,0,none⟩=some .nilIface:=AS.out.cell 0;have z2:=AS.out.frozen 0;have BT:=AS.out.lt;clear AG hr hz Ax Al AY Ap
 go_wp2_with fail
 obtain⟨wS,AI⟩:∃wS,Hid (w1.setCell ⟨g0+1+1,0,none⟩ .nilIface=wS):=⟨_,yD rfl⟩
 have AN:wS.heap.size=w1.heap.size:=by rw[←AI.out]; simp[World.setCell]
 have AT:∀b,b≠g0+1+1→wS.heap[b]?=w1.heap[b]?:=fun b hb=>by rw[←AI.out]; exact zQ w1 ⟨g0+1+1,0,none⟩ _ b hb
 have As:Blk wS (g0+1+1) 25 #[.nilIface]:=by rw[←AI.out]; exact AS.out.put 0 .nilIface
 have Au:Ext w wS:=by rw[←AI.out]; exact BB.out.set (by have:=AV.out; omega)
 rw[AI.out];obtain⟨W4,AO⟩:∃W4,Hid ((wS.alloc (.cells #[.slice (some ⟨bt,0,none⟩) ts.length c',.slice none 0 0,.int .i64 0] 75)).alloc (.cells #[.pointer (some ⟨w1.heap.size,0,none⟩)] 73)=W4):=⟨_,yD rfl⟩;have AH:Hid (Ext wS W4):=yD (by rw[←AO.out]; exact(Ext.alloc _ _).trans (Ext.alloc _ _))
 have Ah:Blk W4 w1.heap.size 75 #[.slice (some ⟨bt,0,none⟩) ts.length c',.slice none 0 0,.int .i64 0]:=by
  have:=(Blk.new wS 75 #[.slice (some ⟨bt,0,none⟩) ts.length c',.slice none 0 0,.int .i64 0]).alloc (.cells #[.pointer (some ⟨w1.heap.size,0,none⟩)] 73)
  rw[←AO.out,←AN];rw[←AN] at this;exact this
 have AU:Blk W4 (w1.heap.size+1) 73 #[.pointer (some ⟨w1.heap.size,0,none⟩)]:=by
  have:=Blk.new (wS.alloc (.cells #[.slice (some ⟨bt,0,none⟩) ts.length c',.slice none 0 0,.int .i64 0] 75)) 73 #[.pointer (some ⟨w1.heap.size,0,none⟩)]
  rw[←AO.out]
  simpa [AN] using this
 have An:=AV.out;have Ag:=BH.out;have BY:=A8.out;have Av:Blk W4 g0 22 #[.slice A l.length c]:=Blk.ext ((AT g0 (by omega)).trans BV.out) AH.out;have A2:Blk W4 (g0+1) 39 #[.slice none 0 0]:=Blk.ext ((AT (g0+1) (by omega)).trans BR.out) AH.out;have A0:Blk W4 (g0+1+1) 25 #[.nilIface]:=As.ext AH.out;have Aw:Ext w W4:=Au.trans AH.out
 have A1:PS W4 w1.heap.size w1.heap.size ⟨ts,[],0⟩ ⟨bt,0,c',none,0,[]⟩:=by
  refine⟨Ah,fun k hk=>?_,Ba.out,Ag.2,rfl,NS.nil _ _ _ _,zU _,⟨AJ.out.1,zT _⟩⟩;have h1:=HR.out.cellAt k (by exact hk);rw[←h1,Nat.zero_add];refine World.cell?_of_block (w:=w1) (a:=⟨bt,k,none⟩) ((AH.out.block bt ?_).trans (AT bt ?_))
  ·rw[AN]; exact Ag.2
  ·show bt≠_; omega
 have AF:Good ⟨ts,[],0⟩:=⟨AJ.out.1,zT _,fun n hn=>by cases hn⟩
 have AM:(⟨ts,[],0⟩:Ps).phi≤999999:=by
  have h1:=AJ.out.2.1;have h2:=Aq.out
  show 0+2*ts.length≤_
  omega
 have BO:=yD (zMj W4 w1.heap.size w1.heap.size ⟨ts,[],0⟩ ⟨bt,0,c',none,0,[]⟩ A1 AF rfl AM);have Ae:=yD (zNc (s:=⟨ts,[],0⟩) AJ.out.1);have BS:=yD Av;have Ai:=yD A2;have Am:=yD A0;have Aj:=yD AU;have Ac:=yD Aw;have BW:Hid (w1.heap.size<W4.heap.size):=yD Ah.lt;have AA:Hid (w.heap.size=g0∧g0+1+1<w1.heap.size):=yD ⟨An,by omega⟩
 have Ao:Hid (∀w' R',xH W4 (xG w1.heap.size ⟨bt,0,c',none,0,[]⟩) w' (xG w1.heap.size R')→Below w1.heap.size W4 w'∧w'.heap[w1.heap.size+1]?=W4.heap[w1.heap.size+1]?):=yD fun w' R' h=>by
  have hm:∀b,xG w1.heap.size ⟨bt,0,c',none,0,[]⟩ b→b=w1.heap.size:=fun b hb=>by
   rcases hb with hb | hb | hb
   ·exact hb
   ·cases hb
   ·cases hb
  exact⟨⟨h.os,h.tape,h.output,h.size,fun b hb=>h.zAf b (by have:=BW.out; omega) (fun k=>by have:=hm b k; omega)⟩,h.zAf _ AU.lt (fun k=>by have:=hm _ k; omega)⟩
 rw[AO.out];clear Au As AT AN Ah AU Av A2 A0 Aw A1 AF AM AI AO AH c2 z2 BT An Ag BY;generalize hpp:w1.heap.size=p at *;clear hpp;refine BO.out.mono ?_;intro e w5 AB
 cases hq:zAZ ⟨ts,[],0⟩ with
 | ok a s5=>
  have Aa:Hid (XY ts=.ok s5.nd):=yD (by unfold XY; rw[hq]);rw[hq] at AB;obtain⟨rfl,R5,AQ,Az⟩:=AB;obtain⟨AC,AP⟩:=Ao.out _ _ Az;have Ab:=yD AQ;have A9:=yD AC;have cg:w5.cell? ⟨p+1,0,none⟩=some (.pointer (some ⟨p,0,none⟩)):=Blk.cell (show Blk w5 (p+1) 73 _ from AP.trans Aj.out) 0;have x1:=AQ.x1;have AE:=zEh AC (by have:=AA.out; omega) Ai.out;have AD:=zEh AC (by have:=AA.out; omega) Am.out;have BG:=yD AE;have A4:=yD AD;have t0:w5.cell? ⟨g0+1,0,none⟩=some (.slice none 0 0):=AE.cell 0;have e0:w5.cell? ⟨g0+1+1,0,none⟩=some .nilIface:=AD.cell 0;have tz:=AE.frozen 0;have ez:=AD.frozen 0;have Bb:=AQ.blk.lt;clear hq AQ Az AC AP AE AD
  go_wp2_with fail
  have BA:Hid (Ext w ((w5.setCell ⟨g0+1,0,none⟩ (.slice R5.A R5.nh.length R5.c)).setCell ⟨g0+1+1,0,none⟩ .nilIface)):=yD (((show Ext w w5 from Below.trans Ac.out (zKV A9.out (by have:=AA.out; omega))).set (by have:=AA.out; omega)).set (by have:=AA.out; omega))
  have BP:Hid (NS ((w5.setCell ⟨g0+1,0,none⟩ (.slice R5.A R5.nh.length R5.c)).setCell ⟨g0+1+1,0,none⟩ .nilIface) w.heap.size 48 3 R5.A R5.c R5.nh):=yD ((Ab.out.ns.zAf fun b hb=>by
   have h1:=(Ab.out.ns.zDL hb).1;have h2:=AA.out
   rw[zQ _ ⟨g0+1+1,0,none⟩ _ b (by show b≠g0+1+1; omega),zQ _ ⟨g0+1,0,none⟩ _ b (by show b≠g0+1; omega)]).lower (by have:=AA.out; omega))
  have Ad:=(BG.out.put 0 (.slice R5.A R5.nh.length R5.c)).far (p:=⟨g0+1+1,0,none⟩) (by simp) .nilIface;have AW:=(A4.out.far (p:=⟨g0+1,0,none⟩) (by simp) (.slice R5.A R5.nh.length R5.c)).put 0 .nilIface;generalize (w5.setCell ⟨g0+1,0,none⟩ (.slice R5.A R5.nh.length R5.c)).setCell ⟨g0+1+1,0,none⟩ .nilIface=W6 at *;have t6:W6.cell? ⟨g0+1,0,none⟩=some (.slice R5.A R5.nh.length R5.c):=Ad.cell 0;have e6:W6.cell? ⟨g0+1+1,0,none⟩=some .nilIface:=AW.cell 0;refine leaves_cons (f:=37) (args:=#[.pointer (some ⟨g0,0,none⟩),.pointer (some ⟨p+1,0,none⟩),.pointer (some ⟨g0+1,0,none⟩),.pointer (some ⟨g0+1+1,0,none⟩)]) (by simp) (by simp[go_sem]) ?_;refine(zOV W6 _ rfl).mono ?_;rintro e u' BQ ⟨rfl,rfl,rfl⟩;refine⟨.tuple #[.agg #[.slice R5.A R5.nh.length R5.c],.nilIface],by simp[results,Tryz.results16,go_sem,t6,e6],?_⟩;rw[Aa.out];exact⟨BA.out,R5.A,R5.c,R5.nh,rfl,Ab.out.nodes,BP.out⟩
 | err er a=>
  have Aa:Hid (XY ts=.err a er):=yD (by unfold XY; rw[hq]);have AL:=Ae.out;rw[hq] at AB AL;obtain⟨rfl,s6,At,R6,BL,A6⟩:=AB;obtain⟨BM,t,ht,BZ⟩:=AL;obtain⟨AC,AP⟩:=Ao.out _ _ A6
  have BN:a≤l.length:=by rw[←BZ.1]; exact AJ.out.2.2 t ht
  have BE:er≠0:=by rcases BM with h | h <;> (rw[h]; decide)
  have AE:=zEh AC (by have:=AA.out; omega) Ai.out;have AD:=zEh AC (by have:=AA.out; omega) Am.out;have A7:=zEh AC (by have:=AA.out; omega) BS.out;have BK:Blk w5 (p+1) 73 #[.pointer (some ⟨p,0,none⟩)]:=AP.trans Aj.out;have Be:=Ac.out.size;have A3:=AA.out;have Af:Ext w w5:=Below.trans Ac.out (zKV AC (by omega));refine leaves_cons (f:=37) (args:=#[.pointer (some ⟨g0,0,none⟩),.pointer (some ⟨p+1,0,none⟩),.pointer (some ⟨g0+1,0,none⟩),.pointer (some ⟨g0+1+1,0,none⟩)]) (by simp) (by simp[go_sem]) ?_;refine(zND w5 p g0 (p+1) (g0+1) (g0+1+1) l A c s6 R6 er BE (by have:=Aq.out; omega) A5.out (HC.out.ext Af) BL.ts (by rw[At]; exact BN) A7 BK AE AD (by omega)).mono ?_;rintro e u' BQ ⟨rfl,rfl,g,w6,AR,hg,Ar,rfl⟩;rw[At] at Ar;have h1:=AR.size;have h2:=Af.size;have h3:=AE.lt;have h4:=AD.lt;have Ad:=((AE.ext AR).put 0 (.slice none 0 0)).far (p:=⟨g0+1+1,0,none⟩) (by simp) (.iface 107 (.pointer (some ⟨g,0,none⟩)));have AW:=((AD.ext AR).far (p:=⟨g0+1,0,none⟩) (by simp) (.slice none 0 0)).put 0 (.iface 107 (.pointer (some ⟨g,0,none⟩)));have BJ:=(Ar.far (p:=⟨g0+1,0,none⟩) (by show g≠g0+1; omega) (.slice none 0 0)).far (p:=⟨g0+1+1,0,none⟩) (by show g≠g0+1+1; omega) (.iface 107 (.pointer (some ⟨g,0,none⟩)));have BI:=((Af.trans AR).set (u:=.slice none 0 0) (i:=0) (g:=g0+1) (by omega)).set (u:=.iface 107 (.pointer (some ⟨g,0,none⟩))) (i:=0) (g:=g0+1+1) (by omega)
  generalize (w6.setCell ⟨g0+1,0,none⟩ (.slice none 0 0)).setCell ⟨g0+1+1,0,none⟩ (.iface 107 (.pointer (some ⟨g,0,none⟩)))=W6 at *;have t6:W6.cell? ⟨g0+1,0,none⟩=some (.slice none 0 0):=Ad.cell 0;have e6:W6.cell? ⟨g0+1+1,0,none⟩=some (.iface 107 (.pointer (some ⟨g,0,none⟩))):=AW.cell 0;refine⟨.tuple #[.agg #[.slice none 0 0],.iface 107 (.pointer (some ⟨g,0,none⟩))],by simp[results,Tryz.results16,go_sem,t6,e6],?_⟩;rw[Aa.out];exact⟨BI,g,rfl,by omega,BJ⟩
theorem zLj (A:Option Addr)(l:Bs)(n c:Nat)(w:World)(hn:n=l.length)(hbig:l.length≤140737488355328)(hcap:l.length≤c)(hnil:A=none→c=0)(h:Cells w A (xO l)) :
  Calls Tryz.prog 16 #[.slice A n c] w (zGt l w (VU l)):=by
 cases hl:zDS l with
 | err a er=>
  have:=zLY A l n c w hn hbig hcap hnil h a er hl
  unfold VU;rw[hl];exact this
 | ok ts=>
  have AA:l.length≤65536:=by
   unfold zDS at hl
   split at hl
   ·cases hl
   ·omega
  have AB:VJ 0 l=.ok ts:=by
   unfold zDS at hl;rw[if_neg (by omega)] at hl;exact hl
  have:=zR3 A l n c w hn AA hcap hnil h ts hl AB
  unfold VU;rw[hl];exact this
end Go.Proofs.YtioffpjajhalaaaGreatDoor
namespace Go.Proofs.YtioffpjajhalaaaGreatDoor
theorem zJ2:∀(l:Bs) (n m:Int),n≤2147483647→zAU n l=some m→m≤2147483647
 | [],n,m,h,e=>by injection e with e; omega
 | c::r,n,m,h,e=>by
  unfold zAU at e
  split at e
  ·cases e
  ·exact zJ2 r _ m (by omega) e
theorem zSR {s:Bs}{kd k:Nat}{n:Int}(h:step s=.tok kd k n):okI n:=by
 cases s with
 | nil=>cases h
 | cons c r=>
  have h:XM c r=.tok kd k n:=h;unfold XM at h
  split at h
  ·cases h
  split at h
  ·cases h
  split at h
  ·injection h with _ _ h; subst h; exact ok0
  split at h
  ·rename_i hd;unfold zKD at h
   split at h
   ·cases h
   ·rename_i m hm;injection h with _ _ h;subst h;have h1:=zJ2 _ _ _ (by decide) hm
    have h2:=zJM _ _ _ (Int.le_refl 0) (fun x hx=>by
     rcases List.mem_cons.1 hx with rfl | hx
     ·exact hd
     ·exact(List.all_eq_true.1 (List.all_takeWhile) x hx)) hm
    exact⟨by omega,by omega⟩
  split at h
  ·injection h with _ _ h; subst h; exact ok0
  split at h
  ·injection h with _ _ h; subst h; exact ok0
  ·cases h
theorem zJl:∀(f p:Nat) (s:Bs) (l:List Tok),s.length≤1500→zBn f p s=.ok l→∀t ∈ l,okI t.n∧t.text.length≤1500
 | 0,p,s,l,hl,h=>by cases h
 | f+1,p,s,l,hl,h=>by
  unfold zBn at h
  split at h
  ·injection h with h;subst h;intro t ht;rw[yK] at ht;subst ht;exact⟨ok0,zT _⟩
  ·exact zJl f _ _ l (by rw[List.length_drop]; omega) h
  ·rename_i kd k n hs
   cases hr:zBn f (p+k) (s.drop k) with
   | err a e=>rw[hr] at h; cases h
   | ok m=>
    rw[hr] at h;injection h with h;subst h;intro t ht
    rcases List.mem_cons.1 ht with rfl | ht
    ·exact⟨zSR hs,by show(List.take k s).length≤1500; rw[List.length_take]; omega⟩
    ·exact zJl f _ _ m (by rw[List.length_drop]; omega) hr t ht
  ·cases h
theorem zEy:∀f,zBh (vY f)
 | 0=>fun s _=>by unfold vY; trivial
 | f+1=>fun s h=>by
  unfold vY
  split
  ·exact ZR.refl h
  ·split
   ·exact(zJ0 0 s h).bind fun _ t _ ht=>zEy f t ht
   ·split
    ·exact(zKm 0 s h).bind fun _ t _ ht=>zEy f t ht
    ·trivial
theorem zML {l:Bs}{y:List Nd}(h:VU l=.ok y)(hl:l.length≤1500):y.length≤3003∧∀n ∈ y,n.kids.length≤3003∧okN n:=by
 unfold VU at h
 have hs:zDS l=VJ 0 l:=by unfold zDS; rw[if_neg (by omega)]
 rw[hs] at h
 cases h1:VJ 0 l with
 | err a e=>rw[h1] at h; cases h
 | ok ts=>
  rw[h1] at h;have h2:XY ts=.ok y:=h;obtain⟨AA,AB,AC⟩:=zEX h1
  have hk:=zLx (fun t ht=>by
   have:=zJl _ 0 l ts hl h1 t ht
   exact⟨this.1,this.2,by have:=AC t ht; omega⟩) h2
  have hg:Good ((⟨ts,[],0⟩:Ps).node 1):=⟨AA,zT _,fun n hn=>by
   have hn:n ∈ [(⟨1,(⟨ts,[],0⟩:Ps).hd.at_,[],0,[]⟩:Nd)]:=hn;rw[List.mem_singleton.1 hn]
   exact zT _⟩
  have hw:=zEy (ts.length+1) _ hg
  have e:XY ts=match vY (ts.length+1) ((⟨ts,[],0⟩:Ps).node 1) with
   | .ok _ s=>.ok s.nd
   | .err e p=>.err p e:=rfl
  rw[e] at h2
  cases hq:vY (ts.length+1) ((⟨ts,[],0⟩:Ps).node 1) with
  | err e p=>rw[hq] at h2; cases h2
  | ok a s=>
   rw[hq] at h2 hw;injection h2 with h2;subst h2;have hp:=hw.phi;unfold Ps.phi at hp;have h0:((⟨ts,[],0⟩:Ps).node 1).nd.length=1:=rfl;have h3:((⟨ts,[],0⟩:Ps).node 1).ts.length=ts.length:=rfl;rw[h0,h3] at hp;exact⟨by omega,fun n hn=>⟨by have:=hw.xQ.few n hn; omega,hk n hn⟩⟩
def zAy (n:Nd):TT.xC:=⟨n.kind,n.pos,yX n.text,n.num,none,0,n.kids.map fun (k:Nat)=>(k:Int)⟩
inductive Fo where
 | nil
 | cons (k p:Nat) (t:Bs) (x:Int) (c r:Fo)
def Fo.size:Fo→Nat
 | .nil=>0
 | .cons _ _ _ _ c r=>1+c.size+r.size
def Fo.roots:Nat→Fo→List Nat
 | _,.nil=>[]
 | a,.cons _ _ _ _ c r=>a::Fo.roots (a+1+c.size) r
def Fo.kinds:Fo→List Nat
 | .nil=>[]
 | .cons k _ _ _ _ r=>k::r.kinds
def Fo.flat:Nat→Fo→List Nd
 | _,.nil=>[]
 | a,.cons k p t x c r=>⟨k,p,t,x,Fo.roots (a+1) c⟩::(Fo.flat (a+1) c++Fo.flat (a+1+c.size) r)
def Fo.app:Fo→Fo→Fo
 | .nil,g=>g
 | .cons k p t x c r,g=>.cons k p t x c (r.app g)
def xU (k:Nat)(t:Bs)(x:Int)(kk:List Nat):Prop:=1≤k∧k≤26∧TT.JR (k:Int) x t=true∧TT.zAE (k:Int) (kk.map fun (j:Nat)=>(j:Int))=true
def Fo.ok (M:Nat):Fo→Prop
 | .nil=>True
 | .cons k p t x c r=>(xU k t x c.kinds∧p≤M)∧Fo.ok M c∧Fo.ok M r
def Fo.one (k p:Nat)(t:Bs)(x:Int)(c:Fo):Fo:=.cons k p t x c .nil
theorem zTm:∀f g:Fo,(f.app g).size=f.size+g.size
 | .nil,g=>by show g.size=0+g.size; omega
 | .cons k p t x c r,g=>by
  show 1+c.size+(r.app g).size=1+c.size+r.size+g.size
  rw[zTm r g]; omega
theorem zES:∀(a:Nat) (f g:Fo),(f.app g).roots a=f.roots a++g.roots (a+f.size)
 | a,.nil,g=>rfl
 | a,.cons k p t x c r,g=>by
  show a::(r.app g).roots _=a::(r.roots _++g.roots (a+(1+c.size+r.size)))
  rw[zES _ r g,show a+1+c.size+r.size=a+(1+c.size+r.size) by omega]
theorem XR:∀f g:Fo,(f.app g).kinds=f.kinds++g.kinds
 | .nil,g=>rfl
 | .cons k p t x c r,g=>by
  show k::(r.app g).kinds=k::(r.kinds++g.kinds)
  rw[XR r g]
theorem zF6:∀(a:Nat) (f g:Fo),(f.app g).flat a=f.flat a++g.flat (a+f.size)
 | a,.nil,g=>rfl
 | a,.cons k p t x c r,g=>by
  show _::(c.flat _++(r.app g).flat _)=_::(c.flat _++r.flat _++g.flat (a+(1+c.size+r.size)))
  rw[zF6 _ r g,show a+1+c.size+r.size=a+(1+c.size+r.size) by omega,List.append_assoc]
theorem zBX {M:Nat}:∀ {f g:Fo},f.ok M→g.ok M→(f.app g).ok M
 | .nil,g,_,h=>h
 | .cons k p t x c r,g,h,h2=>⟨h.1,h.2.1,zBX h.2.2 h2⟩
theorem zIF:∀f g h:Fo,(f.app g).app h=f.app (g.app h)
 | .nil,g,h=>rfl
 | .cons k p t x c r,g,h=>by
  show Fo.cons k p t x c ((r.app g).app h)=Fo.cons k p t x c (r.app (g.app h))
  rw[zIF r g h]
theorem zEV:∀f:Fo,f.app .nil=f
 | .nil=>rfl
 | .cons k p t x c r=>by
  show Fo.cons k p t x c (r.app .nil)=_
  rw[zEV r]
theorem vK:∀(a:Nat) (f:Fo),(f.flat a).length=f.size
 | a,.nil=>rfl
 | a,.cons k p t x c r=>by
  show(c.flat _++r.flat _).length+1=1+c.size+r.size
  rw[yM,vK,vK]; omega
def xK (l:List Nat):List Int:=l.map fun (j:Nat)=>(j:Int)
theorem zNl (pre post:List Nd)(n:Nd):(TT.ZO ((pre++n::post).map zAy)).getD pre.length []=xK n.kids:=by
 unfold TT.ZO;rw[yE,zM,zM,List.getElem?_append_right (zU _),Nat.sub_self]
 rfl
theorem zJK (pre post:List Nd)(n:Nd):TT.JI ((pre++n::post).map zAy) (pre.length:Int)=(n.kind:Int):=by
 unfold TT.JI;rw[zH,zM,List.getElem?_append_right (zU _),Nat.sub_self]
 rfl
theorem zBJ (L:List Nd):(TT.ZO (L.map zAy)).length=L.length:=by simp[TT.ZO]
theorem zHc:∀(f:Fo) (pre post L:List Nd) (a:Nat),pre.length=a→L=pre++f.flat a++post→TT.zA6 (TT.JO (TT.ZO (L.map zAy))) L.length (xK (f.roots a)) (some a)=some (a+f.size)
 | .nil,pre,post,L,a,ha,hL=>rfl
 | .cons k p t x c r,pre,post,L,a,ha,hL=>by
  have AA:L=pre++⟨k,p,t,x,c.roots (a+1)⟩::(c.flat (a+1)++r.flat (a+1+c.size)++post):=by rw[hL,Fo.flat]; simp[List.append_assoc]
  have h0:a<L.length:=by rw[AA]; simp; omega
  have hc:=zHc c (pre++[⟨k,p,t,x,c.roots (a+1)⟩]) (r.flat (a+1+c.size)++post) L (a+1) (by simp[ha]) (by rw[AA]; simp[List.append_assoc]);have hr:=zHc r (pre++⟨k,p,t,x,c.roots (a+1)⟩::c.flat (a+1)) post L (a+1+c.size) (by simp[ha,vK]; omega) (by rw[AA]; simp[List.append_assoc])
  show TT.zA6 _ _ ((a:Int)::xK (r.roots (a+1+c.size))) (some a)=_
  rw[TT.YJ,if_pos ⟨h0,rfl⟩,TT.zBC,if_pos (by rw[zBJ]; exact h0)]
  have e:(TT.ZO (L.map zAy)).getD a []=xK (c.roots (a+1)):=by
   rw[AA,←ha,zNl]
  rw[e,zBJ,hc,hr]
  show some _=some (a+(1+c.size+r.size))
  congr 1
  omega
theorem zJY:∀(f:Fo) (pre post L:List Nd) (a:Nat),pre.length=a→L=pre++f.flat a++post→TT.jY (L.map zAy) (xK (f.roots a))=xK f.kinds
 | .nil,pre,post,L,a,ha,hL=>rfl
 | .cons k p t x c r,pre,post,L,a,ha,hL=>by
  have AA:L=pre++⟨k,p,t,x,c.roots (a+1)⟩::(c.flat (a+1)++r.flat (a+1+c.size)++post):=by rw[hL,Fo.flat]; simp[List.append_assoc]
  have hr:=zJY r (pre++⟨k,p,t,x,c.roots (a+1)⟩::c.flat (a+1)) post L (a+1+c.size) (by simp[ha,vK]; omega) (by rw[AA]; simp[List.append_assoc])
  show TT.JI _ (a:Int)::TT.jY _ (xK (r.roots (a+1+c.size)))=(k:Int)::xK r.kinds
  rw[hr,AA,←ha,zJK]
theorem zFx {M:Nat}:∀(f:Fo) (pre post L:List Nd) (a:Nat),pre.length=a→L=pre++f.flat a++post→f.ok M→∀n ∈ f.flat a,TT.zE9 (L.map zAy) (zAy n)=true
 | .nil,pre,post,L,a,ha,hL,hk=>fun n hn=>by cases hn
 | .cons k p t x c r,pre,post,L,a,ha,hL,hk=>fun n hn=>by
  have AA:L=pre++⟨k,p,t,x,c.roots (a+1)⟩::(c.flat (a+1)++r.flat (a+1+c.size)++post):=by rw[hL,Fo.flat]; simp[List.append_assoc]
  have AB:L=(pre++[⟨k,p,t,x,c.roots (a+1)⟩])++c.flat (a+1)++(r.flat (a+1+c.size)++post):=by rw[AA]; simp[List.append_assoc]
  have AC:L=(pre++⟨k,p,t,x,c.roots (a+1)⟩::c.flat (a+1))++r.flat (a+1+c.size)++post:=by rw[AA]; simp[List.append_assoc]
  have hn:n ∈ (⟨k,p,t,x,c.roots (a+1)⟩:Nd)::(c.flat (a+1)++r.flat (a+1+c.size)):=hn
  rcases List.mem_cons.1 hn with rfl | hn
  ·obtain⟨h1,h2,h3,h4⟩:=hk.1.1;have AD:=zJY c _ _ L (a+1) (by simp[ha]) AB;unfold TT.zE9;have e1:(zAy ⟨k,p,t,x,c.roots (a+1)⟩).kids=xK (c.roots (a+1)):=rfl;have e2:(zAy ⟨k,p,t,x,c.roots (a+1)⟩).kind=(k:Int):=rfl;have e3:(zAy ⟨k,p,t,x,c.roots (a+1)⟩).num=x:=rfl
   have e4:(zAy ⟨k,p,t,x,c.roots (a+1)⟩).text.data.toList=t:=by simp[zAy,yX]
   rw[e1,e2,e3,e4,AD,h3,show TT.zAE (k:Int) (xK c.kinds)=true from h4,yP (by omega),yP (by omega)]
   rfl
  ·rcases List.mem_append.1 hn with hn | hn
   ·exact zFx c _ _ L (a+1) (by simp[ha]) AB hk.2.1 n hn
   ·exact zFx r _ _ L (a+1+c.size) (by simp[ha,vK]; omega) AC hk.2.2 n hn
theorem zIY {M:Nat}:∀(f:Fo) (a:Nat),f.ok M→∀n ∈ f.flat a,n.pos≤M
 | .nil,a,h=>fun n hn=>by cases hn
 | .cons k p t x c r,a,h=>fun n hn=>by
  have hn:n ∈ (⟨k,p,t,x,c.roots (a+1)⟩:Nd)::(c.flat (a+1)++r.flat (a+1+c.size)):=hn
  rcases List.mem_cons.1 hn with rfl | hn
  ·exact h.1.2
  ·rcases List.mem_append.1 hn with hn | hn
   ·exact zIY c _ h.2.1 n hn
   ·exact zIY r _ h.2.2 n hn
theorem zPz {M:Nat}(p:Nat)(t:Bs)(x:Int)(c:Fo)(h:(Fo.one 1 p t x c).ok M):TT.jT (((Fo.one 1 p t x c).flat 0).map zAy)=true:=by
 obtain⟨L,hL⟩:∃L,(Fo.one 1 p t x c).flat 0=L:=⟨_,rfl⟩
 have AE:L=[]++(Fo.one 1 p t x c).flat 0++[]:=by rw[hL]; simp
 have AC:L=[⟨1,p,t,x,c.roots 1⟩]++c.flat 1++[]:=by rw[←hL]; show _::(c.flat 1++[])=_; simp
 have AB:L.length=1+c.size:=by rw[←hL,vK]; rfl
 have he:TT.JO (TT.ZO (L.map zAy)) 0=some L.length:=by
  rw[TT.zBC,if_pos (by rw[zBJ]; omega)]
  have e:(TT.ZO (L.map zAy)).getD 0 []=xK (c.roots 1):=by
   rw[AC];exact zNl [] (c.flat 1++[]) ⟨1,p,t,x,c.roots 1⟩
  rw[e,zBJ,zHc c [⟨1,p,t,x,c.roots 1⟩] [] L 1 rfl AC,AB]
 have AF:TT.JI (L.map zAy) 0=1:=by
  rw[AC];exact zJK [] (c.flat 1++[]) ⟨1,p,t,x,c.roots 1⟩
 have AA:(TT.zAA (TT.ZO (L.map zAy))).isSome=true:=by
  cases hh:TT.zAA (TT.ZO (L.map zAy)) with
  | some Z=>rfl
  | none=>
   have:=TT.zK6 hh
   rw[zBJ] at this;exact absurd he this
 rw[hL];unfold TT.jT;rw[AA,AF,show TT.zBa (L.map zAy)=TT.zE9 (L.map zAy) from funext (TT.zNa _)]
 have AD:(L.map zAy).all (TT.zE9 (L.map zAy))=true:=by
  rw[zG];intro x hx;obtain⟨n,hn,rfl⟩:=List.mem_map.1 hx;exact zFx (Fo.one 1 p t _ c) [] [] L 0 rfl AE h n (by rw[hL]; exact hn)
 rw[AD]
 rfl
end Go.Proofs.YtioffpjajhalaaaGreatDoor
namespace Go.Proofs.YtioffpjajhalaaaGreatDoor
open Go Go.RowKit
def VP (L:List TT.xC):Nat→Fo→Prop
 | _,.nil=>True
 | a,.cons k p t x c r=>(∃n,L[a]?=some n∧n.kind=(k:Int)∧n.num=x∧n.text.data.toList=t∧n.kids=xK (c.roots (a+1)))∧VP L (a+1) c∧VP L (a+1+c.size) r
theorem zKk {L:List TT.xC}:∀(f:Fo) (a:Nat),VP L a f→TT.jY L (xK (f.roots a))=xK f.kinds
 | .nil,a,_=>rfl
 | .cons k p t x c r,a,h=>by
  obtain⟨⟨n,hn,hk,_⟩,_,hr⟩:=h
  show TT.JI L (a:Int)::TT.jY L (xK (r.roots (a+1+c.size)))=(k:Int)::xK r.kinds
  rw[zKk r _ hr]
  congr 1
  unfold TT.JI;rw[zH,hn];exact hk
theorem zJu {L:List TT.xC}(hnb:∀n ∈ L,TT.zE9 L n=true):∀(m:Nat) (ks:List Int) (a e:Nat),e≤a+m→TT.zA6 (TT.JO (TT.ZO L)) (TT.ZO L).length ks (some a)=some e→∃f:Fo,xK (f.roots a)=ks∧a+f.size=e∧VP L a f∧f.ok 0
 | m,[],a,e,hm,h=>by
  injection h with h;subst h;exact⟨.nil,rfl,rfl,trivial,trivial⟩
 | 0,k::r,a,e,hm,h=>by
  rw[TT.YJ] at h
  split at h
  ·rename_i hc
   cases he:TT.JO (TT.ZO L) a with
   | none=>rw[he,TT.JY] at h; cases h
   | some e1=>
    rw[he] at h;have h1:=TT.XA he;have h2:=TT.zEl (fun a e h=>TT.XA h) r e1 e h1.2 h;omega
  ·cases h
 | m+1,k::r,a,e,hm,h=>by
  rw[TT.YJ] at h
  split at h
  ·rename_i hc;obtain⟨ha,rfl⟩:=hc
   cases he:TT.JO (TT.ZO L) a with
   | none=>rw[he,TT.JY] at h; cases h
   | some e1=>
    rw[he] at h;have h1:=TT.XA he;have h2:=TT.zEl (fun a e h=>TT.XA h) r e1 e h1.2 h;rw[TT.zBC,if_pos ha] at he
    have AB:a<L.length:=by rw[TT.jC] at ha; exact ha
    obtain⟨c,c1,c2,c3,c4⟩:=zJu hnb m _ (a+1) e1 (by omega) he;obtain⟨s,s1,s2,s3,s4⟩:=zJu hnb m r e1 e (by omega) h;have hb:=hnb _ (yL AB);unfold TT.zE9 at hb;simp only[zF,zE] at hb;have AA:(L[a].kind.toNat:Int)=L[a].kind:=Int.toNat_of_nonneg (by omega)
    have AC:L[a].kids=xK (c.roots (a+1)):=by rw[c1,TT.zCr L a AB]
    refine⟨.cons L[a].kind.toNat 0 L[a].text.data.toList L[a].num c s,?_,?_,⟨⟨L[a],yG AB,AA.symm,rfl,rfl,AC⟩,c3,by rw[c2]; exact s3⟩,⟨⟨⟨by omega,by omega,?_,?_⟩,zU _⟩,c4,s4⟩⟩
    ·show(a:Int)::xK (s.roots (a+1+c.size))=_
     rw[c2,s1]
    ·show a+(1+c.size+s.size)=e
     omega
    ·rw[AA]; exact hb.2.2.1
    ·rw[AA]
     have:=hb.2.2.2
     rw[AC,zKk c _ c3] at this;exact this
  ·cases h
theorem zXb {L:List TT.xC}(h:TT.jT L=true):∃(t:Bs) (x:Int) (c:Fo),VP L 0 (Fo.one 1 0 t x c)∧(Fo.one 1 0 t x c).ok 0∧1+c.size=L.length:=by
 rw[TT.zEL] at h;unfold TT.zI4 at h;simp only[zF,zE,zN] at h;obtain⟨h0,h1,h2,h3,h4⟩:=h;have AA:=TT.jC L;obtain⟨f,f1,f2,f3,f4⟩:=zJu (L:=L) (fun n hn=>List.all_eq_true.1 h4 n hn) L.length [((0:Nat):Int)] 0 L.length (by omega) (by rw[TT.YJ,if_pos ⟨by rw[AA]; exact h0,rfl⟩,h3]; rfl)
 match f,f1,f2,f3,f4 with
 | .nil,f1,_,_,_=>cases f1
 | .cons k p t x c (.cons _ _ _ _ _ _),f1,_,_,_=>exact absurd (congrArg List.length f1) (by simp[Fo.roots,xK])
 | .cons k p t x c .nil,f1,f2,f3,f4=>
  have hk:k=1:=by
   obtain⟨⟨n,hn,hk,_⟩,_⟩:=f3
   have:TT.JI L 0=n.kind:=by unfold TT.JI; rw[show(0:Int).toNat=0 from rfl,hn]
   rw[h1] at this;omega
  have hp:p=0:=by have:=f4.1.2; omega
  subst hk hp;refine⟨t,x,c,f3,f4,?_⟩
  have:0+(1+c.size+0)=L.length:=f2
  omega
def vB (k:Nat):Nat:=if k=23∨k=24 then 1 else if k=25 then 2 else 3
def jL (least k:Nat)(s:Bs):Bs:=if vB k<least then [40]++s++[41] else s
def zAt (k:Nat)(t:Bs)(x:Int)(ls:List Bs)(kk:List Nat):Bs:=
 if k=20 then t++[91]++ls.getD 0 []++[93]
 else if k=21 then Lib.itoa x
 else if k=23 then jL 1 (kk.getD 0 0) (ls.getD 0 [])++[32,43,32]++jL 2 (kk.getD 1 0) (ls.getD 1 [])
 else if k=24 then jL 1 (kk.getD 0 0) (ls.getD 0 [])++[32,45,32]++jL 2 (kk.getD 1 0) (ls.getD 1 [])
 else if k=25 then jL 2 (kk.getD 0 0) (ls.getD 0 [])++[32,42,32]++jL 3 (kk.getD 1 0) (ls.getD 1 [])
 else if k=26 then [45]++jL 3 (kk.getD 0 0) (ls.getD 0 [])
 else t
def Fo.txt:Fo→List Bs
 | .nil=>[]
 | .cons k p t x c r=>zAt k t x c.txt c.kinds::r.txt
theorem zEZ:∀(f:Fo) (a:Nat),f.txt.length=(f.roots a).length
 | .nil,a=>rfl
 | .cons k p t x c r,a=>by
  show r.txt.length+1=(r.roots _).length+1
  rw[zEZ r (a+1+c.size)]
theorem zBi:∀(f:Fo) (a:Nat),f.kinds.length=(f.roots a).length
 | .nil,a=>rfl
 | .cons k p t x c r,a=>by
  show r.kinds.length+1=(r.roots _).length+1
  rw[zBi r (a+1+c.size)]
def Fo.wt:Fo→Nat
 | .nil=>0
 | .cons k p t x c r=>t.length+30+c.wt+r.wt
def zAD (l:List Bs):Nat:=(l.map List.length).sum
theorem zMM (l:List Bs):(l.getD 0 []).length+(l.getD 1 []).length≤zAD l:=by
 unfold zAD
 match l with
 | []=>simp
 | [a]=>simp
 | a::b::l=>simp
theorem YL (a b:Nat)(s:Bs):(jL a b s).length≤s.length+2:=by
 unfold jL
 split
 ·simp
 ·omega
theorem zGH {M:Nat}:∀(f:Fo),f.ok M→zAD f.txt≤f.wt
 | .nil,_=>zU _
 | .cons k p t x c r,h=>by
  have hc:=zGH c h.2.1;have hr:=zGH r h.2.2
  have hx:0≤x∧x≤TT.XP (k:Int):=by
   have:=h.1.1.2.2.1
   unfold TT.JR at this;simp only[zF,zE] at this;exact this.2.2
  have hm:TT.XP (k:Int)≤9223372036854775807:=by
   unfold TT.XP
   split
   ·decide
   ·split <;> decide
  have hi:=Lib.itoa_length_le x (by omega) (by omega);have hg:=zMM c.txt;have p1:=YL 1 (c.kinds.getD 0 0) (c.txt.getD 0 []);have p2:=YL 2 (c.kinds.getD 1 0) (c.txt.getD 1 []);have p3:=YL 2 (c.kinds.getD 0 0) (c.txt.getD 0 []);have p4:=YL 3 (c.kinds.getD 1 0) (c.txt.getD 1 []);have p5:=YL 3 (c.kinds.getD 0 0) (c.txt.getD 0 [])
  have ht:(zAt k t x c.txt c.kinds).length≤t.length+30+zAD c.txt:=by
   unfold zAt
   repeat' split
   all_goals try simp only[yM,zJ,zK]
   all_goals omega
  show(zAt k t x c.txt c.kinds).length+zAD r.txt≤t.length+30+c.wt+r.wt
  omega
end Go.Proofs.YtioffpjajhalaaaGreatDoor
