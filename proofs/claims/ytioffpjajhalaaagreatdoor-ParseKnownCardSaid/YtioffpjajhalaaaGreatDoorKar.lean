/- The program's Parse: what it does behind a panic, and behind none. (and what follows of it). The conditions stand at each lemma. -/
import Derived.Test.YtioffpjajhalaaaGreatDoorKaa
import Derived.Test.YtioffpjajhalaaaGreatDoorKaq
import Derived.Recover
import Derived.Defers
import Derived.Test.YtioffpjajhalaaaGreatDoorKaf
import Derived.Lib.ConvBytes
set_option linter.unusedVariables false
set_option linter.unusedSimpArgs false
set_option maxRecDepth 100000
set_option maxHeartbeats 16000000
namespace Go.Proofs.YtioffpjajhalaaaGreatDoor
open Go Go.RowKit
theorem zG3:∀(f p:Nat) (s:Bs) (l:List Tok),zBs f p s=.ok l→∃m e,l=m++[e]∧e.kind=4
 | 0,p,s,l,h=>by cases h
 | f+1,p,s,l,h=>by
  unfold zBs at h
  split at h
  ·injection h with h;subst h;exact⟨[],_,rfl,rfl⟩
  ·exact zG3 f _ _ l h
  ·rename_i kd k n hs
   cases hr:zBs f (p+k) (s.drop k) with
   | err a e=>rw[hr] at h; cases h
   | ok m=>
    rw[hr] at h;obtain⟨m',e,rfl,he⟩:=zG3 f _ _ m hr;injection h with h;subst h;exact⟨_::m',e,rfl,he⟩
  ·cases h
theorem zHm:∀(f p:Nat) (s:Bs) (l:List Tok),s.length<f→zBs f p s=.ok l→l.length≤s.length+1∧∀t ∈ l,t.at_≤p+s.length
 | 0,p,s,l,hf,h=>by cases h
 | f+1,p,s,l,hf,h=>by
  have hw:=zAe s;unfold zBs at h
  split at h
  ·injection h with h;subst h;refine⟨by simp,fun t ht=>?_⟩;rw[List.mem_singleton.1 ht]
   simp
  ·rename_i k hs;rw[hs] at hw;obtain⟨h1,h2⟩:1≤k∧k≤s.length:=hw;have hl:(s.drop k).length=s.length-k:=List.length_drop;obtain⟨r1,r2⟩:=zHm f _ _ l (by omega) h;exact⟨by omega,fun t ht=>by have:=r2 t ht; omega⟩
  ·rename_i kd k n hs;rw[hs] at hw;obtain⟨h1,h2⟩:1≤k∧k≤s.length:=hw;have hl:(s.drop k).length=s.length-k:=List.length_drop
   cases hr:zBs f (p+k) (s.drop k) with
   | err a e=>rw[hr] at h; cases h
   | ok m=>
    rw[hr] at h;injection h with h;subst h;obtain⟨r1,r2⟩:=zHm f _ _ m (by omega) hr;refine⟨by simp only[zJ]; omega,fun t ht=>?_⟩
    rcases List.mem_cons.1 ht with rfl | ht
    ·show p≤p+s.length; omega
    ·have:=r2 t ht; omega
  ·cases h
theorem zFo {l:Bs}{ts:List Tok}(h:YJ 0 l=.ok ts):(∃m e,ts=m++[e]∧e.kind=4)∧ts.length≤l.length+1∧∀t ∈ ts,t.at_≤l.length:=by
 obtain⟨h1,h2⟩:=zHm _ 0 l ts (Nat.lt_succ_self _) h;exact⟨zG3 _ 0 l ts h,h1,fun t ht=>by have:=h2 t ht; omega⟩
theorem zSh {a n:Nat}(h:a≤n):atN a n=a:=by unfold atN; omega
theorem zKo (v:Value)(w:World):(Instr.typeAssert (.iface 54 v) 20 54 false).run Tryz.prog w=.ok v w:=by kernel_rfl
theorem zNt (w:World)(p gs gp gt ge:Nat)(l:Bs)(A:Option Addr)(c:Nat)(s:Ps)(R:vC)(er:Int)(her:er≠0)(hbig:l.length≤140737488355328)(hcap:l.length≤c)(hC:Cells w A (xL l))(hT:TS w p s R)(AC:s.hd.at_≤l.length)
  (hs:Blk w gs 22 #[.slice A l.length c]) (hp:Blk w gp 73 #[.pointer (some ⟨p,0,none⟩)]) (ht:Blk w gt 39 #[.slice none 0 0]) (he:Blk w ge 25 #[.nilIface]) (hne:gt≠ge) :
  CallsD Tryz.prog 37 #[.pointer (some ⟨gs,0,none⟩),.pointer (some ⟨gp,0,none⟩),.pointer (some ⟨gt,0,none⟩),.pointer (some ⟨ge,0,none⟩)] (.panicking ({ v:=.iface 54 (.int .i64 er),recovered:=false } :: [])) w fun e u' w'=>
   e=.returned (.tuple #[])∧u'=.panicking ({ v:=.iface 54 (.int .i64 er),recovered:=true } :: [])∧∃g w1,Ext w w1∧w.heap.size≤g∧Blk w1 g 110 #[.int .i64 (s.hd.at_:Int),.int .i64 (zGj l s.hd.at_),.int .i64 (zLI l s.hd.at_),.int .i64 er]∧w'=(w1.setCell ⟨gt,0,none⟩ (.slice none 0 0)).setCell ⟨ge,0,none⟩ (.iface 107 (.pointer (some ⟨g,0,none⟩))):=by
 have HT:=yE hT;have HC:=yE hC;have AE:=yE AC;have HS:=yE hs;have HP:=yE hp;have AF:=yE ht;have AG:=yE he;have HN:=yE her;have AD:=yE hbig;have AK:=yE hcap;have AL:=zLp;have AJ:=zKo;clear hT hC AC hs hp ht he her hbig hcap;refine callsD_of_wpS Tryz.func37 rfl fun c₀ cs hu=>?_;apply wpS_seq;apply wpS_region;simp[wpOpsS,go_sem,recoverD,hu,Tryz.ntmps37,Exit.thenS];refine wpS_of_wp ?_;simp[Array.replicate]
 go_upto_region 2 with fail
 have AP:=HS.out.lt;have AR:=HP.out.lt;have AH:Hid (∀w',Ext w w'→TS w' p s R):=yE fun w' hx=>⟨HT.out.blk.ext hx,fun j hj=>(hx.cell (p:=⟨R.bt,R.ot+j,none⟩) HT.out.btl).trans (HT.out.tok j hj),yS HT.out.btl hx.size,HT.out.pos⟩;apply jJ 8 (by kernel_rfl) (by kernel_rfl) (by kernel_rfl);dsimp only[List.take_succ_cons,List.take_zero,List.drop_succ_cons,List.drop_zero];apply sQ (.agg #[.slice none 0 0]);apply xN (.slice A l.length c) rfl rfl rfl
 ·intro w' AA hH;have cc:=(AA.cell (p:=⟨gs,0,none⟩) AP).trans (HS.out.cell 0);clear hH AA;simp[xH,go_sem,cc];exact Ext.refl _
 apply xN (.pointer (some ⟨p,0,none⟩)) rfl rfl rfl
 ·intro w' AA hH;have cc:=(AA.cell (p:=⟨gp,0,none⟩) AR).trans (HP.out.cell 0);clear hH AA;simp[xH,go_sem,cc];exact Ext.refl _
 (try simp only[Act.put,yB,yC,yD]);apply xN (.agg (xS s.hd).toArray) rfl rfl rfl
 ·intro w' AA hH;have ht:=AH.out w' AA;clear hH;simp[xH,go_sem];refine(ZP w' p s R ht).mono ?_;rintro e w2 ⟨rfl,hx⟩;exact⟨_,rfl,rfl,hx⟩
 apply xN (.int .i64 (s.hd.at_:Int)) rfl rfl rfl
 ·intro w' AA hH;clear hH AA;unfold xS;simp[xH,go_sem,AL];exact Ext.refl _
 apply sQ (.iface 54 (.int .i64 er));apply sP AJ (.int .i64 er);apply ZK (fun v w'=>∃g,v=.iface 107 (.pointer (some ⟨g,0,none⟩))∧w.heap.size≤g∧Blk w' g 110 #[.int .i64 (s.hd.at_:Int),.int .i64 (zGj l s.hd.at_),.int .i64 (zLI l s.hd.at_),.int .i64 er]) (fun v w w' h hx=>let ⟨g,a,b,c⟩:=h; ⟨g,a,b,c.ext hx⟩) rfl rfl rfl
 ·intro w' AA hH;have AQ:=HC.out.ext AA;have AO:=AA.size;have AC:=AE.out;have AT:=AD.out;clear hH;simp[xH,go_sem];refine(zMm A l l.length c (s.hd.at_:Int) er w' rfl AD.out AK.out (by omega) (by omega) AQ HN.out).mono ?_;rintro e w2 ⟨g,rfl,hg,hb,hx⟩;rw[zSh AE.out] at hb;exact⟨_,rfl,⟨g,rfl,Nat.le_trans AO hg,hb⟩,hx⟩
 intro AS;(try simp only[Act.put,yB,yC,yD]);apply ZQ;intro w2 AB hH;obtain⟨g,rfl,hg,hb⟩:=hH _ (List.mem_cons_self ..);have AI:=yE AB;have AM:=yE hb;have AN:=yE hg;have ct:=(AF.out.ext AB).cell 0;have zt:=(AF.out.ext AB).frozen 0;have ce:=(AG.out.ext AB).cell 0;have ze:=(AG.out.ext AB).frozen 0;simp only[yJ,yK] at ct ce;clear hH hb hg AB
 go_wp2_with fail
 simp[bodyPostS,results,Tryz.results37];exact⟨g,w2,AI.out,AN.out,AM.out,rfl⟩
theorem zOy (w:World)(args:Array Value)(h4:args.size=4) :
  CallsD Tryz.prog 37 args .returning w fun e u' w'=>e=.returned (.tuple #[])∧u'=.returning∧w'=w:=by
 refine callsD_of_wpS Tryz.func37 rfl fun c₀ cs hu=>?_;obtain⟨l,rfl⟩:∃l:List Value,args=l.toArray:=⟨args.toList,by simp⟩
 obtain⟨a,b,c,d,rfl⟩:∃a b c d,l=[a,b,c,d]:=by
  match l,h4 with
  | [a,b,c,d],_=>exact⟨a,b,c,d,rfl⟩
 apply wpS_seq;apply wpS_region;simp[wpOpsS,go_sem,recoverD,hu,Tryz.ntmps37,Exit.thenS];refine wpS_of_wp ?_;simp[Array.replicate]
 go_wp2_with fail
 cases c₀
 simp_all [bodyPostS,results,Tryz.results37]
def jU (l:Bs):zGS:=match XS l with
 | .ok ts=>XF ts
 | .err p e=>.err p e
def zGW (l:Bs)(w:World)(r:zGS)(e:Ending)(w':World):Prop:=Ext w w'∧match r with
 | .ok nd=>∃A c nh,e=.returned (.tuple #[.agg #[.slice A nh.length c],.nilIface])∧nd=nh.map Prod.fst∧NS w' w.heap.size 48 3 A c nh
 | .err a er=>∃g,e=.returned (.tuple #[.agg #[.slice none 0 0],.iface 107 (.pointer (some ⟨g,0,none⟩))])∧w.heap.size≤g∧Blk w' g 110 #[.int .i64 (a:Int),.int .i64 (zGj l a),.int .i64 (zLI l a),.int .i64 er]
theorem NS.nil (w:World)(B:Nat)(tn ti:TypeId):NS w B tn ti none 0 []:=⟨zP _ _ _ _,fun x hx=>(by cases hx),fun i j hi=>(by cases hi),fun _=>rfl,fun x hx=>(by cases hx)⟩
theorem Ext.set {w w1:World}(h:Ext w w1){g i:Nat}{u:Value}(hg:w.heap.size≤g):Ext w (w1.setCell ⟨g,i,none⟩ u):=
 ⟨h.os,h.tape,h.output,by have:=h.size; simp[World.setCell]; omega,fun b hb=>(zQ w1 ⟨g,i,none⟩ u b (fun e=>by subst e; exact absurd hb (Nat.not_lt.2 hg))).trans (h.block b hb)⟩
theorem zLU (A:Option Addr)(l:Bs)(n c:Nat)(w:World)(hn:n=l.length)(hbig:l.length≤140737488355328)(hcap:l.length≤c)(hnil:A=none→c=0)(h:Cells w A (xL l))(a:Nat)(er:Int)(hl:XS l=.err a er) :
  Calls Tryz.prog 16 #[.slice A n c] w (zGW l w (.err a er)):=by
 subst hn;have HC:=yE h;have HL:=yE hl;obtain⟨W0,AA⟩:∃W0,Hid (((w.alloc (.cells #[.slice A l.length c] 22)).alloc (.cells #[.slice none 0 0] 39)).alloc (.cells #[.nilIface] 25)=W0):=⟨_,yE rfl⟩;have AE:Hid (Ext w W0):=yE (by rw[←AA.out]; exact((Ext.alloc _ _).trans (Ext.alloc _ _)).trans (Ext.alloc _ _));have AO:Hid (Blk W0 w.heap.size 22 #[.slice A l.length c]):=yE (by rw[←AA.out]; exact((Blk.new _ _ _).alloc _).alloc _)
 have AN:Hid (Blk W0 (w.heap.size+1) 39 #[.slice none 0 0]):=yE (by
  have:=(Blk.new (w.alloc (.cells #[.slice A l.length c] 22)) 39 #[.slice none 0 0]).alloc (.cells #[.nilIface] 25)
  rw[←AA.out]
  simpa using this)
 have AF:Hid (Blk W0 (w.heap.size+1+1) 25 #[.nilIface]):=yE (by
  have:=Blk.new ((w.alloc (.cells #[.slice A l.length c] 22)).alloc (.cells #[.slice none 0 0] 39)) 25 #[.nilIface]
  rw[←AA.out]
  simpa using this)
 have AL:=yE (zDV A l l.length c W0 rfl hbig hcap hnil (h.ext AE.out));clear h hl
 go_enter_defers Tryz.func16,Tryz.ntmps16
 have AI:W0.cell? ⟨w.heap.size,0,none⟩=some (.slice A l.length c):=AO.out.cell 0
 go_upto_region 1 with fail
 rw[AA.out]
 go_wp2_with fail
 refine AL.out.mono ?_;rw[HL.out];rintro e w1 ⟨AB,g,rfl,hg,hb⟩;have AM:=yE (AE.out.trans AB);have AK:=yE hb;have AJ:=yE (Nat.le_trans AE.out.size hg);have AD:=yE (AN.out.ext AB);have AC:=yE (AF.out.ext AB);have c1:w1.cell? ⟨w.heap.size+1,0,none⟩=some (.slice none 0 0):=AD.out.cell 0;have z1:=AD.out.frozen 0;have c2:w1.cell? ⟨w.heap.size+1+1,0,none⟩=some .nilIface:=AC.out.cell 0;have z2:=AC.out.frozen 0;have AP:=yE (yS AF.out.lt (zU _));have AG:Hid (g≠w.heap.size+1∧g≠w.heap.size+1+1):=yE (by have h1:=AF.out.lt; omega);clear AB hb hg AI
 go_wp2_with fail
 go_region
 go_wp2_with fail
 have AH:=yE ((((AM.out.set (u:=.iface 107 (.pointer (some ⟨g,0,none⟩))) (i:=0) (g:=w.heap.size+1+1) (by omega)).set (u:=.slice none 0 0) (i:=0) (g:=w.heap.size+1) (by omega)).set (u:=.iface 107 (.pointer (some ⟨g,0,none⟩))) (i:=0) (g:=w.heap.size+1+1) (by omega)).trans (Below.drew (Below.refl _ _)));have hE:=(((AC.out.put 0 (.iface 107 (.pointer (some ⟨g,0,none⟩)))).far (p:=⟨w.heap.size+1,0,none⟩) (by simp) (.slice none 0 0)).put 0 (.iface 107 (.pointer (some ⟨g,0,none⟩)))).ext (Below.drew (Below.refl _ _));have hT:=(((AD.out.far (p:=⟨w.heap.size+1+1,0,none⟩) (by simp) (.iface 107 (.pointer (some ⟨g,0,none⟩)))).put 0 (.slice none 0 0)).far (p:=⟨w.heap.size+1+1,0,none⟩) (by simp) (.iface 107 (.pointer (some ⟨g,0,none⟩)))).ext (Below.drew (Below.refl _ _));have hB:=(((AK.out.far (p:=⟨w.heap.size+1+1,0,none⟩) AG.out.2 (.iface 107 (.pointer (some ⟨g,0,none⟩)))).far (p:=⟨w.heap.size+1,0,none⟩) AG.out.1 (.slice none 0 0)).far (p:=⟨w.heap.size+1+1,0,none⟩) AG.out.2 (.iface 107 (.pointer (some ⟨g,0,none⟩)))).ext (Below.drew (Below.refl _ _));generalize (((w1.setCell ⟨w.heap.size+1+1,0,none⟩ (.iface 107 (.pointer (some ⟨g,0,none⟩)))).setCell ⟨w.heap.size+1,0,none⟩ (.slice none 0 0)).setCell ⟨w.heap.size+1+1,0,none⟩ (.iface 107 (.pointer (some ⟨g,0,none⟩)))).drew=W at *;have e0:W.cell? ⟨w.heap.size+1+1,0,none⟩=some (.iface 107 (.pointer (some ⟨g,0,none⟩))):=hE.cell 0;have t0:W.cell? ⟨w.heap.size+1,0,none⟩=some (.slice none 0 0):=hT.cell 0
 exact⟨.tuple #[.agg #[.slice none 0 0],.iface 107 (.pointer (some ⟨g,0,none⟩))],by simp[results,Tryz.results16,go_sem,e0,t0],AH.out,g,rfl,AJ.out,hB⟩
theorem zKG {w:World}{B N:Nat}{t:TypeId}{sz n:Nat}{v:Value}{xs:List Value}(h:w.ownsRow B t sz v n xs)(hN:N≤B):w.ownsRow N t sz v n xs:=by
 refine⟨h.1,?_⟩
 rcases h.2 with hn | ⟨g,AA,AB,hv,hb,r⟩
 ·exact .inl hn
 ·exact .inr ⟨g,AA,AB,hv,Nat.le_trans hN hb,r⟩
theorem NS.lower {w:World}{B N:Nat}{tn ti:TypeId}{A:Option Addr}{c:Nat}{nh:List (Nd × Hd2)}(h:NS w B tn ti A c nh)(hN:N≤B):NS w N tn ti A c nh:=⟨zKG h.row hN,fun x hx=>zKG (h.kids x hx) hN,h.apart,h.rz,h.kz⟩
theorem zK2 {w w':World}{N M:Nat}(h:Below N w w')(hM:M≤N):Below M w w':=⟨h.os,h.tape,h.output,h.size,fun b hb=>h.block b (yS hb hM)⟩
theorem zEB {w w':World}{N g:Nat}{t:TypeId}{cs:Array Value}(h:Below N w w')(hg:g<N)(hb:Blk w g t cs):Blk w' g t cs:=(h.block g hg).trans hb
theorem zRC (A:Option Addr)(l:Bs)(n c:Nat)(w:World)(hn:n=l.length)(hbig:l.length≤65536)(hcap:l.length≤c)(hnil:A=none→c=0)(h:Cells w A (xL l))(ts:List Tok)(hl:XS l=.ok ts)(hl2:YJ 0 l=.ok ts) :
  Calls Tryz.prog 16 #[.slice A n c] w (zGW l w (XF ts)):=by
 subst hn;have HC:=yE h;have HL:=yE hl;have AH:=yE (zFo hl2);have Ao:=yE hbig;have BT:=yE hcap;obtain⟨W0,AK⟩:∃W0,Hid (((w.alloc (.cells #[.slice A l.length c] 22)).alloc (.cells #[.slice none 0 0] 39)).alloc (.cells #[.nilIface] 25)=W0):=⟨_,yE rfl⟩;have Ai:Hid (Ext w W0):=yE (by rw[←AK.out]; exact((Ext.alloc _ _).trans (Ext.alloc _ _)).trans (Ext.alloc _ _));have Ag:Hid (Blk W0 w.heap.size 22 #[.slice A l.length c]):=yE (by rw[←AK.out]; exact((Blk.new _ _ _).alloc _).alloc _)
 have Ar:Hid (Blk W0 (w.heap.size+1) 39 #[.slice none 0 0]):=yE (by
  have:=(Blk.new (w.alloc (.cells #[.slice A l.length c] 22)) 39 #[.slice none 0 0]).alloc (.cells #[.nilIface] 25)
  rw[←AK.out]
  simpa using this)
 have Ab:Hid (Blk W0 (w.heap.size+1+1) 25 #[.nilIface]):=yE (by
  have:=Blk.new ((w.alloc (.cells #[.slice A l.length c] 22)).alloc (.cells #[.slice none 0 0] 39)) 25 #[.nilIface]
  rw[←AK.out]
  simpa using this)
 have BF:=yE (zDV A l l.length c W0 rfl (by omega) hcap hnil (h.ext Ai.out));have hm:=hmf;clear h hl hl2 hnil hcap hbig
 go_enter_defers Tryz.func16,Tryz.ntmps16
 have Aj:W0.cell? ⟨w.heap.size,0,none⟩=some (.slice A l.length c):=Ag.out.cell 0
 go_upto_region 1 with fail
 rw[AK.out];obtain⟨g0,Ad⟩:∃g0,Hid (w.heap.size=g0):=⟨_,yE rfl⟩;rw[Ad.out] at Aj Ag Ar Ab ⊢
 go_wp2_with fail
 refine BF.out.mono ?_;rw[HL.out];rintro e w1 ⟨AG,A',c',rfl,hz,hr⟩
 have Ah:0<ts.length:=by
  obtain⟨⟨m,e,hm,_⟩,_⟩:=AH.out;rw[hm]
  simp
 obtain⟨bt,rfl⟩:∃bt,A'=some ⟨bt,0,none⟩:=by
  rcases zCJ hr with e | e
  ·exfalso
   rw[e] at hr
   rcases hr.2 with ⟨_,h0⟩ | ⟨g,_,_,hv,_⟩
   ·omega
   ·cases hv
  ·exact e
 have Au:=YP hr rfl;have BA:=yE Au;have HR:=yE hr
 have Am:ts.length≤c':=by
  rcases hr.2 with ⟨hv,_⟩ | ⟨g,Ba,Bc,hv,_,_,Bb,_⟩
  ·cases hv
  ·injection hv with _ _ e; omega
 have BC:=yE Am;have BW:=yE (Ai.out.trans AG);have A4:=yE AG;have BD:=yE (Ag.out.ext AG);have BQ:=yE (Ar.out.ext AG);have AS:=yE (Ab.out.ext AG);have BK:Hid (g0+1+1<W0.heap.size∧W0.heap.size≤w1.heap.size):=yE ⟨Ab.out.lt,AG.size⟩;have c2:w1.cell? ⟨g0+1+1,0,none⟩=some .nilIface:=AS.out.cell 0;have z2:=AS.out.frozen 0;have BI:=AS.out.lt;clear AG hr hz Au Am Ah Aj
 go_wp2_with fail
 obtain⟨wS,AI⟩:∃wS,Hid (w1.setCell ⟨g0+1+1,0,none⟩ .nilIface=wS):=⟨_,yE rfl⟩
 have AN:wS.heap.size=w1.heap.size:=by rw[←AI.out]; simp[World.setCell]
 have AQ:∀b,b≠g0+1+1→wS.heap[b]?=w1.heap[b]?:=fun b hb=>by rw[←AI.out]; exact zQ w1 ⟨g0+1+1,0,none⟩ _ b hb
 have Ap:Blk wS (g0+1+1) 25 #[.nilIface]:=by rw[←AI.out]; exact AS.out.put 0 .nilIface
 have A1:Ext w wS:=by rw[←AI.out]; exact BW.out.set (by have:=Ad.out; omega)
 rw[AI.out];obtain⟨W4,AL⟩:∃W4,Hid ((wS.alloc (.cells #[.slice (some ⟨bt,0,none⟩) ts.length c',.slice none 0 0,.int .i64 0] 75)).alloc (.cells #[.pointer (some ⟨w1.heap.size,0,none⟩)] 73)=W4):=⟨_,yE rfl⟩;have AJ:Hid (Ext wS W4):=yE (by rw[←AL.out]; exact(Ext.alloc _ _).trans (Ext.alloc _ _))
 have Af:Blk W4 w1.heap.size 75 #[.slice (some ⟨bt,0,none⟩) ts.length c',.slice none 0 0,.int .i64 0]:=by
  have:=(Blk.new wS 75 #[.slice (some ⟨bt,0,none⟩) ts.length c',.slice none 0 0,.int .i64 0]).alloc (.cells #[.pointer (some ⟨w1.heap.size,0,none⟩)] 73)
  rw[←AL.out,←AN];rw[←AN] at this;exact this
 have AZ:Blk W4 (w1.heap.size+1) 73 #[.pointer (some ⟨w1.heap.size,0,none⟩)]:=by
  have:=Blk.new (wS.alloc (.cells #[.slice (some ⟨bt,0,none⟩) ts.length c',.slice none 0 0,.int .i64 0] 75)) 73 #[.pointer (some ⟨w1.heap.size,0,none⟩)]
  rw[←AL.out]
  simpa [AN] using this
 have A0:=Ad.out;have Ae:=BA.out;have BE:=BK.out;have At:Blk W4 g0 22 #[.slice A l.length c]:=Blk.ext ((AQ g0 (by omega)).trans BD.out) AJ.out;have As:Blk W4 (g0+1) 39 #[.slice none 0 0]:=Blk.ext ((AQ (g0+1) (by omega)).trans BQ.out) AJ.out;have Ax:Blk W4 (g0+1+1) 25 #[.nilIface]:=Ap.ext AJ.out;have An:Ext w W4:=A1.trans AJ.out
 have A2:PS W4 w1.heap.size w1.heap.size ⟨ts,[],0⟩ ⟨bt,0,c',none,0,[]⟩:=by
  refine⟨Af,fun k hk=>?_,BC.out,Ae.2,rfl,NS.nil _ _ _ _,zU _,⟨AH.out.1,zT _⟩⟩;have h1:=HR.out.cellAt k (by exact hk);rw[←h1,Nat.zero_add];refine World.cell?_of_block (w:=w1) (a:=⟨bt,k,none⟩) ((AJ.out.block bt ?_).trans (AQ bt ?_))
  ·rw[AN]; exact Ae.2
  ·show bt≠_; omega
 have AD:Good ⟨ts,[],0⟩:=⟨AH.out.1,zT _,fun n hn=>by cases hn⟩
 have AO:(⟨ts,[],0⟩:Ps).phi≤999999:=by
  have h1:=AH.out.2.1;have h2:=Ao.out
  show 0+2*ts.length≤_
  omega
 have BN:=yE (zMe W4 w1.heap.size w1.heap.size ⟨ts,[],0⟩ ⟨bt,0,c',none,0,[]⟩ A2 AD rfl AO);have AY:=yE (zMX (s:=⟨ts,[],0⟩) AH.out.1);have A3:=yE At;have Aq:=yE As;have Al:=yE Ax;have Ay:=yE AZ;have AX:=yE An;have BM:Hid (w1.heap.size<W4.heap.size):=yE Af.lt;have AA:Hid (w.heap.size=g0∧g0+1+1<w1.heap.size):=yE ⟨A0,by omega⟩
 have Az:Hid (∀w' R',yZ W4 (xO w1.heap.size ⟨bt,0,c',none,0,[]⟩) w' (xO w1.heap.size R')→Below w1.heap.size W4 w'∧w'.heap[w1.heap.size+1]?=W4.heap[w1.heap.size+1]?):=yE fun w' R' h=>by
  have hm:∀b,xO w1.heap.size ⟨bt,0,c',none,0,[]⟩ b→b=w1.heap.size:=fun b hb=>by
   rcases hb with hb | hb | hb
   ·exact hb
   ·cases hb
   ·cases hb
  exact⟨⟨h.os,h.tape,h.output,h.size,fun b hb=>h.VS b (by have:=BM.out; omega) (fun k=>by have:=hm b k; omega)⟩,h.VS _ AZ.lt (fun k=>by have:=hm _ k; omega)⟩
 rw[AL.out];clear A1 Ap AQ AN Af AZ At As Ax An A2 AD AO AI AL AJ c2 z2 BI A0 Ae BE;generalize hpp:w1.heap.size=p at *;clear hpp;refine BN.out.mono ?_;intro e w5 AB
 cases hq:zDO ⟨ts,[],0⟩ with
 | ok a s5=>
  have Aa:Hid (XF ts=.ok s5.nd):=yE (by unfold XF; rw[hq]);rw[hq] at AB;obtain⟨rfl,R5,AR,Aw⟩:=AB;obtain⟨AC,AP⟩:=Az.out _ _ Aw;have AU:=yE AR;have A8:=yE AC;have cg:w5.cell? ⟨p+1,0,none⟩=some (.pointer (some ⟨p,0,none⟩)):=Blk.cell (show Blk w5 (p+1) 73 _ from AP.trans Ay.out) 0;have x1:=AR.x1;have AF:=zEB AC (by have:=AA.out; omega) Aq.out;have AE:=zEB AC (by have:=AA.out; omega) Al.out;have BU:=yE AF;have BO:=yE AE;have t0:w5.cell? ⟨g0+1,0,none⟩=some (.slice none 0 0):=AF.cell 0;have e0:w5.cell? ⟨g0+1+1,0,none⟩=some .nilIface:=AE.cell 0;have tz:=AF.frozen 0;have ez:=AE.frozen 0;have BZ:=AR.blk.lt;clear hq AR Aw AC AP AF AE
  go_wp2_with fail
  have BP:Hid (Ext w ((w5.setCell ⟨g0+1,0,none⟩ (.slice R5.A R5.nh.length R5.c)).setCell ⟨g0+1+1,0,none⟩ .nilIface)):=yE (((show Ext w w5 from Below.trans AX.out (zK2 A8.out (by have:=AA.out; omega))).set (by have:=AA.out; omega)).set (by have:=AA.out; omega))
  have BL:Hid (NS ((w5.setCell ⟨g0+1,0,none⟩ (.slice R5.A R5.nh.length R5.c)).setCell ⟨g0+1+1,0,none⟩ .nilIface) w.heap.size 48 3 R5.A R5.c R5.nh):=yE ((AU.out.ns.VS fun b hb=>by
   have h1:=(AU.out.ns.zBM hb).1;have h2:=AA.out
   rw[zQ _ ⟨g0+1+1,0,none⟩ _ b (by show b≠g0+1+1; omega),zQ _ ⟨g0+1,0,none⟩ _ b (by show b≠g0+1; omega)]).lower (by have:=AA.out; omega))
  have AW:=(BU.out.put 0 (.slice R5.A R5.nh.length R5.c)).far (p:=⟨g0+1+1,0,none⟩) (by simp) .nilIface;have AV:=(BO.out.far (p:=⟨g0+1,0,none⟩) (by simp) (.slice R5.A R5.nh.length R5.c)).put 0 .nilIface;generalize (w5.setCell ⟨g0+1,0,none⟩ (.slice R5.A R5.nh.length R5.c)).setCell ⟨g0+1+1,0,none⟩ .nilIface=W6 at *;have t6:W6.cell? ⟨g0+1,0,none⟩=some (.slice R5.A R5.nh.length R5.c):=AW.cell 0;have e6:W6.cell? ⟨g0+1+1,0,none⟩=some .nilIface:=AV.cell 0;refine leaves_cons (f:=37) (args:=#[.pointer (some ⟨g0,0,none⟩),.pointer (some ⟨p+1,0,none⟩),.pointer (some ⟨g0+1,0,none⟩),.pointer (some ⟨g0+1+1,0,none⟩)]) (by simp) (by simp[go_sem]) ?_;refine(zOy W6 _ rfl).mono ?_;rintro e u' BS ⟨rfl,rfl,rfl⟩;refine⟨.tuple #[.agg #[.slice R5.A R5.nh.length R5.c],.nilIface],by simp[results,Tryz.results16,go_sem,t6,e6],?_⟩;rw[Aa.out];exact⟨BP.out,R5.A,R5.c,R5.nh,rfl,AU.out.nodes,BL.out⟩
 | err er a=>
  have Aa:Hid (XF ts=.err a er):=yE (by unfold XF; rw[hq]);have AM:=AY.out;rw[hq] at AB AM;obtain⟨rfl,s6,Ak,R6,A6,BG⟩:=AB;obtain⟨BV,t,ht,BR⟩:=AM;obtain⟨AC,AP⟩:=Az.out _ _ BG
  have BJ:a≤l.length:=by rw[←BR.1]; exact AH.out.2.2 t ht
  have A7:er≠0:=by rcases BV with h | h <;> (rw[h]; decide)
  have AF:=zEB AC (by have:=AA.out; omega) Aq.out;have AE:=zEB AC (by have:=AA.out; omega) Al.out;have A9:=zEB AC (by have:=AA.out; omega) A3.out;have BH:Blk w5 (p+1) 73 #[.pointer (some ⟨p,0,none⟩)]:=AP.trans Ay.out;have BY:=AX.out.size;have BB:=AA.out;have Ac:Ext w w5:=Below.trans AX.out (zK2 AC (by omega));refine leaves_cons (f:=37) (args:=#[.pointer (some ⟨g0,0,none⟩),.pointer (some ⟨p+1,0,none⟩),.pointer (some ⟨g0+1,0,none⟩),.pointer (some ⟨g0+1+1,0,none⟩)]) (by simp) (by simp[go_sem]) ?_;refine(zNt w5 p g0 (p+1) (g0+1) (g0+1+1) l A c s6 R6 er A7 (by have:=Ao.out; omega) BT.out (HC.out.ext Ac) A6.ts (by rw[Ak]; exact BJ) A9 BH AF AE (by omega)).mono ?_;rintro e u' BS ⟨rfl,rfl,g,w6,AT,hg,Av,rfl⟩;rw[Ak] at Av;have h1:=AT.size;have h2:=Ac.size;have h3:=AF.lt;have h4:=AE.lt;have AW:=((AF.ext AT).put 0 (.slice none 0 0)).far (p:=⟨g0+1+1,0,none⟩) (by simp) (.iface 107 (.pointer (some ⟨g,0,none⟩)));have AV:=((AE.ext AT).far (p:=⟨g0+1,0,none⟩) (by simp) (.slice none 0 0)).put 0 (.iface 107 (.pointer (some ⟨g,0,none⟩)));have A5:=(Av.far (p:=⟨g0+1,0,none⟩) (by show g≠g0+1; omega) (.slice none 0 0)).far (p:=⟨g0+1+1,0,none⟩) (by show g≠g0+1+1; omega) (.iface 107 (.pointer (some ⟨g,0,none⟩)));have BX:=((Ac.trans AT).set (u:=.slice none 0 0) (i:=0) (g:=g0+1) (by omega)).set (u:=.iface 107 (.pointer (some ⟨g,0,none⟩))) (i:=0) (g:=g0+1+1) (by omega)
  generalize (w6.setCell ⟨g0+1,0,none⟩ (.slice none 0 0)).setCell ⟨g0+1+1,0,none⟩ (.iface 107 (.pointer (some ⟨g,0,none⟩)))=W6 at *;have t6:W6.cell? ⟨g0+1,0,none⟩=some (.slice none 0 0):=AW.cell 0;have e6:W6.cell? ⟨g0+1+1,0,none⟩=some (.iface 107 (.pointer (some ⟨g,0,none⟩))):=AV.cell 0;refine⟨.tuple #[.agg #[.slice none 0 0],.iface 107 (.pointer (some ⟨g,0,none⟩))],by simp[results,Tryz.results16,go_sem,t6,e6],?_⟩;rw[Aa.out];exact⟨BX,g,rfl,by omega,A5⟩
theorem zLs (A:Option Addr)(l:Bs)(n c:Nat)(w:World)(hn:n=l.length)(hbig:l.length≤140737488355328)(hcap:l.length≤c)(hnil:A=none→c=0)(h:Cells w A (xL l)) :
  Calls Tryz.prog 16 #[.slice A n c] w (zGW l w (jU l)):=by
 cases hl:XS l with
 | err a er=>
  have:=zLU A l n c w hn hbig hcap hnil h a er hl
  unfold jU;rw[hl];exact this
 | ok ts=>
  have AA:l.length≤65536:=by
   unfold XS at hl
   split at hl
   ·cases hl
   ·omega
  have AB:YJ 0 l=.ok ts:=by
   unfold XS at hl;rw[if_neg (by omega)] at hl;exact hl
  have:=zRC A l n c w hn AA hcap hnil h ts hl AB
  unfold jU;rw[hl];exact this
theorem zUf (t:Value)(w:World) :
  Calls Tryz.prog 61 #[.nilIface,t] w fun e w'=>e=.returned (.bool false)∧w=w':=by
 go_enter Tryz.func61,Tryz.ntmps61
 go_wp2_with fail
 go_ret;exact⟨rfl,rfl⟩
theorem zJ7 (w:World):Calls Tryz.prog 27 #[.nilIface] w fun e w'=>e=.returned (.int .i64 0)∧w=w':=by
 go_enter Tryz.func27,Tryz.ntmps27
 go_wp2_with fail
 go_ret;exact⟨rfl,rfl⟩
theorem zRv (v:ZW)(w:World)(hG:GT w)(hv:v.ok w):Calls Tryz.prog 27 #[.iface v.ty v.dat] w fun e w'=>e=.returned (.int .i64 v.code)∧Ext w w':=by
 have hb:Blk (w.alloc (.cells #[.int .i64 0] 54)) w.heap.size 54 #[.int .i64 0]:=Blk.new _ _ _;have HC:=yE (zTa v (w.alloc (.cells #[.int .i64 0] 54)) (hG.ext (Ext.alloc _ _)) (ZW.zEf (Ext.alloc _ _) hv) 0 w.heap.size hb);obtain⟨vt,AA⟩:∃vt,v.ty=vt:=⟨_,rfl⟩;obtain⟨vd,AC⟩:∃vd,v.dat=vd:=⟨_,rfl⟩;obtain⟨vc,AB⟩:∃vc,v.code=vc:=⟨_,rfl⟩;rw[AA,AC,AB] at HC;rw[AA,AC,AB];clear AA AC AB hb hv hG
 go_enter Tryz.func27,Tryz.ntmps27
 go_wp2_with fail
 refine HC.out.mono ?_;rintro e w' ⟨rfl,hm,hb⟩;have c0:=hb.cell 0;have HX:=yE (hm.ext (Ext.alloc w (.cells #[.int .i64 0] 54)) (zU _));clear hm hb HC
 go_wp2_with fail
 go_ret;exact⟨rfl,HX.out⟩
def zGB:Value:=.tuple #[.int .i64 0,.int .i64 0,.int .i64 0,.bool false]
theorem zLw (w:World):Calls Tryz.prog 28 #[.nilIface] w fun e w'=>e=.returned zGB∧Ext w w':=by
 have HC:=yE (fun t W=>zUf t W);have HX:Hid (Ext w (w.alloc (.cells #[.pointer none] 107))):=yE (Ext.alloc _ _)
 go_enter Tryz.func28,Tryz.ntmps28
 go_wp2_with fail
 refine(HC.out _ _).mono ?_;rintro e w' ⟨rfl,rfl⟩
 go_wp2_with fail
 refine bodyPost_ret (v:=zGB) (by simp[results,Tryz.results28,go_sem,zGB]) rfl ?_;exact⟨rfl,HX.out⟩
theorem zQA (v:ZW)(w:World)(hG:GT w)(hv:v.ok w)(g:Nat)(hsp:v.spot=some g)(a l c e':Int)(hg:Blk w g 110 #[.int .i64 a,.int .i64 l,.int .i64 c,.int .i64 e']) :
  Calls Tryz.prog 28 #[.iface v.ty v.dat] w fun e w'=>e=.returned (.tuple #[.int .i64 a,.int .i64 l,.int .i64 c,.bool true])∧Ext w w':=by
 have hb:Blk (w.alloc (.cells #[.pointer none] 107)) w.heap.size 107 #[.pointer none]:=Blk.new _ _ _;have HC:=yE (zTu v (w.alloc (.cells #[.pointer none] 107)) (hG.ext (Ext.alloc _ _)) (ZW.zEf (Ext.alloc _ _) hv) g hsp w.heap.size hb);have AD:=yE (hg.alloc (.cells #[.pointer none] 107));have AE:=hg.lt;obtain⟨vt,AB⟩:∃vt,v.ty=vt:=⟨_,rfl⟩;obtain⟨vd,AC⟩:∃vd,v.dat=vd:=⟨_,rfl⟩;rw[AB,AC] at HC;rw[AB,AC];clear AB AC hb hv hG hsp hg
 go_enter Tryz.func28,Tryz.ntmps28
 go_wp2_with fail
 refine HC.out.mono ?_;rintro e w' ⟨rfl,hm,hb⟩;have c0:=hb.cell 0;have AA:=hm.blk AD.out (by omega);have g0:=AA.cell 0;have g1:=AA.cell 1;have g2:=AA.cell 2;have HX:=yE (hm.ext (Ext.alloc w (.cells #[.pointer none] 107)) (zU _));clear hm hb HC AA AD
 go_wp2_with fail
 go_quiet (fail)
 go_wp2_with fail
 refine bodyPost_ret (v:=.tuple #[.int .i64 a,.int .i64 l,.int .i64 c,.bool true]) (by simp[results,Tryz.results28,go_sem]) rfl ?_;exact⟨rfl,Below.trans HX.out ⟨rfl,rfl,rfl,zU _,fun _ _=>rfl⟩⟩
theorem zEv (W:World)(cs:Array Value)(n:Nat)(hn:cs.size=n):(convert 22 22 (.slice (some ⟨W.heap.size,0,none⟩) n n)).run Tryz.prog (W.alloc (.cells cs 5))=.ok (.slice (some ⟨W.heap.size,0,none⟩) n n) ((W.alloc (.cells cs 5)).freeze ⟨W.heap.size,n,none⟩ 1):=by
 subst hn;exact zBA _ _ _ Tryz.underlying22 Tryz.underlying5 _ _ _ (zO _ _)
theorem zJa (W:World)(cs:Array Value)(n:Nat):Ext W ((W.alloc (.cells cs 5)).freeze ⟨W.heap.size,n,none⟩ 1):=
 ⟨rfl,rfl,rfl,by simp[World.freeze],fun k hk=>(zDh _ _ _ _ (by omega)).trans ((Ext.alloc W _).block k hk)⟩
theorem zFm (W:World)(cs:Array Value)(n:Nat)(l:Bs)(hl:cs.toList=xL l):Cells ((W.alloc (.cells cs 5)).freeze ⟨W.heap.size,n,none⟩ 1) (some ⟨W.heap.size,0,none⟩) (xL l):=by
 obtain⟨fr,AA⟩:=zAq (W.alloc (.cells cs 5)) W.heap.size n (zO _ _);refine .inr ⟨W.heap.size,0,rfl,(Array.getElem?_eq_some_iff.1 AA).1,fun k hk=>?_⟩;rw[Nat.zero_add,cell_of_row _ _ k _ _ fr AA,←hl]
 simp
theorem zGX (w:World)(l:Bs):Cells (Lib.bytesWorld w 5 (xE l)) (some ⟨w.heap.size,0,none⟩) (xL l):=by
 have AA:(xE l).size=l.length:=by simp[xE,ByteArray.size]
 exact .inr ⟨w.heap.size,0,rfl,by rw[Lib.bytesWorld_size]; omega,fun k hk=>by
  rw[xW] at hk;rw[Nat.zero_add,Lib.bytesWorld_cell w 5 (xE l) k (by rw[AA]; exact hk),VC l k hk]
  simp[xE,hk]⟩
theorem zEz (w:World)(l:Bs):(convert 9 22 (.string (xE l))).run Tryz.prog w=.ok (.slice (some ⟨w.heap.size,0,none⟩) l.length (grownCap w l.length 0 5)) (Lib.bytesWorld w 5 (xE l))∧l.length≤grownCap w l.length 0 5:=by
 have AB:(xE l).size=l.length:=by simp[xE,ByteArray.size]
 have h:=Lib.run_convert_string_bytes (P:=Tryz.prog) w 9 22 5 (xE l) Tryz.underlying9 Tryz.underlying22 Tryz.underlying5;have AA:=grownCap_ge w (xE l).size 0 5;rw[AB] at h AA;exact⟨h,AA⟩
theorem zGp (w:World)(l:Bs):Ext w (Lib.bytesWorld w 5 (xE l)):=Ext.bytesWorld w 5 (xE l)
theorem zFq (g:Nat)(a l c e':Int)(w:World)(hG:GT w)(hg:Blk w g 110 #[.int .i64 a,.int .i64 l,.int .i64 c,.int .i64 e']):Calls Tryz.prog 27 #[.iface 107 (.pointer (some ⟨g,0,none⟩))] w fun e w'=>e=.returned (.int .i64 e')∧Ext w w':=zRv (.at_ g a l c e') w hG hg
theorem zGz (g:Nat)(a l c e':Int)(w:World)(hG:GT w)(hg:Blk w g 110 #[.int .i64 a,.int .i64 l,.int .i64 c,.int .i64 e']):Calls Tryz.prog 28 #[.iface 107 (.pointer (some ⟨g,0,none⟩))] w fun e w'=>e=.returned (.tuple #[.int .i64 a,.int .i64 l,.int .i64 c,.bool true])∧Ext w w':=zQA (.at_ g a l c e') w hG hg g rfl a l c e' hg
structure TR (w:World)(A:Option Addr)(nh:List (Nd × Hd2)):Prop where
 row:Cells w A (ncs nh)
 kids:∀x ∈ nh,Cells w x.2.1 (ints x.1.kids)
theorem TR.ext {w w':World}{A:Option Addr}{nh:List (Nd × Hd2)}(h:TR w A nh)(hx:Ext w w'):TR w' A nh:=⟨h.row.ext hx,fun x AA=>(h.kids x AA).ext hx⟩
theorem NS.tr {w:World}{B:Nat}{tn ti:TypeId}{A:Option Addr}{c:Nat}{nh:List (Nd × Hd2)}(h:NS w B tn ti A c nh):TR w A nh:=⟨Cells.own h.row,fun x hx=>Cells.own (h.kids x hx)⟩
theorem TR.at {w:World}{A:Option Addr}{nh:List (Nd × Hd2)}(h:TR w A nh)(h0:0<nh.length):∃b AA,A=some ⟨b,AA,none⟩∧b<w.heap.size∧∀k (hk:k<nh.length) j,j<5→w.cell? ⟨b,AA+(k*5+j),none⟩=(jL nh[k])[j]?:=by
 obtain⟨b,AA,hA,hb,hc⟩:=h.row.at_ (by rw[zI2]; omega);exact⟨b,AA,hA,hb,fun k hk j hj=>by rw[hc (k*5+j) (by rw[zI2]; omega),zMt nh k hk j hj]⟩
theorem zCQ (A:Option Addr)(l:Bs)(n c:Nat)(w:World)(hn:n=l.length)(hbig:l.length≤140737488355328)(hcap:l.length≤c)(hnil:A=none→c=0)(h:Cells w A (xL l))(nd:List Nd)(hr:jU l=.ok nd) :
  Calls Tryz.prog 16 #[.slice A n c] w fun e w'=>∃A' c' nh,e=.returned (.tuple #[.agg #[.slice A' nh.length c'],.nilIface])∧nd=nh.map Prod.fst∧NS w' w.heap.size 48 3 A' c' nh∧Ext w w':=by
 refine(zLs A l n c w hn hbig hcap hnil h).mono ?_;rintro e w' ⟨hx,h⟩;rw[hr] at h;obtain⟨A',c',nh,h1,h2,h3⟩:=h;exact⟨A',c',nh,h1,h2,h3,hx⟩
theorem zBq (A:Option Addr)(l:Bs)(n c:Nat)(w:World)(hn:n=l.length)(hbig:l.length≤140737488355328)(hcap:l.length≤c)(hnil:A=none→c=0)(h:Cells w A (xL l))(a:Nat)(er:Int)(hr:jU l=.err a er) :
  Calls Tryz.prog 16 #[.slice A n c] w fun e w'=>∃g,e=.returned (.tuple #[.agg #[.slice none 0 0],.iface 107 (.pointer (some ⟨g,0,none⟩))])∧w.heap.size≤g∧Blk w' g 110 #[.int .i64 (a:Int),.int .i64 (zGj l a),.int .i64 (zLI l a),.int .i64 er]∧Ext w w':=by
 refine(zLs A l n c w hn hbig hcap hnil h).mono ?_;rintro e w' ⟨hx,h⟩;rw[hr] at h;obtain⟨g,h1,h2,h3⟩:=h;exact⟨g,h1,h2,h3,hx⟩
theorem zFx (W:World)(cs:Array Value)(n:Nat)(l:Bs)(hl:cs.toList=xL l)(hn:n=l.length)(hb:l.length≤1000)(a:Nat)(er:Int)(hr:jU l=.err a er) :
  Calls Tryz.prog 16 #[.slice (some ⟨W.heap.size,0,none⟩) n n] ((W.alloc (.cells cs 5)).freeze ⟨W.heap.size,n,none⟩ 1) fun e w'=>∃g,e=.returned (.tuple #[.agg #[.slice none 0 0],.iface 107 (.pointer (some ⟨g,0,none⟩))])∧Blk w' g 110 #[.int .i64 (a:Int),.int .i64 (zGj l a),.int .i64 (zLI l a),.int .i64 er]∧Ext W w':=by
 refine(zBq (some ⟨W.heap.size,0,none⟩) l n n _ hn (by omega) (by omega) (fun h=>by cases h) (zFm W cs n l hl) a er hr).mono ?_;rintro e w' ⟨g,h1,_,h3,h4⟩;exact⟨g,h1,h3,(zJa W cs n).trans h4⟩
def preB:Bs:=[112,114,111,99,32,112,40,41,32,123,32,101,109,105,116,32]
def zEJ:Bs:=[59,32,125]
theorem zMU (a b:Bs):xE a++xE b=xE (a++b):=by
 apply ByteArray.ext;simp[xE,ByteArray.data_append]
theorem zHR (x:Bs)(nd:List Nd)(m:Nat)(hx:x.length≤100)(h6:6≤nd.length)(hmm:nd.length=m+5)(hp:jU (preB++x++zEJ)=.ok nd)(w:World) :
  Calls Tryz.prog 36 #[.string (xE x)] w fun e w'=>∃b c nh,e=.returned (.slice (some ⟨b,25,none⟩) m c)∧nd=nh.map Prod.fst∧Cells w' (some ⟨b,0,none⟩) (ncs nh)∧Ext w w':=by
 have HP:=yE hp;have AM:=zNd x
 have h1:¬(9223372036854775807<16+(xE x).size):=by rw[AM]; omega
 have h2:¬(9223372036854775807<16+(xE x).size+3):=by rw[AM]; omega
 obtain⟨AJ,AA⟩:=zEz w (preB++x++zEJ)
 have e1:xE (preB++x++zEJ)=(⟨#[112,114,111,99,32,112,40,41,32,123,32,101,109,105,116,32]⟩:ByteArray)++xE x++⟨#[59,32,125]⟩:=by
  rw[←zMU,←zMU]
  rfl
 have AG:=zGp w (preB++x++zEJ);have AI:=zGX w (preB++x++zEJ)
 have AC:(preB++x++zEJ).length≤1000:=by
  simp only[yN,preB,zEJ,zJ,zK];omega
 obtain⟨w1,AL⟩:∃w1,Hid (Lib.bytesWorld w 5 (xE (preB++x++zEJ))=w1):=⟨_,yE rfl⟩;rw[AL.out] at AJ AG AI;rw[e1] at AJ;have AO:=yE AI;have AS:=yE AG;have AE:=yE AA;have AH:=yE AC;have AD:=yE h6;have AP:=yE hmm;clear hp AG AI AA e1 AL AC h6 hmm;generalize preB++x++zEJ=L at *;generalize grownCap w L.length 0 5=c1 at *
 go_enter Tryz.func36,Tryz.ntmps36
 go_wp2_with fail
 refine(zCQ _ L _ _ w1 rfl (by have:=AH.out; omega) AE.out (fun h=>by cases h) AO.out nd HP.out).mono ?_;rintro e w2 ⟨A,c,nh,rfl,AF,AB,AK⟩
 have hl:nd.length=nh.length:=by rw[AF,yO]
 obtain⟨b,rfl⟩:∃b,A=some ⟨b,0,none⟩:=by
  rcases zCJ AB.row with e | e
  ·exfalso
   have h:=AB.row;rw[e] at h
   rcases h.2 with ⟨_,h0⟩ | ⟨g,_,_,hv,_⟩
   ·have:=AD.out; omega
   ·cases hv
  ·exact e
 have AA:nh.length≤c:=by
  rcases AB.row.2 with ⟨hv,_⟩ | ⟨g,AU,AV,hv,_,_,AY,_⟩
  ·cases hv
  ·injection hv with _ _ e; omega
 have AQ:=yE AB.tr.row;have AR:=yE AF;have AN:=yE (AS.out.trans AK);have d6:decide ((nh.length:Int)<6)=false:=yP (by have:=AD.out; omega)
 have AW:¬(nh.length:Int)<6:=by have:=AD.out; omega
 have AX:6≤nh.length:=by have:=AD.out; omega
 have AT:=yE hl;clear AB AF AK hl
 go_wp2_with fail
 go_ret;exact⟨b,c-5,nh,by rw[show nh.length-5=m from by have:=AP.out; have:=AT.out; omega]; rfl,AR.out,AQ.out.ext (Ext.alloc _ _),AN.out.trans (Ext.alloc _ _)⟩
theorem zDY {w:World}{b:Nat}{nh:List (Nd × Hd2)}{nd:List Nd}(h:Cells w (some ⟨b,0,none⟩) (ncs nh))(hnd:nd=nh.map Prod.fst)(k:Nat)(hk:k<nd.length) :
  w.cell? ⟨b,k*5,none⟩=some (.int .u8 (nd[k].kind:Int))∧w.cell? ⟨b,k*5+2,none⟩=some (.string (xE nd[k].text))∧w.cell? ⟨b,k*5+3,none⟩=some (.int .i64 nd[k].num):=by
 subst hnd
 have AB:k<nh.length:=by simpa using hk
 obtain⟨b',AC,hA,_,hc⟩:=h.at_ (by rw[zI2]; omega);injection hA with hA;injection hA with h1 h2;subst h1 h2
 have AA:∀j,j<5→w.cell? ⟨b,k*5+j,none⟩=(jL nh[k])[j]?:=fun j hj=>by
  have:=hc (k*5+j) (by rw[zI2]; omega)
  rw[Nat.zero_add,zMt nh k AB j hj] at this;exact this
 refine⟨?_,?_,?_⟩
 ·rw[zA]; exact AA 0 (by decide)
 ·rw[zA]; exact AA 2 (by decide)
 ·rw[zA]; exact AA 3 (by decide)
def zUR:List Nd:=[⟨1,0,[],0,[1]⟩,⟨3,0,[112],0,[2,3]⟩,⟨4,7,[],0,[]⟩,⟨6,9,[],0,[4]⟩,⟨17,11,[],0,[5]⟩,⟨24,16,[],0,[6,9]⟩,⟨24,16,[],0,[7,8]⟩,⟨21,16,[],1,[]⟩,⟨21,20,[],2,[]⟩,⟨21,24,[],3,[]⟩]
def zUM:List Nd:=[⟨1,0,[],0,[1]⟩,⟨3,0,[112],0,[2,3]⟩,⟨4,7,[],0,[]⟩,⟨6,9,[],0,[4]⟩,⟨17,11,[],0,[5]⟩,⟨25,16,[],0,[6,8]⟩,⟨26,16,[],0,[7]⟩,⟨22,17,[97],0,[]⟩,⟨22,21,[98],0,[]⟩]
theorem zP0:jU (preB++[49,32,45,32,50,32,45,32,51]++zEJ)=.ok zUR:=by decide +kernel
theorem zPO:jU (preB++[45,97,32,42,32,98]++zEJ)=.ok zUM:=by decide +kernel
theorem zQw:jU [112,114,111,99,32,112,40,41,32,123,32,108,101,116,32,61,32,49,59,32,125]=.err 15 50:=by decide +kernel
theorem zPT:jU [116,97,98,108,101,32,116,40,41,32,59]=.err 8 50:=by decide +kernel
theorem YM (w:World)(hG:GT w):Calls Tryz.prog 14 #[] w fun e w'=>e=.returned (.bool true)∧Ext w w':=by
 have HG:=yE hG;clear hG;have v1:=fun W=>zEv W #[.int .u8 112,.int .u8 114,.int .u8 111,.int .u8 99,.int .u8 32,.int .u8 112,.int .u8 40,.int .u8 41,.int .u8 32,.int .u8 123,.int .u8 32,.int .u8 108,.int .u8 101,.int .u8 116,.int .u8 32,.int .u8 61,.int .u8 32,.int .u8 49,.int .u8 59,.int .u8 32,.int .u8 125] 21 rfl;have v2:=fun W=>zEv W #[.int .u8 116,.int .u8 97,.int .u8 98,.int .u8 108,.int .u8 101,.int .u8 32,.int .u8 116,.int .u8 40,.int .u8 41,.int .u8 32,.int .u8 59] 11 rfl
 go_enter Tryz.func14,Tryz.ntmps14
 go_wp2_with fail
 refine(zHR [49,32,45,32,50,32,45,32,51] zUR 5 (by decide) (by decide) rfl zP0 w).mono ?_;rintro e w1 ⟨b1,c1,n1,rfl,AS,Ab,AY⟩;have AA:=yE Ab;have AL:=yE AS;have Ad:=yE AY;clear Ab AS AY
 go_wp2_with fail
 refine(zHR [45,97,32,42,32,98] zUM 4 (by decide) (by decide) rfl zPO w1).mono ?_;rintro e w2 ⟨b2,c2,n2,rfl,AZ,Aa,AP⟩;have AB:=yE Aa;have AR:=yE AZ;have Ac:=yE (Ad.out.trans AP);have AA:=yE (AA.out.ext AP);clear Aa AZ AP
 go_wp2_with fail
 refine(zFx w2 #[.int .u8 112,.int .u8 114,.int .u8 111,.int .u8 99,.int .u8 32,.int .u8 112,.int .u8 40,.int .u8 41,.int .u8 32,.int .u8 123,.int .u8 32,.int .u8 108,.int .u8 101,.int .u8 116,.int .u8 32,.int .u8 61,.int .u8 32,.int .u8 49,.int .u8 59,.int .u8 32,.int .u8 125] 21 [112,114,111,99,32,112,40,41,32,123,32,108,101,116,32,61,32,49,59,32,125] (by rfl) rfl (by decide) _ _ zQw).mono ?_;rintro e w3 ⟨g3,rfl,AW,AM⟩;have AD:=yE AW;have AO:=yE (Ac.out.trans AM);have AA:=yE (AA.out.ext AM);have AB:=yE (AB.out.ext AM);clear AW AM v1
 go_upto_region 3 with fail
 have AE:Ext w3 (w3.alloc (.cells #[.slice none 0 0] 39)):=Ext.alloc _ _;have AO:=yE (AO.out.trans AE);have AD:=yE (AD.out.ext AE);have AA:=yE (AA.out.ext AE);have AB:=yE (AB.out.ext AE);clear AE;generalize w3.alloc (.cells #[.slice none 0 0] 39)=w4 at *
 go_wp2_with fail
 refine(zFx w4 #[.int .u8 116,.int .u8 97,.int .u8 98,.int .u8 108,.int .u8 101,.int .u8 32,.int .u8 116,.int .u8 40,.int .u8 41,.int .u8 32,.int .u8 59] 11 [116,97,98,108,101,32,116,40,41,32,59] (by rfl) rfl (by decide) _ _ zPT).mono ?_;rintro e w5 ⟨g4,rfl,AV,AI⟩;have AF:=yE AV;have AK:=yE (AO.out.trans AI);have AD:=yE (AD.out.ext AI);have AA:=yE (AA.out.ext AI);have AB:=yE (AB.out.ext AI);clear AV AI v2
 go_upto_region 4 with fail
 have AC:Ext w5 (w5.alloc (.cells #[.slice none 0 0] 39)):=Ext.alloc _ _;have AK:=yE (AK.out.trans AC);have AD:=yE (AD.out.ext AC);have AF:=yE (AF.out.ext AC);have AA:=yE (AA.out.ext AC);have AB:=yE (AB.out.ext AC);clear AC;generalize w5.alloc (.cells #[.slice none 0 0] 39)=w6 at *
 go_wp2_with fail
 refine(zGz g3 _ _ _ _ w6 (HG.out.ext AK.out) AD.out).mono ?_;rintro e w7 ⟨rfl,AG⟩;have AX:=yE (AK.out.trans AG);have AD:=yE (AD.out.ext AG);have AF:=yE (AF.out.ext AG);have AA:=yE (AA.out.ext AG);have AB:=yE (AB.out.ext AG);clear AG
 go_wp2_with fail
 refine(zGz g4 _ _ _ _ w7 (HG.out.ext AX.out) AF.out).mono ?_;rintro e w8 ⟨rfl,AH⟩;have AT:=yE (AX.out.trans AH);have AD:=yE (AD.out.ext AH);have AF:=yE (AF.out.ext AH);have AA:=yE (AA.out.ext AH);have AB:=yE (AB.out.ext AH);clear AH;have a0:w8.cell? ⟨b1,25,none⟩=some (.int .u8 24):=(zDY AA.out AL.out 5 (by decide)).1;have a1:w8.cell? ⟨b1,30,none⟩=some (.int .u8 24):=(zDY AA.out AL.out 6 (by decide)).1;have a2:w8.cell? ⟨b1,38,none⟩=some (.int .i64 1):=(zDY AA.out AL.out 7 (by decide)).2.2;have a4:w8.cell? ⟨b1,48,none⟩=some (.int .i64 3):=(zDY AA.out AL.out 9 (by decide)).2.2;have d0:w8.cell? ⟨b2,25,none⟩=some (.int .u8 25):=(zDY AB.out AR.out 5 (by decide)).1;have d1:w8.cell? ⟨b2,30,none⟩=some (.int .u8 26):=(zDY AB.out AR.out 6 (by decide)).1;have d3:w8.cell? ⟨b2,42,none⟩=some (.string (xE [98])):=(zDY AB.out AR.out 8 (by decide)).2.1;have s1:(xE [98]).toList=[98]:=YU _;have z1:(⟨#[98]⟩:ByteArray).toList=[98]:=YU [98]
 go_wp2_with fail
 refine(zFq g3 _ _ _ _ w8 (HG.out.ext AT.out) AD.out).mono ?_;rintro e w9 ⟨rfl,AQ⟩;have AU:=yE (AT.out.trans AQ);have AF:=yE (AF.out.ext AQ);clear AQ a0 a1 a2 a4 d0 d1 d3
 go_wp2_with fail
 refine(zFq g4 _ _ _ _ w9 (HG.out.ext AU.out) AF.out).mono ?_;rintro e Ae ⟨rfl,AJ⟩;have AN:=yE (AU.out.trans AJ);clear AJ
 go_wp2_with fail
 go_ret;exact⟨rfl,AN.out⟩
end Go.Proofs.YtioffpjajhalaaaGreatDoor
