/- The document's kind of a word; block, branch, loop over whatever reads a statement. Condition: the nodes fit into memory. -/
import Derived.Test.YtioffpjajhalaaaGreatDoorKaa
import Derived.Test.YtioffpjajhalaaaGreatDoorKbg
set_option linter.unusedVariables false
set_option linter.unusedSimpArgs false
set_option maxRecDepth 100000
set_option maxHeartbeats 16000000
namespace Go.Proofs.YtioffpjajhalaaaGreatDoor
open Go Go.RowKit
theorem zGU {one:Rs→Rs}{f:Nat}{r:Rs}(h:r.is [44]=true):VL one (f+1) r=VL one f (one r.adv):=by rw[VL,if_pos h]
theorem zJp {one:Rs→Rs}{f:Nat}{r:Rs}(h:r.is [44]=false):VL one (f+1) r=r:=by rw[VL,if_neg (by rw[h]; decide)]
def zSG (w:World)(p B:Nat)(R:vJ)(r:Rs)(one:Rs→Rs)(q0:Rs)(wr:World):Prop:=
 ∃(q:Rs) (R':vJ) (f':Nat),Hid (xG w p B R r wr R' q 8)∧Hid (q.s.ts.length<f')∧Hid (VL one (q0.s.ts.length+1) q0=VL one f' q)∧Hid (q0.s.nd.length≤q.s.nd.length)
def YQ (t:Bs):Nat:=(vP t).getD 0
theorem zLg {α:Type}(p:α→Bool):∀(l:List α) (k:Nat) (hk:k<l.length),(∀j (hj:j<l.length),j<k→p l[j]=false)→p l[k]=true→l.find? p=some l[k]
 | x::l,0,_,_,hi=>by rw[List.find?_cons]; have:p x=true:=hi; rw[this]; rfl
 | x::l,k+1,hk,h,hi=>by
  have h0:p x=false:=h 0 (by simp) (by omega);rw[List.find?_cons,h0];exact zLg p l k (by simpa using hk) (fun j hj AA=>h (j+1) (by simpa using hj) (by omega)) hi
theorem zRG (t:Bs)(k:Nat)(hk:k<YV.length)(h:∀j (hj:j<YV.length),j<k→(YV[j].1==t)=false)(hi:(YV[k].1==t)=true):YQ t=k+7:=by
 unfold YQ vP;rw[zLg (fun m:Bs × Nat=>m.1==t) YV k hk h hi]
 have:∀k (hk:k<YV.length),YV[k].2=k+7:=by decide
 exact this k hk
theorem zTc (t:Bs)(h:∀j (hj:j<YV.length),(YV[j].1==t)=false):YQ t=0:=by
 unfold YQ vP
 rw[List.find?_eq_none.2 (fun m hm=>by
  obtain⟨j,hj,rfl⟩:=List.mem_iff_getElem.1 hm
  rw[h j hj]; decide)]
 rfl
theorem YB (w:World)(t:Bs):Calls Tryz.prog 177 #[.string (xE t)] w fun e w'=>e=.returned (.int .u8 (YQ t:Int))∧Ext w w':=by
 have HX:Hid (Ext w (w.alloc (.cells (YV.map fun m=>Value.string (xE m.1)).toArray 9))):=yE (Ext.alloc _ _);have HC:=yE (Blk.new w 9 (YV.map fun m=>Value.string (xE m.1)).toArray)
 go_enter Tryz.func177,Tryz.ntmps177
 go_wp2_with fail
 have AB:Hid (w.alloc (.cells (YV.map fun m=>Value.string (xE m.1)).toArray 9)=w.alloc (.cells #[.string ⟨#[114,101,97,100]⟩,.string ⟨#[115,101,116]⟩,.string ⟨#[112,117,116]⟩,.string ⟨#[100,101,108,101,116,101]⟩,.string ⟨#[115,99,97,110]⟩,.string ⟨#[108,111,99,107]⟩,.string ⟨#[114,101,108,101,97,115,101]⟩,.string ⟨#[105,102]⟩,.string ⟨#[102,111,114]⟩,.string ⟨#[108,101,116]⟩,.string ⟨#[101,109,105,116]⟩,.string ⟨#[114,111,108,108,98,97,99,107]⟩,.string ⟨#[99,104,111,112]⟩] 9)):=yE rfl;rw[AB.out] at HC HX;clear AB;generalize w.alloc (.cells #[.string ⟨#[114,101,97,100]⟩,.string ⟨#[115,101,116]⟩,.string ⟨#[112,117,116]⟩,.string ⟨#[100,101,108,101,116,101]⟩,.string ⟨#[115,99,97,110]⟩,.string ⟨#[108,111,99,107]⟩,.string ⟨#[114,101,108,101,97,115,101]⟩,.string ⟨#[105,102]⟩,.string ⟨#[102,111,114]⟩,.string ⟨#[108,101,116]⟩,.string ⟨#[101,109,105,116]⟩,.string ⟨#[114,111,108,108,98,97,99,107]⟩,.string ⟨#[99,104,111,112]⟩] 9)=w1 at *;generalize w.heap.size=g at *
 go_loopw [4] (fun i' wr=>∃(k:Nat),k≤13∧i'=.int .i64 k∧Hid (∀j (hj:j<YV.length),j<k→(YV[j].1==t)=false)∧wr=w1) (fun i' _=>13-(intOf i').toNat)
 case atStart=>exact⟨0,zT _,rfl,yE (fun j hj h=>absurd h (by omega)),rfl⟩
 case round=>
  obtain⟨k,hk,rfl,AA,rfl⟩:=hrel;obtain⟨wa,rfl⟩:∃wa:World,wa=wr:=⟨_,rfl⟩
  by_cases AE:k<13
  ·have d0:decide ((k:Int)<13)=true:=yQ (by omega)
   have q1:(k:Int)<13:=by omega
   have AC:k<YV.length:=AE
   have c0:wa.cell? ⟨g,k,none⟩=some (.string (xE YV[k].1)):=by rw[HC.out.cell k]; simp[AC]
   cases hi:YV[k].1==t with
   | true=>
    have HR:=yE (zRG t k AC AA.out hi)
    have AD:((xE YV[k].1).toList==(xE t).toList)=true:=by simp only[YU]; exact hi
    clear hi;generalize YV[k].1=tk at *
    go_wp2_with fail
    go_ret;exact⟨by rw[HR.out]; simp; omega,HX.out⟩
   | false=>
    have HI:=yE hi
    have AD:((xE YV[k].1).toList==(xE t).toList)=false:=by simp only[YU]; exact hi
    have AF:Hid (∀j (hj:j<YV.length),j<k+1→(YV[j].1==t)=false):=yE fun j hj AG=>by
     rcases Nat.lt_or_ge j k with h | h
     ·exact AA.out j hj h
     ·obtain rfl:j=k:=by omega
      exact HI.out
    clear hi;generalize YV[k].1=tk at *
    go_wp2_with fail
    go_roundw
    case rel=>exact⟨k+1,by omega,by go_num,AF,by first | rfl | trivial⟩
    case measure=>simp[intOf]; omega
  ·obtain rfl:k=13:=by omega
   have d0:decide ((13:Int)<13)=false:=by decide
   have HR:=yE (zTc t fun j hj=>AA.out j hj hj)
   go_wp2_with fail
   go_ret;exact⟨by rw[HR.out]; rfl,HX.out⟩
def YD (f:Nat):Prop:=∀(w:World) (p B:Nat) (r:Rs) (R:vJ) (i:Nat),QS w p B r R→r.s.ts.length≤f→i<r.s.nd.length→r.phi≤1000000 →
 Calls Tryz.prog 160 #[.pointer (some ⟨p,0,none⟩),.int .i64 (i:Int)] w fun e w'=>e=.returned (.tuple #[])∧jO w p B R (xV f i r) w'
def zCX (p:Nat)(w:World):Nat:=2*zA7 p w+match w.cell? ⟨p,4,none⟩ with
 | some (.int _ e)=>if e=0 then 1 else 0
 | _=>0
theorem QS.zCX {w:World}{p B:Nat}{r:Rs}{R:vJ}(h:QS w p B r R):zCX p w=2*r.s.ts.length+if r.e=0 then 1 else 0:=by
 unfold Proofs.YtioffpjajhalaaaGreatDoor.zCX;rw[h.zA7,h.x4]
theorem zQY (f i:Nat)(r:Rs)(g:XW r)(h0:r.e=0)(hl:r.s.ts.length≤f):(xV f i r).e≠0∨(xV f i r).s.ts.length<r.s.ts.length:=by
 cases f with
 | zero=>exact absurd g.last.pos (by omega)
 | succ f=>
  unfold xV
  by_cases hk:r.s.hd.kind=1
  ·rw[if_pos hk]
   cases vP r.s.hd.text with
   | none=>exact .inl (zGH r)
   | some k=>
    have a:=ZG g i k
    have AA:(r.yX i k).s.hd.kind≠4:=by show r.s.hd.kind≠4; omega
    have b:=jI a.yY AA;have c:=(zKQ (ZB f) k r.s.nd.length _ b.yY);have d:=a.yY.last.len AA;have e:(r.yX i k).s.ts.length=r.s.ts.length:=rfl;have d':(r.yX i k).adv.s.ts.length<(r.yX i k).s.ts.length:=d
    right
    dsimp only
    split
    ·have:=c.ts; omega
    ·have h1:=c.ts; have h2:=(xJ [59] _ c.yY).ts; omega
  ·rw[if_neg hk];exact .inl (zGH r)
theorem zO9 {ST:Nat→Rs→Rs}{i f:Nat}{r:Rs}(h:r.is [125]=true):XA ST i f r=r:=by
 cases f with
 | zero=>rfl
 | succ f=>rw[XA,h,Bool.not_true,Bool.and_false,if_neg (by decide)]
theorem zPL {ST:Nat→Rs→Rs}{i f:Nat}{r:Rs}(h0:r.e=0)(h:r.is [125]=false):XA ST i (f+1) r=XA ST i f (ST i r):=by rw[XA,h,h0]; rfl
theorem zQ9 {ST:Nat→Rs→Rs}{i:Nat}{r:Rs}(h:(r.yX i 6).is [123]=false):ZI ST i r=(r.yX i 6).fail 50:=by unfold ZI; dsimp only; rw[h,if_neg (by decide)]
theorem zMH {ST:Nat→Rs→Rs}{i:Nat}{r:Rs}(h:(r.yX i 6).is [123]=true)(h2:¬(r.yX i 6).inn.e=0):ZI ST i r=(r.yX i 6).inn.fail 50:=by unfold ZI; dsimp only; rw[if_pos h,if_neg h2]
theorem zRh {ST:Nat→Rs→Rs}{i:Nat}{r:Rs}(h:(r.yX i 6).is [123]=true)(h2:(r.yX i 6).inn.e=0):ZI ST i r=(xD [125] (XA ST r.s.nd.length ((r.yX i 6).inn.adv.s.ts.length+1) (r.yX i 6).inn.adv)).out:=by unfold ZI; dsimp only; rw[if_pos h,if_pos h2]
theorem zLd {i:Nat}{r:Rs}(h:r.is [61,61]=true):zFy i r=(r.num i 1).adv:=by unfold zFy; rw[if_pos h]
theorem zNf {i:Nat}{r:Rs}(h:r.is [61,61]=false):zFy i r=xD [60] r:=by unfold zFy; rw[if_neg (by rw[h]; decide)]
theorem zK8 {ST:Nat→Rs→Rs}{i:Nat}{r:Rs}(h:r.is [101,108,115,101]=true):zDi ST i r=ZI ST i r.adv:=by unfold zDi; rw[if_pos h]
theorem zNC {ST:Nat→Rs→Rs}{i:Nat}{r:Rs}(h:r.is [101,108,115,101]=false):zDi ST i r=r:=by unfold zDi; rw[if_neg (by rw[h]; decide)]
def zUY (w:World)(p B:Nat)(R:vJ)(r:Rs)(f n:Nat)(q0:Rs)(wr:World):Prop:=
 ∃(q:Rs) (R':vJ) (f':Nat),Hid (xG w p B R r wr R' q (-10))∧Hid (q.e=0→q.s.ts.length<f')∧Hid (XA (xV f) n (q0.s.ts.length+1) q0=XA (xV f) n f' q)∧Hid (q0.s.nd.length≤q.s.nd.length∧q0.s.deep≤q.s.deep)
theorem VB (w:World)(p B:Nat)(r:Rs)(R:vJ)(f:Nat)(hst:YD f)(i:Nat)(h:QS w p B r R)(hi:i<r.s.nd.length)(hb:r.phi≤1000010)(hl:r.s.ts.length≤f) :
  Calls Tryz.prog 126 #[.pointer (some ⟨p,0,none⟩),.int .i64 (i:Int)] w fun e w'=>e=.returned (.tuple #[])∧jO w p B R (ZI (xV f) i r) w':=by
 have HB:=yE hb;have HI:=yE hi;have H0:=yE (xG.refl h);clear h hb hi;have Ak:Hid (r.s.nd.length<(r.yX i 6).s.nd.length):=yE (by rw[show(r.yX i 6).s.nd.length=r.s.nd.length+1 from xR r.s i 6]; omega)
 cases hc:(r.yX i 6).is [123] with
 | false=>
  have HC:=yE hc;clear hc;have HR:=yE (zQ9 (ST:=xV f) HC.out)
  go_enter Tryz.func126,Tryz.ntmps126
  go_wp2_with fail
  refine(jK _ p B _ R (i) H0.out.qs (HI.out) (JU (H0.out.bound HB.out (by omega)))).mono ?_;rintro e AX ⟨rfl,AI,hk,hm⟩;have HK:=yE (And.intro hk hm);clear hk hm
  go_wp2_with fail
  refine(jA _ p B _ AI (i) 6 HK.out.1 (H0.out.bound HB.out (by omega))).mono ?_;rintro e w1 ⟨rfl,hp⟩;obtain⟨R1,H1⟩:=xG.yX H0 HK hp;clear hp HK
  go_wp2_with fail
  refine(vE _ p B _ R1 [123] false (HC) H1.out.qs).mono ?_;rintro e _ ⟨rfl,m,rfl⟩;have H2:=xG.drew H1 m;generalize w1.drewN m=w2 at *
  go_wp2_with fail
  refine(JF _ p B _ R1 50 (by decide) H2.out.qs).mono ?_;rintro e w3 ⟨rfl,hp⟩;obtain⟨R3,H3⟩:=xG.goL H2 (XU H2.out.qs.yY 50) hp;clear hp
  go_wp2_with fail
  refine bodyPost_ret (results_none rfl _ _ _) rfl ?_;rw[HR.out];exact⟨rfl,H3.out.post⟩
 | true=>
  have HC:=yE hc;clear hc;have HE:=yE (vS HC.out).2;have Ab:=yE (vS HC.out).1
  by_cases AD:(r.yX i 6).inn.e=0
  ·have AN:=yE AD;have HR:=yE (zRh (ST:=xV f) HC.out AD);clear AD
   go_enter Tryz.func126,Tryz.ntmps126
   go_wp2_with fail
   refine(jK _ p B _ R (i) H0.out.qs (HI.out) (JU (H0.out.bound HB.out (by omega)))).mono ?_;rintro e AX ⟨rfl,AI,hk,hm⟩;have HK:=yE (And.intro hk hm);clear hk hm
   go_wp2_with fail
   refine(jA _ p B _ AI (i) 6 HK.out.1 (H0.out.bound HB.out (by omega))).mono ?_;rintro e w1 ⟨rfl,hp⟩;obtain⟨R1,H1⟩:=xG.yX H0 HK hp;clear hp HK
   go_wp2_with fail
   refine(vE _ p B _ R1 [123] true (HC) H1.out.qs).mono ?_;rintro e _ ⟨rfl,m,rfl⟩;have H2:=xG.drew H1 m;generalize w1.drewN m=w2 at *
   go_wp2_with fail
   refine(zB0 _ p B _ R1 HE.out true (yE (by rw[AN.out]; rfl)) H2.out.qs).mono ?_;rintro e w3 ⟨rfl,hp⟩;obtain⟨R3,H3⟩:=xG.goL H2 (zFP H2.out.qs.yY HE.out) hp;clear hp;have x1:=H3.out.qs.x1;have Ai:=H3.out.qs.blk.frozen 1;have AS:=H3.out.qs.few;have AT:=H3.out.qs.yY.last.pos
   go_wp2_with fail
   have H4:=xG.adv H3 (by rw[zHB (zDF (r.yX i 6)).1]; exact Ab.out);clear x1 Ai AS AT;generalize w3.setCell ⟨p,1,none⟩ (.int .i64 ((R3.I:Int)+1))=w4 at *;generalize { R3 with I:=R3.I+1 } = R4 at *;have HJ:=xG.le (d:=-10) H4 (by decide);have Am:Hid ((r.yX i 6).inn.adv.s.ts.length≤r.s.ts.length):=yE H4.out.lt.ts;have Ac:Hid (r.s.nd.length<(r.yX i 6).inn.adv.s.nd.length):=yE (by rw[show(r.yX i 6).inn.adv.s.nd=(r.yX i 6).s.nd from(zDF (r.yX i 6)).2]; exact Ak.out);have AU:Hid ((r.yX i 6).inn.adv.s.deep=r.s.deep+1):=yE (zA2 (r.yX i 6))
   go_loopw [] (fun wr=>zUY w p B R r f r.s.nd.length (r.yX i 6).inn.adv wr) (fun wr=>zCX p wr)
   case atStart=>exact⟨_,_,_,HJ,yE (fun _=>Nat.lt_succ_self _),yE rfl,yE ⟨zU _,zU _⟩⟩
   case round=>
    obtain⟨q,Rq,f',AE,HF,AP,AH⟩:=hrel;obtain⟨wq,rfl⟩:∃wa:World,wa=wr:=⟨_,rfl⟩;have Ad:Hid (zCX p wq=2*q.s.ts.length+if q.e=0 then 1 else 0):=yE AE.out.qs.zCX;have x4:=AE.out.qs.x4
    by_cases he:q.e=0
    ·have AG:=yE he;rw[he] at x4;clear he;obtain⟨AO,rfl⟩:∃n,f'=n+1:=⟨f'-1,by have:=HF.out AG.out; omega⟩
     cases hq:q.is [125] with
     | true=>
      have HQ:=yE hq;have HU:Hid (XA (xV f) r.s.nd.length ((r.yX i 6).inn.adv.s.ts.length+1) (r.yX i 6).inn.adv=q):=yE (AP.out.trans (zO9 hq));clear hq
      go_wp2_with fail
      have AK:=AE;refine(vE _ p B _ Rq [125] true (HQ) AK.out.qs).mono ?_;rintro e _ ⟨rfl,m,rfl⟩;have AC:=xG.drew AK m;generalize wq.drewN m=Al at *
      go_wp2_with fail
      clear x4;refine(vF _ p B _ Rq [125] AC.out.qs).mono ?_;rintro e Aq ⟨rfl,hp⟩;obtain⟨Ap,AF⟩:=xG.go AC (xJ [125]) hp;clear hp;have x2:=AF.out.qs.x2;have AM:=AF.out.qs.blk.frozen 2;have AL:=AF.out.qs.yY.deep;have AJ:Hid (1≤Ps.deep (Rs.s (xD [125] q))):=yE (by have h1:=XB [125] q; have h2:=AH.out.2; have h3:=AU.out; omega);have AR:=AJ.out
      go_wp2_with fail
      have AZ:=xG.out (v:=.int .i64 ((Ps.deep (Rs.s (xD [125] q)):Int)-1)) AF (by show _=Value.int .i64 ((Ps.deep (Rs.s (xD [125] q))-1:Nat):Int); rw[Int.ofNat_sub AJ.out]; rfl);clear x2 AM AL AR;go_end0;rw[HR.out,HU.out];exact⟨rfl,AZ.out.post⟩
     | false=>
      have HQ:=yE hq;have AQ:Hid (XA (xV f) r.s.nd.length ((r.yX i 6).inn.adv.s.ts.length+1) (r.yX i 6).inn.adv=XA (xV f) r.s.nd.length AO (xV f r.s.nd.length q)):=yE (AP.out.trans (zPL AG.out hq));clear hq
      go_wp2_with fail
      refine(vE _ p B q Rq [125] false HQ AE.out.qs).mono ?_;rintro e _ ⟨rfl,m,rfl⟩;have AB:=xG.drew AE m;generalize wq.drewN m=Ah at *;clear x4
      go_wp2_with fail
      refine(hst Ah p B q Rq r.s.nd.length AB.out.qs (Nat.le_trans AB.out.lt.ts hl) (yS Ac.out AH.out.1) (AB.out.bound HB.out (by omega))).mono ?_;rintro e Aj ⟨rfl,hp⟩;have AA:=yE (zQY f r.s.nd.length q AB.out.qs.yY AG.out (Nat.le_trans AB.out.lt.ts hl));have AV:=yE (ZB f r.s.nd.length q AB.out.qs.yY);have Ae:=yE (zPy f r.s.nd.length q);obtain⟨An,AY⟩:=xG.go AB (ZB f r.s.nd.length) hp;clear hp;have AW:=xG.le (d:=-10) AY (by decide)
      have Ag:Hid (zCX p Aj<zCX p wq):=yE (by
       rw[Ad.out,AW.out.qs.zCX,if_pos AG.out];have h1:=AV.out.ts
       rcases AA.out with h | h
       ·rw[if_neg h]; omega
       ·split <;> omega)
      have Af:Hid ((xV f r.s.nd.length q).e=0→(xV f r.s.nd.length q).s.ts.length<AO):=yE fun h=>by
       have h1:=HF.out AG.out
       rcases AA.out with h2 | h2
       ·exact absurd h h2
       ·omega
      have Aa:Hid ((r.yX i 6).inn.adv.s.nd.length≤(xV f r.s.nd.length q).s.nd.length∧(r.yX i 6).inn.adv.s.deep≤(xV f r.s.nd.length q).s.deep):=yE ⟨Nat.le_trans AH.out.1 AV.out.nd,Nat.le_trans AH.out.2 Ae.out⟩
      go_wp2_with fail
      go_roundw
      case rel=>exact⟨_,_,AO,AW,Af,AQ,Aa⟩
      case measure=>exact Ag.out
    ·have HU:Hid (XA (xV f) r.s.nd.length ((r.yX i 6).inn.adv.s.ts.length+1) (r.yX i 6).inn.adv=q):=yE (AP.out.trans (zHG _ _ _ he));have g1:(q.e==0)=false:=beq_eq_false_iff_ne.2 he
     go_wp2_with fail
     have AK:=AE;clear x4 g1 he;refine(vF _ p B _ Rq [125] AK.out.qs).mono ?_;rintro e Al ⟨rfl,hp⟩;obtain⟨Ao,AC⟩:=xG.go AK (xJ [125]) hp;clear hp;have x2:=AC.out.qs.x2;have AM:=AC.out.qs.blk.frozen 2;have AL:=AC.out.qs.yY.deep;have AJ:Hid (1≤Ps.deep (Rs.s (xD [125] q))):=yE (by have h1:=XB [125] q; have h2:=AH.out.2; have h3:=AU.out; omega);have AR:=AJ.out
     go_wp2_with fail
     have AF:=xG.out (v:=.int .i64 ((Ps.deep (Rs.s (xD [125] q)):Int)-1)) AC (by show _=Value.int .i64 ((Ps.deep (Rs.s (xD [125] q))-1:Nat):Int); rw[Int.ofNat_sub AJ.out]; rfl);clear x2 AM AL AR;go_end0;rw[HR.out,HU.out];exact⟨rfl,AF.out.post⟩
  ·have AN:=yE AD;have HR:=yE (zMH (ST:=xV f) HC.out AD);clear AD
   go_enter Tryz.func126,Tryz.ntmps126
   go_wp2_with fail
   refine(jK _ p B _ R (i) H0.out.qs (HI.out) (JU (H0.out.bound HB.out (by omega)))).mono ?_;rintro e AX ⟨rfl,AI,hk,hm⟩;have HK:=yE (And.intro hk hm);clear hk hm
   go_wp2_with fail
   refine(jA _ p B _ AI (i) 6 HK.out.1 (H0.out.bound HB.out (by omega))).mono ?_;rintro e w1 ⟨rfl,hp⟩;obtain⟨R1,H1⟩:=xG.yX H0 HK hp;clear hp HK
   go_wp2_with fail
   refine(vE _ p B _ R1 [123] true (HC) H1.out.qs).mono ?_;rintro e _ ⟨rfl,m,rfl⟩;have H2:=xG.drew H1 m;generalize w1.drewN m=w2 at *
   go_wp2_with fail
   refine(zB0 _ p B _ R1 HE.out false (yE (by exact beq_eq_false_iff_ne.2 AN.out)) H2.out.qs).mono ?_;rintro e w3 ⟨rfl,hp⟩;obtain⟨R3,H3⟩:=xG.goL H2 (zFP H2.out.qs.yY HE.out) hp;clear hp
   go_wp2_with fail
   refine(JF _ p B _ R3 50 (by decide) H3.out.qs).mono ?_;rintro e w4 ⟨rfl,hp⟩;obtain⟨R4,H4⟩:=xG.goL H3 (XU H3.out.qs.yY 50) hp;clear hp
   go_wp2_with fail
   refine bodyPost_ret (results_none rfl _ _ _) rfl ?_;rw[HR.out];exact⟨rfl,H4.out.post⟩
theorem zH4 (w:World)(p B:Nat)(r:Rs)(R:vJ)(f:Nat)(hst:YD f)(i:Nat)(h:QS w p B r R)(hi:i<r.s.nd.length)(hb:r.phi≤1000000)(hl:r.s.ts.length≤f)(h1:(vU i r).is [61,61]=true)(h2:(ZI (xV f) i (vU i (((vU i r).num i 1).adv))).is [101,108,115,101]=true) :
  Calls Tryz.prog 181 #[.pointer (some ⟨p,0,none⟩),.int .i64 (i:Int)] w fun e w'=>e=.returned (.tuple #[])∧jO w p B R (XT (xV f) i r) w':=by
 have HB:=yE hb;have HI:=yE hi;have H0:=yE (xG.refl h);clear h hb hi;have H1:=yE h1;have H2:=yE h2;have AK:=yE (zLd (i:=i) h1);have AH:=yE (zK8 (ST:=xV f) (i:=i) h2);have HR:Hid (XT (xV f) i r=zDi (xV f) i (ZI (xV f) i (vU i (((vU i r).num i 1).adv)))):=yE (by unfold XT; rw[AK.out]);clear h1 h2;have AF:=H1;have AG:=H2;clear H1 H2
 go_enter Tryz.func181,Tryz.ntmps181
 go_wp2_with fail
 refine(XK _ p B _ R i H0.out.qs (H0.out.idx HI.out) (H0.out.bound HB.out (by omega))).mono ?_;rintro e w1 ⟨rfl,hp⟩;obtain⟨R1,H1⟩:=xG.go H0 (jQ i) hp;clear hp
 go_wp2_with fail
 refine(vE _ p B _ R1 [61,61] true (AF) H1.out.qs).mono ?_;rintro e _ ⟨rfl,m,rfl⟩;have H2:=xG.drew H1 m;generalize w1.drewN m=w2 at *;obtain⟨g2,AC,hA,AJ,AI⟩:=H2.out.qs.YC (i:=i) (H2.out.idx HI.out);have x3:=H2.out.qs.x3 hA;have AE:=yE hA;have q0:(0:Int)≤((i:Nat):Int):=Int.natCast_nonneg _
 have q1:((i:Nat):Int)<(R1.nh.length:Int):=by omega
 clear hA;have c3:w2.cell? ⟨g2,i*5+3,none⟩=some (.int .i64 (R1.nh[i]'AC).1.num):=(H2.out.qs.jP _ AC AE.out 3 (by decide));have z3:=H2.out.qs.JZ (i*5+3) AE.out
 go_upto_region 3 with fail
 obtain⟨R3,H3⟩:=xG.num (i:=i) (g:=g2) H2 (1) AC AE.out;clear c3 z3 x3 q0 q1;generalize w2.setCell ⟨g2,i*5+3,none⟩ (.int .i64 (1))=w3 at *;have x1:=H3.out.qs.x1;have AD:=H3.out.qs.blk.frozen 1;have AA:=H3.out.qs.few;have AB:=H3.out.qs.yY.last.pos
 go_wp2_with fail
 have H4:=xG.adv H3 ((vS AF.out).1);clear x1 AD AA AB;generalize w3.setCell ⟨p,1,none⟩ (.int .i64 ((R3.I:Int)+1))=w4 at *;generalize { R3 with I:=R3.I+1 } = R4 at *;refine(XK _ p B _ R4 i H4.out.qs (H4.out.idx HI.out) (H4.out.bound HB.out (by omega))).mono ?_;rintro e w5 ⟨rfl,hp⟩;obtain⟨R5,H5⟩:=xG.go H4 (jQ i) hp;clear hp
 go_wp2_with fail
 refine(VB _ p B _ R5 f hst i H5.out.qs (H5.out.idx HI.out) (H5.out.bound HB.out (by omega)) (Nat.le_trans H5.out.lt.ts hl)).mono ?_;rintro e w6 ⟨rfl,hp⟩;obtain⟨R6,H6⟩:=xG.go H5 (ZJ (ZB f) i) hp;clear hp
 go_wp2_with fail
 refine(vE _ p B _ R6 [101,108,115,101] true (AG) H6.out.qs).mono ?_;rintro e _ ⟨rfl,m,rfl⟩;have H7:=xG.drew H6 m;generalize w6.drewN m=w7 at *;have x1:=H7.out.qs.x1;have AD:=H7.out.qs.blk.frozen 1;have AA:=H7.out.qs.few;have AB:=H7.out.qs.yY.last.pos
 go_wp2_with fail
 have H8:=xG.adv H7 ((vS AG.out).1);clear x1 AD AA AB;generalize w7.setCell ⟨p,1,none⟩ (.int .i64 ((R6.I:Int)+1))=w8 at *;generalize { R6 with I:=R6.I+1 } = R8 at *;refine(VB _ p B _ R8 f hst i H8.out.qs (H8.out.idx HI.out) (H8.out.bound HB.out (by omega)) (Nat.le_trans H8.out.lt.ts hl)).mono ?_;rintro e w9 ⟨rfl,hp⟩;obtain⟨R9,H9⟩:=xG.go H8 (ZJ (ZB f) i) hp;clear hp
 go_wp2_with fail
 go_end0;rw[HR.out,AH.out];exact⟨rfl,H9.out.post⟩
theorem zKd (w:World)(p B:Nat)(r:Rs)(R:vJ)(f:Nat)(hst:YD f)(i:Nat)(h:QS w p B r R)(hi:i<r.s.nd.length)(hb:r.phi≤1000000)(hl:r.s.ts.length≤f)(h1:(vU i r).is [61,61]=true)(h2:(ZI (xV f) i (vU i (((vU i r).num i 1).adv))).is [101,108,115,101]=false) :
  Calls Tryz.prog 181 #[.pointer (some ⟨p,0,none⟩),.int .i64 (i:Int)] w fun e w'=>e=.returned (.tuple #[])∧jO w p B R (XT (xV f) i r) w':=by
 have HB:=yE hb;have HI:=yE hi;have H0:=yE (xG.refl h);clear h hb hi;have H1:=yE h1;have H2:=yE h2;have AK:=yE (zLd (i:=i) h1);have AF:=yE (zNC (ST:=xV f) (i:=i) h2);have HR:Hid (XT (xV f) i r=zDi (xV f) i (ZI (xV f) i (vU i (((vU i r).num i 1).adv)))):=yE (by unfold XT; rw[AK.out]);clear h1 h2;have AE:=H1;have AJ:=H2;clear H1 H2
 go_enter Tryz.func181,Tryz.ntmps181
 go_wp2_with fail
 refine(XK _ p B _ R i H0.out.qs (H0.out.idx HI.out) (H0.out.bound HB.out (by omega))).mono ?_;rintro e w1 ⟨rfl,hp⟩;obtain⟨R1,H1⟩:=xG.go H0 (jQ i) hp;clear hp
 go_wp2_with fail
 refine(vE _ p B _ R1 [61,61] true (AE) H1.out.qs).mono ?_;rintro e _ ⟨rfl,m,rfl⟩;have H2:=xG.drew H1 m;generalize w1.drewN m=w2 at *;obtain⟨g2,AA,hA,AI,AG⟩:=H2.out.qs.YC (i:=i) (H2.out.idx HI.out);have x3:=H2.out.qs.x3 hA;have AB:=yE hA;have q0:(0:Int)≤((i:Nat):Int):=Int.natCast_nonneg _
 have q1:((i:Nat):Int)<(R1.nh.length:Int):=by omega
 clear hA;have c3:w2.cell? ⟨g2,i*5+3,none⟩=some (.int .i64 (R1.nh[i]'AA).1.num):=(H2.out.qs.jP _ AA AB.out 3 (by decide));have z3:=H2.out.qs.JZ (i*5+3) AB.out
 go_upto_region 3 with fail
 obtain⟨R3,H3⟩:=xG.num (i:=i) (g:=g2) H2 (1) AA AB.out;clear c3 z3 x3 q0 q1;generalize w2.setCell ⟨g2,i*5+3,none⟩ (.int .i64 (1))=w3 at *;have x1:=H3.out.qs.x1;have AH:=H3.out.qs.blk.frozen 1;have AC:=H3.out.qs.few;have AD:=H3.out.qs.yY.last.pos
 go_wp2_with fail
 have H4:=xG.adv H3 ((vS AE.out).1);clear x1 AH AC AD;generalize w3.setCell ⟨p,1,none⟩ (.int .i64 ((R3.I:Int)+1))=w4 at *;generalize { R3 with I:=R3.I+1 } = R4 at *;refine(XK _ p B _ R4 i H4.out.qs (H4.out.idx HI.out) (H4.out.bound HB.out (by omega))).mono ?_;rintro e w5 ⟨rfl,hp⟩;obtain⟨R5,H5⟩:=xG.go H4 (jQ i) hp;clear hp
 go_wp2_with fail
 refine(VB _ p B _ R5 f hst i H5.out.qs (H5.out.idx HI.out) (H5.out.bound HB.out (by omega)) (Nat.le_trans H5.out.lt.ts hl)).mono ?_;rintro e w6 ⟨rfl,hp⟩;obtain⟨R6,H6⟩:=xG.go H5 (ZJ (ZB f) i) hp;clear hp
 go_wp2_with fail
 refine(vE _ p B _ R6 [101,108,115,101] false (AJ) H6.out.qs).mono ?_;rintro e _ ⟨rfl,m,rfl⟩;have H7:=xG.drew H6 m;generalize w6.drewN m=w7 at *
 go_wp2_with fail
 go_end0;rw[HR.out,AF.out];exact⟨rfl,H7.out.post⟩
theorem zKh (w:World)(p B:Nat)(r:Rs)(R:vJ)(f:Nat)(hst:YD f)(i:Nat)(h:QS w p B r R)(hi:i<r.s.nd.length)(hb:r.phi≤1000000)(hl:r.s.ts.length≤f)(h1:(vU i r).is [61,61]=false)(h2:(ZI (xV f) i (vU i (xD [60] (vU i r)))).is [101,108,115,101]=true) :
  Calls Tryz.prog 181 #[.pointer (some ⟨p,0,none⟩),.int .i64 (i:Int)] w fun e w'=>e=.returned (.tuple #[])∧jO w p B R (XT (xV f) i r) w':=by
 have HB:=yE hb;have HI:=yE hi;have H0:=yE (xG.refl h);clear h hb hi;have H1:=yE h1;have H2:=yE h2;have AG:=yE (zNf (i:=i) h1);have AE:=yE (zK8 (ST:=xV f) (i:=i) h2);have HR:Hid (XT (xV f) i r=zDi (xV f) i (ZI (xV f) i (vU i (xD [60] (vU i r))))):=yE (by unfold XT; rw[AG.out]);clear h1 h2;have AD:=H1;have AC:=H2;clear H1 H2
 go_enter Tryz.func181,Tryz.ntmps181
 go_wp2_with fail
 refine(XK _ p B _ R i H0.out.qs (H0.out.idx HI.out) (H0.out.bound HB.out (by omega))).mono ?_;rintro e w1 ⟨rfl,hp⟩;obtain⟨R1,H1⟩:=xG.go H0 (jQ i) hp;clear hp
 go_wp2_with fail
 refine(vE _ p B _ R1 [61,61] false (AD) H1.out.qs).mono ?_;rintro e _ ⟨rfl,m,rfl⟩;have H2:=xG.drew H1 m;generalize w1.drewN m=w2 at *
 go_wp2_with fail
 refine(vF _ p B _ R1 [60] H2.out.qs).mono ?_;rintro e w3 ⟨rfl,hp⟩;obtain⟨R3,H3⟩:=xG.go H2 (xJ [60]) hp;clear hp
 go_wp2_with fail
 refine(XK _ p B _ R3 i H3.out.qs (H3.out.idx HI.out) (H3.out.bound HB.out (by omega))).mono ?_;rintro e w4 ⟨rfl,hp⟩;obtain⟨R4,H4⟩:=xG.go H3 (jQ i) hp;clear hp
 go_wp2_with fail
 refine(VB _ p B _ R4 f hst i H4.out.qs (H4.out.idx HI.out) (H4.out.bound HB.out (by omega)) (Nat.le_trans H4.out.lt.ts hl)).mono ?_;rintro e w5 ⟨rfl,hp⟩;obtain⟨R5,H5⟩:=xG.go H4 (ZJ (ZB f) i) hp;clear hp
 go_wp2_with fail
 refine(vE _ p B _ R5 [101,108,115,101] true (AC) H5.out.qs).mono ?_;rintro e _ ⟨rfl,m,rfl⟩;have H6:=xG.drew H5 m;generalize w5.drewN m=w6 at *;have x1:=H6.out.qs.x1;have AF:=H6.out.qs.blk.frozen 1;have AA:=H6.out.qs.few;have AB:=H6.out.qs.yY.last.pos
 go_wp2_with fail
 have H7:=xG.adv H6 ((vS AC.out).1);clear x1 AF AA AB;generalize w6.setCell ⟨p,1,none⟩ (.int .i64 ((R5.I:Int)+1))=w7 at *;generalize { R5 with I:=R5.I+1 } = R7 at *;refine(VB _ p B _ R7 f hst i H7.out.qs (H7.out.idx HI.out) (H7.out.bound HB.out (by omega)) (Nat.le_trans H7.out.lt.ts hl)).mono ?_;rintro e w8 ⟨rfl,hp⟩;obtain⟨R8,H8⟩:=xG.go H7 (ZJ (ZB f) i) hp;clear hp
 go_wp2_with fail
 go_end0;rw[HR.out,AE.out];exact⟨rfl,H8.out.post⟩
theorem zKw (w:World)(p B:Nat)(r:Rs)(R:vJ)(f:Nat)(hst:YD f)(i:Nat)(h:QS w p B r R)(hi:i<r.s.nd.length)(hb:r.phi≤1000000)(hl:r.s.ts.length≤f)(h1:(vU i r).is [61,61]=false)(h2:(ZI (xV f) i (vU i (xD [60] (vU i r)))).is [101,108,115,101]=false) :
  Calls Tryz.prog 181 #[.pointer (some ⟨p,0,none⟩),.int .i64 (i:Int)] w fun e w'=>e=.returned (.tuple #[])∧jO w p B R (XT (xV f) i r) w':=by
 have HB:=yE hb;have HI:=yE hi;have H0:=yE (xG.refl h);clear h hb hi;have H1:=yE h1;have H2:=yE h2;have AD:=yE (zNf (i:=i) h1);have AC:=yE (zNC (ST:=xV f) (i:=i) h2);have HR:Hid (XT (xV f) i r=zDi (xV f) i (ZI (xV f) i (vU i (xD [60] (vU i r))))):=yE (by unfold XT; rw[AD.out]);clear h1 h2;have AA:=H1;have AB:=H2;clear H1 H2
 go_enter Tryz.func181,Tryz.ntmps181
 go_wp2_with fail
 refine(XK _ p B _ R i H0.out.qs (H0.out.idx HI.out) (H0.out.bound HB.out (by omega))).mono ?_;rintro e w1 ⟨rfl,hp⟩;obtain⟨R1,H1⟩:=xG.go H0 (jQ i) hp;clear hp
 go_wp2_with fail
 refine(vE _ p B _ R1 [61,61] false (AA) H1.out.qs).mono ?_;rintro e _ ⟨rfl,m,rfl⟩;have H2:=xG.drew H1 m;generalize w1.drewN m=w2 at *
 go_wp2_with fail
 refine(vF _ p B _ R1 [60] H2.out.qs).mono ?_;rintro e w3 ⟨rfl,hp⟩;obtain⟨R3,H3⟩:=xG.go H2 (xJ [60]) hp;clear hp
 go_wp2_with fail
 refine(XK _ p B _ R3 i H3.out.qs (H3.out.idx HI.out) (H3.out.bound HB.out (by omega))).mono ?_;rintro e w4 ⟨rfl,hp⟩;obtain⟨R4,H4⟩:=xG.go H3 (jQ i) hp;clear hp
 go_wp2_with fail
 refine(VB _ p B _ R4 f hst i H4.out.qs (H4.out.idx HI.out) (H4.out.bound HB.out (by omega)) (Nat.le_trans H4.out.lt.ts hl)).mono ?_;rintro e w5 ⟨rfl,hp⟩;obtain⟨R5,H5⟩:=xG.go H4 (ZJ (ZB f) i) hp;clear hp
 go_wp2_with fail
 refine(vE _ p B _ R5 [101,108,115,101] false (AB) H5.out.qs).mono ?_;rintro e _ ⟨rfl,m,rfl⟩;have H6:=xG.drew H5 m;generalize w5.drewN m=w6 at *
 go_wp2_with fail
 go_end0;rw[HR.out,AC.out];exact⟨rfl,H6.out.post⟩
theorem zOE (w:World)(p B:Nat)(r:Rs)(R:vJ)(f:Nat)(hst:YD f)(i:Nat)(h:QS w p B r R)(hi:i<r.s.nd.length)(hb:r.phi≤1000000)(hl:r.s.ts.length≤f) :
  Calls Tryz.prog 181 #[.pointer (some ⟨p,0,none⟩),.int .i64 (i:Int)] w fun e w'=>e=.returned (.tuple #[])∧jO w p B R (XT (xV f) i r) w':=by
 cases h1:(vU i r).is [61,61] with
 | true=>
  cases h2:(ZI (xV f) i (vU i (((vU i r).num i 1).adv))).is [101,108,115,101] with
  | true=>exact zH4 w p B r R f hst i h hi hb hl h1 h2
  | false=>exact zKd w p B r R f hst i h hi hb hl h1 h2
 | false=>
  cases h2:(ZI (xV f) i (vU i (xD [60] (vU i r)))).is [101,108,115,101] with
  | true=>exact zKh w p B r R f hst i h hi hb hl h1 h2
  | false=>exact zKw w p B r R f hst i h hi hb hl h1 h2
theorem zSU (w:World)(p B:Nat)(r:Rs)(R:vJ)(f:Nat)(hst:YD f)(i:Nat)(h:QS w p B r R)(hi:i<r.s.nd.length)(hb:r.phi≤1000000)(hl:r.s.ts.length≤f) :
  Calls Tryz.prog 182 #[.pointer (some ⟨p,0,none⟩),.int .i64 (i:Int)] w fun e w'=>e=.returned (.tuple #[])∧jO w p B R (zKc (xV f) i r) w':=by
 have HB:=yE hb;have HI:=yE hi;have H0:=yE (xG.refl h);clear h hb hi
 go_enter Tryz.func182,Tryz.ntmps182
 go_wp2_with fail
 obtain⟨g0,AC,hA,AF,AD⟩:=H0.out.qs.YC (i:=i) (H0.out.idx HI.out);have x3:=H0.out.qs.x3 hA;have AB:=yE hA;have q0:(0:Int)≤((i:Nat):Int):=Int.natCast_nonneg _
 have q1:((i:Nat):Int)<(R.nh.length:Int):=by omega
 clear hA
 go_region_held3 (fun w'=>w'.cell? ⟨p,3,none⟩=some (.slice (some ⟨g0,0,none⟩) R.nh.length R.c))
  (first
   | assumption
   | go_keep
   | exact AE _)
  (first
   | (go_at_call 123; refine(zBk _ p B _ R (H0.out.qs.ext (by first | exact Ext.refl _ | exact Below.drew (Below.refl _ _)))).mono ?_; rintro e AA ⟨rfl,I0,hq,hm⟩; have y1:AA.cell? ⟨p,3,none⟩=some (.slice (some ⟨g0,0,none⟩) R.nh.length R.c):=hq.x3 AB.out; have HN:=yE (And.intro hq hm); have c2:AA.cell? ⟨g0,i*5+2,none⟩=some (.string (xE (R.nh[i]'AC).1.text)):=(hq.jP _ AC AB.out 2 (by decide)); have z2:AA.frozen? ⟨g0,i*5+2,none⟩=false:=hq.JZ _ AB.out; have AE:∀u,(AA.setCell ⟨g0,i*5+2,none⟩ u).cell? ⟨p,3,none⟩=some (.slice (some ⟨g0,0,none⟩) R.nh.length R.c):=fun u=>(World.cell?_of_block (w:=AA) (a:=⟨p,3,none⟩) (zQ AA ⟨g0,i*5+2,none⟩ u p (fun e=>AD e.symm))).trans y1; clear hq hm)
   | (fail))
 obtain⟨R1,H1⟩:=xG.named (i:=i) (g:=g0) H0 HN.out.1 ((yZ.ext (by first | exact Ext.refl _ | exact Below.drew (Below.refl _ _))).trans HN.out.2) AC AB.out;clear c2 z2 y1 AE x3 q0 q1 HN;generalize AA.setCell ⟨g0,i*5+2,none⟩ (.string (xE (Rs.zAz r)))=w1 at *
 go_wp2_with fail
 refine(vF _ p B _ R1 [61] H1.out.qs).mono ?_;rintro e w2 ⟨rfl,hp⟩;obtain⟨R2,H2⟩:=xG.go H1 (xJ [61]) hp;clear hp
 go_wp2_with fail
 refine(zHw _ p B _ R2 i H2.out.qs (H2.out.idx HI.out) (H2.out.bound HB.out (by omega))).mono ?_;rintro e w3 ⟨rfl,hp⟩;obtain⟨R3,H3⟩:=xG.go H2 (zDX i) hp;clear hp
 go_wp2_with fail
 refine(vF _ p B _ R3 [116,111] H3.out.qs).mono ?_;rintro e w4 ⟨rfl,hp⟩;obtain⟨R4,H4⟩:=xG.go H3 (xJ [116,111]) hp;clear hp
 go_wp2_with fail
 refine(zHw _ p B _ R4 i H4.out.qs (H4.out.idx HI.out) (H4.out.bound HB.out (by omega))).mono ?_;rintro e w5 ⟨rfl,hp⟩;obtain⟨R5,H5⟩:=xG.go H4 (zDX i) hp;clear hp
 go_wp2_with fail
 refine(VB _ p B _ R5 f hst i H5.out.qs (H5.out.idx HI.out) (H5.out.bound HB.out (by omega)) (Nat.le_trans H5.out.lt.ts hl)).mono ?_;rintro e w6 ⟨rfl,hp⟩;obtain⟨R6,H6⟩:=xG.go H5 (ZJ (ZB f) i) hp;clear hp
 go_wp2_with fail
 go_end0;exact⟨rfl,H6.out.post⟩
end Go.Proofs.YtioffpjajhalaaaGreatDoor
