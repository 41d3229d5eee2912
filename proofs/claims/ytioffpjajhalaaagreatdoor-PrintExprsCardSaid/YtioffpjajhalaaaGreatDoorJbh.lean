/- A tree that the parser reads is no deeper than it went: statements, the whole. No program in sight; no condition. (and what follows of it). The conditions stand at each lemma. -/
import Derived.Test.YtioffpjajhalaaaGreatDoorJaa
import Derived.Test.YtioffpjajhalaaaGreatDoorJbg
import Derived.Test.YtioffpjajhalaaaGreatDoorJae
import Derived.Shelf.RegionOpenPlain
import Derived.Test.YtioffpjajhalaaaGreatDoorJba
import Derived.Test.YtioffpjajhalaaaGreatDoorJaj
import Derived.Lib.Strings
import Derived.Test.YtioffpjajhalaaaGreatDoorJah
import Derived.Test.YtioffpjajhalaaaGreatDoorJag
set_option linter.unusedVariables false
set_option linter.unusedSimpArgs false
set_option maxRecDepth 100000
set_option maxHeartbeats 16000000
namespace Go.Proofs.YtioffpjajhalaaaGreatDoor
def DD (pre:List Nd)(i k p d:Nat)(s:Ps):Prop:=∃t x g,AtD pre i k p t x g s d∧d+vV g.xP≤64
theorem d2 {d:Nat}{f g:Fo}(h1:d+vV f.xP≤64)(h2:d+vV g.xP≤64):d+vV (f.app g).xP≤64:=by
 rw[zHb,zJ5]; omega
theorem zKS {k:Nat}(l kk:List Nat)(h1:k≠26)(h2:k≠23)(h3:k≠24)(h4:k≠25)(h5:k≠20)(h6:k≠6):ZI k l kk=vV l:=by
 unfold ZI;rw[if_neg h1,if_neg (by omega),if_neg (by omega)]
theorem DD.gd {s0:Ps}{pre:List Nd}{i k p:Nat}{t:Bs}{x:Int}{f:Fo}{j k2 p2 d:Nat}{s:Ps}(h0:AtD pre i k p t x f s0 d)(h:DD (XO pre i k p t x f) j k2 p2 d s)(hk:isS k2):GD pre i k p t x f d s:=by
 obtain⟨t2,x2,g,h1,h2⟩:=h;obtain⟨a,b⟩:=hk;exact h1.gd h0.len (by rw[zKS _ _ (by omega) (by omega) (by omega) (by omega) (by omega) (by omega)]; exact h2)
def StD (st:Nat→Pm Unit):Prop:=∀(pre:List Nd) (i k p:Nat) (t:Bs) (x:Int) (f:Fo) (s:Ps) (d:Nat),AtD pre i k p t x f s d→KR (fun _ s'=>GD pre i k p t x f d s') (st i s)
section
variable {pre:List Nd} {i k p:Nat} {t:Bs} {x:Int} {f:Fo} {s:Ps} {d:Nat}
theorem zUN (h:AtD pre i 7 p [] 0 .nil s d):KR (fun _ s'=>DD pre i 7 p d s') (zGb i s):=xD (zA4 h) fun _ s1 ⟨t',h1⟩=>xD (YG h1 _) fun _ s2 h2=>xD (zPS h2) fun _ s3 ⟨g,hg,h3⟩=>vW (xD (YG h3.adv _) fun _ s4 h4=>jG ⟨_,_,_,h4.num 1,hg⟩) (jG ⟨_,_,_,h3,hg⟩)
theorem zVM (h:AtD pre i 8 p [] 0 .nil s d):KR (fun _ s'=>DD pre i 8 p d s') (zL4 i s):=xD (zPS h) fun _ s1 ⟨g,hg,h1⟩=>xD (YG h1 _) fun _ s2 h2=>vC (zDF h2) fun _ s3 ⟨g2,hg2,h3⟩=>⟨_,_,_,h3,d2 hg hg2⟩
theorem zQE (h:AtD pre i 9 p [] 0 .nil s d):KR (fun _ s'=>DD pre i 9 p d s') (zCm i s):=xD (zOO h) fun _ s1 ⟨g,hg,h1⟩=>xD (YG h1 _) fun _ s2 h2=>xD (zQc (fun f s h=>zDF h) h2) fun _ s3 ⟨g2,hg2,h3⟩=>vC (YG h3 _) fun _ s4 h4=>⟨_,_,_,h4,d2 hg hg2⟩
theorem zQZ (h:AtD pre i 10 p [] 0 .nil s d):KR (fun _ s'=>DD pre i 10 p d s') (zEn i s):=vC (zOO h) fun _ s1 ⟨g,hg,h1⟩=>⟨_,_,_,h1,hg⟩
theorem zUW (h:AtD pre i 11 p [] 0 .nil s d):KR (fun _ s'=>DD pre i 11 p d s') (zFH i s):=xD (zA4 h) fun _ s1 ⟨t',h1⟩=>xD (YG h1 _) fun _ s2 h2=>xD (zF1 h2) fun _ s3 ⟨g,hg,h3⟩=>xD (YG h3 _) fun _ s4 h4=>vC (zF1 h4) fun _ s5 ⟨g2,hg2,h5⟩=>⟨_,_,_,h5,d2 hg hg2⟩
theorem zUv (h:AtD pre i 12 p [] 0 .nil s d):KR (fun _ s'=>DD pre i 12 p d s') (zFR i s):=xD (zF1 h) fun _ s1 ⟨g,hg,h1⟩=>vW (jG ⟨_,_,_,h1.adv.num 1,hg⟩) (vC (YG h1 _) fun _ s2 h2=>⟨_,_,_,h2,hg⟩)
theorem zO6 (h:AtD pre i 13 p [] 0 .nil s d):KR (fun _ s'=>DD pre i 13 p d s') (zAw i s):=xD (zA4 (h.xB 5)) fun _ s1 ⟨t',h1⟩=>vW (vC (zTP (h1.kind 20)) fun _ s2 ⟨g,hg,h2⟩=>⟨_,_,_,AtD.close (g:=g) h.len h2,by show d+max (1+vV g.xP) 0≤64; omega⟩) (jG ⟨_,_,_,h1.close h.len,by have:=h.dl; show d+max 0 0≤64; omega⟩)
theorem zTW (h:AtD pre i k p t 0 f s d):KR (fun _ s'=>∃x,AtD pre i k p t x f s' d) (zCN i s):=vW (jG ⟨1,h.adv.num 1⟩) (vC (YG h _) fun _ s1 h1=>⟨0,h1⟩)
theorem zVX (h:AtD pre i 16 p [] 0 .nil s d):KR (fun _ s'=>DD pre i 16 p d s') (zLI i s):=xD (zA4 h) fun _ s1 ⟨t',h1⟩=>xD (YG h1 _) fun _ s2 h2=>vC (zDF h2) fun _ s3 ⟨g,hg,h3⟩=>⟨_,_,_,h3,hg⟩
theorem zTX (h:AtD pre i 17 p [] 0 .nil s d):KR (fun _ s'=>DD pre i 17 p d s') (XC i s):=vC (zDF h) fun _ s3 ⟨g,hg,h3⟩=>⟨_,_,_,h3,hg⟩
theorem zM1 {st:Nat→Pm Unit}(hst:StD st):∀(n:Nat) (f:Fo) (s:Ps),AtD pre i k p t x f s d→KR (fun _ s'=>GD pre i k p t x f d s') (ZJ st i n s)
 | 0,f,s,h=>YE
 | n+1,f,s,h=>by
  unfold ZJ;exact vW (jG (GD.none h)) (xD (hst _ _ _ _ _ _ _ _ _ h) fun _ u ⟨g,h1,h4⟩=>vC (zM1 hst n _ u h4) fun _ v hv=>hv.behind h1)
theorem zDT {st:Nat→Pm Unit}(hst:StD st)(h:AtD pre i k p t x f s d):KR (fun _ s'=>GD pre i k p t x f d s') (XN st i s):=by
 have h6:=h.xB 6;refine vC (zLr (Q:=fun _ _=>True) h6 fun hd=>zM1 hst _ _ _ (h6.adv.deep (d+1) hd)) fun _ s' ⟨g,h1,h3⟩=>?_;exact AtD.gd (g:=g) h3 h.len (by show d+(1+vV g.xP)≤64; omega)
theorem zQA {st:Nat→Pm Unit}(hst:StD st)(h:AtD pre i 14 p [] 0 .nil s d):KR (fun _ s'=>DD pre i 14 p d s') (zAx st i s):=xD (zDF h) fun _ s1 ⟨g1,hg1,h1⟩=>xD (zTW h1) fun _ s2 ⟨x',h2⟩=>xD (zDF h2) fun _ s3 ⟨g2,hg2,h3⟩=>xD (zDT hst h3) fun _ s4 ⟨g3,hg3,h4⟩=>by
 have hg:=d2 (d2 hg1 hg2) hg3;unfold zC4;exact vW (vC (zDT hst h4.adv) fun _ s5 ⟨g4,hg4,h5⟩=>⟨_,_,_,h5,d2 hg hg4⟩) (jG ⟨_,_,_,h4,hg⟩)
theorem zUo {st:Nat→Pm Unit}(hst:StD st)(h:AtD pre i 15 p [] 0 .nil s d):KR (fun _ s'=>DD pre i 15 p d s') (zDC st i s):=xD (zA4 h) fun _ s1 ⟨t',h1⟩=>xD (YG h1 _) fun _ s2 h2=>xD (zKs h2) fun _ s3 ⟨g1,hg1,h3⟩=>xD (YG h3 _) fun _ s4 h4=>xD (zKs h4) fun _ s5 ⟨g2,hg2,h5⟩=>vC (zDT hst h5) fun _ s6 ⟨g3,hg3,h6⟩=>⟨_,_,_,h6,d2 (d2 hg1 hg2) hg3⟩
theorem zTK {st:Nat→Pm Unit}(hst:StD st)(hk:isS k)(h:AtD pre i k p [] 0 .nil s d):KR (fun _ s'=>DD pre i k p d s') (YO st k i s):=by
 unfold YO
 split
 ·rename_i e; subst e; exact zUN h
 split
 ·rename_i e; subst e; exact zVM h
 split
 ·rename_i e; subst e; exact zQE h
 split
 ·rename_i e; subst e; exact zQZ h
 split
 ·rename_i e; subst e; exact zUW h
 split
 ·rename_i e; subst e; exact zUv h
 split
 ·rename_i e; subst e; exact zO6 h
 split
 ·rename_i e; subst e; exact zQA hst h
 split
 ·rename_i e; subst e; exact zUo hst h
 split
 ·rename_i e; subst e; exact zVX h
 split
 ·rename_i e; subst e; exact zTX h
 ·exact jG ⟨_,_,_,h,h.dl⟩
end
theorem zPV:∀n:Nat,StD (jO n)
 | 0=>fun pre i k p t x f s d h=>YE
 | n+1=>fun pre i k p t x f s d h=>by
  unfold jO
  split
  ·exact YE
  ·rename_i k2 hk
   have hS:isS k2:=by
    split at hk
    ·exact zJJ hk
    ·cases hk
   refine xD (zTK (zPV n) hS (h.xB k2).adv) fun _ u hu=>?_;have hG:=DD.gd h hu hS;refine vW (jG hG) ?_;obtain⟨g,h1,h3⟩:=hG;exact vC (YG h3 _) fun _ v hv=>⟨g,h1,hv⟩
section
variable {pre:List Nd} {i k p:Nat} {t:Bs} {x:Int} {f:Fo} {s:Ps} {d:Nat}
theorem zOa (h:AtD pre i k p t x f s d):KR (fun _ s'=>GD pre i k p t x f d s') (JC (JN i) s):=zQc (fun f s h=>zF1 h) h
theorem zSF (h:AtD pre i k p t x f s d):KR (fun _ s'=>GD pre i k p t x f d s') (zAX i s):=xD (YG (h.xB 2) _) fun _ s1 h1=>xD (zA4 h1) fun _ s2 ⟨t',h2⟩=>xD (YG h2 _) fun _ s3 h3=>xD (zOa h3) fun _ s4 ⟨g,hg,h4⟩=>xD (YG h4 _) fun _ s5 h5=>vC (YG h5 _) fun _ s6 h6=>AtD.gd (g:=g) h6 h.len hg
theorem zTG (h:AtD pre i k p t x f s d):KR (fun _ s'=>GD pre i k p t x f d s') (JM i s):=by
 have h4:=h.xB 4;unfold JM;exact vW (jG (h4.gd h.len (by have:=h.dl; show d+0≤64; omega))) (vC (zOa h4) fun _ s1 ⟨g,hg,h1⟩=>AtD.gd (g:=g) h1 h.len hg)
theorem zUF (h:AtD pre i k p t x f s d):KR (fun _ s'=>GD pre i k p t x f d s') (zCB i s):=xD (YG (h.xB 3) _) fun _ s1 h1=>xD (zA4 h1) fun _ s2 ⟨t',h2⟩=>xD (YG h2 _) fun _ s3 h3=>xD (zTG h3) fun _ s4 ⟨g,hg,h4⟩=>xD (YG h4 _) fun _ s5 h5=>by
 refine xD (Q:=fun _ s'=>∃x',AtD (XO pre i k p t x f) s.nd.length 3 (s.kid i).hd.at_ t' x' (Fo.nil.app g) s' d) ?_ fun _ s6 ⟨x',h6⟩=>?_
 ·exact vW (jG ⟨1,h5.adv.num 1⟩) (jG ⟨0,h5⟩)
 ·exact vC (zDT (zPV _) h6) fun _ s7 ⟨g2,hg2,h7⟩=>AtD.gd (g:=(Fo.nil.app g).app g2) h7 h.len (d2 hg hg2)
theorem zNY {k p:Nat}{t:Bs}{x:Int}{d:Nat}:∀(n:Nat) (f:Fo) (s:Ps),AtD [] 0 k p t x f s d→KR (fun _ s'=>GD [] 0 k p t x f d s') (vY n s)
 | 0,f,s,h=>YE
 | n+1,f,s,h=>by
  have hh:∀u:Ps,GD [] 0 k p t x f d u→KR (fun _ s'=>GD [] 0 k p t x f d s') (vY n u):=fun u ⟨g,h1,h3⟩=>vC (zNY n _ u h3) fun _ v hv=>hv.behind h1;unfold vY;exact vW (jG (GD.none h)) (vW (xD (zSF h) fun _ u hu=>hh u hu) (vW (xD (zUF h) fun _ u hu=>hh u hu) YE))
end
def zPp (n:Nat)(y:List Nd)(g:Fo):Prop:=∃p,y=⟨1,p,[],0,g.roots 1⟩::g.flat 1∧p≤n∧g.ok n∧xU 1 [] 0 g.kinds∧(∀e ∈ g.kinds,e=2∨e=3)∧vV g.xP≤64∧g.cost≤61*n+60
theorem zGX {l:Bs}{y:List Nd}(h:VU l=.ok y)(hl:l.length≤65536):∃g,zPp l.length y g:=by
 unfold VU at h
 have hs:zDS l=VJ 0 l:=by unfold zDS; rw[if_neg (by omega)]
 rw[hs] at h
 cases h1:VJ 0 l with
 | err a e=>rw[h1] at h; cases h
 | ok ts=>
  rw[h1] at h;have h:XY ts=.ok y:=h;obtain⟨_,_,AC⟩:=zEX h1;have ht:=zMX _ _ _ _ h1 (fun t ht=>by have:=AC t ht; omega);rw[Nat.zero_add] at ht;have AB:=zNH h;have AE:=zFf _ _ _ _ h1;unfold XY at h
  split at h
  ·rename_i a s hs;injection h with h;subst h
   have AA:(⟨ts,[],0⟩:Ps).hd.at_≤l.length:=by
    cases ts with
    | nil=>exact zT _
    | cons t l=>exact(ht t (List.mem_cons_self ..)).1
   have h0:AtN l.length [] 0 1 (⟨ts,[],0⟩:Ps).hd.at_ [] 0 .nil ((⟨ts,[],0⟩:Ps).node 1):=⟨rfl,AA,rfl,ht⟩;obtain⟨g,a1,a2,a3⟩:=zJU _ _ _ h0 a s hs;have d0:AtD [] 0 1 (⟨ts,[],0⟩:Ps).hd.at_ [] 0 .nil ((⟨ts,[],0⟩:Ps).node 1) 0:=⟨rfl,rfl,rfl,by decide⟩;obtain⟨g2,b1,b2⟩:=zNY _ _ _ d0 a s hs;have e1:s.nd=⟨1,(⟨ts,[],0⟩:Ps).hd.at_,[],0,g.roots 1⟩::g.flat 1:=a3.nd;have e2:s.nd=⟨1,(⟨ts,[],0⟩:Ps).hd.at_,[],0,g2.roots 1⟩::g2.flat 1:=b2.nd;rw[e1] at e2;injection e2 with e3 e4;injection e3 with _ _ _ _ e5;obtain rfl:=zD8 _ _ _ e4 e5;refine⟨g,_,e1,AA,a1,nk1 a2,a2,by omega,?_⟩;rw[e1] at AB;have AD:JQ ⟨1,(⟨ts,[],0⟩:Ps).hd.at_,[],0,g.roots 1⟩+((g.flat 1).map JQ).sum≤(ts.map VW).sum:=AB;rw[zGP] at AD;omega
  ·cases h
end Go.Proofs.YtioffpjajhalaaaGreatDoor
namespace Go.Proofs.YtioffpjajhalaaaGreatDoor
open Go Go.RowKit
theorem zUu {w:World}{B:Nat}{e:TypeId}{n:Nat}{v:Value}{xs:List Value}(h:w.ownsRow B e 1 v n xs):∃A c,v=.slice A n c:=by
 rcases h.2 with ⟨hv,hn⟩ | ⟨g,AB,AA,hv,_⟩
 ·exact⟨none,0,by rw[hv,hn]⟩
 ·exact⟨_,_,hv⟩
theorem zSX (w:World)(B g n c:Nat)(A:Option Addr)(v:Value)(bs:Bs)(d:Nat)(h:PrS w B g A n c v bs d) :
  Calls Tryz.prog 45 #[.pointer (some ⟨g,1,none⟩)] w fun e w'=>e=.returned (.int .i64 (bs.length:Int))∧w=w':=by
 obtain⟨V,k,rfl⟩:=zUu h.own
 have c2:w.cell? ⟨g,2,none⟩=some (.slice V bs.length k):=by obtain⟨ad,hb⟩:=h.any; exact hb.cell 2
 clear h
 go_enter Tryz.func45,Tryz.ntmps45
 go_wp2_with fail
 go_ret;exact⟨rfl,rfl⟩
theorem zUi:Tryz.prog.cellsOf 5=1:=by kernel_rfl
theorem zNm (w:World)(B g n c:Nat)(A:Option Addr)(v:Value)(bs:Bs)(d:Nat)(h:PrS w B g A n c v bs d)(h0:bs≠[]) :
  Calls Tryz.prog 47 #[.pointer (some ⟨g,1,none⟩)] w fun e w'=>e=.returned (.string (yX bs))∧Below B w w':=by
 have AK:bs.length≠0:=by simpa using h0
 have AC:=h.own
 obtain⟨gb,AA,AB,rfl,AF,hg,AJ,AG,AH,AD⟩:∃gb AA AB,v=.slice (some ⟨gb,0,none⟩) bs.length AA∧B≤gb∧w.heap[gb]?=some (.cells AB 5 (0,0))∧bs.length≤AA∧AA≤maxLen∧AB.size=AA*1∧AB.toList.take (bs.length*1)=xO bs:=by
  rcases AC.2 with ⟨_,hz⟩ | ⟨g,AA,AB,hv,r⟩
  ·exact absurd hz AK
  ·exact⟨g,AA,AB,hv,r⟩
 have c2:w.drew.cell? ⟨g,2,none⟩=some (.slice (some ⟨gb,0,none⟩) bs.length AA):=by obtain⟨ad,hb⟩:=h.any; exact hb.cell 2
 have AM:(Builtin.unsafeSliceData_ #[22] 140 #[.slice (some ⟨gb,0,none⟩) bs.length AA]).run Tryz.prog w.drew=.ok (.pointer (some ⟨gb,0,none⟩)) w.drew:=
  Lib.run_unsafeSliceData_row _ _ _ _ _ _ (by omega)
 have AN:(Builtin.unsafeString_ #[140,3] 9 #[.pointer (some ⟨gb,0,none⟩),.int .i64 bs.length]).run Tryz.prog w.drew=.ok (.string ⟨bs.toArray⟩) (w.drew.freeze ⟨gb,0,none⟩ bs.length):=by
  refine Lib.run_unsafeString_row w.drew 140 3 9 5 Tryz.underlying140 zUi gb AB.size (by have AI:w.drew.heap[gb]?=some (.cells AB 5 (0,0)):=hg; simp[World.shape?,AI]) bs h0 (by omega) (by unfold maxLen at AG; omega) ?_;intro j x hx
  have:=AC.cells (g:=gb) rfl j (.int .u8 x.toNat) (by simp[xO,hx])
  exact this
 have AL:=yD AF;clear h AC hg AH AD AJ AG AF h0
 have AE:Tryz.prog.follows .mixedOrders=true:=by kernel_rfl
 go_enter Tryz.func47,Tryz.ntmps47
 go_wp2
 go_region_o
 all_goals (go_wp2; go_ret; exact⟨rfl,Lib.below_freeze (Below.drew (Below.refl B w)) (p:=⟨gb,0,none⟩) AL.out _⟩)
theorem zMN (w:World)(B g n c:Nat)(A:Option Addr)(d:Nat)(h:PrS w B g A n c (.slice none 0 0) [] d) :
  Calls Tryz.prog 47 #[.pointer (some ⟨g,1,none⟩)] w fun e w'=>e=.returned (.string (yX []))∧Below B w w':=by
 have AC:∀W q,(Builtin.unsafeString_ #[140,3] 9 #[.pointer q,.int .i64 0]).run Tryz.prog W=.ok (.string .empty) W:=fun W q=>Lib.run_unsafeString_none W _ _ _ q
 have c2:w.drew.cell? ⟨g,2,none⟩=some (.slice none 0 0):=by obtain⟨ad,hb⟩:=h.any; exact hb.cell 2
 have AB:(Builtin.unsafeSliceData_ #[22] 140 #[.slice none 0 0]).run Tryz.prog w.drew=.ok (.pointer none) w.drew:=rfl;clear h
 have AA:Tryz.prog.follows .mixedOrders=true:=by kernel_rfl
 go_enter Tryz.func47,Tryz.ntmps47
 go_wp2
 go_region_o
 all_goals (go_wp2; go_ret; exact⟨rfl,Below.drew (Below.refl B w)⟩)
theorem zKU (w:World)(l:Bs):(convert 9 22 (.string (yX l))).run Tryz.prog w=.ok (.slice (some ⟨w.heap.size,0,none⟩) l.length (grownCap w l.length 0 5)) (Lib.bytesWorld w 5 (yX l))∧l.length≤grownCap w l.length 0 5:=by
 have AB:(yX l).size=l.length:=by simp[yX,ByteArray.size]
 have h:=Lib.run_convert_string_bytes (P:=Tryz.prog) w 9 22 5 (yX l) Tryz.underlying9 Tryz.underlying22 Tryz.underlying5;have AA:=grownCap_ge w (yX l).size 0 5;rw[AB] at h AA;exact⟨h,AA⟩
theorem zTR (t:TypeId)(v:Value)(s:ByteArray)(w:World):Calls Tryz.prog 46 #[.iface t v,.string s] w fun e w'=>e=.returned (.iface 139 (.agg #[.iface t v,.string s]))∧w=w':=by
 go_enter Tryz.func46,Tryz.ntmps46
 go_wp2_with fail
 go_ret;exact⟨rfl,rfl⟩
theorem zJw (w:World)(l:Bs):Cells (Lib.bytesWorld w 5 (yX l)) (some ⟨w.heap.size,0,none⟩) (xO l):=by
 have AA:(yX l).size=l.length:=by simp[yX,ByteArray.size]
 exact .inr ⟨w.heap.size,0,rfl,by rw[Lib.bytesWorld_size]; omega,fun k hk=>by
  rw[jU] at hk;rw[Nat.zero_add,Lib.bytesWorld_cell w 5 (yX l) k (by rw[AA]; exact hk),zAc l k hk]
  simp[yX,hk]⟩
theorem zKN {t:Bs}{x:Int}{kk:List Nat}(h:xU 1 t x kk)(j:Nat)(hj:j<kk.length):kk.getD j 0=2∨kk.getD j 0=3:=by
 have hf:(kk.map fun (j:Nat)=>(j:Int)).all TT.zBR=true:=h.2.2.2;rw[zG] at hf
 have hb:TT.zBR ((kk.getD j 0:Nat):Int)=true:=hf _ (by
  rw[yS];refine⟨kk[j],yL hj,?_⟩;rw[yE,yG hj]
  rfl)
 unfold TT.zBR at hb;simp only[Bool.or_eq_true,zN] at hb;omega
theorem zRJ {t:Bs}{x:Int}{kk:List Nat}(h:xU 3 t x kk):kk.length=2∧kk.getD 1 0=6:=by
 have hf:TT.isR (kk.map fun (j:Nat)=>(j:Int)) [4,6]=true:=h.2.2.2;have h1:=ZP hf;have h2:=VV hf 1 (by decide);rw[VM] at h2;have h2:((kk.getD 1 0:Int)==6)=true:=h2;rw[zN] at h2
 simp at h1
 exact⟨h1,by omega⟩
theorem zSx {t:Bs}{x:Int}{kk:List Nat}(h:xU 3 t x kk):x=0∨x=1:=by
 have:=h.2.2.1
 unfold TT.JR at this;simp only[zF,zE] at this;have hm:TT.XP ((3:Nat):Int)=1:=rfl
 have:=this.2.2
 omega
def zQC (w:World)(out:Bs)(e:Ending)(w':World):Prop:=
 (65536<out.length→e=.returned (.tuple #[.slice none 0 0,.iface 139 (.agg #[.iface 54 (.int .i64 3),.string ⟨#[112,114,105,110,116]⟩])])) ∧
 (out.length≤65536→∃b k,e=.returned (.tuple #[.slice (some ⟨b,0,none⟩) out.length k,.nilIface])∧out.length≤k∧Cells w' (some ⟨b,0,none⟩) (xO out))∧Ext w w'
theorem zRz (w:World)(A:Option Addr)(n c:Nat)(L:List TT.xC)(hn:n=L.length)(hT:TT.XU w A L)(hlen:L.length≤9000)(hsm:∀x ∈ L,TT.zEt x)(hr:TT.jT L=true)(hpw:PW w)
  (t1:Bs) (x1:Int) (f:Fo) (hL:VP L 0 (Fo.one 1 0 t1 x1 f)) (hok:(Fo.one 1 0 t1 x1 f).ok 0) (hwt:f.wt≤1099511627776) (hsz:f.size≤100000) (htot:f.print.length≤140737488355328) :
  Calls Tryz.prog 17 #[.agg #[.slice A n c]] w (zQC w f.print):=by
 have Bj:Hid (Ext w (w.alloc (.cells #[.slice A n c] 39))):=yD (Ext.alloc _ _);have BQ:Hid (Blk (w.alloc (.cells #[.slice A n c] 39)) w.heap.size 39 #[.slice A n c]):=yD (Blk.new _ _ _);have HR:Hid (∀w',Ext w w'→Calls Tryz.prog 21 #[.agg #[.slice A n c]] w' fun e w''=>e=.returned (.bool true)∧Ext w' w''):=yD fun w' hx=>TT.zCq L A n c w' hn (hT.ext hx) hlen hsm true (yD hr);obtain⟨⟨x,Ak,B9,CQ,CI,Ae⟩,hf,CG⟩:=hL;have A5:x.kids=xK (f.roots 1):=Ae;clear CQ CI Ae CG;have Ay:0<L.length:=(List.getElem?_eq_some_iff.1 Ak).1
 have B6:L[0]=x:=by rw[yG Ay] at Ak; exact Option.some.inj Ak
 obtain⟨tb,tf,hA,Bh,BI⟩:=hT.at_ 0 Ay;rw[B6] at BI;have CK:Hid (x ∈ L):=yD (zY Ak);have HA:=yD hA;clear hA;have HT:=yD hT;have B8:=yD hpw;have Bb:Hid (VP L 1 f):=yD hf;have B5:Hid (f.ok 0):=yD hok.2.1;have CS:=yD hwt;have CE:=yD hsz;have An:=yD htot;have Ab:=yD Bh;have Ac:=yD BI;have CF:=yD A5;have HN:=yD hn;have Bm:=yD Ay;have CL:=yD hok.1.1;have Bt:Hid (x.kids.length=(f.roots 1).length):=yD (by rw[A5]; simp[xK]);have CV:Hid ((f.roots 1).length≤100000):=yD (Nat.le_trans (zCw f 1) hsz);clear hn hT hlen hsm hr hpw hf hok hwt hsz htot Bh BI A5 Ak B9 B6 Ay
 go_enter Tryz.func17,Tryz.ntmps17
 go_upto_region 1 with fail
 generalize w.heap.size=gt at BQ ⊢;generalize w.alloc (.cells #[.slice A n c] 39)=w1 at *;have c0:w1.cell? ⟨gt,0,none⟩=some (.slice A n c):=BQ.out.cell 0
 go_wp2_with fail
 refine(HR.out w1 Bj.out).mono ?_;rintro e w2 ⟨rfl,AD⟩;have AY:=yD (Bj.out.trans AD);have BP:=yD (BQ.out.ext AD);clear AD c0 HR;obtain rfl:=HA.out;clear HA;have Bo:zAp w2 w2.heap.size n (some ⟨tb,tf,none⟩) L:=⟨rfl,HT.out.ext AY.out,HN.out,B8.out.ext AY.out⟩;have c0:w2.cell? ⟨gt,0,none⟩=some (.slice (some ⟨tb,tf,none⟩) n c):=BP.out.cell 0;have AW:Hid (Ext w2 (w2.alloc (.cells #[.slice (some ⟨tb,tf,none⟩) n c,.pointer none,.slice none 0 0,.int .i64 0] 82))):=yD (Ext.alloc _ _);have Bk:Hid (PrS (w2.alloc (.cells #[.slice (some ⟨tb,tf,none⟩) n c,.pointer none,.slice none 0 0,.int .i64 0] 82)) w2.heap.size w2.heap.size (some ⟨tb,tf,none⟩) n c (.slice none 0 0) [] 0):=yD ⟨zU _,.inl (Blk.new _ _ _),zP _ _ _ _⟩
 go_upto_region 4 with fail
 have AP:=yD Bo;have Bp:Hid (gt≠w2.heap.size):=yD (by have:=BP.out.lt; omega);clear Bo c0;generalize hgb:w2.heap.size=B at AP Bk AW Bp ⊢;have A1:=yD hgb;clear hgb;generalize w2.alloc (.cells #[.slice (some ⟨tb,tf,none⟩) n c,.pointer none,.slice none 0 0,.int .i64 0] 82)=w3 at *;have Bi:=yD (BP.out.ext AW.out);have CP:=yD (AY.out.trans AW.out)
 have q0:(0:Int)<(n:Int):=by have:=HN.out; have:=Bm.out; omega
 have c0:w3.cell? ⟨gt,0,none⟩=some (.slice (some ⟨tb,tf,none⟩) n c):=Bi.out.cell 0
 have u4:w3.cell? ⟨tb,tf+4,none⟩=some (.slice x.kA x.kids.length x.kc):=by
  have:=(CP.out.cell (p:=⟨tb,tf+0*5+4,none⟩) Ab.out).trans (Ac.out 4 (by decide))
  simp only[Nat.zero_mul,Nat.add_zero] at this;exact this
 rw[Bt.out] at u4
 go_wp2_with fail
 clear u4 c0
 go_loopw [20] (fun i wr=>∃(k:Nat) (v:Value),k≤(f.roots 1).length∧i=.int .i64 k∧Hid (PrS wr B B (some ⟨tb,tf,none⟩) n c v (f.top.take k).flatten 0)∧Hid (vU w3 wr B B)∧Hid (k=0→v=.slice none 0 0)) (fun i _=>(f.roots 1).length-(intOf i).toNat)
 case atStart=>exact⟨0,_,zT _,rfl,yD Bk.out,yD (vU.refl _ _ _),yD fun _=>rfl⟩
 case round=>
  obtain⟨i,v,hi,rfl,HS,HM,HV⟩:=hrel;obtain⟨wa,rfl⟩:∃wa:World,wa=wr:=⟨_,rfl⟩;have Cb:=CV.out;have Aq:=yD (AP.out.ext AW.out HM.out (zU _))
  by_cases AI:i<(f.roots 1).length
  rotate_left
  ·obtain rfl:i=(f.roots 1).length:=by omega
   have d0:decide (((f.roots 1).length:Int)<((f.roots 1).length:Int))=false:=by simp
   have d1:decide ((f.roots 1).length<(f.roots 1).length)=false:=by simp
   have CJ:Hid ((f.top.take (f.roots 1).length).flatten=f.print):=yD (by rw[List.take_of_length_le (by rw[zIJ f 1]; exact zU _)]; rfl);rw[CJ.out] at HS
   have CR:Hid ((f.roots 1).length≠0→f.print≠[]):=yD fun h h0=>by
    obtain⟨k',t',x',c',m',_,_,_,_,_,_,_,_,_,_,_,B7,_⟩:=zQg f 1 Bb.out B5.out 0 (by omega)
    have hm:zJN k' t' x' c'.txt c'.inn ((c'.st 1).map Prod.snd) ∈ f.top:=by
     rw[←B7,yE,yG (by rw[zIJ f 1]; omega)];exact yL _
    have h0:f.top.flatten=[]:=h0;rw[List.flatten_eq_nil_iff] at h0;exact zVE _ _ _ _ _ _ (h0 _ hm)
   generalize f.print=out at *;have Cd:=yD An.out;generalize (f.roots 1).length=rl at *;have HL:=yD (zSX wa B B n c _ v out 0 HS.out)
   have CN:Hid (Calls Tryz.prog 47 #[.pointer (some ⟨B,1,none⟩)] wa fun e w'=>e=.returned (.string (yX out))∧Below B wa w'):=yD (by
    by_cases hz:out=[]
    ·have:rl=0:=by
      rcases Nat.eq_zero_or_pos rl with h | h
      ·exact h
      ·exact absurd hz (CR.out (by omega))
     have hv:=HV.out this;have hs:=HS.out;rw[hz,hv] at hs;rw[hz];exact zMN wa B B n c _ 0 hs
    ·exact zNm wa B B n c _ v out 0 HS.out hz)
   by_cases AN:65536<out.length
   ·have e0:decide ((out.length:Int) > 65536)=true:=yP (by omega);have e1:decide ((65536:Int)<(out.length:Int))=true:=e0;have AR:=yD AN;clear AN hi AI
    go_wp2_with fail
    refine HL.out.mono ?_;rintro e _ ⟨rfl,rfl⟩
    go_wp2_with fail
    refine(zTR 54 (.int .i64 3) ⟨#[112,114,105,110,116]⟩ wa).mono ?_;rintro e _ ⟨rfl,rfl⟩
    go_wp2_with fail
    go_ret2;exact⟨fun _=>rfl,fun h=>absurd h (by have:=AR.out; omega),AY.out.trans Aq.out⟩
   ·have e0:decide ((out.length:Int) > 65536)=false:=yO (by omega);have e1:decide ((65536:Int)<(out.length:Int))=false:=e0;have AR:=yD AN;clear AN hi AI
    go_wp2_with fail
    refine HL.out.mono ?_;rintro e _ ⟨rfl,rfl⟩
    go_wp2_with fail
    refine CN.out.mono ?_;rintro e w5 ⟨rfl,Bd⟩
    have AZ:Hid (Ext w2 w5):=yD (by
     have h1:=Aq.out
     have h2:Below w2.heap.size wa w5:=by rw[A1.out]; exact Bd
     exact Below.trans h1 h2)
    obtain⟨CY,At⟩:=zKU w5 out;have B1:Ext w5 (Lib.bytesWorld w5 5 (yX out)):=Ext.bytesWorld w5 5 (yX out);have Bc:=zJw w5 out;have BS:=yD At;have CO:=yD (AZ.out.trans B1);have CX:=yD Bc;clear Bd B1 Bc At
    go_wp2_with fail
    go_ret2;exact⟨fun h=>absurd h AR.out,fun _=>⟨_,_,rfl,BS.out,CX.out⟩,AY.out.trans CO.out⟩
  have d0:decide ((i:Int)<((f.roots 1).length:Int))=true:=yP (by omega);have d1:decide (i<(f.roots 1).length)=true:=yP AI;obtain⟨k,t,num,c',y,hy,AG,AK,AL,BW,Bg,B0,BZ,B3,Bz,Ag,AO,_⟩:=zQg f 1 Bb.out B5.out i AI;have A2:=yD AI
  have Aj:∀w',Ext w2 w'→PrS w' B B (some ⟨tb,tf,none⟩) n c v (f.top.take i).flatten 0→Calls Tryz.prog 40 #[.pointer (some ⟨B,0,none⟩),.agg #[.int .u8 x.kind,.int .i64 x.pos,.string x.text,.int .i64 x.num,.slice x.kA x.kids.length x.kc],.int .i64 (i:Int)] w' fun e w''=>e=.returned (jF y)∧Ext w' w'':=fun w' hx hs=>by
   have hp:=AP.out.prT hx hs;exact zA0 w' B n c _ L hp.tree hp.len hp.at0 hp.lt x ((hp.tree.ok x CK.out).kids) i ((f.roots 1)[i]'AI) (by rw[Bt.out]; exact AI) (by simp only[CF.out,xK,zA]) (List.getElem?_eq_some_iff.1 hy).1 y hy
  have Ai:=yD (Aj wa Aq.out HS.out);have Be:Hid (y ∈ L):=yD (zY hy);have Br:=yD BZ;have Al:=yD BW;have BM:=yD Bg;have Aw:=yD B0;have Am:Hid (c'.wt≤1099511627776):=yD (Nat.le_trans B3 CS.out);have Ax:Hid (c'.size≤100000):=yD (Nat.le_trans Bz CE.out);have CD:Hid (y.kids.length=(c'.roots ((f.roots 1)[i]+1)).length):=yD (by rw[BW]; exact yN ..)
  have AE:Hid ((f.top.take (i+1)).flatten=(f.top.take i).flatten++zJN k t num c'.txt c'.inn ((c'.st 1).map Prod.snd)):=yD (by
   have Bu:i<f.top.length:=by rw[zIJ f 1]; exact AI
   rw[←AO,List.take_add_one,yG Bu,List.flatten_append,yE,yG Bu]
   simp)
  have Az:Hid ((f.top.take (i+1)).flatten.length≤140737488355328):=yD (by
   refine Nat.le_trans ?_ An.out;unfold Fo.print
   conv=>rhs; rw[←List.take_append_drop (i+1) f.top]
   rw[List.flatten_append,yM]
   omega)
  have CW:=yD (HM.out.blk Bi.out Bp.out (by decide));have c0:wa.cell? ⟨gt,0,none⟩=some (.slice (some ⟨tb,tf,none⟩) n c):=CW.out.cell 0
  have q0:(0:Int)<(n:Int):=by have:=HN.out; have:=Bm.out; omega
  have Ah:=yD (AY.out.trans Aq.out)
  have u0:wa.cell? ⟨tb,tf,none⟩=some (.int .u8 x.kind):=by
   have:=(Ah.out.cell (p:=⟨tb,tf+0*5+0,none⟩) Ab.out).trans (Ac.out 0 (by decide))
   simp only[Nat.zero_mul,Nat.add_zero] at this;exact this
  have u1:wa.cell? ⟨tb,tf+1,none⟩=some (.int .i64 x.pos):=by
   have:=(Ah.out.cell (p:=⟨tb,tf+0*5+1,none⟩) Ab.out).trans (Ac.out 1 (by decide))
   simp only[Nat.zero_mul,Nat.add_zero] at this;exact this
  have u2:wa.cell? ⟨tb,tf+2,none⟩=some (.string x.text):=by
   have:=(Ah.out.cell (p:=⟨tb,tf+0*5+2,none⟩) Ab.out).trans (Ac.out 2 (by decide))
   simp only[Nat.zero_mul,Nat.add_zero] at this;exact this
  have u3:wa.cell? ⟨tb,tf+3,none⟩=some (.int .i64 x.num):=by
   have:=(Ah.out.cell (p:=⟨tb,tf+0*5+3,none⟩) Ab.out).trans (Ac.out 3 (by decide))
   simp only[Nat.zero_mul,Nat.add_zero] at this;exact this
  have u4:wa.cell? ⟨tb,tf+4,none⟩=some (.slice x.kA x.kids.length x.kc):=by
   have:=(Ah.out.cell (p:=⟨tb,tf+0*5+4,none⟩) Ab.out).trans (Ac.out 4 (by decide))
   simp only[Nat.zero_mul,Nat.add_zero] at this;exact this
  have BO:Hid (y.kind=(k:Int)∧y.num=num∧y.text=yX t):=yD ⟨AG,AK,AL⟩;have BJ:Hid (k=2∨k=3):=yD (by rw[←Ag]; exact zKN CL.out i (by rw[zBi f 1]; exact AI));clear Aj hy AG AK AL BW Bg B0 BZ B3 Bz Ag AO;generalize hri:(f.roots 1)[i]'AI+1=ri at *;clear hri AI
  go_wp2_with fail
  refine Ai.out.mono ?_;rintro e w4 ⟨rfl,B2⟩;have Bn:=yD B2;clear B2 u0 u1 u2 u3 u4 c0 q0 Ai;unfold jF
  go_wp2_with (refine vJ rfl 48 _ _ rfl w4.heap.size #[.int .u8 y.kind,.int .i64 y.pos,.string y.text,.int .i64 y.num,.slice y.kA y.kids.length y.kc] (by kernel_rfl) (by kernel_rfl) 48 _ (Blk.new _ _ _) (by kernel_rfl) rfl rfl ?_)
  intro w5 Ba Bx;have AZ:Hid (Ext wa w5):=yD (Bn.out.trans (Ba.ext (Ext.alloc w4 _) (zU _)));have AC:=yD Bx;clear Ba Bx;generalize w4.heap.size=gy at *;have AX:=yD (HS.out.ext AZ.out);have AQ:=yD (Aq.out.trans AZ.out);have A0:=yD (HM.out.trans (vU.ext AZ.out))
  have CC:Hid (gy≠B):=yD fun e=>by
   obtain⟨ad,hb⟩:=AX.out.any;subst e;exact Blk.differ AC.out hb (by decide) rfl
  obtain⟨AG,AK,AL⟩:=BO.out;have Aa:=yD (AP.out.prT AQ.out AX.out);have CU:=yD (zDu w5 B n c _ L Aa.out c' ri BM.out Aw.out Am.out);have Bq:=yD (Aa.out.tree.ok y Be.out).kids;have A7:=yD (Nat.le_trans (zGH c' Aw.out) Am.out);have BL:=yD (Nat.le_trans (zCw c' ri) Ax.out);clear Bn AZ
  rcases BJ.out with rfl | rfl
  ·replace AG:y.kind=2:=AG
   rw[AG,AK,AL] at AC;have n0:w5.cell? ⟨gy,0,none⟩=some (.int .u8 2):=AC.out.cell 0;have n1:w5.cell? ⟨gy,1,none⟩=some (.int .i64 y.pos):=AC.out.cell 1;have n2:w5.cell? ⟨gy,2,none⟩=some (.string (yX t)):=AC.out.cell 2;have n3:w5.cell? ⟨gy,3,none⟩=some (.int .i64 num):=AC.out.cell 3;have n4:w5.cell? ⟨gy,4,none⟩=some (.slice y.kA y.kids.length y.kc):=AC.out.cell 4;have AB:=yD AC.out.lt
   have BT:Hid (∀w',Ext w5 w'→Calls Tryz.prog 42 #[.pointer (some ⟨B,0,none⟩),.agg #[.int .u8 2,.int .i64 y.pos,.string (yX t),.int .i64 num,.slice y.kA y.kids.length y.kc],.int .i64 0] w' fun e w''=>e=.returned (.string (yX (jD c'.txt)))∧Ext w' w''):=yD fun w' hx=>by
    have:=zJT w' B n c _ L (Aa.out.ext hx) y (Bq.out.ext hx) (c'.roots ri) c'.kinds c'.txt Al.out (zEZ c' ri) BL.out (fun j hj=>by
     obtain⟨z,h1,h2,h3⟩:=CU.out j hj
     exact⟨z,h1,h2,fun w2 AD=>h3 w2 (hx.trans AD)⟩) A7.out 0 (zT _)
    unfold jF at this;rw[AG,AL,AK] at this;exact this
   have AE:Hid ((f.top.take (i+1)).flatten=(f.top.take i).flatten++xR 0 [[116,97,98,108,101,32],t,[40],jD c'.txt,[41,59]]):=AE;generalize jD c'.txt=lq at *;obtain⟨T1,AS⟩:∃b,Hid (xR 0 [[116,97,98,108,101,32],t,[40],lq,[41,59]]=b):=⟨_,yD rfl⟩;rw[AS.out] at AE
   go_upto_region 9 with fail
   apply xE 7 (by kernel_rfl) (by kernel_rfl) (by kernel_rfl);apply sQ (.pointer (some ⟨B,0,none⟩));apply sQ (.pointer (some ⟨gy,2,none⟩));apply xA (.string (yX t)) rfl rfl rfl
   ·intro w' AA hH;clear hH;have y2:=(AA.cell (p:=⟨gy,2,none⟩) AB.out).trans n2;simp[yY,go_sem,y2];exact Ext.refl _
   apply sQ (.pointer (some ⟨B,0,none⟩));apply xA (.agg #[.int .u8 2,.int .i64 y.pos,.string (yX t),.int .i64 num,.slice y.kA y.kids.length y.kc]) rfl rfl rfl
   ·intro w' AA hH;clear hH;have y0:=(AA.cell (p:=⟨gy,0,none⟩) AB.out).trans n0;have y1:=(AA.cell (p:=⟨gy,1,none⟩) AB.out).trans n1;have y2:=(AA.cell (p:=⟨gy,2,none⟩) AB.out).trans n2;have y3:=(AA.cell (p:=⟨gy,3,none⟩) AB.out).trans n3;have y4:=(AA.cell (p:=⟨gy,4,none⟩) AB.out).trans n4;simp[yY,go_sem,y0,y1,y2,y3,y4];exact Ext.refl _
   apply xA (.string (yX lq)) rfl rfl rfl
   ·intro w' AA hH;clear hH;simp[yY,go_sem];refine(BT.out w' AA).mono ?_;rintro e w2 ⟨rfl,AD⟩;exact⟨_,rfl,rfl,AD⟩
   apply vF (JJ 9 5 (VS [[116,97,98,108,101,32],t,[40],lq,[41,59]])) (fun v a b h k=>JJ.ext v a b h k) rfl rfl rfl
   ·intro w' AA hH;clear hH;simp[yY,go_sem];exact⟨⟨_,rfl,Blk.new w' _ _⟩,Ext.alloc _ _⟩
   intro CZ;apply vA;intro w6 AH hH;obtain⟨pb,rfl,AJ⟩:=hH _ (List.mem_cons_self ..);clear hH n0 n1 n2 n3 n4
   try simp only[Act.put,yA,yC,yB]
   have AM:=yD (AX.out.ext AH);have AT:=yD (A0.out.trans (vU.ext AH));have AF:=yD (AQ.out.trans AH);have BN:=yD (AC.out.ext AH);clear AH AX A0
   go_wp2_with fail
   refine(ZK w6 B B _ n c _ (f.top.take i).flatten 0 [[116,97,98,108,101,32],t,[40],lq,[41,59]] pb 5 AM.out rfl (by decide) (by simp) AJ (fun e=>by obtain⟨ad,hb⟩:=AM.out.any; subst e; exact Blk.differ AJ hb (by decide) rfl) (by
    have h9:=Az.out;rw[AE.out] at h9;rw[AS.out];simp only[yM] at h9 ⊢
    omega) (by have:=AF.out.size; have:=A1.out; omega)).mono ?_
   rintro e w7 ⟨rfl,⟨v7,hu⟩,hm⟩
   replace hu:=hu.prS (zU _)
   rw[AS.out,←AE.out] at hu;have HU:=yD hu;have BH:=yD (AT.out.trans hm);clear AJ hu hm
   go_wp2_with fail
   go_roundw
   case rel=>exact⟨i+1,v7,A2.out,by go_num,HU,BH,yD fun h=>by omega⟩
   case measure=>simp[intOf]; have:=A2.out; omega
  ·replace AG:y.kind=3:=AG
   rw[AG,AK,AL] at AC;have n0:w5.cell? ⟨gy,0,none⟩=some (.int .u8 3):=AC.out.cell 0;have n1:w5.cell? ⟨gy,1,none⟩=some (.int .i64 y.pos):=AC.out.cell 1;have n2:w5.cell? ⟨gy,2,none⟩=some (.string (yX t)):=AC.out.cell 2;have n3:w5.cell? ⟨gy,3,none⟩=some (.int .i64 num):=AC.out.cell 3;have n4:w5.cell? ⟨gy,4,none⟩=some (.slice y.kA y.kids.length y.kc):=AC.out.cell 4;have AB:=yD AC.out.lt;have As:=yD (zRJ Br.out);have Bw:Hid ((c'.roots ri).length=2):=yD (by rw[←zBi c' ri]; exact As.out.1);have Au:Hid (0<(c'.roots ri).length):=yD (by rw[Bw.out]; decide);have BR:Hid (1<(c'.roots ri).length):=yD (by rw[Bw.out]; decide);obtain⟨k4,t4,x4,f4,p4,A4,_,_,_,Ar,Ao,AU,_,AV,Av,_,_,Af⟩:=zQg c' ri BM.out Aw.out 0 Au.out;have A9:Hid (p4 ∈ L):=yD (zY A4)
   have CT:Hid (∀w',Ext w5 w'→Calls Tryz.prog 40 #[.pointer (some ⟨B,0,none⟩),.agg #[.int .u8 3,.int .i64 y.pos,.string (yX t),.int .i64 num,.slice y.kA y.kids.length y.kc],.int .i64 0] w' fun e w''=>e=.returned (jF p4)∧Ext w' w''):=yD fun w' hx=>by
    have hp:=Aa.out.ext hx
    have:=zA0 w' B n c _ L hp.tree hp.len hp.at0 hp.lt y (Bq.out.ext hx) 0 ((c'.roots ri)[0]'Au.out) (by rw[Al.out]; simpa [xK] using Au.out) (by simp only[Al.out,xK,zA]) (List.getElem?_eq_some_iff.1 A4).1 p4 A4
    unfold jF at this ⊢;rw[AG,AL,AK] at this;exact this
   have BB:=yD (zDu w5 B n c _ L Aa.out f4 ((c'.roots ri)[0]'Au.out+1) Ao AU (Nat.le_trans AV Am.out))
   have BT:Hid (∀w',Ext w5 w'→Calls Tryz.prog 42 #[.pointer (some ⟨B,0,none⟩),jF p4,.int .i64 0] w' fun e w''=>e=.returned (.string (yX (c'.inn.getD 0 [])))∧Ext w' w''):=yD fun w' hx=>by
    have hp:=Aa.out.ext hx
    have:=zJT w' B n c _ L hp p4 ((hp.tree.ok p4 A9.out).kids) (f4.roots ((c'.roots ri)[0]'Au.out+1)) f4.kinds f4.txt Ar (zEZ f4 _) (Nat.le_trans (zCw f4 _) (Nat.le_trans Av Ax.out)) (fun j hj=>by
     obtain⟨z,h1,h2,h3⟩:=BB.out j hj
     exact⟨z,h1,h2,fun w2 AD=>h3 w2 (hx.trans AD)⟩) (Nat.le_trans (Nat.le_trans (zGH f4 AU) AV) Am.out) 0 (zT _)
    rw[Af];exact this
   have A8:=yD (zSx Br.out)
   have CA:Hid (∀w' lb,Ext w5 w'→Blk w' lb 9 #[.string (yX [32,123]),.string (yX [32,115,105,110,103,108,101,32,123])]→Calls Tryz.prog 43 #[.agg #[.int .u8 3,.int .i64 y.pos,.string (yX t),.int .i64 num,.slice y.kA y.kids.length y.kc],.slice (some ⟨lb,0,none⟩) 2 2] w' fun e w''=>e=.returned (.string (yX (JB num [32,123] [32,115,105,110,103,108,101,32,123])))∧Ext w' w''):=yD fun w' lb hx hb=>by
    have:=zFV w' y (by rw[AK]; exact A8.out) [32,123] [32,115,105,110,103,108,101,32,123] lb hb
    unfold jF at this;rw[AG,AL,AK] at this;exact this
   obtain⟨q6,BF,_,Bl⟩:=zPs w2 B B n c _ L AP.out c' ri BM.out Aw.out Am.out Ax.out 1 BR.out;have CH:=yD (Bl As.out.2)
   have CM:Hid (∀(w':World) (v':Value) (By:Bs),Ext w2 w'→PrS w' B B (some ⟨tb,tf,none⟩) n c v' By 0→Calls Tryz.prog 40 #[.pointer (some ⟨B,0,none⟩),.agg #[.int .u8 3,.int .i64 y.pos,.string (yX t),.int .i64 num,.slice y.kA y.kids.length y.kc],.int .i64 1] w' fun e w''=>e=.returned (jF q6)∧Ext w' w''):=yD fun w' v' By hx hs=>by
    have hp:=AP.out.prT hx hs
    have:=zA0 w' B n c _ L hp.tree hp.len hp.at0 hp.lt y ((hp.tree.ok y Be.out).kids) 1 ((c'.roots ri)[1]'BR.out) (by rw[Al.out]; simpa [xK] using BR.out) (by simp only[Al.out,xK,zA]) (List.getElem?_eq_some_iff.1 BF).1 q6 BF
    unfold jF at this ⊢;rw[AG,AL,AK] at this;exact this
   have AE:Hid ((f.top.take (i+1)).flatten=(f.top.take i).flatten++(xR 0 [[112,114,111,99,32],t,[40],c'.inn.getD 0 [],[41],JB num [32,123] [32,115,105,110,103,108,101,32,123]]++(((c'.st 1).map Prod.snd).getD 1 []++xR 0 [[125]]))):=AE;rw[zFM] at AE;obtain⟨G1,BG⟩:∃b,Hid (((c'.st 1).getD 1 ([],[])).2=b):=⟨_,yD rfl⟩;rw[BG.out] at AE;generalize c'.inn.getD 0 []=lq at *;generalize JB num [32,123] [32,115,105,110,103,108,101,32,123]=lp at *;obtain⟨T1,AS⟩:∃b,Hid (xR 0 [[112,114,111,99,32],t,[40],lq,[41],lp]=b):=⟨_,yD rfl⟩;obtain⟨T9,BK⟩:∃b,Hid (xR 0 [[125]]=b):=⟨_,yD rfl⟩;rw[AS.out,BK.out] at AE;clear A4 Ar Ao AU AV Av Af BF Bl
   have e2:((3:Int)==2)=false:=by decide
   go_upto_region 10 with fail
   apply xE 12 (by kernel_rfl) (by kernel_rfl) (by kernel_rfl);apply sQ (.pointer (some ⟨B,0,none⟩));apply sQ (.pointer (some ⟨gy,2,none⟩));apply xA (.string (yX t)) rfl rfl rfl
   ·intro w' AA hH;clear hH;have y2:=(AA.cell (p:=⟨gy,2,none⟩) AB.out).trans n2;simp[yY,go_sem,y2];exact Ext.refl _
   apply sQ (.pointer (some ⟨B,0,none⟩));apply sQ (.pointer (some ⟨B,0,none⟩));apply xA (.agg #[.int .u8 3,.int .i64 y.pos,.string (yX t),.int .i64 num,.slice y.kA y.kids.length y.kc]) rfl rfl rfl
   ·intro w' AA hH;clear hH;have y0:=(AA.cell (p:=⟨gy,0,none⟩) AB.out).trans n0;have y1:=(AA.cell (p:=⟨gy,1,none⟩) AB.out).trans n1;have y2:=(AA.cell (p:=⟨gy,2,none⟩) AB.out).trans n2;have y3:=(AA.cell (p:=⟨gy,3,none⟩) AB.out).trans n3;have y4:=(AA.cell (p:=⟨gy,4,none⟩) AB.out).trans n4;simp[yY,go_sem,y0,y1,y2,y3,y4];exact Ext.refl _
   apply xA (jF p4) rfl rfl rfl
   ·intro w' AA hH;clear hH;simp[yY,go_sem];refine(CT.out w' AA).mono ?_;rintro e w2 ⟨rfl,AD⟩;exact⟨_,rfl,rfl,AD⟩
   apply xA (.string (yX lq)) rfl rfl rfl
   ·intro w' AA hH;clear hH;simp[yY,go_sem];refine(BT.out w' AA).mono ?_;rintro e w2 ⟨rfl,AD⟩;exact⟨_,rfl,rfl,AD⟩
   apply xA (.agg #[.int .u8 3,.int .i64 y.pos,.string (yX t),.int .i64 num,.slice y.kA y.kids.length y.kc]) rfl rfl rfl
   ·intro w' AA hH;clear hH;have y0:=(AA.cell (p:=⟨gy,0,none⟩) AB.out).trans n0;have y1:=(AA.cell (p:=⟨gy,1,none⟩) AB.out).trans n1;have y2:=(AA.cell (p:=⟨gy,2,none⟩) AB.out).trans n2;have y3:=(AA.cell (p:=⟨gy,3,none⟩) AB.out).trans n3;have y4:=(AA.cell (p:=⟨gy,4,none⟩) AB.out).trans n4;simp[yY,go_sem,y0,y1,y2,y3,y4];exact Ext.refl _
   apply vF (JJ 9 2 #[.string (yX [32,123]),.string (yX [32,115,105,110,103,108,101,32,123])]) (fun v a b h k=>JJ.ext v a b h k) rfl rfl rfl
   ·intro w' AA hH;clear hH;simp[yY,go_sem];exact⟨⟨_,rfl,Blk.new w' _ _⟩,Ext.alloc _ _⟩
   intro Ca;apply xA (.string (yX lp)) rfl rfl rfl
   ·intro w' AA hH;obtain⟨lb,rfl,CB⟩:=hH _ (List.mem_cons_self ..) ⟨50,rfl,by decide⟩;clear hH;simp[yY,go_sem];refine(CA.out w' lb AA CB).mono ?_;rintro e w2 ⟨rfl,AD⟩;exact⟨_,rfl,rfl,AD⟩
   apply vF (JJ 9 6 (VS [[112,114,111,99,32],t,[40],lq,[41],lp])) (fun v a b h k=>JJ.ext v a b h k) rfl rfl rfl
   ·intro w' AA hH;clear hH;simp[yY,go_sem];exact⟨⟨_,rfl,Blk.new w' _ _⟩,Ext.alloc _ _⟩
   intro Cc;apply vA;intro w6 AH hH;obtain⟨pb,rfl,AJ⟩:=hH _ (List.mem_cons_self ..);clear hH n0 n1 n2 n3 n4
   try simp only[Act.put,yA,yC,yB]
   have AM:=yD (AX.out.ext AH);have AT:=yD (A0.out.trans (vU.ext AH));have AF:=yD (AQ.out.trans AH);have BN:=yD (AC.out.ext AH);clear AH AX A0
   go_wp2_with fail
   refine(ZK w6 B B _ n c _ (f.top.take i).flatten 0 [[112,114,111,99,32],t,[40],lq,[41],lp] pb 6 AM.out rfl (by decide) (by simp) AJ (fun e=>by obtain⟨ad,hb⟩:=AM.out.any; subst e; exact Blk.differ AJ hb (by decide) rfl) (by
    have h9:=Az.out;rw[AE.out] at h9;rw[AS.out];simp only[yM] at h9 ⊢
    omega) (by have:=AF.out.size; have:=A1.out; omega)).mono ?_
   rintro e w7 ⟨rfl,⟨v7,hu⟩,hm⟩
   replace hu:=hu.prS (zU _)
   rw[AS.out] at hu;have BE:=yD hu;have BV:=yD (AT.out.trans hm);have Ap:=yD (hm.blk BN.out CC.out (by decide));clear AJ hu hm AM AT BN AF;have Ad:=yD (AP.out.ext AW.out BV.out (zU _));have n0:w7.cell? ⟨gy,0,none⟩=some (.int .u8 3):=Ap.out.cell 0;have n1:w7.cell? ⟨gy,1,none⟩=some (.int .i64 y.pos):=Ap.out.cell 1;have n2:w7.cell? ⟨gy,2,none⟩=some (.string (yX t)):=Ap.out.cell 2;have n3:w7.cell? ⟨gy,3,none⟩=some (.int .i64 num):=Ap.out.cell 3;have n4:w7.cell? ⟨gy,4,none⟩=some (.slice y.kA y.kids.length y.kc):=Ap.out.cell 4
   go_wp2_with fail
   refine(CM.out w7 _ _ Ad.out BE.out).mono ?_;rintro e w8 ⟨rfl,A3⟩;have Bv:=yD (BE.out.ext A3);have BY:=yD (BV.out.trans (vU.ext A3));have BC:=yD (Ad.out.trans A3);clear A3 n0 n1 n2 n3 n4 BE BV
   go_wp2_with fail
   refine(CH.out w8 _ _ 0 BC.out Bv.out (by have:=Ax.out; omega) (by
    have h9:=Az.out;rw[AE.out] at h9
    show _+(((c'.st (0+1)).getD 1 ([],[])).2).length≤_
    rw[BG.out];simp only[yM] at h9 ⊢
    omega)).mono ?_
   rintro e w9 ⟨rfl,⟨v9,hu⟩,hm⟩
   replace hu:PrS w9 B B _ n c v9 ((f.top.take i).flatten++T1++((c'.st (0+1)).getD 1 ([],[])).2) 0:=hu
   rw[BG.out] at hu;have B4:=yD hu;have Bf:=yD (BY.out.trans hm);clear hu hm Bv BY;have A6:Hid (Ext w9 (w9.alloc (.cells #[.string ⟨#[125]⟩] 9))):=yD (Ext.alloc _ _);have BA:Hid (Blk (w9.alloc (.cells #[.string ⟨#[125]⟩] 9)) w9.heap.size 9 #[.string ⟨#[125]⟩]):=yD (Blk.new _ _ _)
   go_wp2_with fail
   generalize w9.heap.size=pb at BA ⊢;generalize w9.alloc (.cells #[.string ⟨#[125]⟩] 9)=w6 at *;have AJ:Blk w6 pb 9 (VS [[125]]):=BA.out;have AM:=yD (B4.out.ext A6.out);have AT:=yD (Bf.out.trans (vU.ext A6.out));have AF:=yD (AP.out.ext AW.out AT.out (zU _));clear BA A6 B4 Bf
   refine(ZK w6 B B _ n c _ ((f.top.take i).flatten++T1++G1) 0 [[125]] pb 1 AM.out rfl (by decide) (by simp) AJ (fun e=>by obtain⟨ad,hb⟩:=AM.out.any; subst e; exact Blk.differ AJ hb (by decide) rfl) (by
    have h9:=Az.out;rw[AE.out] at h9;rw[BK.out];simp only[yM] at h9 ⊢
    omega) (by have:=AF.out.size; have:=A1.out; omega)).mono ?_
   rintro e w7 ⟨rfl,⟨v7,hu⟩,hm⟩
   replace hu:=hu.prS (zU _)
   rw[BK.out,List.append_assoc,List.append_assoc,←AE.out] at hu;have HU:=yD hu;have BH:=yD (AT.out.trans hm);clear AJ hu hm
   go_wp2_with fail
   go_roundw
   case rel=>exact⟨i+1,v7,A2.out,by go_num,HU,BH,yD fun h=>by omega⟩
   case measure=>simp[intOf]; have:=A2.out; omega
end Go.Proofs.YtioffpjajhalaaaGreatDoor
namespace Go.Proofs.YtioffpjajhalaaaGreatDoor.TT
open Go Go.RowKit
theorem Ext.drewN {a w:World}(h:Ext a w)(n:Nat):Ext a (w.drewN n):=by
 induction n with
 | zero=>exact h
 | succ n ih=>exact Below.drew ih
theorem ZP {ls ws:List Int}(hl:ls.length≠ws.length):isR ls ws=false:=by
 unfold isR;rw[show(ls.length==ws.length)=false from beq_eq_false_iff_ne.2 hl,Bool.false_and]
end Go.Proofs.YtioffpjajhalaaaGreatDoor.TT
