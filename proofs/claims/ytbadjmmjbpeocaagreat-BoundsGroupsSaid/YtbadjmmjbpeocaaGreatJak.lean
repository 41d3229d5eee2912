/- names.own: a copy of a tree, in memory of the call's own. (and what follows of it). The conditions stand at each lemma. -/
import Derived.Test.YtbadjmmjbpeocaaGreatJaa
import Derived.Test.YtbadjmmjbpeocaaGreatJaj
import Derived.Test.YtbadjmmjbpeocaaGreatJai
import Derived.StillTailTactics
import Derived.Maps.OwnSet
set_option linter.unusedVariables false
set_option linter.unusedSimpArgs false
set_option maxRecDepth 100000
set_option maxHeartbeats 16000000
namespace Go.Proofs.YtbadjmmjbpeocaaGreat
open Go Go.RowKit TT
theorem zQV:(Tryz.prog.info? 38).map (fun i=>(i.zero,i.size,i.bytes))=some (some (.agg #[.int .u8 0,.int .i64 0,.string ⟨#[]⟩,.int .i64 0,.slice none 0 0]),5,64):=by kernel_rfl
theorem zMA:(Tryz.prog.info? 3).map (fun i=>(i.zero,i.size,i.bytes))=some (some (.int .i64 0),1,8):=by kernel_rfl
theorem zNO (l:List xU):∀u ∈ YK l,u.oneCell'=true:=by
 intro u hu;unfold YK at hu;obtain⟨t,_,h⟩:=List.mem_flatMap.1 hu;unfold xU.cells at h;simp only[zU,List.not_mem_nil,or_false] at h
 rcases h with rfl | rfl | rfl | rfl | rfl <;> rfl
theorem zNX (l:List Int):∀u ∈ TT.jP l,u.oneCell'=true:=by
 intro u hu;unfold TT.jP at hu;obtain⟨p,_,rfl⟩:=List.mem_map.1 hu
 rfl
theorem zOI (w:World):Calls Tryz.prog 81 #[.slice none 0 0] w fun e w'=>e=.returned (.slice none 0 0)∧w=w':=by
 have q:=fun w:World=>Lib.run_eql_slice_nil (P:=Tryz.prog) w 25 _ none 0 0 0 0 Tryz.underlying25
 go_enter Tryz.func81,Tryz.ntmps81
 go_wp2
 go_ret;exact⟨rfl,rfl⟩
theorem zOu (w:World):Calls Tryz.prog 82 #[.slice none 0 0] w fun e w'=>e=.returned (.slice none 0 0)∧w=w':=by
 have q:=fun w:World=>Lib.run_eql_slice_nil (P:=Tryz.prog) w 30 _ none 0 0 0 0 Tryz.underlying30
 go_enter Tryz.func82,Tryz.ntmps82
 go_wp2
 go_ret;exact⟨rfl,rfl⟩
theorem zOc (A:Option Addr)(l:List xU)(n c:Nat)(w:World)(hn:n=l.length)(hbig:l.length≤100000)(hz:A=none→c=0)(hc:Cells w A (YK l)) :
  Calls Tryz.prog 81 #[.slice A n c] w fun e w'=>∃v,e=.returned v∧w'.ownsRow w.heap.size 38 5 v l.length (YK l)∧Ext w w':=by
 subst hn
 cases A with
 | none=>
  have h0:=hz rfl;subst h0
  have ht:l=[]:=by
   rcases hc with hc | ⟨b,AD,h,_⟩
   ·cases l with
    | nil=>rfl
    | cons t ts=>have:=congrArg List.length hc; rw[zBA] at this; simp at this
   ·cases h
  subst ht;refine(zOI w).mono ?_;rintro e w' ⟨rfl,rfl⟩;exact⟨_,rfl,zR _ _ _ _,Ext.refl _⟩
 | some a=>
  obtain⟨i0,hi,AC,AB,AA⟩:=info_parts zQV;have q:=fun w:World=>Lib.run_eql_slice_nil (P:=Tryz.prog) w 25 _ (some a) l.length c 0 0 Tryz.underlying25;have HC:=yG hc;have hl:(YK l).length=l.length*5:=zBA l;have HL:=yG hl;clear hc hl hz
  go_enter Tryz.func81,Tryz.ntmps81
  go_wp2_with (at_builtin; refine zBz rfl (.tmp 5) (.tmp 6) 25 rfl w.heap.size 38 i0 _ 5 64 Tryz.underlying25 hi AC AB AA rfl (by decide) (.slice (some ⟨w.heap.size,0,none⟩) 0 0) 0 [] rfl ⟨rfl,.inr ⟨w.heap.size,0,#[],rfl,zX _,Blk.new w _ _,zX _,by decide,rfl,rfl⟩⟩ (some a) l.length c (YK l) rfl (fun h=>by cases h) HL.out (HC.out.ext (Ext.alloc _ _)) (zNO l) (by unfold maxLen; omega) (by omega) (by simp) ?_)
  intro A' c' w1 h0 ho hg;have hX:Ext w w1:=Below.grown ((Below.refl _ w).alloc (zX _) _) hg (by simp) (fun j ej=>by simp[Value.ownBlock] at ej; omega);have HO:=yG ho;have HX:=yG hX;clear ho hX hg h0
  go_wp2
  go_ret;exact⟨_,rfl,HO.out,HX.out⟩
theorem zOj (A:Option Addr)(l:List Int)(n c:Nat)(w:World)(hn:n=l.length)(hbig:l.length≤100000)(hz:A=none→c=0)(hc:Cells w A (TT.jP l)) :
  Calls Tryz.prog 82 #[.slice A n c] w fun e w'=>∃v,e=.returned v∧w'.ownsRow w.heap.size 3 1 v l.length (TT.jP l)∧Ext w w':=by
 subst hn
 cases A with
 | none=>
  have h0:=hz rfl;subst h0
  have ht:l=[]:=by
   rcases hc with hc | ⟨b,AD,h,_⟩
   ·cases l with
    | nil=>rfl
    | cons t ts=>have:=congrArg List.length hc; rw[TT.zBo] at this; simp at this
   ·cases h
  subst ht;refine(zOu w).mono ?_;rintro e w' ⟨rfl,rfl⟩;exact⟨_,rfl,zR _ _ _ _,Ext.refl _⟩
 | some a=>
  obtain⟨i0,hi,AC,AB,AA⟩:=info_parts zMA;have q:=fun w:World=>Lib.run_eql_slice_nil (P:=Tryz.prog) w 30 _ (some a) l.length c 0 0 Tryz.underlying30;have HC:=yG hc
  have hl:(TT.jP l).length=l.length*1:=by rw[TT.zBo]; omega
  have HL:=yG hl;clear hc hl hz
  go_enter Tryz.func82,Tryz.ntmps82
  go_wp2_with (at_builtin; refine zBz rfl (.tmp 5) (.tmp 6) 30 rfl w.heap.size 3 i0 _ 1 8 Tryz.underlying30 hi AC AB AA rfl (by decide) (.slice (some ⟨w.heap.size,0,none⟩) 0 0) 0 [] rfl ⟨rfl,.inr ⟨w.heap.size,0,#[],rfl,zX _,Blk.new w _ _,zX _,by decide,rfl,rfl⟩⟩ (some a) l.length c (TT.jP l) rfl (fun h=>by cases h) HL.out (HC.out.ext (Ext.alloc _ _)) (zNX l) (by unfold maxLen; omega) (by omega) (by simp) ?_)
  intro A' c' w1 h0 ho hg;have hX:Ext w w1:=Below.grown ((Below.refl _ w).alloc (zX _) _) hg (by simp) (fun j ej=>by simp[Value.ownBlock] at ej; omega);have HO:=yG ho;have HX:=yG hX;clear ho hX hg h0
  go_wp2
  go_ret;exact⟨_,rfl,HO.out,HX.out⟩
theorem zMp {w:World}{N:Nat}{t:TypeId}{sz n:Nat}{v:Value}{xs:List Value}(h:w.ownsRow N t sz v n xs):∃A c,v=.slice A n c∧n≤c:=by
 rcases h.2 with ⟨rfl,rfl⟩ | ⟨g,cap,AB,rfl,_,_,AA,_⟩
 ·exact⟨none,0,rfl,zX _⟩
 ·exact⟨_,cap,rfl,AA⟩
theorem zHt {w:World}{B N:Nat}{t:TypeId}{sz n:Nat}{v:Value}{xs:List Value}(h:w.ownsRow B t sz v n xs)(hN:N≤B):w.ownsRow N t sz v n xs:=by
 refine⟨h.1,?_⟩
 rcases h.2 with hn | ⟨g,cap,AA,hv,hb,r⟩
 ·exact .inl hn
 ·exact .inr ⟨g,cap,AA,hv,Nat.le_trans hN hb,r⟩
theorem zND (l:List xU):∀(i:Nat) (hi:i<l.length) (A:Option Addr) (c:Nat),YK (l.set i { l[i] with kA:=A,kc:=c })=(YK l).set (i*5+4) (.slice A l[i].kids.length c):=by
 induction l with
 | nil=>intro i hi; simp at hi
 | cons x l ih=>
  intro i hi A c
  cases i with
  | zero=>
   show xU.cells _++YK l=(x.cells++YK l).set (0*5+4) _
   rw[Nat.zero_mul,Nat.zero_add,List.set_append_left _ _ (by show 4<5; omega)]
   rfl
  | succ i=>
   show x.cells++YK (l.set i _)=(x.cells++YK l).set ((i+1)*5+4) _
   have:=ih i (by simpa using hi) A c
   simp only[List.getElem_cons_succ] at this ⊢;rw[this,List.set_append_right _ _ (by show 5≤_; omega)]
   congr 2
   show _=(i+1)*5+4-5
   omega
structure zDB (N:Nat)(w:World)(g c:Nat)(l l':List xU)(k:Nat):Prop where
 len:l'.length=l.length
 row:w.ownsRow N 38 5 (.slice (some ⟨g,0,none⟩) l.length c) l.length (YK l')
 same:∀i (h:i<l.length) (h':i<l'.length),l'[i].kind=l[i].kind∧l'[i].pos=l[i].pos∧l'[i].text=l[i].text∧l'[i].num=l[i].num∧l'[i].kids=l[i].kids
 done:∀i (h':i<l'.length),i<k→w.ownsRow N 3 1 (.slice l'[i].kA l'[i].kids.length l'[i].kc) l'[i].kids.length (TT.jP l'[i].kids)
 todo:∀i (h:i<l.length) (h':i<l'.length),k≤i→l'[i].kA=l[i].kA∧l'[i].kc=l[i].kc
theorem zDB.ext {N:Nat}{w w':World}{g c:Nat}{l l':List xU}{k:Nat}(h:zDB N w g c l l' k)(hx:Ext w w'):zDB N w' g c l l' k:=⟨h.len,zB1 h.row hx,h.same,fun i h' hk=>zB1 (h.done i h' hk) hx,h.todo⟩
theorem zDB.step {N:Nat}{w:World}{g c:Nat}{l l':List xU}{k:Nat}(h:zDB N w g c l l' k)(hk:k<l'.length)(A:Option Addr)(c2:Nat)(ho:w.ownsRow N 3 1 (.slice A l'[k].kids.length c2) l'[k].kids.length (TT.jP l'[k].kids)) :
  zDB N (w.setCell ⟨g,k*5+4,none⟩ (.slice A l'[k].kids.length c2)) g c l (l'.set k { l'[k] with kA:=A,kc:=c2 }) (k+1):=by
 have hl:=h.len;obtain⟨AA,hc⟩:=vA h.row rfl;refine⟨by rw[zB]; exact hl,?_,fun i h1 h2=>?_,fun i h' hi=>?_,fun i h1 h2 hi=>?_⟩
 ·rw[zND l' k hk];exact zHH h.row (by omega) _
 ·rw[zB] at h2;rw[List.getElem_set]
  split
  ·rename_i e;subst e;exact h.same k h1 h2
  ·exact h.same i h1 h2
 ·rw[zB] at h';rw[List.getElem_set]
  split
  ·exact zAz ho hc (by decide) _ _
  ·rename_i e;exact zAz (h.done i h' (by omega)) hc (by decide) _ _
 ·rw[zB] at h2;rw[List.getElem_set,if_neg (by omega)];exact h.todo i h1 h2 (by omega)
theorem zTE (A:Option Addr)(l:List xU)(n c:Nat)(w:World)(hn:n=l.length)(h0:0<l.length)(hbig:l.length≤100000)(hkb:∀x ∈ l,x.kids.length≤100000)(hz:A=none→c=0)(ht:zA2 w A l) :
  Calls Tryz.prog 46 #[.agg #[.slice A n c]] w fun e w'=>∃g c' l',e=.returned (.agg #[.slice (some ⟨g,0,none⟩) l.length c'])∧zDB w.heap.size w' g c' l l' l.length∧Ext w w':=by
 subst hn;have HT:=yG ht;have Ai:=yG hbig;have AZ:=yG hkb;have HZ:=yG hz;have H0:=yG h0;clear ht hkb hz h0;have b1:((w.alloc (.cells #[.slice A l.length c] 27)).alloc (.cells #[.slice none 0 0] 27)).cell? ⟨w.heap.size,0,none⟩=some (.slice A l.length c):=((Blk.new _ _ _).alloc _).cell 0;have AG:Hid (Ext w ((w.alloc (.cells #[.slice A l.length c] 27)).alloc (.cells #[.slice none 0 0] 27))):=yG ((Ext.alloc _ _).trans (Ext.alloc _ _))
 have AS:Hid (Blk ((w.alloc (.cells #[.slice A l.length c] 27)).alloc (.cells #[.slice none 0 0] 27)) (w.heap.size+1) 27 #[.slice none 0 0]):=yG (by
  have:=Blk.new (w.alloc (.cells #[.slice A l.length c] 27)) 27 #[.slice none 0 0]
  rwa [yT] at this)
 go_enter Tryz.func46,Tryz.ntmps46
 go_wp2_with fail
 clear b1;refine(zOc A l l.length c _ rfl hbig HZ.out (HT.out.cells.ext AG.out)).mono ?_;rintro e w1 ⟨v,rfl,ho,AM⟩;obtain⟨A1,c1,rfl,AW⟩:=zMp ho
 obtain⟨g,rfl⟩:∃g,A1=some ⟨g,0,none⟩:=by
  rcases zAO ho with e | e
  ·exfalso
   rw[e] at ho
   rcases ho.2 with ⟨_,h⟩ | ⟨_,_,_,h,_⟩
   ·have:=H0.out; omega
   ·cases h
  ·exact e
 have AF:=jD ho rfl;have AT:Hid (zDB w.heap.size w1 g c1 l l 0):=yG ⟨rfl,zHt ho AG.out.size,fun i h h'=>⟨rfl,rfl,rfl,rfl,rfl⟩,fun i h' hi=>by omega,fun i h h' _=>⟨rfl,rfl⟩⟩;have Aa:=yG (AG.out.trans AM);have AN:=yG (AS.out.ext AM);have AR:Hid (w.heap.size+1<g):=yG (by have:=AF.1; simp at this; omega);clear ho AM AF AG
 go_upto_region 3 with fail
 go_loopw [10] (fun i' wr=>∃(k:Nat) (l':List xU),k≤l.length∧i'=.int .i64 k∧Hid (zDB w.heap.size wr g c1 l l' k)∧Hid (Ext w wr)∧Hid (Blk wr (w.heap.size+1) 27 #[.slice none 0 0])) (fun i' _=>l.length-(intOf i').toNat)
 case atStart=>exact⟨0,l,zW _,rfl,AT,Aa,AN⟩
 case round=>
  obtain⟨k,l',hk,rfl,AA,AH,AD⟩:=hrel;obtain⟨wa,rfl⟩:∃wa:World,wa=wr:=⟨_,rfl⟩
  by_cases AE:k<l.length
  ·have d0:decide ((k:Int)<(l.length:Int))=true:=yS (by omega)
   have q1:(k:Int)<(l.length:Int):=by omega
   have AI:k<l'.length:=by rw[AA.out.len]; exact AE
   have e4:wa.cell? ⟨g,k*5+4,none⟩=some (.slice l'[k].kA l'[k].kids.length l'[k].kc):=by
    rw[AA.out.row.cellAt (k*5+4) (by omega),zIg l' k 4 AI (by decide)]
    rfl
   obtain⟨Af,AB⟩:=vA AA.out.row rfl;have ez:wa.frozen? ⟨g,k*5+4,none⟩=false:=AB.frozen _;have AO:=AA.out.same k AE AI;have AK:=AA.out.todo k AE AI (zX _);have AL:=HT.out.ok l[k] (yO AE);have AP:=AZ.out l[k] (yO AE)
   have AJ:Hid (Cells wa l'[k].kA (TT.jP l'[k].kids)∧(l'[k].kA=none→l'[k].kc=0)∧l'[k].kids.length≤100000):=yG (by
    rw[AO.2.2.2.2,AK.1,AK.2]
    exact⟨AL.kids.ext AH.out,AL.nil,AP⟩)
   have AV:Hid (∀(w2:World) (A2:Option Addr) (c2:Nat),Ext wa w2→w2.ownsRow wa.heap.size 3 1 (.slice A2 l'[k].kids.length c2) l'[k].kids.length (TT.jP l'[k].kids)→∃l'',zDB w.heap.size (w2.setCell ⟨g,k*5+4,none⟩ (.slice A2 l'[k].kids.length c2)) g c1 l l'' (k+1)):=yG fun w2 A2 c2 hx ho=>⟨_,(AA.out.ext hx).step AI A2 c2 (zHt ho AH.out.size)⟩;have AF:=AB.lt;have Ac:=yG AB;clear AO AK AL AP AB;generalize l'[k].kids=ks at *;generalize l'[k].kA=kA at *;generalize l'[k].kc=kc at *
   go_wp2_with fail
   refine(zOj kA ks ks.length kc wa rfl AJ.out.2.2 AJ.out.2.1 AJ.out.1).mono ?_;rintro e w2 ⟨v,rfl,ho,AC⟩;obtain⟨A2,c2,rfl,AW⟩:=zMp ho;obtain⟨l2,AQ⟩:=AV.out w2 A2 c2 AC ho;have Ab:=yG AQ;have Ag:w2.cell? ⟨g,k*5+4,none⟩=some (.slice kA ks.length kc):=(AC.cell (p:=⟨g,k*5+4,none⟩) AF).trans e4;have Ah:w2.frozen? ⟨g,k*5+4,none⟩=false:=(Ac.out.ext AC).frozen _;have Ad:Hid (Ext w (w2.setCell ⟨g,k*5+4,none⟩ (.slice A2 ks.length c2))):=yG ((AH.out.trans AC).setCell (p:=⟨g,k*5+4,none⟩) (by show w.heap.size≤g; have:=AR.out; omega) _);have Ae:Hid (Blk (w2.setCell ⟨g,k*5+4,none⟩ (.slice A2 ks.length c2)) (w.heap.size+1) 27 #[.slice none 0 0]):=yG ((AD.out.ext AC).far (p:=⟨g,k*5+4,none⟩) (by have:=AR.out; show w.heap.size+1≠g; omega) _);clear AC ho AQ e4 ez AF
   go_wp2_with fail
   go_roundw
   case rel=>exact⟨k+1,l2,by omega,by go_num,Ab,Ad,Ae⟩
   case measure=>simp[intOf]; omega
  ·obtain rfl:k=l.length:=by omega
   have d0:decide ((l.length:Int)<(l.length:Int))=false:=by simp
   have d1:decide (l.length<l.length)=false:=by simp
   have y0:wa.cell? ⟨w.heap.size+1,0,none⟩=some (.slice none 0 0):=AD.out.cell 0;have yz:=AD.out.frozen 0;have AY:Hid (Blk (wa.setCell ⟨w.heap.size+1,0,none⟩ (.slice (some ⟨g,0,none⟩) l.length c1)) (w.heap.size+1) 27 #[.slice (some ⟨g,0,none⟩) l.length c1]):=yG (AD.out.put 0 _);have AX:Hid (zDB w.heap.size (wa.setCell ⟨w.heap.size+1,0,none⟩ (.slice (some ⟨g,0,none⟩) l.length c1)) g c1 l l' l.length):=yG ⟨AA.out.len,zAz AA.out.row AD.out (by decide) _ _,AA.out.same,fun i h' hi=>zAz (AA.out.done i h' hi) AD.out (by decide) _ _,AA.out.todo⟩;have AU:Hid (Ext w (wa.setCell ⟨w.heap.size+1,0,none⟩ (.slice (some ⟨g,0,none⟩) l.length c1))):=yG (AH.out.setCell (p:=⟨w.heap.size+1,0,none⟩) (by show w.heap.size≤w.heap.size+1; omega) _)
   go_wp2_with fail
   generalize wa.setCell ⟨w.heap.size+1,0,none⟩ (.slice (some ⟨g,0,none⟩) l.length c1)=w9 at *;have r0:w9.cell? ⟨w.heap.size+1,0,none⟩=some (.slice (some ⟨g,0,none⟩) l.length c1):=AY.out.cell 0;refine bodyPost_ret (v:=.agg #[.slice (some ⟨g,0,none⟩) l.length c1]) (by simp[results,Tryz.results46,go_sem,r0]) rfl ⟨g,c1,l',rfl,AX.out,AU.out⟩
end Go.Proofs.YtbadjmmjbpeocaaGreat
namespace Go.Proofs.YtbadjmmjbpeocaaGreat
open Go Go.RowKit
abbrev Pw:=Np × Hd2
def prc (x:Pw):List Value:=[.string (xG x.1.name),.int .i64 (x.1.params:Int),.slice x.2.1 x.1.vars.length x.2.2,.bool x.1.single,.int .i64 (x.1.root:Int)]
def zBy (l:List Pw):List Value:=l.flatMap prc
theorem zCn (l:List Pw):(zBy l).length=l.length*5:=by
 unfold zBy
 induction l with
 | nil=>rfl
 | cons t l ih=>rw[List.flatMap_cons,yP,ih,zK]; show 5+_=_; omega
theorem zQR (l:List Pw)(x:Pw):zBy (l++[x])=zBy l++prc x:=by unfold zBy; simp
theorem zCI (l:List Pw):∀(i:Nat) (hi:i<l.length) (j:Nat),j<5→(zBy l)[i*5+j]?=(prc l[i])[j]?:=by
 induction l with
 | nil=>intro i hi; simp at hi
 | cons x l ih=>
  intro i hi j hj
  show(prc x++zBy l)[i*5+j]?=_
  match i,hi with
  | 0,_=>rw[Nat.zero_mul,Nat.zero_add,List.getElem?_append_left (by show j<5; exact hj)]; rfl
  | i+1,hi=>
   have e:(i+1)*5+j=5+(i*5+j):=by omega
   rw[e,List.getElem?_append_right (by show 5≤_; omega),show 5+(i*5+j)-(prc x).length=i*5+j from by show 5+(i*5+j)-5=_; omega];exact ih i (by simpa using hi) j hj
theorem zQI (w:World)(g:Nat)(nm nm2:ByteArray)(pa:Int)(vs:Value)(hvs:∃A n c,vs=.slice A n c)(sg:Bool)(rt:Int)(hg:Blk w g 9 #[.string nm])(b:Bool)(hb:Hid ((nm2.toList==nm.toList)=b)) :
  Calls Tryz.prog 120 #[.agg #[.string nm2,.int .i64 pa,vs,.bool sg,.int .i64 rt],.pointer (some ⟨g,0,none⟩)] w fun e w'=>e=.returned (.bool b)∧Ext w w':=by
 obtain⟨A,n,c,rfl⟩:=hvs;have HG:=yG hg;have gl:=hg.lt;have g0:(w.alloc (.cells #[.string nm2,.int .i64 pa,.slice A n c,.bool sg,.int .i64 rt] 85)).cell? ⟨g,0,none⟩=some (.string nm):=(hg.alloc _).cell 0;have y0:(w.alloc (.cells #[.string nm2,.int .i64 pa,.slice A n c,.bool sg,.int .i64 rt] 85)).cell? ⟨w.heap.size,0,none⟩=some (.string nm2):=(Blk.new _ _ _).cell 0;clear hg
 go_enter Tryz.func120,Tryz.ntmps120
 go_wp2_with fail
 go_ret;refine⟨zCo ?_,Ext.alloc _ _⟩;exact hb.out
theorem findIdx_take {α:Type}(p:α→Bool)(l:List α)(k:Nat)(hk:k<l.length)(h:∀j (hj:j<l.length),j<k→p l[j]=false)(hp:p l[k]=true):l.findIdx? p=some k:=by
 rw[List.findIdx?_eq_some_iff_getElem];exact⟨hk,hp,fun j hj=>by rw[h j (by omega) hj]; decide⟩
theorem zNs {α:Type}(p:α→Bool)(l:List α)(h:∀j (hj:j<l.length),p l[j]=false):l.findIdx? p=none:=by
 rw[List.findIdx?_eq_none_iff];intro x hx;obtain⟨j,hj,rfl⟩:=List.getElem_of_mem hx;exact h j hj
theorem zOE (w:World)(g:Nat)(nm:Bs)(A:Option Addr)(ps:List Pw)(c:Nat)(hlen:ps.length≤100000)(hc:Cells w A (zBy ps))(hg:Blk w g 9 #[.string (xG nm)]) :
  Calls Tryz.prog 119 #[.slice A ps.length c,.func (.func 120) #[] #[.pointer (some ⟨g,0,none⟩)]] w fun e w'=>e=.returned (.int .i64 (zHm (ps.findIdx? fun x=>x.1.name==nm)))∧Ext w w':=by
 have HC:=yG hc;have HG:=yG hg;have HE:Hid (∀args w,(callFunc 120 args).run Tryz.prog w=.ok (.enter 120 args) w):=yG (enters_of Tryz.func120 (by kernel_rfl) rfl);clear hc hg
 go_enter Tryz.func119,Tryz.ntmps119
 go_wp2_with fail
 go_loopw [8] (fun i wr=>∃k:Nat,k≤ps.length∧i=.int .i64 k∧Hid (Ext w wr)∧Hid (∀j (hj:j<ps.length),j<k→(ps[j].1.name==nm)=false)) (fun i _=>ps.length-(intOf i).toNat)
 case atStart=>exact⟨0,zW _,rfl,yG (Ext.refl _),yG fun j hj h=>by omega⟩
 case round=>
  obtain⟨k,hk,rfl,HX,HQ⟩:=hrel;obtain⟨wa,rfl⟩:∃wa:World,wa=wr:=⟨_,rfl⟩
  by_cases AB:k<ps.length
  ·have d0:decide ((k:Int)<(ps.length:Int))=true:=yS (by omega)
   have q1:(k:Int)<(ps.length:Int):=by omega
   obtain⟨b,AK,rfl,hb,AD⟩:=(HC.out.ext HX.out).at_ (by rw[zCn]; omega)
   have AA:∀j,j<5→wa.cell? ⟨b,AK+k*5+j,none⟩=(prc ps[k])[j]?:=fun j hj=>by
    rw[Nat.add_assoc,AD _ (by rw[zCn]; omega)];exact zCI ps k AB j hj
   obtain⟨t,ht⟩:∃t,(ps[k].1.name==nm)=t:=⟨_,rfl⟩;have AL:=yG ht;have AH:Hid (((xG ps[k].1.name).toList==(xG nm).toList)=t):=yG (by rw[VV,VV]; exact ht);have e0:=AA 0 (by decide);have e1:=AA 1 (by decide);have e2:=AA 2 (by decide);have e3:=AA 3 (by decide);have e4:=AA 4 (by decide);unfold prc at e0 e1 e2 e3 e4;simp only[yM,List.getElem?_cons_succ,Nat.add_zero] at e0 e1 e2 e3 e4;have AJ:Hid (t=true→ps.findIdx? (fun x=>x.1.name==nm)=some k):=yG fun h=>findIdx_take _ ps k AB HQ.out (by rw[ht]; exact h)
   have AF:Hid (t=false→∀j (hj:j<ps.length),j<k+1→(ps[j].1.name==nm)=false):=yG fun h j hj AM=>by
    by_cases e:j=k
    ·subst e; rw[ht]; exact h
    ·exact HQ.out j hj (by omega)
   clear AA AD ht AL;generalize ps[k].1.name=nk at *;generalize ps[k].1.params=pk at *;generalize ps[k].1.vars.length=vk at *;generalize ps[k].1.single=sk at *;generalize ps[k].1.root=rk at *;generalize ps[k].2.1=hA at *;generalize ps[k].2.2=AG at *;have he:=HE.out
   go_wp2_with fail
   refine(zQI wa g (xG nm) (xG nk) (pk:Int) (.slice hA vk AG) ⟨_,_,_,rfl⟩ sk (rk:Int) (HG.out.ext HX.out) t AH).mono ?_;rintro e w2 ⟨rfl,AC⟩;have AE:=yG (HX.out.trans AC);clear AC e0 e1 e2 e3 e4 he
   cases t with
   | true=>
    go_wp2_with fail
    go_ret;rw[AJ.out (by first | rfl | trivial)];exact⟨rfl,AE.out⟩
   | false=>
    have AI:=yG (AF.out (by first | rfl | trivial))
    go_wp2_with fail
    go_roundw
    case rel=>exact⟨k+1,by omega,by go_num,AE,AI⟩
    case measure=>simp[intOf]; omega
  ·obtain rfl:k=ps.length:=by omega
   have d0:decide ((ps.length:Int)<(ps.length:Int))=false:=by simp
   have d1:decide (ps.length<ps.length)=false:=by simp
   have HN:Hid (ps.findIdx? (fun x=>x.1.name==nm)=none):=yG (zNs _ ps fun j hj=>HQ.out j hj hj)
   go_wp2_with fail
   go_ret;rw[HN.out];exact⟨rfl,HX.out⟩
theorem zQ5 (w:World)(tA tT tO:Value)(htA:∃A n c,tA=.slice A n c)(htT:∃A n c,tT=.slice A n c)(htO:∃A n c,tO=.slice A n c)(nm:Bs)(A:Option Addr)(ps:List Pw)(c:Nat)(hlen:ps.length≤100000)(hc:Cells w A (zBy ps)) :
  Calls Tryz.prog 84 #[.agg #[tA,tT,.slice A ps.length c,tO],.string (xG nm)] w fun e w'=>e=.returned (.int .i64 (zHm (ps.findIdx? fun x=>x.1.name==nm)))∧Ext w w':=by
 obtain⟨A1,n1,c1,rfl⟩:=htA;obtain⟨A2,n2,c2,rfl⟩:=htT;obtain⟨A3,n3,c3,rfl⟩:=htO;obtain⟨W2,AA⟩:∃W2,Hid ((w.alloc (.cells #[.slice A1 n1 c1,.slice A2 n2 c2,.slice A ps.length c,.slice A3 n3 c3] 32)).alloc (.cells #[.string (xG nm)] 9)=W2):=⟨_,yG rfl⟩;have AC:Hid (Ext w W2):=yG (by rw[←AA.out]; exact(Ext.alloc _ _).trans (Ext.alloc _ _))
 have AD:Hid (Blk W2 (w.heap.size+1) 9 #[.string (xG nm)]):=yG (by
  rw[←AA.out]
  have:=Blk.new (w.alloc (.cells #[.slice A1 n1 c1,.slice A2 n2 c2,.slice A ps.length c,.slice A3 n3 c3] 32)) 9 #[.string (xG nm)]
  rwa [yT] at this)
 have HC:=yG hc;have y2:((w.alloc (.cells #[.slice A1 n1 c1,.slice A2 n2 c2,.slice A ps.length c,.slice A3 n3 c3] 32)).alloc (.cells #[.string (xG nm)] 9)).cell? ⟨w.heap.size,2,none⟩=some (.slice A ps.length c):=((Blk.new _ _ _).alloc _).cell 2;clear hc
 go_enter Tryz.func84,Tryz.ntmps84
 go_wp2_with fail
 rw[AA.out];clear y2 AA;refine(zOE W2 (w.heap.size+1) nm A ps c hlen (HC.out.ext AC.out) AD.out).mono ?_;rintro e w3 ⟨rfl,AB⟩;have AE:=yG (AC.out.trans AB);clear AB
 go_wp2_with fail
 go_ret;exact⟨rfl,AE.out⟩
structure StH where
 a:Nat
 p:Nat
 bo:Nat
 co:Nat
 A:Option Addr
 ct:Nat
 l:List Tx
 mt:Nat
 B:Nat
structure DyH where
 At:Option Addr
 cT:Nat
 th:List Hd2
 Ac:Option Addr
 cc:Nat
 cm:List Nat
 Ap:Option Addr
 cP:Nat
def jB (S:StH)(R:DyH)(b:Nat):Prop:=b=S.a∨b=S.p∨b=S.bo∨b=S.mt∨R.At=some ⟨b,0,none⟩∨R.Ac=some ⟨b,0,none⟩∨R.Ap=some ⟨b,0,none⟩
def hp (l:List Np):List Pw:=l.map fun p=>(p,((none:Option Addr),0))
theorem zLV (l:List Np):(hp l).length=l.length:=by simp[hp]
theorem zTb (l:List Np)(n:Bs):((hp l).findIdx? fun x=>x.1.name==n)=l.findIdx? fun x=>x.name==n:=by
 unfold hp;rw[List.findIdx?_map]
 rfl
structure NH (w:World)(S:StH)(s:Nr)(R:DyH):Prop where
 rd:Blk w S.a 115 #[.pointer (some ⟨S.p,0,none⟩),.map (some S.mt),.slice R.Ac s.xH.length R.cc,.pointer none,.slice none 0 0]
 pg:Blk w S.p 32 #[.slice S.A S.l.length S.ct,.slice R.At s.xH.length R.cT,.slice R.Ap s.procs.length R.cP,.slice (some ⟨S.bo,0,none⟩) S.l.length S.co]
 of:Blk w S.bo 3 (ofc s.of).toArray
 len:s.of.length=S.l.length
 tree:zAS w (jB S R) S.A S.l
 zBN:w.ownsRow S.B 165 2 (.slice R.At s.xH.length R.cT) s.xH.length (VD s.xH R.th)
 thl:R.th.length=s.xH.length
 zHg:∀(k:Nat) (x:Nt) (h:Hd2),s.xH[k]?=some x→R.th[k]?=some h→XF w (jB S R) h.1 (strs x.zBW)
 zFt:w.ownsRow S.B 110 1 (.slice R.Ac s.xH.length R.cc) s.xH.length (YL R.cm)
 cml:R.cm.length=s.xH.length
 zEl:∀(k b:Nat) (x:Nt),s.xH[k]?=some x→R.cm[k]?=some b→zGQ w (jB S R) b 64 fun n=>zBn (x.zBW.findIdx? fun c=>c==n)
 mt:MF Tryz.prog 9 w S.mt s.xH.length fun n=>zBn (s.xH.findIdx? fun x=>x.name==n)
 procs:w.ownsRow S.B 85 5 (.slice R.Ap s.procs.length R.cP) s.procs.length (zBy (hp s.procs))
 zRs:s.xH.length≤64
 zP7:s.procs.length≤64
 zT:s.xH.length=0→R.cT=0
 zC:s.xH.length=0→R.cc=0
 zP:s.procs.length=0→R.cP=0
 low:S.B≤w.heap.size
section
variable {w:World} {S:StH} {s:Nr} {R:DyH}
theorem NH.ZW (h:NH w S s R){b:Nat}(hb:jB S R b):b<w.heap.size:=by
 rcases hb with rfl | rfl | rfl | rfl | hb | hb | hb
 ·exact h.rd.lt
 ·exact h.pg.lt
 ·exact h.of.lt
 ·exact h.mt.lt
 ·exact(jD h.zBN hb).2
 ·exact(jD h.zFt hb).2
 ·exact(jD h.procs hb).2
theorem NH.apart (h:NH w S s R):S.a≠S.p∧S.a≠S.bo∧S.p≠S.bo∧S.mt≠S.a∧S.mt≠S.p∧S.mt≠S.bo:=⟨Blk.differ h.rd h.pg (by decide),Blk.differ h.rd h.of (by decide),Blk.differ h.pg h.of (by decide),h.mt.ne h.rd,h.mt.ne h.pg,h.mt.ne h.of⟩
theorem NH.zEd (h:NH w S s R):∀b,R.At=some ⟨b,0,none⟩→b≠S.a∧b≠S.p∧b≠S.bo∧b≠S.mt∧R.Ac≠some ⟨b,0,none⟩∧R.Ap≠some ⟨b,0,none⟩:=fun b e=>by
 obtain⟨AC,hc⟩:=vA h.zBN e;refine⟨Blk.differ hc h.rd (by decide),Blk.differ hc h.pg (by decide),Blk.differ hc h.of (by decide),Ne.symm (h.mt.ne hc),fun e2=>?_,fun e2=>?_⟩
 ·obtain⟨AB,AA⟩:=vA h.zFt e2;exact Blk.differ hc AA (by decide) rfl
 ·obtain⟨AB,AA⟩:=vA h.procs e2;exact Blk.differ hc AA (by decide) rfl
theorem NH.zEi (h:NH w S s R):∀b,R.Ac=some ⟨b,0,none⟩→b≠S.a∧b≠S.p∧b≠S.bo∧b≠S.mt∧R.Ap≠some ⟨b,0,none⟩:=fun b e=>by
 obtain⟨AC,hc⟩:=vA h.zFt e;refine⟨Blk.differ hc h.rd (by decide),Blk.differ hc h.pg (by decide),Blk.differ hc h.of (by decide),Ne.symm (h.mt.ne hc),fun e2=>?_⟩;obtain⟨AB,AA⟩:=vA h.procs e2;exact Blk.differ hc AA (by decide) rfl
theorem NH.zD9 (h:NH w S s R):∀b,R.Ap=some ⟨b,0,none⟩→b≠S.a∧b≠S.p∧b≠S.bo∧b≠S.mt:=fun b e=>by
 obtain⟨AA,hc⟩:=vA h.procs e;exact⟨Blk.differ hc h.rd (by decide),Blk.differ hc h.pg (by decide),Blk.differ hc h.of (by decide),Ne.symm (h.mt.ne hc)⟩
structure zUS (w':World)(S:StH)(s:Nr)(R:DyH)(G:Nat→Prop):Prop where
 rd:¬G S.a→Blk w' S.a 115 #[.pointer (some ⟨S.p,0,none⟩),.map (some S.mt),.slice R.Ac s.xH.length R.cc,.pointer none,.slice none 0 0]
 pg:¬G S.p→Blk w' S.p 32 #[.slice S.A S.l.length S.ct,.slice R.At s.xH.length R.cT,.slice R.Ap s.procs.length R.cP,.slice (some ⟨S.bo,0,none⟩) S.l.length S.co]
 of:¬G S.bo→Blk w' S.bo 3 (ofc s.of).toArray
 tree:zAS w' (jB S R) S.A S.l
 zBN:(∀b,R.At=some ⟨b,0,none⟩→¬G b)→w'.ownsRow S.B 165 2 (.slice R.At s.xH.length R.cT) s.xH.length (VD s.xH R.th)
 zHg:∀(k:Nat) (x:Nt) (h:Hd2),s.xH[k]?=some x→R.th[k]?=some h→XF w' (jB S R) h.1 (strs x.zBW)
 zFt:(∀b,R.Ac=some ⟨b,0,none⟩→¬G b)→w'.ownsRow S.B 110 1 (.slice R.Ac s.xH.length R.cc) s.xH.length (YL R.cm)
 zEl:∀(k b:Nat) (x:Nt),s.xH[k]?=some x→R.cm[k]?=some b→zGQ w' (jB S R) b 64 fun n=>zBn (x.zBW.findIdx? fun c=>c==n)
 mt:¬G S.mt→MF Tryz.prog 9 w' S.mt s.xH.length fun n=>zBn (s.xH.findIdx? fun x=>x.name==n)
 procs:(∀b,R.Ap=some ⟨b,0,none⟩→¬G b)→w'.ownsRow S.B 85 5 (.slice R.Ap s.procs.length R.cP) s.procs.length (zBy (hp s.procs))
 low:S.B≤w'.heap.size
theorem NH.kept {w':World}(h:NH w S s R){G:Nat→Prop}(hM:∀g,G g→g<w.heap.size→jB S R g)(hg:xC w G w' G):zUS w' S s R G∧xC w (jB S R) w' (jB S R):=by
 have hm:xC w (jB S R) w' (jB S R):=⟨hg.os,hg.tape,hg.output,hg.size,fun b hb hn=>hg.jL b hb fun k=>hn (hM b k hb),fun b h=>.inl h⟩;exact⟨⟨fun hn=>(hg.jL _ h.rd.lt hn).trans h.rd,fun hn=>(hg.jL _ h.pg.lt hn).trans h.pg,fun hn=>(hg.jL _ h.of.lt hn).trans h.of,h.tree.xE hm,fun hn=>ZK h.zBN fun b e=>hg.jL b (jD h.zBN e).2 (hn b e),fun k x h0 h1 h2=>(h.zHg k x h0 h1 h2).xE hm,fun hn=>ZK h.zFt fun b e=>hg.jL b (jD h.zFt e).2 (hn b e),fun k b x h1 h2=>(h.zEl k b x h1 h2).xE hm,fun hn=>h.mt.jL (hg.jL _ h.mt.lt hn),fun hn=>ZK h.procs fun b e=>hg.jL b (jD h.procs e).2 (hn b e),Nat.le_trans h.low hg.size⟩,hm⟩
theorem NH.ext {w':World}(h:NH w S s R)(hx:Ext w w'):NH w' S s R:=by
 have k:=(h.kept (G:=fun _=>False) (fun g hg _=>hg.elim) (xC.ext hx)).1;exact⟨k.rd id,k.pg id,k.of id,h.len,k.tree,k.zBN fun _ _=>id,h.thl,k.zHg,k.zFt fun _ _=>id,h.cml,k.zEl,k.mt id,k.procs fun _ _=>id,h.zRs,h.zP7,h.zT,h.zC,h.zP,k.low⟩
theorem NH.setOf (h:NH w S s R)(i:Nat)(x:Int):NH (w.setCell ⟨S.bo,i,none⟩ (.int .i64 x)) S (s.set i x) R∧xC w (jB S R) (w.setCell ⟨S.bo,i,none⟩ (.int .i64 x)) (jB S R):=by
 obtain⟨k,hm⟩:=h.kept (G:=fun b=>b=S.bo) (fun g e _=>.inr (.inr (.inl e))) (JL w S.bo i (.int .i64 x));obtain⟨n1,n2,n3,n4,n5,n6⟩:=h.apart;refine⟨⟨k.rd n2,k.pg n3,?_,by show(s.of.set i x).length=_; rw[zB]; exact h.len,k.tree,k.zBN fun b e=>(h.zEd b e).2.2.1,h.thl,k.zHg,k.zFt fun b e=>(h.zEi b e).2.2.1,h.cml,k.zEl,k.mt n6,k.procs fun b e=>(h.zD9 b e).2.2.1,h.zRs,h.zP7,h.zT,h.zC,h.zP,k.low⟩,hm⟩
 have:=h.of.put i (.int .i64 x)
 rw[yD,zFZ] at this;exact this
theorem NH.rds (h:NH w S s R):RdS w S.a S.p S.A S.ct S.l:=⟨h.rd.cell 0,h.pg.cell 0,h.tree.row.cells,h.rd.lt,h.pg.lt⟩
theorem NH.x1 (h:NH w S s R):w.cell? ⟨S.a,1,none⟩=some (.map (some S.mt)):=h.rd.cell 1
theorem NH.x2 (h:NH w S s R):w.cell? ⟨S.a,2,none⟩=some (.slice R.Ac s.xH.length R.cc):=h.rd.cell 2
theorem NH.p1 (h:NH w S s R):w.cell? ⟨S.p,1,none⟩=some (.slice R.At s.xH.length R.cT):=h.pg.cell 1
theorem NH.p2 (h:NH w S s R):w.cell? ⟨S.p,2,none⟩=some (.slice R.Ap s.procs.length R.cP):=h.pg.cell 2
theorem NH.p3 (h:NH w S s R):w.cell? ⟨S.p,3,none⟩=some (.slice (some ⟨S.bo,0,none⟩) S.l.length S.co):=h.pg.cell 3
theorem NH.zBP (h:NH w S s R)(i:Nat)(hi:i<S.l.length):w.cell? ⟨S.bo,i,none⟩=some (.int .i64 (zCQ s i)):=by
 rw[h.of.cell i]
 show(ofc s.of).toArray[i]?=_
 rw[yL,zOr _ _ (by rw[h.len]; exact hi)]
 rfl
theorem NH.fresh (h:NH w S s R)(t:TypeId)(cs:Array Value):Safe (w.alloc (.cells cs t)) (jB S R) w.heap.size t cs:=⟨Blk.new _ _ _,fun hm=>by have:=h.ZW hm; omega⟩
theorem NH.zTQ {w1:World}(h:NH w S s R)(hl:s.procs.length<64)(x:Np)(hxp:x.params=0)(hxv:x.vars=[])(hg1:w.grownBy w1 (Value.slice R.Ap s.procs.length R.cP).ownBlock)(A':Option Addr)(c':Nat)
  (ho1:w1.ownsRow S.B 85 5 (.slice A' (s.procs.length+1) c') (s.procs.length+1) (zBy (hp s.procs)++prc (x,(none,0)))) (hn:∀b,A'=some ⟨b,0,none⟩→R.Ap=some ⟨b,0,none⟩∨w.heap.size≤b) :
  NH (w1.setCell ⟨S.p,2,none⟩ (.slice A' (s.procs.length+1) c')) S { s with procs:=s.procs++[x] } { R with Ap:=A',cP:=c' } ∧
  xC w (jB S R) (w1.setCell ⟨S.p,2,none⟩ (.slice A' (s.procs.length+1) c')) (jB S { R with Ap:=A',cP:=c' }):=by
 obtain⟨G,hG⟩:∃G:Nat→Prop,G=fun b=>R.Ap=some ⟨b,0,none⟩∨b=S.p:=⟨_,rfl⟩
 have m1:xC w G w1 G:=xC.grown hg1 fun g e=>by rw[hG]; exact .inl (xP h.procs e)
 have m2:=(JL w1 S.p 2 (.slice A' (s.procs.length+1) c')).zFJ (G':=G) fun b e=>by rw[hG]; exact .inr e
 have AE:∀g,G g→g<w.heap.size→jB S R g:=fun g hg _=>by
  rw[hG] at hg
  rcases hg with e | e
  ·exact .inr (.inr (.inr (.inr (.inr (.inr e)))))
  ·exact .inr (.inl e)
 obtain⟨k,hm⟩:=h.kept AE (m1.trans m2);obtain⟨n1,n2,n3,n4,n5,n6⟩:=h.apart
 have AC:xC w (jB S R) (w1.setCell ⟨S.p,2,none⟩ (.slice A' (s.procs.length+1) c')) (jB S { R with Ap:=A',cP:=c' }):=hm.less fun b hb=>by
  rcases hb with e | e | e | e | e | e | e
  ·exact .inl (.inl e)
  ·exact .inl (.inr (.inl e))
  ·exact .inl (.inr (.inr (.inl e)))
  ·exact .inl (.inr (.inr (.inr (.inl e))))
  ·exact .inl (.inr (.inr (.inr (.inr (.inl e)))))
  ·exact .inl (.inr (.inr (.inr (.inr (.inr (.inl e))))))
  ·rcases hn b e with e | e
   ·exact .inl (.inr (.inr (.inr (.inr (.inr (.inr e))))))
   ·exact .inr e
 have AA:∀ {b:Nat},b≠S.p→R.Ap≠some ⟨b,0,none⟩→¬G b:=fun h1 h2 hg=>by
  rw[hG] at hg
  rcases hg with e | e
  ·exact h2 e
  ·exact h1 e
 have AB:Blk w1 S.p 32 _:=h.pg.grown hg1 fun e=>(h.zD9 _ (xP h.procs e.symm)).2.1 rfl
 have AD:∀b,A'=some ⟨b,0,none⟩→b≠S.p:=fun b e=>by
  obtain⟨AF,hc⟩:=vA ho1 e;exact Blk.differ hc AB (by decide)
 refine⟨⟨k.rd (AA n1 fun e=>(h.zD9 _ e).1 rfl),?_,k.of (AA (Ne.symm n3) fun e=>(h.zD9 _ e).2.2.1 rfl),h.len,h.tree.xE AC,k.zBN fun b e=>AA (h.zEd b e).2.1 (h.zEd b e).2.2.2.2.2,h.thl,fun i y h0 h1 h2=>(h.zHg i y h0 h1 h2).xE AC,k.zFt fun b e=>AA (h.zEi b e).2.1 (h.zEi b e).2.2.2.2,h.cml,fun i b y h1 h2=>(h.zEl i b y h1 h2).xE AC,k.mt (AA n5 fun e=>(h.zD9 _ e).2.2.2 rfl),?_,h.zRs,by simp; omega,h.zT,h.zC,fun h=>by simp at h,k.low⟩,AC⟩
 ·have:=AB.put 2 (.slice A' (s.procs.length+1) c')
  simpa using this
 ·have:=ZK (w':=w1.setCell ⟨S.p,2,none⟩ (.slice A' (s.procs.length+1) c')) ho1 fun b e=>zS w1 ⟨S.p,2,none⟩ _ b (AD b e)
  rw[show zBy (hp (s.procs++[x]))=zBy (hp s.procs)++prc (x,(none,0)) by unfold hp; rw[List.map_append]; exact zQR _ _]
  simpa using this
end
def zD1 (w:World)(S:StH)(R:DyH)(r:XH Nr)(e:Ending)(w':World):Prop:=
 match r with
 | .ok s'=>e=.returned (.tuple #[])∧∃R',NH w' S s' R'∧xC w (jB S R) w' (jB S R')
 | .err i er=>e=XI (YT S.l i) er∧i<S.l.length∧∃M',xC w (jB S R) w' M'
theorem zD1.err {w w':World}{S:StH}{R:DyH}{r:XH Nr}{i:Nat}{er:Int}(hr:r=.err i er)(hi:i<S.l.length)(hx:xC w (jB S R) w' (jB S R)):zD1 w S R r (XI (YT S.l i) er) w':=by
 rw[hr];exact⟨rfl,hi,_,hx⟩
theorem zRV:(Tryz.prog.info? 85).map (fun i=>(i.zero,i.size,i.bytes))=some (some (.agg #[.string ⟨#[]⟩,.int .i64 0,.slice none 0 0,.bool false,.int .i64 0]),5,64):=by kernel_rfl
theorem zSX (o:Option Nat):(decide (zHm o<0)) = !o.isSome:=by
 cases o with
 | none=>rfl
 | some k=>exact yR (by show ¬(k:Int)<0; omega)
theorem zQN (w:World)(S:StH)(s:Nr)(R:DyH)(i:Nat)(h:NH w S s R)(hi:i<S.l.length) :
  Calls Tryz.prog 50 #[.pointer (some ⟨S.a,0,none⟩),.int .i64 (i:Int)] w (zD1 w S R (zCH (tN S.l) i s)):=by
 have Aa:=yG h;have AF:=yG hi;have Aw:Hid ((yZ (tN S.l) i).text.length≤maxLen):=yG (h.tree.txt i);have AW:Hid (zCH (tN S.l) i s=if (zC6 s (yZ (tN S.l) i).text).isSome=true then .err i 71 else if s.procs.length<64 then .ok { s.set i s.procs.length with procs:=s.procs++[⟨(yZ (tN S.l) i).text,0,[],(yZ (tN S.l) i).num==1,i⟩] } else .err i 3):=yG rfl;clear h hi
 go_enter Tryz.func50,Tryz.ntmps50
 go_wp2_with fail
 refine(vW w S.a S.p S.A S.ct S.l i Aa.out.rds AF.out).mono ?_;rintro e w1 ⟨rfl,AZ⟩;obtain⟨W2,AH⟩:∃W2,Hid (w1.alloc (.cells (vT S.l i) 38)=W2):=⟨_,yG rfl⟩;obtain⟨g,HG⟩:∃g,Hid (w1.heap.size=g):=⟨_,yG rfl⟩;have Aj:=yG (Aa.out.ext AZ);have AL:Hid (Safe W2 (jB S R) g 38 (vT S.l i)):=yG (by rw[←AH.out,←HG.out]; exact Aj.out.fresh 38 (vT S.l i));have Ai:Hid (Ext w W2):=yG (by rw[←AH.out]; exact AZ.trans (Ext.alloc _ _));have AC:=yG (Aa.out.ext Ai.out);clear AZ;unfold vT at *;obtain⟨nt,AR⟩:∃nt,Hid ((yZ (tN S.l) i).text=nt):=⟨_,yG rfl⟩;obtain⟨nn,Ac⟩:∃nn,Hid ((yZ (tN S.l) i).num=nn):=⟨_,yG rfl⟩;rw[AR.out,Ac.out] at AH AL AW;rw[AR.out] at Aw;rw[AR.out,Ac.out]
 go_upto_region 1 with fail
 rw[AH.out,HG.out];clear AH;have c2:W2.cell? ⟨g,2,none⟩=some (.string (xG nt)):=AL.out.1.cell 2;have gl:=AL.out.1.lt;have r0:=AC.out.rds.r0;have al:=AC.out.rds.al;have pl:=AC.out.rds.pl;have y0:=AC.out.rds.p0;have y1:=AC.out.p1;have y2:=AC.out.p2;have y3:=AC.out.p3;obtain⟨b,AX⟩:∃b,Hid ((!(zC6 s nt).isSome)=b):=⟨_,yG rfl⟩
 have Aq:Hid (∀w',Ext W2 w'→Calls Tryz.prog 84 #[.agg #[.slice S.A S.l.length S.ct,.slice R.At s.xH.length R.cT,.slice R.Ap s.procs.length R.cP,.slice (some ⟨S.bo,0,none⟩) S.l.length S.co],.string (xG nt)] w' fun e w2=>e=.returned (.int .i64 (zHm (zC6 s nt)))∧Ext w' w2):=yG fun w' hx=>by
  have hn:=AC.out.ext hx;have hl:(hp s.procs).length=s.procs.length:=zLV _
  have:=zQ5 w' (.slice S.A S.l.length S.ct) (.slice R.At s.xH.length R.cT) (.slice (some ⟨S.bo,0,none⟩) S.l.length S.co) ⟨_,_,_,rfl⟩ ⟨_,_,_,rfl⟩ ⟨_,_,_,rfl⟩ nt R.Ap (hp s.procs) R.cP (by rw[hl]; have:=hn.zP7; omega) (by
   have ho:=hn.procs
   rcases zAO ho with e | ⟨bb,e⟩
   ·left
    rw[e] at ho
    rcases ho.2 with ⟨_,h0⟩ | ⟨_,_,_,hv,_⟩
    ·rw[List.eq_nil_of_length_eq_zero h0]; rfl
    ·cases hv
   ·right
    refine⟨bb,0,e,(jD ho e).2,fun k hk=>?_⟩;rw[Nat.zero_add];rw[e] at ho
    exact ho.cellAt k (by rw[zCn,hl] at hk; exact hk))
  rw[hl,zTb] at this;exact this
 have Ag:decide (zHm (zC6 s nt)<0)=b:=by rw[zSX]; exact AX.out
 apply xN 12 (by kernel_rfl) (by kernel_rfl) (by kernel_rfl);dsimp only[List.take_succ_cons,List.take_zero,List.drop_succ_cons,List.drop_zero];apply sQ (.pointer (some ⟨S.a,0,none⟩));apply sQ (.pointer (some ⟨S.a,0,none⟩));apply sQ (.pointer (some ⟨S.a,0,none⟩));apply sQ (.pointer (some ⟨S.a,0,none⟩));apply sL r0 al (.pointer (some ⟨S.p,0,none⟩));apply sQ (.pointer (some ⟨S.p,0,none⟩));apply xB (.agg #[.slice S.A S.l.length S.ct,.slice R.At s.xH.length R.cT,.slice R.Ap s.procs.length R.cP,.slice (some ⟨S.bo,0,none⟩) S.l.length S.co]) rfl rfl rfl
 ·intro w' AA hH;have d0:=(AA.cell (p:=⟨S.p,0,none⟩) pl).trans y0;have d1:=(AA.cell (p:=⟨S.p,1,none⟩) pl).trans y1;have d2:=(AA.cell (p:=⟨S.p,2,none⟩) pl).trans y2;have d3:=(AA.cell (p:=⟨S.p,3,none⟩) pl).trans y3;clear hH;simp[xA,go_sem,d0,d1,d2,d3];exact Ext.refl _
 (try simp only[Act.put,yD,yE,yF]);apply sQ (.pointer (some ⟨g,2,none⟩))
 apply sL c2 gl (.string (xG nt));apply xB (.int .i64 (zHm (zC6 s nt))) rfl rfl rfl
 ·intro w' AA hH;clear hH;simp[xA,go_sem];refine(Aq.out w' AA).mono ?_;rintro e w2 ⟨rfl,hx⟩;exact⟨_,rfl,rfl,hx⟩
 (try simp only[Act.put,yD,yE,yF]);apply sP Ag (.bool b)
 apply sQ (.int .i64 (i:Int));apply xR;intro w3 AK hH;clear hH c2 gl r0 al pl y0 y1 y2 y3 Ag;(try simp only[Act.put,yD,yE,yF,List.drop_succ_cons,List.drop_zero]);have AQ:=yG (Ai.out.trans AK);have AE:=yG (AC.out.ext AK);have Ar:=yG (AL.out.xE (xC.ext (M:=jB S R) AK));clear AK
 go_wp2_with fail
 cases b with
 | false=>
  have HR:Hid (zCH (tN S.l) i s=.err i 71):=yG (by rw[AW.out,if_pos (by have:=AX.out; simpa using this)]);refine(JW w3 S.a S.p S.A S.ct S.l i 71 AE.out.rds AF.out).mono ?_;rintro e w4 ⟨rfl,rfl⟩;exact xJ (P:=Tryz.prog) (fn:=Tryz.f50) rfl (zD1.err HR.out AF.out (xC.ext AQ.out))
 | true=>
  have AI:Hid (zCH (tN S.l) i s=if s.procs.length<64 then .ok { s.set i s.procs.length with procs:=s.procs++[⟨nt,0,[],nn==1,i⟩] } else .err i 3):=yG (by rw[AW.out,if_neg (by have:=AX.out; simpa using this)]);refine(XC w3 (.pointer (some ⟨S.a,0,none⟩)) (i:Int) 71).mono ?_;rintro e w4 ⟨rfl,rfl⟩;have r0:=AE.out.rds.r0;have p2:=AE.out.p2
  by_cases hl:s.procs.length<64
  ·have HL:=yG hl;have HR:Hid (zCH (tN S.l) i s=.ok { s.set i s.procs.length with procs:=s.procs++[⟨nt,0,[],nn==1,i⟩] }):=yG (by rw[AI.out,if_pos hl]);have Ah:decide ((s.procs.length:Int)<64)=true:=yS (by omega);clear hl
   go_wp2_with fail
   refine(XC w3 (.pointer (some ⟨S.a,0,none⟩)) (i:Int) 3).mono ?_;rintro e w4 ⟨rfl,rfl⟩;have al:=AE.out.rds.al;have pl:=AE.out.rds.pl;have p3:=AE.out.p3
   have q0:(i:Int)<(S.l.length:Int):=by have:=AF.out; omega
   clear Ah
   go_upto_region 3 with fail
   go_still_tail 17,(by kernel_rfl)
   change wpList _ _ _ _ _ (World.drew w3)
   have AJ:Ext w3 (World.drew w3):=Below.drew (Below.refl _ _);generalize World.drew w3=w5 at *;clear r0 p2 al pl p3;have AV:=yG (AE.out.ext AJ);have Al:=yG (Ar.out.xE (xC.ext (M:=jB S R) AJ));have Ao:=yG (AQ.out.trans AJ);clear AJ;have co:=AV.out.zBP i AF.out;have cz:=AV.out.of.frozen i;have AD:=yG (AV.out.setOf i (s.procs.length:Int))
   go_upto_region 4 with fail
   clear co cz q0;have AN:=yG (Al.out.xE AD.out.2);generalize w5.setCell ⟨S.bo,i,none⟩ (.int .i64 (s.procs.length:Int))=W at *;have Ak:=yG ((xC.ext (M:=jB S R) Ao.out).trans AD.out.2);have AB:=yG AD.out.1;clear AD;obtain⟨i0,Ay,An,Am,As⟩:=info_parts zRV;obtain⟨o,HO⟩:∃o,Hid ((Value.slice R.Ap s.procs.length R.cP).ownBlock=o):=⟨_,yG rfl⟩
   have Ab:Hid (some S.a≠o):=yG fun e=>by
    rw[←HO.out] at e;exact(AB.out.zD9 _ (xP AB.out.procs e.symm)).1 rfl
   have AS:Hid (some S.p≠o):=yG fun e=>by
    rw[←HO.out] at e;exact(AB.out.zD9 _ (xP AB.out.procs e.symm)).2.1 rfl
   have Af:Hid (some g≠o):=yG fun e=>by
    rw[←HO.out] at e;exact AN.out.2 (.inr (.inr (.inr (.inr (.inr (.inr (xP AB.out.procs e.symm)))))))
   have A0:Hid (∀g,o=some g→g<W.heap.size):=yG fun g e=>by
    rw[←HO.out] at e;exact(jD AB.out.procs (xP AB.out.procs e)).2
   have al:=AB.out.rds.al;have pl:=AB.out.rds.pl;have gl:=AN.out.1.lt;have r0:=AB.out.rds.r0;have p2:W.cell? ⟨S.p,2,none⟩=some (.slice R.Ap s.procs.length R.cP):=AB.out.p2;have c2:W.cell? ⟨g,2,none⟩=some (.string (xG nt)):=AN.out.1.cell 2;have c3:W.cell? ⟨g,3,none⟩=some (.int .i64 nn):=AN.out.1.cell 3;obtain⟨sg,Ae⟩:∃sg,Hid ((nn==1)=sg):=⟨_,yG rfl⟩;have Au:(nn==1)=sg:=Ae.out;have Av:Hid (S.B≤W.heap.size):=yG AB.out.low;have Ax:Hid (zAj S.B 85 s.procs.length (zBy (hp s.procs)) (.slice R.Ap s.procs.length R.cP) W):=yG ⟨AB.out.procs,R.Ap,R.cP,rfl,(fun e=>by have hv:=AB.out.procs; rw[e] at hv; rcases hv.2 with ⟨hv,_⟩ | ⟨g,_,_,hv,_⟩; (injection hv); (cases hv)),AB.out.zP⟩;obtain⟨Fs,AG⟩:∃Fs,Hid (FsK S.B 85 (.slice R.Ap s.procs.length R.cP) W.heap.size s.procs.length (zBy (hp s.procs)) [Value.string (xG nt),Value.int .i64 0,Value.slice none 0 0,Value.bool sg,Value.int .i64 (i:Int)]=Fs):=⟨_,yG rfl⟩
   have hE:∀F ∈ Fs,∀v w w',F v w→Ext w w'→F v w':=by rw[←AG.out]; exact zHq _ _ _ _ _ _ _
   have m0:(fun (_:Value) w=>zAj S.B 85 s.procs.length (zBy (hp s.procs)) (.slice R.Ap s.procs.length R.cP) w) ∈ Fs:=by rw[←AG.out]; simp only[FsK,zU,true_or]
   have m1:zBf 85 W.heap.size #[Value.string (xG nt),Value.int .i64 0,Value.slice none 0 0,Value.bool sg,Value.int .i64 (i:Int)] ∈ Fs:=by rw[←AG.out]; simp only[FsK,zU,true_or,or_true]
   have m2:zME S.B 85 o W.heap.size (s.procs.length+1) (zBy (hp s.procs)++[Value.string (xG nt),Value.int .i64 0,Value.slice none 0 0,Value.bool sg,Value.int .i64 (i:Int)]) ∈ Fs:=by rw[←AG.out,←HO.out]; simp only[FsK,zU,true_or,or_true]
   have Ad:=yG hE;have M0:=yG m0;have M1:=yG m1;have M2:=yG m2;clear hE m0 m1 m2;apply zA9 o Fs 22 (by kernel_rfl) (by kernel_rfl) (by kernel_rfl) Ad.out;dsimp only[List.take_succ_cons,List.take_zero,List.drop_succ_cons,List.drop_zero];apply sG vF.refl (.pointer (some ⟨S.a,0,none⟩));apply sG vF.refl (.pointer (some ⟨S.a,0,none⟩));apply sG vF.refl (.pointer (some ⟨S.a,0,none⟩));apply xB (.pointer (some ⟨S.p,0,none⟩)) rfl rfl rfl
   ·intro w' AA hH;have hR:=vF.refl (o:=o) (Fs:=Fs) w';have cc:=(World.cell?_of_block (w:=W) (a:=⟨S.a,0,none⟩) (AA.1.block S.a al Ab.out)).trans r0;clear hH;simp[xA,go_sem,cc];exact hR
   (try simp only[Act.put,yD,yE,yF]);apply sG vF.refl (.pointer (some ⟨S.a,0,none⟩))
   apply sG vF.refl (.pointer (some ⟨S.a,0,none⟩));apply sG vF.refl (.pointer (some ⟨S.a,0,none⟩));apply xB (.pointer (some ⟨S.p,0,none⟩)) rfl rfl rfl
   ·intro w' AA hH;have hR:=vF.refl (o:=o) (Fs:=Fs) w';have cc:=(World.cell?_of_block (w:=W) (a:=⟨S.a,0,none⟩) (AA.1.block S.a al Ab.out)).trans r0;clear hH;simp[xA,go_sem,cc];exact hR
   (try simp only[Act.put,yD,yE,yF]);apply sG vF.refl (.pointer (some ⟨S.p,0,none⟩))
   apply sG vF.refl (.pointer (some ⟨S.p,2,none⟩));apply xB (.slice R.Ap s.procs.length R.cP) rfl rfl rfl
   ·intro w' AA hH;have hR:=vF.refl (o:=o) (Fs:=Fs) w';have cc:=(World.cell?_of_block (w:=W) (a:=⟨S.p,2,none⟩) (AA.1.block S.p pl AS.out)).trans p2;clear hH;simp[xA,go_sem,cc];exact hR
   (try simp only[Act.put,yD,yE,yF]);apply sG vF.refl (.pointer (some ⟨g,2,none⟩))
   apply xB (.string (xG nt)) rfl rfl rfl
   ·intro w' AA hH;have hR:=vF.refl (o:=o) (Fs:=Fs) w';have cc:=(World.cell?_of_block (w:=W) (a:=⟨g,2,none⟩) (AA.1.block g gl Af.out)).trans c2;clear hH;simp[xA,go_sem,cc];exact hR
   (try simp only[Act.put,yD,yE,yF]);apply sG vF.refl (.pointer (some ⟨g,3,none⟩))
   apply xB (.int .i64 nn) rfl rfl rfl
   ·intro w' AA hH;have hR:=vF.refl (o:=o) (Fs:=Fs) w';have cc:=(World.cell?_of_block (w:=W) (a:=⟨g,3,none⟩) (AA.1.block g gl Af.out)).trans c3;clear hH;simp[xA,go_sem,cc];exact hR
   (try simp only[Act.put,yD,yE,yF]);apply xB (.bool sg) rfl rfl rfl
   ·intro w' AA hH;clear hH;simp[xA,go_sem,Au];exact vF.refl _
   (try simp only[Act.put,yD,yE,yF]);apply sG vF.refl (.int .i64 (i:Int))
   apply sG vF.refl (.agg #[Value.string (xG nt),Value.int .i64 0,Value.slice none 0 0,Value.bool sg,Value.int .i64 (i:Int)]);apply xZ (zBf 85 W.heap.size #[Value.string (xG nt),Value.int .i64 0,Value.slice none 0 0,Value.bool sg,Value.int .i64 (i:Int)]) (fun v w w' h hx=>hx.2 _ M1.out v h) rfl rfl rfl
   ·intro w' AA hH;have hz:=AA.1.size;clear hH AA;simp[xA,go_sem];exact⟨⟨_,rfl,Blk.new _ _ _,hz⟩,vF.ext Ad.out (Ext.alloc _ _)⟩
   intro Az;(try simp only[Act.put,yD,yE,yF]);apply xZ (zME S.B 85 o W.heap.size (s.procs.length+1) (zBy (hp s.procs)++[Value.string (xG nt),Value.int .i64 0,Value.slice none 0 0,Value.bool sg,Value.int .i64 (i:Int)])) (fun v w w' h hx=>hx.2 _ M2.out v h) rfl rfl rfl
   ·intro w' AA hH;have AU:=hH _ (List.mem_cons_self ..) ⟨_,rfl,by decide⟩;have AP:=AA.2 _ M0.out undef Ax.out;have hz:=AA.1.size;clear hH AA;rw[←AG.out,←HO.out];exact zEv S.B W.heap.size (.tmp 60) (.tmp 68) 29 rfl 85 i0 _ 64 Tryz.underlying29 Ay An Am As rfl (.slice R.Ap s.procs.length R.cP) s.procs.length (zBy (hp s.procs)) [Value.string (xG nt),Value.int .i64 0,Value.slice none 0 0,Value.bool sg,Value.int .i64 (i:Int)] (by kernel_rfl) AP Az (by kernel_rfl) AU rfl (by simp[Value.oneCell']) (by unfold maxLen; have:=HL.out; omega) (by have:=HL.out; omega) (Nat.le_trans Av.out hz) hz (fun g e=>A0.out g (by rw[←HO.out]; exact e))
   intro A1;(try simp only[Act.put,yD,yE,yF]);apply sG vF.refl (.pointer (some ⟨S.p,0,none⟩));apply sG vF.refl (.pointer (some ⟨S.p,2,none⟩));apply xR;intro w7 AM hH;have AO:=hH _ (List.mem_cons_self ..);clear hH;obtain⟨gk,cap,rfl⟩:=AO.1.at;have AT:=AM.1;rw[←HO.out] at AT
   have AY:Hid (zD1 w S R (zCH (tN S.l) i s) (.returned (.tuple #[])) (w7.setCell ⟨S.p,2,none⟩ (.slice (some ⟨gk,0,none⟩) (s.procs.length+1) cap))):=yG (by
    have ha:=AB.out.zTQ HL.out ⟨nt,0,[],nn==1,i⟩ rfl rfl AT (some ⟨gk,0,none⟩) cap (by rw[show prc ((⟨nt,0,[],nn==1,i⟩:Np),((none:Option Addr),0))=[Value.string (xG nt),Value.int .i64 0,Value.slice none 0 0,Value.bool sg,Value.int .i64 (i:Int)] by unfold prc; rw[Ae.out]; rfl]; exact AO.1.1) (fun b e=>by
     injection e with e;injection e with e;subst e
     rcases AO.2 with e | ⟨g',e,A2⟩
     ·left
      rw[←HO.out] at e;exact xP AB.out.procs e.symm
     ·right
      have:gk=g':=by simpa [Value.ownBlock] using e
      omega)
    rw[HR.out]
    exact⟨rfl,_,ha.1,Ak.out.trans ha.2⟩)
   have y2:w7.cell? ⟨S.p,2,none⟩=some (.slice R.Ap s.procs.length R.cP):=(World.cell?_of_block (w:=W) (a:=⟨S.p,2,none⟩) (AM.1.block S.p pl AS.out)).trans p2;have z2:w7.frozen? ⟨S.p,2,none⟩=false:=(World.frozen?_of_block (w:=W) (a:=⟨S.p,2,none⟩) (AM.1.block S.p pl AS.out)).trans (AB.out.pg.frozen 2);clear AO AT AM
   try simp only[Act.put,yD,yE,yF]
   go_wp2_with fail
   go_end0;exact AY.out
  ·have HR:Hid (zCH (tN S.l) i s=.err i 3):=yG (by rw[AI.out,if_neg hl]);have Ah:decide ((s.procs.length:Int)<64)=false:=yR (by omega);clear hl
   go_wp2_with fail
   refine(JW w3 S.a S.p S.A S.ct S.l i 3 AE.out.rds AF.out).mono ?_;rintro e w4 ⟨rfl,rfl⟩;exact xJ (P:=Tryz.prog) (fn:=Tryz.f50) rfl (zD1.err HR.out AF.out (xC.ext AQ.out))
section
variable {P:Program} {kt:TypeId} {w:World} {b n:Nat} {f:Bs→Option Value}
theorem zFI (es:Array MapEntry)(clock:Nat)(h:∀x ∈ es.toList,x.born<clock)(x:MapEntry)(hx:x.born=clock):(es.push x).findIdx? (fun e=>(e.born:Int)==(clock:Int))=some es.size:=by
 rw[Array.findIdx?_push]
 have:es.findIdx? (fun e=>(e.born:Int)==(clock:Int))=none:=by
  rw[Array.findIdx?_eq_none_iff];intro y hy
  have:=h y (by simpa using hy)
  rw[yI];omega
 rw[this];simp[hx]
theorem MF.entry {t e:TypeId}(h:MF P kt w b n f)(hk:P.underlying kt=some .string)(ht:P.underlying t=some (.map kt e))(hn:n<maxLen){z:Value}(hz:∀w,(zeroValue e).run P w=.ok z w)(k:Bs)(hl:k.length≤maxLen)(hf:f k=none) :
  ∃(es:Array MapEntry) (AA:Nat),w.heap[b]?=some (.map es AA) ∧
   (Instr.mapEntry t (.map (some b)) (.string (xG k))).run P w=.ok (.tuple #[z,.int .i64 (AA:Int)]) { w with heap:=w.heap.setIfInBounds b (.map (es.push { key:=.string (xG k),val:=z,born:=AA }) (AA+1)) } ∧
   ∀(v:Value) (w2:World),w2.heap[b]?=some (.map (es.push { key:=.string (xG k),val:=z,born:=AA }) (AA+1)) →
    ∃w3,(Instr.entryStore t (.map (some b)) (.int .i64 (AA:Int)) v).run P w2=.ok () w3∧w2.grownBy w3 (some b)∧w3.heap.size=w2.heap.size∧MF P kt w3 b (n+1) (fun y=>if y=k then some v else f y):=by
 have AD:keyOf P kt (.string (xG k))=some (.string k):=WideMaps.keyOf_string_mk hk (s:=xG k) hl;have K:=Maps.string_keyed hk;have h0:=h;obtain⟨D,⟨es,AA,hb,F,hs,rfl⟩,h2,h3⟩:=h;have AB:=h0.get hk ht (hz w) k hl;rw[hf] at AB;simp only[Option.getD_none,Option.isSome_none] at AB
 rcases K.find w AD es.toList F.keys with ⟨g1,g2⟩ | ⟨j,e0,g1,g2,g3⟩
 ·refine⟨es,AA,hb,?_,fun v w2 AE=>?_⟩
  ·simp[Instr.mapEntry,run_underlying ht,MapKept.run_getObj_map hb,K.check w false AD,g1,hz w,MapKept.run_setObj_map _ hb,Result.andThen,goInt]
  ·obtain⟨w',AC,r1,r2,r3⟩:=h0.put hk ht hn k hl v
   have AH:(Instr.mapUpdate t (.map (some b)) (.string (xG k)) v).run P w=.ok () { w with heap:=w.heap.setIfInBounds b (.map (es.push { key:=.string (xG k),val:=v,born:=AA }) (AA+1)) }:=by
    simp[Instr.mapUpdate,run_underlying ht,MapKept.run_getObj_map hb,K.check w false AD,g1,MapKept.run_setObj_map _ hb,Result.andThen]
   rw[AH] at AC;injection AC with _ AC
   have AG:w'.heap[b]?=some (.map (es.push { key:=.string (xG k),val:=v,born:=AA }) (AA+1)):=by
    rw[←AC];exact(MapKept.heap_set hb).1
   refine⟨{ w2 with heap:=w2.heap.setIfInBounds b (.map (es.push { key:=.string (xG k),val:=v,born:=AA }) (AA+1)) },?_,⟨rfl,rfl,rfl,by simp,fun k' _ AJ=>(MapKept.heap_set AE).2 k' fun e=>AJ (by rw[e])⟩,by simp,r1.jL ((MapKept.heap_set AE).1.trans AG.symm)⟩;have AI:=zFI es AA F.stamped.1 { key:=.string (xG k),val:=z,born:=AA } rfl
   have AF:(es.push { key:=.string (xG k),val:=z,born:=AA }).modify es.size (fun e=>{ e with val:=v })=es.push { key:=.string (xG k),val:=v,born:=AA }:=by
    apply Array.ext
    ·simp
    ·intro i h1 h2;simp only[Array.size_modify,Array.size_push] at h1;rw[Array.getElem_modify]
     split
     ·rename_i e;subst e
      simp
     ·rename_i e
      have:i<es.size:=by omega
      simp[Array.getElem_push,this]
   simp[Instr.entryStore,MapKept.run_getObj_map AE,asInt,asIntOf,AI,AF,MapKept.run_setObj_map _ AE,Result.andThen]
 ·exfalso
  have:(Instr.lookup t (.map (some b)) (.string (xG k)) true).run P w=.ok (.tuple #[e0.val,.bool true]) w:=by
   simp[Instr.lookup,run_underlying ht,MapKept.run_getObj_map hb,K.check w _ AD,g1,Result.andThen]
  rw[this] at AB
  simp at AB
end
end Go.Proofs.YtbadjmmjbpeocaaGreat
