/- code.Eval: what a reckoning tells, walked: for every row of terms and every row of variables, in whatever memory; what was in memory stays. (and what follows of it). The conditions stand at each lemma. -/
import Derived.Test.YtbadjmmjbpeocaaGreatKaa
import Derived.Test.YtbadjmmjbpeocaaGreatKab
import Derived.Test.YtbadjmmjbpeocaaGreatKbn
import Derived.Test.YtbadjmmjbpeocaaGreatKbo
set_option linter.unusedVariables false
set_option linter.unusedSimpArgs false
set_option maxRecDepth 100000
set_option maxHeartbeats 16000000
namespace Go.Proofs.YtbadjmmjbpeocaaGreat.EV
open Go Go.RowKit
theorem zS3:(Tryz.prog.info? 2).map (fun i=>(i.zero,i.size,i.bytes))=some (some (.int .i64 0),1,8):=by kernel_rfl
def zD8 (k:Int):Int:=if k=3∨k=4∨k=5 then 2 else if k=6 then 1 else 0
theorem zQD (k:Int)(w:World)(h0:0≤k)(h1:k<256) :
  Calls Tryz.prog 23 #[.int .u8 k] w fun e w'=>e=.returned (.int .i64 (zD8 k))∧w=w':=by
 by_cases h3:k=3
 ·subst h3
  go_enter Tryz.func23,Tryz.ntmps23
  go_wp2
  go_ret;exact⟨rfl,rfl⟩
 by_cases h4:k=4
 ·subst h4
  go_enter Tryz.func23,Tryz.ntmps23
  go_wp2
  go_ret;exact⟨rfl,rfl⟩
 by_cases h5:k=5
 ·subst h5
  go_enter Tryz.func23,Tryz.ntmps23
  go_wp2
  go_ret;exact⟨rfl,rfl⟩
 by_cases h6:k=6
 ·subst h6
  go_enter Tryz.func23,Tryz.ntmps23
  go_wp2
  go_ret;exact⟨rfl,rfl⟩
 ·go_enter Tryz.func23,Tryz.ntmps23
  go_wp2
  go_ret;exact⟨zEW (by unfold zD8; rw[if_neg (by omega),if_neg h6]),rfl⟩
def zEm (w:World)(B g:Nat)(xs:List Int):Prop:=
 ∃A c,Blk w g 67 #[.slice A xs.length c]∧(A=none→c=0)∧w.ownsRow B 2 1 (.slice A xs.length c) xs.length (xs.map (Value.int .i64))∧B≤g
theorem zEm.ext {w w':World}{B g:Nat}{xs:List Int}(h:zEm w B g xs)(hx:Ext w w'):zEm w' B g xs:=by
 obtain⟨A,c,hb,hA,ho,hg⟩:=h;exact⟨A,c,hb.ext hx,hA,zBt ho hx,hg⟩
theorem zHI (w:World)(B g:Nat)(xs:List Int)(x:Int)(h:zEm w B g (xs++[x]))(hl:xs.length<20000) :
  Calls Tryz.prog 24 #[.pointer (some ⟨g,0,none⟩)] w fun e w'=>e=.returned (.int .i64 x)∧zEm w' B g xs∧Below B w w'∧(∀k,k≠g→w'.heap[k]?=w.heap[k]?)∧w'.heap.size=w.heap.size:=by
 obtain⟨A,c,hb,hA,ho,hg⟩:=h;rw[List.map_append,List.map_singleton] at ho;simp only[yP,List.length_singleton] at ho hb;obtain⟨b,rfl,hbl,hc,hx,ho'⟩:=zMl ho;have hcell:w.cell? ⟨g,0,none⟩=some (.slice (some ⟨b,0,none⟩) (xs.length+1) c):=hb.cell 0;have hfz:=hb.frozen 0;have hne:(Value.slice (some ⟨b,0,none⟩) xs.length c).ownBlock≠some g:=YE ho' hb (by decide);have fin:zEm (w.setCell ⟨g,0,none⟩ (.slice (some ⟨b,0,none⟩) xs.length c)) B g xs:=⟨_,c,hb.put 0 _,(fun h=>by cases h),zHR ho' (p:=⟨g,0,none⟩) hne _,hg⟩;have HF:=yG fin;have HB:Hid (Below B w (w.setCell ⟨g,0,none⟩ (.slice (some ⟨b,0,none⟩) xs.length c))):=(Below.refl B w).setCell (p:=⟨g,0,none⟩) hg _
 have HK:Hid ((∀k,k≠g→(w.setCell ⟨g,0,none⟩ (.slice (some ⟨b,0,none⟩) xs.length c)).heap[k]?=w.heap[k]?)∧(w.setCell ⟨g,0,none⟩ (.slice (some ⟨b,0,none⟩) xs.length c)).heap.size=w.heap.size):=
  ⟨fun k hk=>zS w ⟨g,0,none⟩ _ k hk,by simp⟩
 clear fin hne ho ho' hb hA
 go_enter Tryz.func24,Tryz.ntmps24
 go_wp2_with fail
 go_ret;exact⟨rfl,HF.out,HB.out,HK.out.1,HK.out.2⟩
theorem zF6 (w:World)(B g:Nat)(xs:List Int)(x:Int)(h:zEm w B g xs)(hl:xs.length<20000)(hB:B≤w.heap.size) :
  Calls Tryz.prog 25 #[.pointer (some ⟨g,0,none⟩),.int .i64 x] w fun e w'=>e=.returned (.tuple #[])∧zEm w' B g (xs++[x])∧Below B w w':=by
 obtain⟨i0,hi,hz0,hz1,hz2⟩:=info_parts zS3;obtain⟨A,c,hb,hA,ho,hg⟩:=h;have hcell:w.cell? ⟨g,0,none⟩=some (.slice A xs.length c):=hb.cell 0;have HBK:=yG (hb.alloc (.cells #[.int .i64 x] 2));have HLT:=yG ho.lt;have hne:=yG (YE ho hb (by decide));clear hb hA
 go_enter Tryz.func25,Tryz.ntmps25
 go_wp2_with (at_builtin; refine YN rfl _ _ 67 rfl B 2 i0 (.int .i64 0) 1 8 Tryz.underlying67 hi hz0 hz1 hz2 rfl (by decide) _ _ _ rfl (ho.alloc _) _ 1 1 [.int .i64 x] rfl (by simp) rfl ?c1 ?c2 ?c3 ?c4 ?c5 ?_)
 case c1=>exact Cells.new w 2 #[.int .i64 x]
 case c2=>intro u hu; simp at hu; subst hu; rfl
 case c3=>unfold maxLen; omega
 case c4=>omega
 case c5=>simp; omega
 intro A' c' w1 hA' hown' hgrow;have hb1:=HBK.out.grown hgrow (Ne.symm hne.out);have hcell1:w1.cell? ⟨g,0,none⟩=some (.slice A xs.length c):=hb1.cell 0;have hfz1:=hb1.frozen 0;have hne':=YE hown' hb1 (by decide)
 have HF:Hid (zEm (w1.setCell ⟨g,0,none⟩ (.slice A' (xs.length+1) c')) B g (xs++[x])):=by
  refine⟨A',c',?_,hA',?_,hg⟩
  ·have:=hb1.put 0 (.slice A' (xs.length+1) c')
   simpa using this
  ·have:=zHR hown' (p:=⟨g,0,none⟩) hne' (.slice A' (xs.length+1) c')
   simpa using this
 have HB:Hid (Below B w (w1.setCell ⟨g,0,none⟩ (.slice A' (xs.length+1) c'))):=
  Below.setCell (Below.grown ((Below.refl B w).alloc hB _) hgrow (by simp; omega) (fun k hk=>(HLT.out k hk).1)) (p:=⟨g,0,none⟩) hg _
 clear hb1 hne' hown' hgrow hA' ho
 go_wp2_with fail
 go_end0;exact⟨rfl,HF.out,HB.out⟩
abbrev zBy:=Int × Int × Int
def zBy.ok (t:zBy):Prop:=(0≤t.1∧t.1<256)∧(-9223372036854775808≤t.2.1∧t.2.1≤9223372036854775807)∧(-9223372036854775808≤t.2.2∧t.2.2≤9223372036854775807)
def zBV (l:List zBy):List Value:=l.flatMap fun t=>[.int .u8 t.1,.int .i64 t.2.1,.int .i64 t.2.2]
def YW (l:List Int):List Value:=l.map (Value.int .i64)
theorem zCm (l:List zBy):(zBV l).length=l.length*3:=by
 induction l with
 | nil=>rfl
 | cons t l ih=>simp only[zBV,List.flatMap_cons,yP,zK,zL] at ih ⊢; omega
theorem zQC (l:List zBy)(k:Nat)(h:k<l.length):(zBV l)[k*3]?=some (.int .u8 (l[k]).1)∧(zBV l)[k*3+1]?=some (.int .i64 (l[k]).2.1)∧(zBV l)[k*3+2]?=some (.int .i64 (l[k]).2.2):=by
 induction l generalizing k with
 | nil=>simp at h
 | cons t l ih=>
  match k with
  | 0=>exact⟨rfl,rfl,rfl⟩
  | k+1=>
   have h':=ih k (by simpa using h)
   have e:∀j,(zBV (t::l))[(k+1)*3+j]?=(zBV l)[k*3+j]?:=by
    intro j;rw[show(k+1)*3+j=k*3+j+1+1+1 from by omega]
    rfl
   refine⟨?_,?_,?_⟩
   ·have:=e 0; simpa using this.trans h'.1
   ·simpa using (e 1).trans h'.2.1
   ·simpa using (e 2).trans h'.2.2
def zG8 (vars:List Int)(t:zBy)(st:List Int):Option (List Int):=
 if t.1=1 then some (t.2.1::st)
 else if t.1=2 then (if 0≤t.2.2∧t.2.2<vars.length then some (vars.getD t.2.2.toNat 0::st) else none)
 else if t.1=3 then (match st with | y::x::r=>some (wrap64 (x+y)::r) | _=>none)
 else if t.1=4 then (match st with | y::x::r=>some (wrap64 (x-y)::r) | _=>none)
 else if t.1=5 then (match st with | y::x::r=>some (wrap64 (x*y)::r) | _=>none)
 else if t.1=6 then (match st with | y::r=>some (wrap64 (-y)::r) | _=>none)
 else none
def zCq (vars:List Int):List zBy→List Int→Option (List Int)
 | [],st=>some st
 | t::l,st=>(zG8 vars t st).bind (zCq vars l)
def zA2 (vars:List Int)(l:List zBy):Int × Bool:=match zCq vars l [] with
 | some [x]=>(x,true)
 | _=>(0,false)
theorem zF2 (vars:List Int)(l m:List zBy)(st:List Int):zCq vars (l++m) st=(zCq vars l st).bind (zCq vars m):=by
 induction l generalizing st with
 | nil=>rfl
 | cons t l ih=>
  simp only[yC,zCq]
  cases h:zG8 vars t st with
  | none=>rfl
  | some st'=>simp only[Option.bind_some]; exact ih st'
theorem zIK (vars:List Int)(l:List zBy)(k:Nat)(h:k<l.length)(st:List Int)(he:zCq vars (l.take k) []=some st):zCq vars (l.take (k+1)) []=zG8 vars l[k] st:=by
 rw[zZ h,zF2,he];simp only[Option.bind_some,zCq]
 cases zG8 vars l[k] st <;> rfl
theorem zOJ (vars:List Int)(l:List zBy)(k:Nat)(h:k<l.length)(st:List Int)(he:zCq vars (l.take k) []=some st)(hs:zG8 vars l[k] st=none):zA2 vars l=(0,false):=by
 have h1:=zIK vars l k h st he;rw[hs] at h1;have h2:=zF2 vars (l.take (k+1)) (l.drop (k+1)) [];rw[List.take_append_drop,h1] at h2;unfold zA2;rw[h2]
 rfl
theorem zB5 (k v:Int)(w:World)(h0:0≤k)(h1:k<256)(h:Hid (zD8 k=v)) :
  Calls Tryz.prog 23 #[.int .u8 k] w fun e w'=>e=.returned (.int .i64 v)∧w=w':=by
 rw[←h.out]; exact zQD k w h0 h1
theorem zKH {w:World}{B g:Nat}{st:List Int}(h:zEm w B g st.reverse):∃A c,w.cell? ⟨g,0,none⟩=some (.slice A st.length c):=by
 obtain⟨A,c,hb,_⟩:=h;rw[List.length_reverse] at hb;exact⟨A,c,hb.cell 0⟩
theorem zGL (vars:List Int)(nn vv:Int)(st:List Int):zG8 vars (2,nn,vv) st=if 0≤vv∧vv<vars.length then some (vars.getD vv.toNat 0::st) else none:=rfl
theorem zR5 (vars:List Int)(kd nn vv:Int)(st:List Int)(h1:kd≠1)(h2:kd≠2)(h3:¬(kd=3∨kd=4∨kd=5))(h6:kd≠6):zG8 vars (kd,nn,vv) st=none:=by
 unfold zG8;rw[if_neg h1,if_neg h2,if_neg (by omega),if_neg (by omega),if_neg (by omega),if_neg h6]
theorem zCe {R:Int × Bool}{a:Int}{b:Bool}(h:R=(a,b)):Ending.returned (.tuple #[.int .i64 a,.bool b])=.returned (.tuple #[.int .i64 R.1,.bool R.2]):=by rw[h]
theorem zRN (A V:Option Addr)(l:List zBy)(vars:List Int)(c d:Nat)(w:World)(hl:l.length≤9000)(hv:vars.length≤9000)(hA:Cells w A (zBV l))(hV:Cells w V (YW vars))(hok:∀t ∈ l,t.ok)(hvk:∀n ∈ vars,-9223372036854775808≤n∧n≤9223372036854775807) :
  Calls Tryz.prog 10 #[.slice A l.length c,.slice V vars.length d] w fun e w'=>e=.returned (.tuple #[.int .i64 (zA2 vars l).1,.bool (zA2 vars l).2])∧Ext w w':=by
 go_enter Tryz.func10,Tryz.ntmps10
 go_wp2_with fail
 have HP:Hid (zEm (w.alloc (.cells #[.slice none 0 0] 67)) w.heap.size w.heap.size []):=
  ⟨none,0,Blk.new w _ _,fun _=>rfl,by simpa using zR _ _ _ _,zX _⟩
 have HX:Hid (Ext w (w.alloc (.cells #[.slice none 0 0] 67))):=Ext.alloc _ _
 have hg:w.heap.size<(w.alloc (.cells #[.slice none 0 0] 67)).heap.size:=by simp
 have HVK:=yG hvk;have HOK:=yG hok;clear hvk hok;have HV:=yG hV;clear hV;generalize hgd:w.heap.size=g at *;have HGD:=yG hgd;clear hgd;generalize w.alloc (.cells #[.slice none 0 0] 67)=w1 at *
 go_loopw [14] (fun i wr=>∃(k:Nat) (st:List Int),k≤l.length∧i=.int .i64 k∧Hid (zCq vars (l.take k) []=some st)∧Hid (zEm wr g g st.reverse)∧st.length≤k∧Hid (Below g w wr∧g<wr.heap.size)) (fun i _=>l.length-(intOf i).toNat)
 case atStart=>exact⟨0,[],zW _,rfl,rfl,HP,by simp,⟨by rw[←HGD.out]; exact HX.out,hg⟩⟩
 case round=>
  obtain⟨k,st,hk,rfl,HE,HPl,hst,HXr⟩:=hrel;obtain⟨wa,rfl⟩:∃wa:World,wa=wr:=⟨_,rfl⟩;clear HP HX hg
  by_cases hkl:k<l.length
  ·obtain⟨b,off,rfl,hb,hc⟩:=hA.at_ (by rw[zCm]; omega)
   have hbg:b<g:=by rw[←HGD.out]; exact hb
   obtain⟨t1,t2,t3⟩:=zQC l k hkl;have c1:wa.cell? ⟨b,off+k*3,none⟩=some (.int .u8 (l[k]).1):=((HXr.out.1.cell (p:=⟨b,_,none⟩) hbg).trans (hc _ (by rw[zCm]; omega))).trans t1;have c2:wa.cell? ⟨b,off+k*3+1,none⟩=some (.int .i64 (l[k]).2.1):=((HXr.out.1.cell (p:=⟨b,_,none⟩) hbg).trans (by rw[Nat.add_assoc]; exact hc _ (by rw[zCm]; omega))).trans t2;have c3:wa.cell? ⟨b,off+k*3+2,none⟩=some (.int .i64 (l[k]).2.2):=((HXr.out.1.cell (p:=⟨b,_,none⟩) hbg).trans (by rw[Nat.add_assoc]; exact hc _ (by rw[zCm]; omega))).trans t3;have HN:=yG (zIK vars l k hkl st HE.out);have HF:=yG (zOJ vars l k hkl st HE.out);have hokt:=HOK.out _ (yO hkl);clear hc t1 t2 t3 hA;generalize l[k]=t at *;obtain⟨kd,nn,vv⟩:=t;obtain⟨hk1,hn1,hv1⟩:=hokt
   simp only at hk1 hn1 hv1 c1 c2 c3
   have HBX:Hid (Blk (wa.alloc (.cells #[.int .u8 kd,.int .i64 nn,.int .i64 vv] 60)) wa.heap.size 60 #[.int .u8 kd,.int .i64 nn,.int .i64 vv]):=Blk.new _ _ _;have hq:g<wa.heap.size:=HXr.out.2;have HP2:Hid (zEm (wa.alloc (.cells #[.int .u8 kd,.int .i64 nn,.int .i64 vv] 60)) g g st.reverse):=HPl.out.ext (Ext.alloc _ _);have HX2:Hid (Below g w (wa.alloc (.cells #[.int .u8 kd,.int .i64 nn,.int .i64 vv] 60))∧g<(wa.alloc (.cells #[.int .u8 kd,.int .i64 nn,.int .i64 vv] 60)).heap.size):=⟨HXr.out.1.alloc (by omega) _,by simp; omega⟩;obtain⟨Ap,cp,hcp⟩:=zKH HP2.out;have hx1:(wa.alloc (.cells #[.int .u8 kd,.int .i64 nn,.int .i64 vv] 60)).cell? ⟨wa.heap.size,0,none⟩=some (.int .u8 kd):=HBX.out.cell 0;have hx2:(wa.alloc (.cells #[.int .u8 kd,.int .i64 nn,.int .i64 vv] 60)).cell? ⟨wa.heap.size,1,none⟩=some (.int .i64 nn):=HBX.out.cell 1;have hx3:(wa.alloc (.cells #[.int .u8 kd,.int .i64 nn,.int .i64 vv] 60)).cell? ⟨wa.heap.size,2,none⟩=some (.int .i64 vv):=HBX.out.cell 2;clear HPl HXr
   go_wp2_with fail
   clear c1 c2 c3 hb hbg;generalize hqq:wa.heap.size=q at *;have HQ:=yG hqq;clear hqq;generalize wa.alloc (.cells #[.int .u8 kd,.int .i64 nn,.int .i64 vv] 60)=W at *
   have HEXT:Hid (Ext w W):=by have:=HX2.out.1; rw[←HGD.out] at this; exact this
   by_cases h345:kd=3∨kd=4∨kd=5
   ·have HTK:Hid (zD8 kd=2):=yG (by unfold zD8; rw[if_pos h345])
    by_cases hsh:st.length<2
    ·have HR:Hid (zA2 vars l=(0,false)):=by
      refine HF.out ?_
      rcases h345 with rfl | rfl | rfl <;> match st,hsh with
       | [],_=>rfl
       | [_],_=>rfl
     clear h345 HF HN
     have hshI:(st.length:Int)<2:=by omega
     go_wp2_with fail
     refine(zB5 _ _ _ hk1.1 hk1.2 HTK).mono ?_;rintro e w' ⟨rfl,rfl⟩
     go_wp2_with fail
     go_ret2;exact⟨zCe HR.out,HEXT.out⟩
    ·obtain⟨y,x,r,rfl⟩:∃y x r,st=y::x::r:=by
      match st,hsh with
      | [],h=>simp at h
      | [_],h=>simp at h
      | y::x::r,_=>exact⟨y,x,r,rfl⟩
     simp only[zK] at hst hcp
     have HP3:Hid (zEm W g g ((x::r).reverse++[y])):=by have:=HP2.out; rwa [List.reverse_cons] at this
     clear HP2 hsh HF
     have hrl:r.length+2≤k:=by omega
     go_wp2_with fail
     refine(zB5 _ _ _ hk1.1 hk1.2 HTK).mono ?_;rintro e w' ⟨rfl,rfl⟩
     go_wp2_with fail
     refine(zHI W g g (x::r).reverse y HP3.out (by simp; omega)).mono ?_;rintro e w2 ⟨rfl,hp2,hb2,hk2,hs2⟩;have HB2:Hid (Below g w w2∧g<w2.heap.size):=⟨HX2.out.1.trans hb2,by rw[hs2]; exact HX2.out.2⟩;have HBX2:Hid (Blk w2 q 60 #[.int .u8 kd,.int .i64 nn,.int .i64 vv]):=(hk2 q (by omega)).trans HBX.out
     have HP4:Hid (zEm w2 g g (r.reverse++[x])):=by rwa [List.reverse_cons] at hp2
     clear hp2 hb2 hk2 hs2 HX2 HBX HP3 hcp hx1 hx2 hx3 HEXT
     go_wp2_with fail
     refine(zHI w2 g g r.reverse x HP4.out (by simp; omega)).mono ?_;rintro e w3 ⟨rfl,hp3,hb3,hk3,hs3⟩;have HB3:Hid (Below g w w3∧g<w3.heap.size):=⟨HB2.out.1.trans hb3,by rw[hs3]; exact HB2.out.2⟩;have HBX3:Hid (Blk w3 q 60 #[.int .u8 kd,.int .i64 nn,.int .i64 vv]):=(hk3 q (by omega)).trans HBX2.out;have HP5:=yG hp3;have hx1:w3.cell? ⟨q,0,none⟩=some (.int .u8 kd):=HBX3.out.cell 0;clear hp3 hb3 hk3 hs3 HB2 HBX2 HP4 HBX3
     rcases h345 with rfl | rfl | rfl
     all_goals
      go_wp2_with fail
      refine(zF6 w3 g g r.reverse _ HP5.out (by simp; omega) (by have:=HB3.out.2; omega)).mono ?_;rintro e w4 ⟨rfl,hp4,hb4⟩;have HB4:Hid (Below g w w4∧g<w4.heap.size):=⟨HB3.out.1.trans hb4,yU HB3.out.2 hb4.size⟩;have HP6:=yG hp4;clear hp4 hb4 hx1
      go_wp2_with fail
      go_roundw
      case rel=>exact⟨k+1,_,by omega,by go_num,HN.out,by rw[←List.reverse_cons] at HP6; exact HP6,by simp; omega,HB4⟩
      case measure=>simp[intOf]; omega
   ·by_cases h6:kd=6
    ·subst h6;have HTK:Hid (zD8 6=1):=yG (by decide)
     by_cases hsh:st.length<1
     ·have HR:Hid (zA2 vars l=(0,false)):=by
       refine HF.out ?_
       match st,hsh with
       | [],_=>rfl
      clear h345 HF HN
      have hshI:(st.length:Int)<1:=by omega
      go_wp2_with fail
      refine(zB5 _ _ _ hk1.1 hk1.2 HTK).mono ?_;rintro e w' ⟨rfl,rfl⟩
      go_wp2_with fail
      go_ret2;exact⟨zCe HR.out,HEXT.out⟩
     ·obtain⟨y,r,rfl⟩:∃y r,st=y::r:=by
       match st,hsh with
       | [],h=>simp at h
       | y::r,_=>exact⟨y,r,rfl⟩
      simp only[zK] at hst hcp
      have HP3:Hid (zEm W g g (r.reverse++[y])):=by have:=HP2.out; rwa [List.reverse_cons] at this
      clear HP2 hsh HF h345
      have hrl:r.length+1≤k:=by omega
      go_wp2_with fail
      refine(zB5 _ _ _ hk1.1 hk1.2 HTK).mono ?_;rintro e w' ⟨rfl,rfl⟩
      go_wp2_with fail
      refine(zHI W g g r.reverse y HP3.out (by simp; omega)).mono ?_;rintro e w2 ⟨rfl,hp2,hb2,hk2,hs2⟩;have HB2:Hid (Below g w w2∧g<w2.heap.size):=⟨HX2.out.1.trans hb2,by rw[hs2]; exact HX2.out.2⟩;have HBX2:Hid (Blk w2 q 60 #[.int .u8 6,.int .i64 nn,.int .i64 vv]):=(hk2 q (by omega)).trans HBX.out;have HP4:=yG hp2;have hx1:w2.cell? ⟨q,0,none⟩=some (.int .u8 6):=HBX2.out.cell 0;clear hp2 hb2 hk2 hs2 HX2 HBX HP3 hcp hx2 hx3 HEXT HBX2
      go_wp2_with fail
      refine(zF6 w2 g g r.reverse _ HP4.out (by simp; omega) (by have:=HB2.out.2; omega)).mono ?_;rintro e w4 ⟨rfl,hp4,hb4⟩;have HB4:Hid (Below g w w4∧g<w4.heap.size):=⟨HB2.out.1.trans hb4,yU HB2.out.2 hb4.size⟩;have HP6:=yG hp4;clear hp4 hb4 hx1
      go_wp2_with fail
      go_roundw
      case rel=>exact⟨k+1,_,by omega,by go_num,HN.out,by rw[←List.reverse_cons] at HP6; exact HP6,by simp; omega,HB4⟩
      case measure=>simp[intOf]; omega
    ·have HTK:Hid (zD8 kd=0):=yG (by unfold zD8; rw[if_neg h345,if_neg h6]);have e3:(kd==3)=false:=beq_eq_false_iff_ne.2 (by omega);have e4:(kd==4)=false:=beq_eq_false_iff_ne.2 (by omega);have e5:(kd==5)=false:=beq_eq_false_iff_ne.2 (by omega);have e6:(kd==6)=false:=beq_eq_false_iff_ne.2 (by omega)
     by_cases h1:kd=1
     ·subst h1;clear HF h345 h6 e3 e4 e5 e6
      go_wp2_with fail
      refine(zB5 _ _ _ hk1.1 hk1.2 HTK).mono ?_;rintro e w' ⟨rfl,rfl⟩
      go_wp2_with fail
      refine(zF6 W g g st.reverse _ HP2.out (by simp; omega) (by have:=HX2.out.2; omega)).mono ?_;rintro e w4 ⟨rfl,hp4,hb4⟩;have HB4:Hid (Below g w w4∧g<w4.heap.size):=⟨HX2.out.1.trans hb4,yU HX2.out.2 hb4.size⟩;have HP6:=yG hp4;clear hp4 hb4 hx1
      go_wp2_with fail
      go_roundw
      case rel=>exact⟨k+1,_,by omega,by go_num,HN.out,by rw[←List.reverse_cons] at HP6; exact HP6,by simp; omega,HB4⟩
      case measure=>simp[intOf]; omega
     ·have e1:(kd==1)=false:=beq_eq_false_iff_ne.2 (by omega)
      by_cases h2:kd=2
      ·subst h2;clear h345 h6 e1 e3 e4 e5 e6 h1
       by_cases hneg:vv<0
       ·have HR:Hid (zA2 vars l=(0,false)):=HF.out (by rw[zGL,if_neg (by omega)]);clear HF HN
        have hd:decide (vv<0)=true:=by simpa using hneg
        go_wp2_with fail
        refine(zB5 _ _ _ hk1.1 hk1.2 HTK).mono ?_;rintro e w' ⟨rfl,rfl⟩
        go_wp2_with fail
        go_ret2;exact⟨zCe HR.out,HEXT.out⟩
       ·have hd:decide (vv<0)=false:=by simpa using hneg
        by_cases hbig:(vars.length:Int)≤vv
        ·have HR:Hid (zA2 vars l=(0,false)):=HF.out (by rw[zGL,if_neg (by omega)]);clear HF HN
         have hd2:decide ((vars.length:Int)≤vv)=true:=by simpa using hbig
         go_wp2_with fail
         refine(zB5 _ _ _ hk1.1 hk1.2 HTK).mono ?_;rintro e w' ⟨rfl,rfl⟩
         go_wp2_with fail
         go_ret2;exact⟨zCe HR.out,HEXT.out⟩
        ·obtain⟨m,rfl⟩:=Int.eq_ofNat_of_zero_le (show 0≤vv by omega)
         have hm:m<vars.length:=by omega
         have HN2:Hid (zCq vars (l.take (k+1)) []=some (vars.getD m 0::st)):=by
          have:=HN.out
          rw[zGL,if_pos ⟨by omega,by omega⟩,zI] at this;exact this
         have hd2:decide ((vars.length:Int)≤(m:Int))=false:=by simpa using hbig
         obtain⟨b2,off2,rfl,hb2,hc2⟩:=HV.out.at_ (by simp[YW]; omega)
         have hb2g:b2<g:=by rw[←HGD.out]; exact hb2
         have hcm:W.cell? ⟨b2,off2+m,none⟩=some (.int .i64 (vars.getD m 0)):=by
          rw[HX2.out.1.cell (p:=⟨b2,_,none⟩) hb2g,hc2 m (by simp[YW]; exact hm)];simp[YW,hm]
         have hmb:=HVK.out (vars.getD m 0) (by simp[List.getD,hm]);clear HF HN hc2 hb2;generalize vars.getD m 0=z at *
         go_wp2_with fail
         refine(zB5 _ _ _ hk1.1 hk1.2 HTK).mono ?_;rintro e w' ⟨rfl,rfl⟩
         go_wp2_with fail
         refine(zF6 W g g st.reverse _ HP2.out (by simp; omega) (by have:=HX2.out.2; omega)).mono ?_;rintro e w4 ⟨rfl,hp4,hb4⟩;have HB4:Hid (Below g w w4∧g<w4.heap.size):=⟨HX2.out.1.trans hb4,yU HX2.out.2 hb4.size⟩;have HP6:=yG hp4;clear hp4 hb4 hx1 hcm
         go_wp2_with fail
         go_roundw
         case rel=>exact⟨k+1,_,by omega,by go_num,HN2.out,by rw[←List.reverse_cons] at HP6; exact HP6,by simp; omega,HB4⟩
         case measure=>simp[intOf]; omega
      ·have e2:(kd==2)=false:=beq_eq_false_iff_ne.2 (by omega);have HR:Hid (zA2 vars l=(0,false)):=HF.out (zR5 vars kd nn vv st h1 h2 h345 h6);clear HF HN
       go_wp2_with fail
       refine(zB5 _ _ _ hk1.1 hk1.2 HTK).mono ?_;rintro e w' ⟨rfl,rfl⟩
       go_wp2_with fail
       go_ret2;exact⟨zCe HR.out,HEXT.out⟩
  ·have hkk:k=l.length:=by omega
   have HE2:Hid (zCq vars l []=some st):=by have:=HE.out; rwa [hkk,List.take_length] at this
   have HEXT:Hid (Ext w wa):=by have:=HXr.out.1; rw[←HGD.out] at this; exact this
   obtain⟨Ap,cp,hcp⟩:=zKH HPl.out
   by_cases h1:st.length=1
   ·obtain⟨x,rfl⟩:∃x,st=[x]:=by
     match st,h1 with
     | [x],_=>exact⟨x,rfl⟩
    have HR:Hid (zA2 vars l=(x,true)):=by unfold zA2; rw[HE2.out]; exact yG rfl
    have HP3:Hid (zEm wa g g ([]++[x])):=HPl;simp only[List.length_singleton] at hcp;clear HE HE2 hA
    go_wp2_with fail
    refine(zHI wa g g [] x HP3.out (by simp)).mono ?_;rintro e w2 ⟨rfl,hp2,hb2,hk2,hs2⟩
    have HEXT2:Hid (Ext w w2):=by have:=HXr.out.1.trans hb2; rw[←HGD.out] at this; exact this
    clear hp2 hb2 hk2 hs2
    go_wp2_with fail
    go_ret2;exact⟨zCe HR.out,HEXT2.out⟩
   ·have HR:Hid (zA2 vars l=(0,false)):=by
     unfold zA2;rw[HE2.out]
     match st,h1 with
     | [],_=>exact yG rfl
     | x::y::r,_=>exact yG rfl
    have hne:((st.length:Int) != 1)=true:=by rw[zE]; omega
    clear HE HE2 hA
    go_wp2_with fail
    go_ret2;exact⟨zCe HR.out,HEXT.out⟩
end Go.Proofs.YtbadjmmjbpeocaaGreat.EV
namespace Go.Proofs.YtbadjmmjbpeocaaGreat
open Go Go.RowKit
def tmD:Tm→EV.zBy
 | .num n=>(1,n,0)
 | .var k=>(2,0,k)
 | .plus=>(3,0,0)
 | .minus=>(4,0,0)
 | .times=>(5,0,0)
 | .neg=>(6,0,0)
def A64:Ar:=⟨fun x y=>wrap64 (x+y),fun x y=>wrap64 (x-y),fun x y=>wrap64 (x*y)⟩
theorem zA4 (vars:List Int):∀(l:List Tm) (st:List Int),EV.zCq vars (l.map tmD) st=runT A64 vars l st
 | [],st=>rfl
 | .num n::l,st=>zA4 vars l (n::st)
 | .var k::l,st=>by
  show(if 0≤k∧k<(vars.length:Int) then some (vars.getD k.toNat 0::st) else none).bind (EV.zCq vars (l.map tmD))=(if 0≤k∧k<(vars.length:Int) then runT A64 vars l (vars.getD k.toNat 0::st) else none)
  split
  ·exact zA4 vars l _
  ·rfl
 | .plus::l,[]=>rfl
 | .plus::l,[_]=>rfl
 | .plus::l,y::x::st=>zA4 vars l (wrap64 (x+y)::st)
 | .minus::l,[]=>rfl
 | .minus::l,[_]=>rfl
 | .minus::l,y::x::st=>zA4 vars l (wrap64 (x-y)::st)
 | .times::l,[]=>rfl
 | .times::l,[_]=>rfl
 | .times::l,y::x::st=>zA4 vars l (wrap64 (x*y)::st)
 | .neg::l,[]=>rfl
 | .neg::l,y::st=>by
  have h:=zA4 vars l (wrap64 (-y)::st)
  have e:runT A64 vars (.neg::l) (y::st)=runT A64 vars l (wrap64 (-y)::st):=by
   show runT A64 vars l (wrap64 (0-y)::st)=_
   rw[Int.zero_sub]
  exact h.trans e.symm
theorem zIN {t:List Nd}{of:List Int}(hn:∀n ∈ t,okI n.num)(ho:∀i,(xB t i).kind=22→okI (of.getD i (-1))):∀(f i:Nat),∀x ∈ (vD t of f i).map tmD,x.ok
 | 0,i,x,hx=>by cases hx
 | f+1,i,x,hx=>by
  obtain⟨y,hy,rfl⟩:=List.mem_map.1 hx
  have hnum:okI (xB t i).num:=by
   unfold xB;rw[yH]
   cases e:t[i]? with
   | none=>exact ok0
   | some n=>exact hn n (yB e)
  have hmk:∀k:Int,0≤k→k<256→EV.zBy.ok (k,0,0):=fun k h1 h2=>⟨⟨h1,h2⟩,ok0,ok0⟩
  have hout:y ∈ (xB t i).kids.flatMap (vD t of f)→(tmD y).ok:=fun h=>by
   obtain⟨k,hk,hy⟩:=List.mem_flatMap.1 h;exact zIN hn ho f k _ (List.mem_map.2 ⟨y,hy,rfl⟩)
  unfold vD at hy
  dsimp only at hy
  split at hy
  ·rw[List.mem_singleton.1 hy]; exact⟨⟨show(0:Int)≤1 by decide,show(1:Int)<256 by decide⟩,hnum,ok0⟩
  split at hy
  ·rename_i h22;rw[List.mem_singleton.1 hy]; exact⟨⟨show(0:Int)≤2 by decide,show(2:Int)<256 by decide⟩,ok0,ho i h22⟩
  split at hy
  ·rcases List.mem_append.1 hy with h | h
   ·exact hout h
   ·rw[List.mem_singleton.1 h]; exact hmk 3 (by decide) (by decide)
  split at hy
  ·rcases List.mem_append.1 hy with h | h
   ·exact hout h
   ·rw[List.mem_singleton.1 h]; exact hmk 4 (by decide) (by decide)
  split at hy
  ·rcases List.mem_append.1 hy with h | h
   ·exact hout h
   ·rw[List.mem_singleton.1 h]; exact hmk 5 (by decide) (by decide)
  split at hy
  ·rcases List.mem_append.1 hy with h | h
   ·exact hout h
   ·rw[List.mem_singleton.1 h]; exact hmk 6 (by decide) (by decide)
  ·cases hy
end Go.Proofs.YtbadjmmjbpeocaaGreat
