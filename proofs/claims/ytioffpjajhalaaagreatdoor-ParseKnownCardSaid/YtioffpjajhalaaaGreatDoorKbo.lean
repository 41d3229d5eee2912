/- interlocklaw05.ParseBlanks: blanks between tokens change nothing but places (plain); walked: always true. Condition: errors.errorType reads as the program's text lays it. -/
import Derived.Test.YtioffpjajhalaaaGreatDoorKaa
import Derived.Test.YtioffpjajhalaaaGreatDoorKat
import Derived.Test.YtioffpjajhalaaaGreatDoorKar
import Derived.Test.YtioffpjajhalaaaGreatDoorKbn
import Derived.Lib.AppendStr
import Derived.Deep.Cut
import Derived.Deep.QuietTactic
set_option linter.unusedVariables false
set_option linter.unusedSimpArgs false
set_option maxRecDepth 100000
set_option maxHeartbeats 16000000
namespace Go.Proofs.YtioffpjajhalaaaGreatDoor
open Go Go.RowKit
theorem zF1:∀f,zBp (jT f)
 | 0=>fun s _=>by unfold jT; trivial
 | f+1=>fun s h=>by
  unfold jT
  split
  ·exact ZY.refl h
  ·split
   ·exact(zFW 0 s h).bind fun _ t _ ht=>zF1 f t ht
   ·split
    ·exact(zGQ 0 s h).bind fun _ t _ ht=>zF1 f t ht
    ·trivial
theorem zQP {l:Bs}{y:List Nd}(h:jU l=.ok y):y.length≤2*l.length+3∧∀n ∈ y,n.kids.length≤2*l.length+3:=by
 obtain⟨ts,h1,h2,_⟩:=zLj h;obtain⟨_,AA,_⟩:=zFo h1;have hw:=zF1 (ts.length+1) _ (zE8 (zDt h1));rw[zCz] at h2
 cases hq:jT (ts.length+1) ⟨ts,[zAS ts],0⟩ with
 | err e p=>rw[hq] at h2; cases h2
 | ok a s=>
  rw[hq] at h2 hw;injection h2 with h2;subst h2;have hp:=hw.phi;unfold Ps.phi at hp;simp only[zJ,zK] at hp;exact⟨by omega,fun n hn=>by have:=hw.yY.few n hn; omega⟩
structure zQK (sp:Bs):Prop where
 skip:∀(q:Nat) (b:Bs),YJ q (sp++b)=YJ (q+sp.length) b
 head:∃x r,sp=x::r∧JR x=false∧vN x=false∧(x==61)=false
theorem zJf {c:UInt8}(h:ZV c=true)(q:Nat)(b:Bs):YJ q (c::b)=YJ (q+1) b:=zAY (by show jS c b=_; unfold jS; rw[if_pos h])
theorem zOu {c:UInt8}(h:ZV c=true)(h2:JR c=false∧vN c=false∧(c==61)=false):zQK [c]:=⟨fun q b=>zJf h q b,c,[],rfl,h2⟩
theorem zUq:zQK [35,32,120,10]:=by
 refine⟨fun q b=>?_,35,[32,120,10],rfl,by decide,by decide,by decide⟩;have h:step (35::32::120::10::b)=.skip 3:=rfl
 show YJ q (35::32::120::10::b)=_
 rw[zAY h]
 show YJ (q+3) (10::b)=_
 rw[zJf rfl]
 rfl
theorem zSz {s sp b:Bs}{kd k:Nat}{n:Int}(hs:step s=.tok kd k n)(hp:zQK sp):step (s.take k++(sp++b))=.tok kd k n:=by
 obtain⟨x,sr,rfl,AD,AC,AB⟩:=hp.head
 cases s with
 | nil=>cases hs
 | cons c r=>
  have AA:jS c r=.tok kd k n:=hs;unfold jS at AA
  split at AA
  ·cases AA
  ·rename_i h1
   split at AA
   ·cases AA
   ·rename_i h2
    split at AA
    ·rename_i h3;injection AA with e1 e2 e3;subst e1 e2 e3;rw[Nat.add_comm 1,List.take_succ_cons,zBI]
     show jS c (r.takeWhile JR++x::(sr++b))=_
     unfold jS;rw[if_neg h1,if_neg h2,if_pos h3,zUd AD,Nat.add_comm]
    ·rename_i h3
     split at AA
     ·rename_i h4;unfold zDb at AA
      split at AA
      ·cases AA
      ·rename_i v hv;injection AA with e1 e2 e3;subst e1 e2 e3;rw[Nat.add_comm 1,List.take_succ_cons,zBI]
       show jS c (r.takeWhile vN++x::(sr++b))=_
       unfold jS;rw[if_neg h1,if_neg h2,if_neg h3,if_pos h4];unfold zDb;rw[zUd AC,hv,Nat.add_comm]
     ·rename_i h4
      split at AA
      ·rename_i h5;injection AA with e1 e2 e3;subst e1 e2 e3
       cases r with
       | nil=>simp at h5
       | cons d r=>
        simp at h5
        obtain⟨rfl,rfl⟩:=h5
        rfl
      ·rename_i h5
       split at AA
       ·rename_i h6;injection AA with e1 e2 e3;subst e1 e2 e3
        show jS c (x::(sr++b))=_
        unfold jS;rw[if_neg h1,if_neg h2,if_neg h3,if_neg h4,if_neg (by simp only[List.head?_cons,zF,zN,yW,not_and]; intro _ e; subst e; simp at AB),if_pos h6]
       ·cases AA
theorem zHC:∀(l:List Tok) (p q:Nat) (s:Bs) (seps:List Bs),YJ p s=.ok l→seps.length=l.length→(∀sp ∈ seps,zQK sp)→∃m,YJ q (again l seps)=.ok m∧m.map Tok.word=l.map Tok.word
 | [],p,q,s,seps,h,_,_=>absurd rfl (zMw h)
 | t::l,p,q,s,[],h,hl,_=>by simp at hl
 | t::l,p,q,s,sp::seps,h,hl,hsep=>by
  have AA:=hsep sp (List.mem_cons_self ..);obtain⟨m,a1,a2,a3,a4,a5,a6,a7⟩:=zKO 0 h
  rcases a7 with ⟨b1,b2,b3,b4,b5⟩ | ⟨b1,b2,b3,b4⟩
  ·subst b2;have AC:seps=[]:=List.eq_nil_of_length_eq_zero (by simpa using hl);subst AC;refine⟨[⟨4,q+sp.length,q+sp.length,[],0⟩],?_,?_⟩
   ·show YJ q (t.text++(sp++[]))=_
    rw[b4,List.nil_append,AA.skip,zEU]
   ·simp[Tok.word,b1,b4,b5]
  ·obtain⟨m2,c1,c2⟩:=zHC l t.en (q+(t.en-t.at_)+sp.length) _ seps b3 (by simpa using hl) (fun x hx=>hsep x (List.mem_cons_of_mem _ hx));have AB:=zSz (b:=again l seps) b4 AA;rw[←a5] at AB
   have AD:t.text.length=t.en-t.at_:=by
    have hw:=zAe (s.drop m);rw[b4] at hw
    have:t.en-t.at_≤(s.drop m).length:=hw.2
    rw[a5,List.length_take];omega
   refine⟨⟨t.kind,q,q+(t.en-t.at_),t.text,t.n⟩::m2,?_,?_⟩
   ·show YJ q (t.text++(sp++again l seps))=_
    rw[zAp AB,List.drop_append_of_le_length (by omega),List.drop_eq_nil_of_le (by omega),List.nil_append,AA.skip,c1,List.take_append_of_le_length (by omega),List.take_of_length_le (by omega)]
    rfl
   ·simp[c2,Tok.word]
def zGv (k:Nat):Bs:=if k % 4=0 then [32] else if k % 4=1 then [10] else if k % 4=2 then [9] else [35,32,120,10]
theorem zRJ (k:Nat):zQK (zGv k):=by
 unfold zGv
 repeat' split
 ·exact zOu rfl ⟨rfl,rfl,rfl⟩
 ·exact zOu rfl ⟨rfl,rfl,rfl⟩
 ·exact zOu rfl ⟨rfl,rfl,rfl⟩
 ·exact zUq
theorem zRQ (k:Nat):(zGv k).length≤8:=by
 unfold zGv
 repeat' split
 all_goals decide
def whP (wh:Bs)(i:Nat):Nat:=if h:i<wh.length then wh[i].toNat else 0
def zBc (wh:Bs):Nat→List Tok→Bs
 | _,[]=>[]
 | i,t::r=>t.text++(zGv (whP wh i)++zBc wh (i+1) r)
theorem zGk (wh:Bs):∀(r:List Tok) (i:Nat),zBc wh i r=again r ((List.range' i r.length).map fun j=>zGv (whP wh j))
 | [],_=>rfl
 | t::r,i=>by
  show t.text++(zGv (whP wh i)++zBc wh (i+1) r)=t.text++(zGv (whP wh i)++again r _)
  rw[zGk wh r (i+1)]
theorem zLP {wh l:Bs}{ts:List Tok}(h:YJ 0 l=.ok ts)(hl:l.length≤1000):(zBc wh 0 ts).length≤10000∧∃m,YJ 0 (zBc wh 0 ts)=.ok m∧m.map Tok.word=ts.map Tok.word:=by
 have hs:=zFf ts 0 l h
 have AB:∀sp ∈ (List.range' 0 ts.length).map (fun j=>zGv (whP wh j)),zQK sp∧sp.length≤8:=fun sp AA=>by
  rw[yT] at AA;obtain⟨j,_,rfl⟩:=AA;exact⟨zRJ _,zRQ _⟩
 rw[zGk];refine⟨?_,zHC ts 0 0 l _ h (by simp) fun sp AA=>(AB sp AA).1⟩
 have:=hs.2 _ fun sp AA=>(AB sp AA).2
 have h1:=hs.1;omega
def Tok.bare (t:Tok):Tok:=⟨t.kind,0,0,t.text,t.n⟩
def Nd.bare (n:Nd):Nd:={ n with pos:=0 }
theorem zOa {l m:List Tok}(h:l.map Tok.word=m.map Tok.word):l.map Tok.bare=m.map Tok.bare:=by
 have e:∀t:Tok,t.bare=⟨t.word.1,0,0,t.word.2.1,t.word.2.2⟩:=fun _=>rfl
 have e2:∀l:List Tok,l.map Tok.bare=(l.map Tok.word).map fun p=>⟨p.1,0,0,p.2.1,p.2.2⟩:=fun l=>by rw[List.map_map]; rfl
 rw[e2,e2,h]
theorem zQa {ts:List Tok}(h:Ends ts):Ends (ts.map Tok.bare):=by
 obtain⟨m,e,rfl,h2,h3⟩:=h;refine⟨m.map Tok.bare,e.bare,by simp,h2,fun t ht=>?_⟩;obtain⟨x,hx,rfl⟩:=List.mem_map.1 ht;exact h3 x hx
theorem zHz {ts:List Tok}(hb:Ends ts):match XF ts with
  | .ok y=>XF (ts.map Tok.bare)=.ok (y.map Nd.bare)
  | .err p e=>XF (ts.map Tok.bare)=.err 0 e:=by
 obtain⟨c,hc⟩:∃c:Cx,c=⟨fun _=>0,[],[],zAS (ts.map Tok.bare),[],[]⟩:=⟨_,rfl⟩
 have hV:c.V=[]:=by rw[hc]
 have AC:c.V'=[]:=by rw[hc]
 have hφ:∀p,c.φ p=0:=fun p=>by rw[hc]
 have hι:∀i,c.ι i=i:=fun i=>by rw[hc]; unfold Cx.ι; split <;> simp_all
 have hp:∀l:List Tok,Pw c l (l.map Tok.bare):=by
  intro l
  induction l with
  | nil=>exact .nil
  | cons t l ih=>exact .cons ⟨rfl,rfl,rfl,(hφ _).symm⟩ ih
 have AB:=zQa hb;have hr:Rel c ⟨ts,[zAS ts],0⟩ ⟨ts.map Tok.bare,[zAS (ts.map Tok.bare)],0⟩:=⟨⟨ts,_,by rw[hV,List.append_nil],by rw[AC,List.append_nil],hp ts⟩,by simp,by rw[hc]; rfl,rfl,zC1 hb,zC1 AB⟩;have hw:=zE9 c (ts.length+1) ((ts.map Tok.bare).length+1) _ _ hr (zE8 hb) (Nat.lt_succ_self _) (Nat.lt_succ_self _);have AA:=fun y h=>zNl (y:=y) hb (fun p=>p) (fun _ _=>rfl) h;rw[zCz (ts.map Tok.bare)]
 cases hw with
 | zQZ u u' f f' r e e' l l' h h' d g=>
  exfalso
  have:=r.lst.pos
  rw[e,hV] at this
  simp at this
 | done u u' r h h' k t n=>
  have hy:XF ts=.ok u.nd:=by rw[zCz,h]
  obtain⟨y0,Y,e1,e2,_⟩:=AA _ hy;rw[hy,h']
  show zGS.ok u'.nd=_
  rw[r.nd,e1];have e3:c.emb (y0::Y) = { c.R0 with kids:=c.K++y0.kids.map c.ι } :: (c.A++Y.map c.mv):=rfl
  have hk:∀n:Nd,n.kids.map c.ι=n.kids:=fun n=>by
   conv=>rhs; rw[←List.map_id n.kids]
   exact List.map_congr_left fun i _=>hι i
  have hm:Y.map c.mv=Y.map Nd.bare:=List.map_congr_left fun n _=>by
   unfold Cx.mv Nd.bare;rw[hφ,hk]
  have e4:c.R0=zAS (ts.map Tok.bare):=by rw[hc]
  have e5:c.K=[]:=by rw[hc]
  have e6:c.A=[]:=by rw[hc]
  have e7:(zAS (ts.map Tok.bare)).pos=0:=by
   unfold zAS
   cases ts with
   | nil=>obtain⟨m,x,h0,_⟩:=hb; simp at h0
   | cons t ts=>rfl
  rw[e3,hm,hk,e4,e5,e6,List.nil_append,List.nil_append,List.map_cons]
  congr 2
  rw[e2];unfold Nd.bare zAS at *
  simp only at e7 ⊢
  rw[e7]
 | fail e p h h'=>
  have hy:XF ts=.err p e:=by rw[zCz,h]
  rw[hy,h',hφ]
 | VI y y' k k' i i' h h'=>
  exfalso
  cases hy:y with
  | err e p=>rw[hy,hV] at i; obtain⟨_,t,ht,_⟩:=i; cases ht
  | ok b t=>
   rw[hy,hV] at i;obtain⟨l1,pre,l2,_⟩:=i
   have:=l1.pos
   have h3:=congrArg List.length l2;rw[yN] at h3
   simp at h3
   omega
theorem zLY {l l2:Bs}{ts ms:List Tok}(h:XS l=.ok ts)(h2:XS l2=.ok ms)(hw:ms.map Tok.word=ts.map Tok.word):match jU l with
  | .ok y=>∃y2,jU l2=.ok y2∧y2.map Nd.bare=y.map Nd.bare
  | .err p e=>∃p2,jU l2=.err p2 e:=by
 have h1:jU l=XF ts:=by unfold jU; rw[h]
 have h3:jU l2=XF ms:=by unfold jU; rw[h2]
 have AB:=zHz (zDt (zFj h).1);have AA:=zHz (zDt (zFj h2).1);rw[zOa hw] at AA;rw[h1,h3]
 cases hp:XF ts with
 | ok y=>
  rw[hp] at AB
  cases hq:XF ms with
  | ok y2=>
   rw[hq] at AA;refine⟨y2,rfl,?_⟩;rw[AB] at AA;injection AA with AA;exact AA.symm
  | err p e=>
   rw[hq] at AA;rw[AB] at AA
   cases AA
 | err p e=>
  rw[hp] at AB
  cases hq:XF ms with
  | ok y2=>
   rw[hq] at AA;rw[AB] at AA
   cases AA
  | err p2 e2=>
   rw[hq] at AA;rw[AB] at AA;injection AA with _ AA;subst AA;exact⟨p2,rfl⟩
theorem zN6 (l:List Tok)(k:Nat)(h:k<l.length):∀j,j<5→(vB l)[k*5+j]?=(xS l[k])[j]?:=by
 induction l generalizing k with
 | nil=>simp at h
 | cons t l ih=>
  intro j hj
  show(xS t++vB l)[k*5+j]?=_
  cases k with
  | zero=>rw[List.getElem?_append_left (by show 0*5+j<5; omega)]; simp
  | succ k=>
   rw[List.getElem?_append_right (by show 5≤_; omega)]
   have:=ih k (by simpa using h) j hj
   rw[show(k+1)*5+j-(xS t).length=k*5+j from by show _-5=_; omega]
   simpa using this
theorem zGd {w:World}{base:Nat}{e:TypeId}{v:Value}{n:Nat}{xs:List Value}(h:w.ownsRow base e 1 v n xs):∃A c,v=.slice A n c∧(A=none→c=0)∧n≤c:=by
 rcases h.2 with ⟨hv,hn⟩ | ⟨g,AA,AC,hv,_,_,AB,_⟩
 ·exact⟨none,0,by rw[hv,hn],fun _=>rfl,by omega⟩
 ·exact⟨some ⟨g,0,none⟩,AA,hv,(fun h=>by cases h),AB⟩
theorem zOF:(Tryz.prog.info? 5).map (fun i=>(i.zero,i.size,i.bytes))=some (some (.int .u8 0),1,1):=by kernel_rfl
theorem zLm (l:Bs):(xE l).size=l.length:=by simp[xE,ByteArray.size]
theorem zKV (w:World):TR w none []:=⟨.inl rfl,fun x hx=>by cases hx⟩
theorem zIx (A B:Option Addr)(l wh:Bs)(n m c d:Nat)(w:World)(hG:GT w)(hn:n=l.length)(hm:m=wh.length)(hcap:l.length≤c)(hnil:A=none→c=0)(h:Cells w A (xL l))(hB:Cells w B (xL wh)) :
  Calls Tryz.prog 13 #[.slice A n c,.slice B m d] w fun e w'=>e=.returned (.bool true)∧Ext w w':=by
 subst hn hm;obtain⟨i0,hi,A9,A0,Ax⟩:=info_parts zOF;have HG:=yE hG;have HC:=yE h;have HB:=yE hB;clear hG h hB
 by_cases Bb:1000<l.length
 ·have d0:decide ((1000:Int)<(l.length:Int))=true:=yQ (by omega)
  go_enter Tryz.func13,Tryz.ntmps13
  go_wp2_with fail
  refine(YM w HG.out).mono ?_;rintro e w' ⟨rfl,hx⟩
  go_wp2_with fail
  go_ret;exact⟨rfl,hx⟩
 ·have d0:decide ((1000:Int)<(l.length:Int))=false:=yP (by omega)
  have AT:l.length≤140737488355328:=by omega
  have HL:Hid (XS l=YJ 0 l):=yE (by unfold XS; rw[if_neg (by omega)])
  go_enter Tryz.func13,Tryz.ntmps13
  go_wp2_with fail
  refine(zDV A l l.length c w rfl AT hcap hnil HC.out).mono ?_
  cases hr:XS l with
  | err a er=>
   rintro e w2 ⟨AR,g2,rfl,_,BT⟩;have Ah:=yE AR;clear AR BT hr
   go_wp2_with fail
   refine(YM w2 (HG.out.ext Ah.out)).mono ?_;rintro e w5 ⟨rfl,AN⟩
   go_wp2_with fail
   go_ret;exact⟨rfl,Ah.out.trans AN⟩
  | ok ts=>
   rintro e w2 ⟨AR,A2,c2,rfl,_,BO⟩;have Ah:=yE AR;have HR:=yE (HL.out.symm.trans hr);have Bg:=(zFf ts 0 l HR.out).1;have BM:=yE (Cells.own BO);obtain⟨BW,ms,BA,BI⟩:=zLP (wh:=wh) HR.out (by omega);have BB:Hid (XS (zBc wh 0 ts)=.ok ms):=yE (by unfold XS; rw[if_neg (by omega),BA]);have Aj:=yE (zLY hr BB.out BI);have BP:=yE (HB.out.ext AR);have Bc:=yE AR.size;clear AR BO hr BA BI
   go_wp2_with fail
   go_loopw [7,8] (fun out i wr=>∃(k:Nat) (acc:Bs) (A':Option Addr) (c':Nat),k≤ts.length∧i=.int .i64 k∧out=.slice A' acc.length c'∧Hid (wr.ownsRow w2.heap.size 5 1 (.slice A' acc.length c') acc.length (xL acc))∧Hid (Ext w2 wr)∧Hid (zBc wh 0 ts=acc++zBc wh k (ts.drop k))) (fun _ i _=>ts.length-(intOf i).toNat)
   case atStart=>exact⟨0,[],none,0,zT _,rfl,rfl,yE (zP _ _ _ _),yE (Ext.refl _),yE rfl⟩
   case round=>
    obtain⟨k,acc,A',c',hk,rfl,rfl,HO,HX,HK⟩:=hrel;obtain⟨wa,rfl⟩:∃wa:World,wa=wr:=⟨_,rfl⟩
    by_cases BK:k<ts.length
    ·have d1:decide ((k:Int)<(ts.length:Int))=true:=yQ (by omega);obtain⟨b,BR,hA,Bi,hc⟩:=(BM.out.ext HX.out).at_ (by rw[XO]; omega);subst hA
     have c3:wa.cell? ⟨b,BR+k*5+3,none⟩=some (.string (xE ts[k].text)):=by
      rw[Nat.add_assoc,hc _ (by rw[XO]; omega)];exact zN6 ts k BK 3 (by omega)
     have Ar:=HK.out;rw[List.drop_eq_getElem_cons BK] at Ar
     have AV:zBc wh 0 ts=(acc++ts[k].text)++(zGv (whP wh k)++zBc wh (k+1) (ts.drop (k+1))):=by rw[Ar]; show _++(_++_)=_; simp
     generalize ts[k].text=tx at *
     have Av:(acc++tx++zGv (whP wh k)).length≤10000:=by
      have h1:=congrArg List.length AV;simp only[yN] at h1 ⊢;omega
     have A1:acc.length+tx.length≤10000:=by simp only[yN] at Av; omega
     have As:Hid (zBc wh 0 ts=(acc++tx++zGv (whP wh k))++zBc wh (k+1) (ts.drop (k+1))):=yE (by rw[AV]; simp)
     have q0:(k:Int)<(ts.length:Int):=by omega
     have Am:=zLm tx;have Au:=HX.out.size;clear Ar AV HK hc
     go_upto_region 11 with (at_builtin; refine Lib.wpList_append_own_string _ rfl (.tmp 32) (.tmp 37) 22 9 rfl w2.heap.size 5 i0 Tryz.underlying22 Tryz.underlying9 hi A9 A0 Ax _ _ _ rfl HO.out (xE tx) rfl (by rw[Am]; unfold maxLen; omega) (by rw[Am]; omega) Au ?_; intro v4 w4 AD BL _; obtain⟨A4,c4,rfl,z4,Bf⟩:=zGd AD)
     have Ak:Hid (w4.ownsRow w2.heap.size 5 1 (.slice A4 (acc++tx).length c4) (acc++tx).length (xL (acc++tx))):=yE (by rw[yN,zBu]; rw[Am] at AD; exact AD);have AL:Hid (Ext w2 w4):=yE (Below.grown HX.out BL Au (fun q hq=>(HO.out.lt q hq).1));rw[←yN];rw[←yN] at A1;clear AD BL c3 Am Au HO HX;generalize acc++tx=AM at *;obtain⟨kv,AZ⟩:∃kv,Hid (whP wh k=kv):=⟨_,yE rfl⟩;obtain⟨sp,A8⟩:∃sp,Hid (zGv kv=sp):=⟨_,yE rfl⟩
     have Bh:[Value.string ⟨#[32]⟩,Value.string ⟨#[10]⟩,Value.string ⟨#[9]⟩,Value.string ⟨#[35,32,120,10]⟩][kv % 4]?=some (.string (xE sp)):=by
      rw[←A8.out]
      have:kv % 4=0∨kv % 4=1∨kv % 4=2∨kv % 4=3:=by omega
      unfold zGv
      rcases this with h | h | h | h <;> rw[h] <;> rfl
     rw[AZ.out,A8.out] at As Av;rw[yN] at Av;have AU:=zLm sp;have BS:=AL.out.size
     by_cases Al:k<wh.length
     ·have d2:decide ((k:Int)<(wh.length:Int))=true:=yQ (by omega);obtain⟨b3,o3,Bd,Ay,AV⟩:=(BP.out.ext AL.out).at_ (by rw[xW]; omega);subst Bd
      have k3:w4.cell? ⟨b3,o3+k,none⟩=some (.int .u8 (kv:Int)):=by
       rw[AV k (by rw[xW]; exact Al),VC wh k Al,←AZ.out];unfold whP;rw[dif_pos Al]
      have q1:(k:Int)<(wh.length:Int):=by omega
      clear AV AZ
      go_wp2_with (at_builtin; refine Lib.wpList_append_own_string _ rfl (.tmp 47) (.tmp 52) 22 9 rfl w2.heap.size 5 i0 Tryz.underlying22 Tryz.underlying9 hi A9 A0 Ax _ _ _ rfl (Ak.out.alloc _) (xE sp) rfl (by rw[AU]; unfold maxLen; omega) (by rw[AU]; omega) (by simp; omega) ?_; intro v6 w6 AA Ad _; obtain⟨A6,c6,rfl,z6,Ba⟩:=zGd AA)
      have Aq:Hid (w6.ownsRow w2.heap.size 5 1 (.slice A6 (AM++sp).length c6) (AM++sp).length (xL (AM++sp))):=yE (by rw[yN,zBu]; rw[AU] at AA; exact AA);have Af:Hid (Ext w2 w6):=yE (Below.grown (AL.out.trans (Ext.alloc _ _)) Ad (by simp; omega) (fun q hq=>(Ak.out.lt q hq).1));clear AA Ad;go_round
      case rel=>exact⟨k+1,AM++sp,A6,c6,by omega,by go_num,by simp,Aq,Af,As⟩
      case measure=>simp[intOf]; omega
     ·have d2:decide ((k:Int)<(wh.length:Int))=false:=yP (by omega)
      obtain rfl:kv=0:=by rw[←AZ.out]; unfold whP; rw[dif_neg Al]
      obtain rfl:sp=[32]:=by rw[←A8.out]; rfl
      clear AZ
      go_wp2_with (at_builtin; refine Lib.wpList_append_own_string _ rfl (.tmp 47) (.tmp 52) 22 9 rfl w2.heap.size 5 i0 Tryz.underlying22 Tryz.underlying9 hi A9 A0 Ax _ _ _ rfl (Ak.out.alloc _) (xE [32]) rfl (by rw[AU]; unfold maxLen; omega) (by rw[AU]; omega) (by simp; omega) ?_; intro v6 w6 AA Ad _; obtain⟨A6,c6,rfl,z6,Ba⟩:=zGd AA)
      have Aq:Hid (w6.ownsRow w2.heap.size 5 1 (.slice A6 (AM++[32]).length c6) (AM++[32]).length (xL (AM++[32]))):=yE (by rw[yN,zBu]; rw[AU] at AA; exact AA);have Af:Hid (Ext w2 w6):=yE (Below.grown (AL.out.trans (Ext.alloc _ _)) Ad (by simp; omega) (fun q hq=>(Ak.out.lt q hq).1));clear AA Ad;go_round
      case rel=>exact⟨k+1,AM++[32],A6,c6,by omega,by go_num,by simp,Aq,Af,As⟩
      case measure=>simp[intOf]; omega
    ·obtain rfl:k=ts.length:=by omega
     have AY:zBc wh 0 ts=acc:=by have:=HK.out; rw[List.drop_eq_nil_of_le (zU _)] at this; simpa [zBc] using this
     have d1:decide ((ts.length:Int)<(ts.length:Int))=false:=by simp
     rw[AY] at Aj BW
     have BX:acc.length≤c'∧(A'=none→c'=0):=by
      obtain⟨A5,c5,e,z,h⟩:=zGd HO.out;injection e with e1 e2 e3;subst e1 e3;exact⟨h,z⟩
     obtain⟨Ac,Ag⟩:=BX;have AI:=yE (Cells.own HO.out);have An:=yE (Ah.out.trans HX.out);clear AY HK HO HX BB HR HL BM BP Bc;have Ai:=Aj.out
     cases hp:jU l with
     | err p er=>
      rw[hp] at Ai;obtain⟨p2,Aa⟩:=Ai;have HP:=yE hp;have A7:=yE Aa;clear hp Aa Aj
      go_wp2_with fail
      refine(zBq A l l.length c wa rfl AT hcap hnil (HC.out.ext An.out) p er HP.out).mono ?_;rintro e AG ⟨g3,rfl,_,Ay,AQ⟩;have AP:=yE (An.out.trans AQ);have AF:=yE Ay;have AI:=yE (AI.out.ext AQ);clear AQ Ay
      go_upto_region 16 with fail
      have AB:Ext AG (AG.alloc (.cells #[.slice none 0 0] 39)):=Ext.alloc _ _;have Aw:=yE (AP.out.trans AB);have AC:=yE (Blk.new AG 39 #[.slice none 0 0]);have AF:=yE (AF.out.ext AB);have AI:=yE (AI.out.ext AB);clear AB;generalize AG.alloc (.cells #[.slice none 0 0] 39)=w3 at *
      go_wp2_with fail
      refine(zBq A' acc acc.length c' w3 rfl (by omega) Ac Ag AI.out p2 er A7.out).mono ?_;rintro e AH ⟨g4,rfl,_,BE,AJ⟩;have AO:=yE (Aw.out.trans AJ);have AS:=yE BE;have AF:=yE (AF.out.ext AJ);have AC:=yE (AC.out.ext AJ);clear AJ BE
      go_upto_region 17 with fail
      have AB:Ext AH (AH.alloc (.cells #[.slice none 0 0] 39)):=Ext.alloc _ _;have AL:=yE (AO.out.trans AB);have AK:=yE (Blk.new AH 39 #[.slice none 0 0]);have AF:=yE (AF.out.ext AB);have AS:=yE (AS.out.ext AB);have AC:=yE (AC.out.ext AB);clear AB;generalize AH.alloc (.cells #[.slice none 0 0] 39)=w4 at *
      go_wp2_with fail
      refine(zFq g3 (p:Int) _ _ er w4 (HG.out.ext AL.out) AF.out).mono ?_;rintro e w5 ⟨rfl,AN⟩;have BD:=yE (AL.out.trans AN);have AS:=yE (AS.out.ext AN);have AC:=yE (AC.out.ext AN);have AK:=yE (AK.out.ext AN);clear AN
      go_wp2_with fail
      refine(zFq g4 (p2:Int) _ _ er w5 (HG.out.ext BD.out) AS.out).mono ?_;rintro e w6 ⟨rfl,Ao⟩;have Af:=yE (BD.out.trans Ao);have AC:=yE (AC.out.ext Ao);have AK:=yE (AK.out.ext Ao);clear Ao;have t3:w6.cell? ⟨AG.heap.size,0,none⟩=some (.slice none 0 0):=AC.out.cell 0;have t4:w6.cell? ⟨AH.heap.size,0,none⟩=some (.slice none 0 0):=AK.out.cell 0
      go_wp2_with fail
      refine(zPI [] [] none none 0 0 0 0 w6 rfl rfl (zKV w6) (zKV w6) (by simp) (by simp) (fun x hx=>by cases hx) (fun x hx=>by cases hx) rfl).mono ?_;rintro e w7 ⟨rfl,Ab⟩;have Ae:=yE (Af.out.trans Ab);clear Ab t3 t4
      go_wp2_with fail
      refine(YM w7 (HG.out.ext Ae.out)).mono ?_;rintro e w8 ⟨rfl,Az⟩
      go_wp2_with fail
      go_ret;exact⟨rfl,Ae.out.trans Az⟩
     | ok y=>
      rw[hp] at Ai;obtain⟨y2,Aa,AE⟩:=Ai;have HP:=yE hp;have A7:=yE Aa;have BQ:=yE AE;have HF:=yE (zQP hp)
      have BG:y2.length=y.length:=by have:=congrArg List.length AE; simpa using this
      have BJ:∀n ∈ y2,n.kids.length≤2*l.length+3:=by
       intro n hn
       have h1:n.bare ∈ y.map Nd.bare:=by rw[←AE]; exact List.mem_map_of_mem hn
       obtain⟨n',BV,e⟩:=List.mem_map.1 h1;have h2:=HF.out.2 n' BV
       have h3:n'.kids=n.kids:=by have:=congrArg Nd.kids e; exact this
       rw[←h3];exact h2
      have BU:=yE BG;have BZ:=yE BJ;clear hp Aa AE BG BJ Aj
      go_wp2_with fail
      refine(zCQ A l l.length c wa rfl AT hcap hnil (HC.out.ext An.out) y HP.out).mono ?_;rintro e AG ⟨A3,c3,AX,rfl,BF,BN,AQ⟩;have AP:=yE (An.out.trans AQ);have Ap:=yE BF;have AC:=yE BN.tr;have AI:=yE (AI.out.ext AQ);clear AQ BF BN
      go_upto_region 16 with fail
      have AB:Ext AG (AG.alloc (.cells #[.slice A3 AX.length c3] 39)):=Ext.alloc _ _;have Aw:=yE (AP.out.trans AB);have AF:=yE (Blk.new AG 39 #[.slice A3 AX.length c3]);have AC:=yE (AC.out.ext AB);have AI:=yE (AI.out.ext AB);clear AB;generalize AG.alloc (.cells #[.slice A3 AX.length c3] 39)=w3 at *
      go_wp2_with fail
      refine(zCQ A' acc acc.length c' w3 rfl (by omega) Ac Ag AI.out y2 A7.out).mono ?_;rintro e AH ⟨A4,c4,AW,rfl,BC,BH,AJ⟩;have AO:=yE (Aw.out.trans AJ);have At:=yE BC;have AK:=yE BH.tr;have AC:=yE (AC.out.ext AJ);have AF:=yE (AF.out.ext AJ);clear AJ BC BH
      go_upto_region 17 with fail
      have AB:Ext AH (AH.alloc (.cells #[.slice A4 AW.length c4] 39)):=Ext.alloc _ _;have AL:=yE (AO.out.trans AB);have AS:=yE (Blk.new AH 39 #[.slice A4 AW.length c4]);have AC:=yE (AC.out.ext AB);have AK:=yE (AK.out.ext AB);have AF:=yE (AF.out.ext AB);clear AB;generalize AH.alloc (.cells #[.slice A4 AW.length c4] 39)=w4 at *
      go_wp2_with fail
      refine(zJ7 w4).mono ?_;rintro e w5 ⟨rfl,rfl⟩
      go_wp2_with fail
      refine(zJ7 w4).mono ?_;rintro e w5 ⟨rfl,rfl⟩;have t3:w4.cell? ⟨AG.heap.size,0,none⟩=some (.slice A3 AX.length c3):=AF.out.cell 0;have t4:w4.cell? ⟨AH.heap.size,0,none⟩=some (.slice A4 AW.length c4):=AS.out.cell 0
      go_wp2_with fail
      have Be:AX.length=y.length:=by rw[Ap.out,yO]
      have BY:AW.length=y.length:=by rw[←BU.out,At.out,yO]
      have hf:=HF.out.1;refine(zPI AX AW A3 A4 _ c3 _ c4 w4 rfl rfl AC.out AK.out (by omega) (by omega) (fun x hx=>?_) (fun x hx=>?_) ?_).mono ?_
      ·have:=HF.out.2 x.1 (by rw[Ap.out]; exact List.mem_map_of_mem hx)
       omega
      ·have:=BZ.out x.1 (by rw[At.out]; exact List.mem_map_of_mem hx)
       omega
      ·rw[←Ap.out,←At.out];exact BQ.out.symm
      rintro e w7 ⟨rfl,Ab⟩;have Ae:=yE (AL.out.trans Ab);clear Ab t3 t4 Be BY hf
      go_wp2_with fail
      refine(YM w7 (HG.out.ext Ae.out)).mono ?_;rintro e w8 ⟨rfl,Az⟩
      go_wp2_with fail
      go_ret;exact⟨rfl,Ae.out.trans Az⟩
end Go.Proofs.YtioffpjajhalaaaGreatDoor
