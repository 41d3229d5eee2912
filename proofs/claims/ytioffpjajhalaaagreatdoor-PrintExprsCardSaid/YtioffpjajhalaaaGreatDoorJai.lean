/- slices.ContainsFunc over forms, walked. (and what follows of it). The conditions stand at each lemma. -/
import Derived.Test.YtioffpjajhalaaaGreatDoorJaa
import Derived.Test.YtioffpjajhalaaaGreatDoorJah
import Derived.Test.YtioffpjajhalaaaGreatDoorJag
import Derived.Test.YtioffpjajhalaaaGreatDoorJaf
set_option linter.unusedVariables false
set_option linter.unusedSimpArgs false
set_option maxRecDepth 100000
set_option maxHeartbeats 16000000
namespace Go.Proofs.YtioffpjajhalaaaGreatDoor.TT
open Go Go.RowKit
theorem zS9 (css:List (List Value))(h:∀cs ∈ css,cs.length=4):∀(i j:Nat) (hi:i<css.length),j<4→css.flatten[i*4+j]?=(css[i])[j]?:=by
 induction css with
 | nil=>intro i j hi; simp at hi
 | cons a l ih=>
  intro i j hi hj;have ha:=h a (by simp);rw[List.flatten_cons]
  match i,hi with
  | 0,_=>rw[Nat.zero_mul,Nat.zero_add,List.getElem?_append_left (by omega)]; rfl
  | i+1,hi=>
   rw[List.getElem?_append_right (by omega),ha,show(i+1)*4+j-4=i*4+j from by omega];exact ih (fun cs hc=>h cs (by simp[hc])) i j (by simpa using hi) hj
theorem zGO.mem {α β:Type}{R:α→β→Prop}:∀ {l:List α} {m:List β} (h:zGO R l m),∀b ∈ m,∃a,R a b
 | [],[],_=>fun b hb=>by cases hb
 | a::l,c::m,⟨h1,h2⟩=>fun b hb=>by
  rcases List.mem_cons.1 hb with rfl | hb
  ·exact⟨a,h1⟩
  ·exact h2.mem b hb
 | [],_::_,h=>h.elim
 | _::_,[],h=>h.elim
theorem zBy.open_ {w:World}{fs:List jV}{v:Value}(h:zBy w fs v):∃A c,v=.slice A fs.length c∧∀i (hi:i<fs.length),∃g cs,A=some ⟨g,0,none⟩∧g<w.heap.size∧(∀j,j<4→w.cell? ⟨g,i*4+j,none⟩=cs[j]?)∧zC6 w fs[i] cs:=by
 rcases h with ⟨h1,h2⟩ | ⟨g,AB,h1,h2,h3⟩
 ·subst h1; exact⟨none,0,h2,fun i hi=>by simp at hi⟩
 ·refine⟨_,_,h1,fun i hi=>?_⟩;obtain⟨cs,hc,hk⟩:=h3.get i hi
  have AA:i<AB.length:=by rw[←h3.len]; exact hi
  refine⟨g,cs,rfl,h2.lt,fun j hj=>?_,hk⟩;rw[h2.cell]
  have:=zS9 AB (fun cs AC=>by obtain⟨a,ha⟩:=h3.mem cs AC; exact ha.len) i j AA hj
  rw[yG AA] at hc;injection hc with hc;rw[hc] at this
  simpa using this
theorem any_none {n:Nat}{q:Nat→Bool}(h:∀j,j<n→q j=false):(List.range n).any q=false:=by
 rw[List.any_eq_false];intro j hj;rw[h j (List.mem_range.1 hj)];exact Bool.false_ne_true
theorem any_some {n:Nat}{q:Nat→Bool}(j:Nat)(hj:j<n)(h:q j=true):(List.range n).any q=true:=List.any_eq_true.2 ⟨j,List.mem_range.2 hj,h⟩
theorem zLh {α:Type}(l:List α)(f:α→Bool)(d:α):((List.range l.length).any fun i=>f (l.getD i d))=l.any f:=by
 induction l with
 | nil=>rfl
 | cons x l ih=>
  rw[zJ,List.range_succ_eq_map,List.any_cons,List.any_map,List.any_cons]
  congr 1
def zEB:jV:=⟨[],none,false,0⟩
theorem zP8 (b:Bool)(f:jV)(cs:List Value)(L:Option Addr)(ls:List Int)(lc gk gn:Nat)(x:xC)(w:World)(hf:zC6 w f cs)(hl:Cells w L (xO ls))(hlen:ls.length≤9000)(hx:x.text.size≤9000)
  (hgk:Blk w gk 22 #[.slice L ls.length lc]) (hgn:Blk w gn 48 (Array.mk x.cells)) (hb:XK f x.num x.text.data.toList ls=b) :
  Calls Tryz.prog 93 #[.agg (Array.mk cs),.pointer (some ⟨gk,0,none⟩),.pointer (some ⟨gn,0,none⟩)] w fun e w'=>e=.returned (.bool b)∧Ext w w':=by
 subst hb;exact zRy f cs L ls _ lc gk gn x w rfl hf hl hlen hx hgk hgn
theorem zOe (fs:List jV)(A:Option Addr)(n c:Nat)(L:Option Addr)(ls:List Int)(lc gk gn:Nat)(x:xC)(w:World)(hfs:zBy w fs (.slice A n c))(hfl:fs.length≤10)(hl:Cells w L (xO ls))(hlen:ls.length≤9000)(hx:x.text.size≤9000)
  (hgk:Blk w gk 22 #[.slice L ls.length lc]) (hgn:Blk w gn 48 (Array.mk x.cells)) :
  Calls Tryz.prog 139 #[.slice A n c,.func (.func 93) #[] #[.pointer (some ⟨gk,0,none⟩),.pointer (some ⟨gn,0,none⟩)]] w fun e w'=>∃r:Int,e=.returned (.int .i64 r)∧decide (0≤r)=(List.range fs.length).any (fun i=>XK (fs.getD i zEB) x.num x.text.data.toList ls)∧Ext w w':=by
 obtain⟨A',c',hv,AJ⟩:=hfs.open_;injection hv with h1 h2 h3;subst h1 h2 h3;have AR:=yD AJ;have HL:=yD hl;have AS:=yD hgk;have AQ:=yD hgn;clear AJ hl hgk hgn hfs;obtain⟨q,HQ⟩:∃q:Nat→Bool,Hid ((fun i=>XK (fs.getD i zEB) x.num x.text.data.toList ls)=q):=⟨_,yD rfl⟩;rw[HQ.out]
 go_enter Tryz.func139,Tryz.ntmps139
 go_wp2_with fail
 go_loopw [8] (fun i wr=>∃k:Nat,k≤fs.length∧i=.int .i64 k∧Hid (Ext w wr)∧Hid (∀j,j<k→q j=false)) (fun i _=>fs.length-(intOf i).toNat)
 case atStart=>exact⟨0,zT _,rfl,yD (Ext.refl _),yD fun j hj=>by omega⟩
 case round=>
  obtain⟨k,hk,rfl,HX,HR⟩:=hrel;obtain⟨wa,rfl⟩:∃wa:World,wa=wr:=⟨_,rfl⟩
  by_cases AH:k<fs.length
  ·have d0:decide ((k:Int)<(fs.length:Int))=true:=yP (by omega);obtain⟨g,cs,rfl,hg,AA,AB⟩:=AR.out k AH;obtain⟨b,hb⟩:∃b,q k=b:=⟨_,rfl⟩;have HB:=yD hb
   have AN:fs.getD k zEB=fs[k]:=by simp[yE,AH]
   have AK:Hid (XK fs[k] x.num x.text.data.toList ls=b):=yD (by rw[←hb,←HQ.out,←AN]);have AC:=yD (AB.kept (Kept.ZZ HX.out));obtain⟨ks,mv,rfl,AO,AF⟩:=AB;obtain⟨KA,AM,rfl,-⟩:=AO.open_
   have hmf:mv=.nilFunc∨∃fm lm,mv=.func (.func fm) #[] lm:=by
    cases hm:fs[k].more with
    | none=>rw[hm] at AF; exact .inl AF
    | some q=>rw[hm] at AF; obtain⟨fm,lm,h3,_⟩:=zBv.form AF; exact .inr ⟨fm,lm,h3⟩
   clear AO AF hb AN;generalize fs[k]=f at *;have HC:Hid (∀j,j<4→wa.cell? ⟨g,k*4+j,none⟩=([Value.slice KA f.kids.length AM,mv,.bool f.named,.int .i64 f.most])[j]?):=yD (fun j hj=>(HX.out.cell (p:=⟨g,k*4+j,none⟩) hg).trans (AA j hj));clear AA;have AL:=yD (HL.out.ext HX.out);have AE:=yD (AS.out.ext HX.out);have AD:=yD (AQ.out.ext HX.out)
   rcases hmf with rfl | ⟨fm,lm,rfl⟩
   all_goals
    have c0:wa.cell? ⟨g,k*4,none⟩=some (.slice KA f.kids.length AM):=HC.out 0 (by omega);have c1:=HC.out 1 (by omega);have c2:=HC.out 2 (by omega);have c3:=HC.out 3 (by omega)
    cases b with
    | true=>
     go_wp2_with (refine(zP8 true f _ L ls lc gk gn x _ AC.out AL.out hlen hx AE.out AD.out AK.out).mono ?_; rintro e w2 ⟨rfl,AG⟩; have AI:Hid (Ext w w2):=yD (HX.out.trans AG); clear AG)
     go_ret;exact⟨_,rfl,by rw[yP (by omega)]; exact(any_some k AH HB.out).symm,AI.out⟩
    | false=>
     go_wp2_with (refine(zP8 false f _ L ls lc gk gn x _ AC.out AL.out hlen hx AE.out AD.out AK.out).mono ?_; rintro e w2 ⟨rfl,AG⟩; have AI:Hid (Ext w w2):=yD (HX.out.trans AG); clear AG)
     go_roundw
     case rel=>exact⟨k+1,by omega,by go_num,AI,yD fun j hj=>by
      by_cases AP:j=k
      ·subst AP; exact HB.out
      ·exact HR.out j (by omega)⟩
     case measure=>simp[intOf]; omega
  ·obtain rfl:k=fs.length:=by omega
   have d0:decide ((fs.length:Int)<(fs.length:Int))=false:=by simp
   go_wp2_with fail
   go_ret;exact⟨_,rfl,by rw[any_none HR.out]; rfl,HX.out⟩
theorem zMn (fs:List jV)(v:Value)(L:Option Addr)(ls:List Int)(lc gk gn:Nat)(x:xC)(w:World)(hfs:zBy w fs v)(hfl:fs.length≤10)(hl:Cells w L (xO ls))(hlen:ls.length≤9000)(hx:x.text.size≤9000)
  (hgk:Blk w gk 22 #[.slice L ls.length lc]) (hgn:Blk w gn 48 (Array.mk x.cells)) :
  Calls Tryz.prog 91 #[v,.func (.func 93) #[] #[.pointer (some ⟨gk,0,none⟩),.pointer (some ⟨gn,0,none⟩)]] w fun e w'=>e=.returned (.bool (fs.any fun f=>XK f x.num x.text.data.toList ls))∧Ext w w':=by
 have AD:Hid ((List.range fs.length).any (fun i=>XK (fs.getD i zEB) x.num x.text.data.toList ls)=fs.any fun f=>XK f x.num x.text.data.toList ls):=yD (zLh fs (fun f=>XK f x.num x.text.data.toList ls) zEB);obtain⟨A,c,rfl,-⟩:=hfs.open_
 go_enter Tryz.func91,Tryz.ntmps91
 go_wp2_with fail
 refine(zOe fs A _ c L ls lc gk gn x w hfs hfl hl hlen hx hgk hgn).mono ?_;rintro e w2 ⟨r,rfl,hr,AA⟩;have AB:=yD hr;have AC:=yD AA;clear hr AA
 go_wp2_with fail
 go_ret;exact⟨vR (by rw[AB.out,AD.out]),AC.out⟩
theorem zCp (k:Int)(w:World):Calls Tryz.prog 92 #[.int .u8 k] w fun e w'=>∃v,e=.returned v∧zBy w' (zAH k) v∧Ext w w':=by
 have hz:∀w,(zeroValue 143).run Tryz.prog w=.ok (.slice none 0 0) w:=fun w=>by kernel_rfl
 have HZ:=yD hz;clear hz;have A2:=@run_makeMap Tryz.prog;have h4:Blk (((((w.alloc (.cells #[.int .u8 20] 5)).alloc (.cells #[.int .u8 5] 5)).alloc (.cells #[.int .u8 6] 5)).alloc (.cells #[.int .u8 21] 5)).alloc (.map #[] 0)) w.heap.size 5 #[.int .u8 20]:=((((Blk.new w 5 #[.int .u8 20]).alloc _).alloc _).alloc _).alloc _;have h5:Blk (((((w.alloc (.cells #[.int .u8 20] 5)).alloc (.cells #[.int .u8 5] 5)).alloc (.cells #[.int .u8 6] 5)).alloc (.cells #[.int .u8 21] 5)).alloc (.map #[] 0)) (w.heap.size+1) 5 #[.int .u8 5]:=(((Blk.newAt (by simp)).alloc _).alloc _).alloc _;have h6:Blk (((((w.alloc (.cells #[.int .u8 20] 5)).alloc (.cells #[.int .u8 5] 5)).alloc (.cells #[.int .u8 6] 5)).alloc (.cells #[.int .u8 21] 5)).alloc (.map #[] 0)) (w.heap.size+1+1) 5 #[.int .u8 6]:=((Blk.newAt (by simp)).alloc _).alloc _;have h7:Blk (((((w.alloc (.cells #[.int .u8 20] 5)).alloc (.cells #[.int .u8 5] 5)).alloc (.cells #[.int .u8 6] 5)).alloc (.cells #[.int .u8 21] 5)).alloc (.map #[] 0)) (w.heap.size+1+1+1) 5 #[.int .u8 21]:=(Blk.newAt (by simp)).alloc _
 have Av:ZW (((((w.alloc (.cells #[.int .u8 20] 5)).alloc (.cells #[.int .u8 5] 5)).alloc (.cells #[.int .u8 6] 5)).alloc (.cells #[.int .u8 21] 5)).alloc (.map #[] 0)) (w.heap.size+1+1+1+1) #[] 0:=by
  have:=ZW.new ((((w.alloc (.cells #[.int .u8 20] 5)).alloc (.cells #[.int .u8 5] 5)).alloc (.cells #[.int .u8 6] 5)).alloc (.cells #[.int .u8 21] 5))
  simpa using this
 have Aq:Hid (FSt w (((((w.alloc (.cells #[.int .u8 20] 5)).alloc (.cells #[.int .u8 5] 5)).alloc (.cells #[.int .u8 6] 5)).alloc (.cells #[.int .u8 21] 5)).alloc (.map #[] 0)) (w.heap.size+1+1+1+1) [] [] w.heap.size (w.heap.size+1) (w.heap.size+1+1) (w.heap.size+1+1+1)):=yD ⟨Av,rfl,(fun x hx=>by cases hx),((((Ext.alloc _ _).trans (Ext.alloc _ _)).trans (Ext.alloc _ _)).trans (Ext.alloc _ _)).trans (Ext.alloc _ _),by omega,h4,h5,h6,h7⟩;clear h4 h5 h6 h7 Av
 go_enter Tryz.func92,Tryz.ntmps92
 go_upto_region 3 with (go_at_call 141; refine(zIX _ _).mono ?_; rintro e w' ⟨rfl,rfl⟩)
 simp only[List.append_eq,zZ,List.nil_append]
 go_wp2_with (first | (go_at_call 141; refine(zIX _ _).mono ?_; rintro e w' ⟨rfl,rfl⟩) | (refine zBS rfl (.tmp 13) (.const (.int .u8 1)) (.tmp 16) 1 _ rfl rfl rfl rfl (Aq.out.mono (Ext.alloc _ _)) (by exact vL rfl rfl (Blk.newAt (by simp)) zAb rfl) rfl ?_))
 intro w1 l1 As;have AH:=yD As;clear As Aq;clear A2;generalize w.heap.size+1+1+1+1+1=r1 at *;generalize w.heap.size+1+1+1+1=r at *;generalize w.heap.size+1+1+1=g7 at *;generalize w.heap.size+1+1=g6 at *;generalize w.heap.size+1=g5 at *;generalize w.heap.size=g4 at *
 try simp only[Act.put]
 go_wp2_with ((refine zBS rfl (.tmp 13) (.const (.int .u8 2)) (.tmp 21) 2 _ rfl rfl rfl rfl (AH.out.mono ((Ext.alloc _ _).trans (Ext.alloc _ _))) (by exact vL rfl rfl (Blk.newAt (by simp)) (zCn ((Blk.newAt (by simp)).alloc _) ⟨_,rfl,(AH.out.mono ((Ext.alloc _ _).trans (Ext.alloc _ _))).k5⟩) ⟨_,rfl,(AH.out.mono ((Ext.alloc _ _).trans (Ext.alloc _ _))).k5⟩) rfl ?_))
 intro w2 l2 Az;have An:=yD Az;clear Az AH
 try simp only[Act.put]
 go_wp2_with (first | (go_at_call 141; refine(zIX _ _).mono ?_; rintro e w' ⟨rfl,rfl⟩) | (refine zBS rfl (.tmp 13) (.const (.int .u8 3)) (.tmp 26) 3 _ rfl rfl rfl rfl (An.out.mono (((Ext.alloc _ _).trans (Ext.alloc _ _)).trans (Ext.alloc _ _))) (by exact vL rfl rfl (Blk.newAt (by simp)) (zDH ((Blk.newAt (by simp)).alloc _) ⟨_,rfl,(((Blk.newAt (by simp)).alloc _).alloc _)⟩ ⟨_,rfl,(An.out.mono (((Ext.alloc _ _).trans (Ext.alloc _ _)).trans (Ext.alloc _ _))).k6⟩) rfl) rfl ?_))
 intro w3 l3 A0;have Am:=yD A0;clear A0 An
 try simp only[Act.put]
 go_wp2_with ((refine zBS rfl (.tmp 13) (.const (.int .u8 4)) (.tmp 29) 4 _ rfl rfl rfl rfl (Am.out.mono (Ext.alloc _ _)) (by exact vL rfl rfl (Blk.newAt (by simp)) zAb ⟨_,rfl,(Am.out.mono (Ext.alloc _ _)).k5⟩) rfl ?_))
 intro w4 l4 Aw;have At:=yD Aw;clear Aw Am
 try simp only[Act.put]
 go_wp2_with ((refine zBS rfl (.tmp 13) (.const (.int .u8 5)) (.tmp 31) 5 _ rfl rfl rfl rfl (At.out.mono (Ext.alloc _ _)) (by exact vL rfl rfl (Blk.newAt (by simp)) zAb rfl) rfl ?_))
 intro w5 l5 Ay;have Ap:=yD Ay;clear Ay At
 try simp only[Act.put]
 go_wp2_with ((refine zBS rfl (.tmp 13) (.const (.int .u8 6)) (.tmp 33) 6 _ rfl rfl rfl rfl (Ap.out.mono (Ext.alloc _ _)) (by exact vL rfl rfl (Blk.newAt (by simp)) zAb rfl) rfl ?_))
 intro w6 l6 Au;have AG:=yD Au;clear Au Ap
 try simp only[Act.put]
 go_wp2_with ((refine zBS rfl (.tmp 13) (.const (.int .u8 7)) (.tmp 38) 7 _ rfl rfl rfl rfl (AG.out.mono ((Ext.alloc _ _).trans (Ext.alloc _ _))) (by exact vL rfl rfl (Blk.newAt (by simp)) (zDH ((Blk.newAt (by simp)).alloc _) ⟨_,rfl,(AG.out.mono ((Ext.alloc _ _).trans (Ext.alloc _ _))).k4⟩ ⟨_,rfl,(AG.out.mono ((Ext.alloc _ _).trans (Ext.alloc _ _))).k5⟩) rfl) rfl ?_))
 intro w7 l7 Ax;have AF:=yD Ax;clear Ax AG
 try simp only[Act.put]
 go_wp2_with ((refine zBS rfl (.tmp 13) (.const (.int .u8 8)) (.tmp 43) 8 _ rfl rfl rfl rfl (AF.out.mono ((Ext.alloc _ _).trans (Ext.alloc _ _))) (by exact vL rfl rfl (Blk.newAt (by simp)) (zLW ((Blk.newAt (by simp)).alloc _) ⟨_,rfl,(AF.out.mono ((Ext.alloc _ _).trans (Ext.alloc _ _))).k4⟩ ⟨_,rfl,(AF.out.mono ((Ext.alloc _ _).trans (Ext.alloc _ _))).k5⟩ (rfl)) rfl) rfl ?_))
 intro w8 l8 Ar;have Ao:=yD Ar;clear Ar AF
 try simp only[Act.put]
 go_wp2_with ((refine zBS rfl (.tmp 13) (.const (.int .u8 9)) (.tmp 47) 9 _ rfl rfl rfl rfl (Ao.out.mono ((Ext.alloc _ _).trans (Ext.alloc _ _))) (by exact vL rfl rfl (Blk.newAt (by simp)) (zDH ((Blk.newAt (by simp)).alloc _) ⟨_,rfl,(Ao.out.mono ((Ext.alloc _ _).trans (Ext.alloc _ _))).k4⟩ (rfl)) rfl) rfl ?_))
 intro w9 l9 A1;have Al:=yD A1;clear A1 Ao
 try simp only[Act.put]
 go_wp2_with ((refine zBS rfl (.tmp 13) (.const (.int .u8 10)) (.tmp 51) 10 _ rfl rfl rfl rfl (Al.out.mono ((Ext.alloc _ _).trans (Ext.alloc _ _))) (by exact vL rfl rfl (Blk.newAt (by simp)) (zCn ((Blk.newAt (by simp)).alloc _) ⟨_,rfl,(Al.out.mono ((Ext.alloc _ _).trans (Ext.alloc _ _))).k4⟩) rfl) rfl ?_))
 intro BZ BO Ab;have AD:=yD Ab;clear Ab Al
 try simp only[Act.put]
 go_wp2_with ((refine zBS rfl (.tmp 13) (.const (.int .u8 11)) (.tmp 56) 11 _ rfl rfl rfl rfl (AD.out.mono ((Ext.alloc _ _).trans (Ext.alloc _ _))) (by exact vL rfl rfl (Blk.newAt (by simp)) (zDH ((Blk.newAt (by simp)).alloc _) ⟨_,rfl,(AD.out.mono ((Ext.alloc _ _).trans (Ext.alloc _ _))).k5⟩ ⟨_,rfl,(AD.out.mono ((Ext.alloc _ _).trans (Ext.alloc _ _))).k5⟩) rfl) rfl ?_))
 intro A5 A6 AR;have AE:=yD AR;clear AR AD
 try simp only[Act.put]
 go_wp2_with ((refine zBS rfl (.tmp 13) (.const (.int .u8 12)) (.tmp 60) 12 _ rfl rfl rfl rfl (AE.out.mono ((Ext.alloc _ _).trans (Ext.alloc _ _))) (by exact vL rfl rfl (Blk.newAt (by simp)) (zCn ((Blk.newAt (by simp)).alloc _) ⟨_,rfl,(AE.out.mono ((Ext.alloc _ _).trans (Ext.alloc _ _))).k5⟩) rfl) rfl ?_))
 intro Bd A8 AK;have AC:=yD AK;clear AK AE
 try simp only[Act.put]
 go_wp2_with ((refine zBS rfl (.tmp 13) (.const (.int .u8 13)) (.tmp 67) 13 _ rfl rfl rfl rfl (AC.out.mono (((Ext.alloc _ _).trans (Ext.alloc _ _)).trans (Ext.alloc _ _))) (by exact zJ3 rfl rfl rfl rfl (Blk.newAt (by simp)) (zCn (((Blk.newAt (by simp)).alloc _).alloc _) ⟨_,rfl,(AC.out.mono (((Ext.alloc _ _).trans (Ext.alloc _ _)).trans (Ext.alloc _ _))).k5⟩) rfl (zCn ((Blk.newAt (by simp)).alloc _) ⟨_,rfl,(AC.out.mono (((Ext.alloc _ _).trans (Ext.alloc _ _)).trans (Ext.alloc _ _))).k4⟩) rfl) rfl ?_))
 intro BA Ba AS;have AA:=yD AS;clear AS AC
 try simp only[Act.put]
 go_wp2_with ((refine zBS rfl (.tmp 13) (.const (.int .u8 14)) (.tmp 75) 14 _ rfl rfl rfl rfl (AA.out.mono (((Ext.alloc _ _).trans (Ext.alloc _ _)).trans (Ext.alloc _ _))) (by exact zJ3 rfl rfl rfl rfl (Blk.newAt (by simp)) (zLW (((Blk.newAt (by simp)).alloc _).alloc _) (rfl) (rfl) ⟨_,rfl,(AA.out.mono (((Ext.alloc _ _).trans (Ext.alloc _ _)).trans (Ext.alloc _ _))).k6⟩) rfl (zT0 ((Blk.newAt (by simp)).alloc _) (rfl) (rfl) ⟨_,rfl,(AA.out.mono (((Ext.alloc _ _).trans (Ext.alloc _ _)).trans (Ext.alloc _ _))).k6⟩ ⟨_,rfl,(AA.out.mono (((Ext.alloc _ _).trans (Ext.alloc _ _)).trans (Ext.alloc _ _))).k6⟩) rfl) rfl ?_))
 intro A3 Bc AP;have AB:=yD AP;clear AP AA
 try simp only[Act.put]
 go_wp2_with ((refine zBS rfl (.tmp 13) (.const (.int .u8 15)) (.tmp 81) 15 _ rfl rfl rfl rfl (AB.out.mono ((Ext.alloc _ _).trans (Ext.alloc _ _))) (by exact vL rfl rfl (Blk.newAt (by simp)) (zLW ((Blk.newAt (by simp)).alloc _) ⟨_,rfl,(AB.out.mono ((Ext.alloc _ _).trans (Ext.alloc _ _))).k7⟩ ⟨_,rfl,(AB.out.mono ((Ext.alloc _ _).trans (Ext.alloc _ _))).k7⟩ ⟨_,rfl,(AB.out.mono ((Ext.alloc _ _).trans (Ext.alloc _ _))).k6⟩) rfl) rfl ?_))
 intro BF Bb AT;have Aj:=yD AT;clear AT AB
 try simp only[Act.put]
 go_wp2_with ((refine zBS rfl (.tmp 13) (.const (.int .u8 16)) (.tmp 84) 16 _ rfl rfl rfl rfl (Aj.out.mono ((Ext.alloc _ _).trans (Ext.alloc _ _))) (by exact vL rfl rfl (Blk.newAt (by simp)) (zCn ((Blk.newAt (by simp)).alloc _) (rfl)) rfl) rfl ?_))
 intro BK BC Ag;have AQ:=yD Ag;clear Ag Aj
 try simp only[Act.put]
 go_wp2_with ((refine zBS rfl (.tmp 13) (.const (.int .u8 17)) (.tmp 87) 17 _ rfl rfl rfl rfl (AQ.out.mono ((Ext.alloc _ _).trans (Ext.alloc _ _))) (by exact vL rfl rfl (Blk.newAt (by simp)) (zCn ((Blk.newAt (by simp)).alloc _) (rfl)) rfl) rfl ?_))
 intro BM BH Ak;have AZ:=yD Ak;clear Ak AQ
 try simp only[Act.put]
 go_wp2_with ((refine zBS rfl (.tmp 13) (.const (.int .u8 18)) (.tmp 89) 18 _ rfl rfl rfl rfl (AZ.out.mono (Ext.alloc _ _)) (by exact vL rfl rfl (Blk.newAt (by simp)) zAb rfl) rfl ?_))
 intro BJ A4 AW;have Ah:=yD AW;clear AW AZ
 try simp only[Act.put]
 go_wp2_with ((refine zBS rfl (.tmp 13) (.const (.int .u8 19)) (.tmp 91) 19 _ rfl rfl rfl rfl (Ah.out.mono (Ext.alloc _ _)) (by exact vL rfl rfl (Blk.newAt (by simp)) zAb rfl) rfl ?_))
 intro A7 BB Ae;have Aa:=yD Ae;clear Ae Ah
 try simp only[Act.put]
 go_wp2_with ((refine zBS rfl (.tmp 13) (.const (.int .u8 20)) (.tmp 94) 20 _ rfl rfl rfl rfl (Aa.out.mono ((Ext.alloc _ _).trans (Ext.alloc _ _))) (by exact vL rfl rfl (Blk.newAt (by simp)) (zCn ((Blk.newAt (by simp)).alloc _) (rfl)) rfl) rfl ?_))
 intro BI BY Ai;have AU:=yD Ai;clear Ai Aa
 try simp only[Act.put]
 go_wp2_with ((refine zBS rfl (.tmp 13) (.const (.int .u8 21)) (.tmp 96) 21 _ rfl rfl rfl rfl (AU.out.mono (Ext.alloc _ _)) (by exact vL rfl rfl (Blk.newAt (by simp)) zAb rfl) rfl ?_))
 intro BR BN AM;have AL:=yD AM;clear AM AU
 try simp only[Act.put]
 go_wp2_with ((refine zBS rfl (.tmp 13) (.const (.int .u8 22)) (.tmp 98) 22 _ rfl rfl rfl rfl (AL.out.mono (Ext.alloc _ _)) (by exact vL rfl rfl (Blk.newAt (by simp)) zAb rfl) rfl ?_))
 intro BW BE Af;have AV:=yD Af;clear Af AL
 try simp only[Act.put]
 go_wp2_with ((refine zBS rfl (.tmp 13) (.const (.int .u8 23)) (.tmp 101) 23 _ rfl rfl rfl rfl (AV.out.mono ((Ext.alloc _ _).trans (Ext.alloc _ _))) (by exact vL rfl rfl (Blk.newAt (by simp)) (zDH ((Blk.newAt (by simp)).alloc _) (rfl) (rfl)) rfl) rfl ?_))
 intro BT BG AY;have AO:=yD AY;clear AY AV
 try simp only[Act.put]
 go_wp2_with ((refine zBS rfl (.tmp 13) (.const (.int .u8 24)) (.tmp 104) 24 _ rfl rfl rfl rfl (AO.out.mono ((Ext.alloc _ _).trans (Ext.alloc _ _))) (by exact vL rfl rfl (Blk.newAt (by simp)) (zDH ((Blk.newAt (by simp)).alloc _) (rfl) (rfl)) rfl) rfl ?_))
 intro BV BL AN;have Ad:=yD AN;clear AN AO
 try simp only[Act.put]
 go_wp2_with ((refine zBS rfl (.tmp 13) (.const (.int .u8 25)) (.tmp 107) 25 _ rfl rfl rfl rfl (Ad.out.mono ((Ext.alloc _ _).trans (Ext.alloc _ _))) (by exact vL rfl rfl (Blk.newAt (by simp)) (zDH ((Blk.newAt (by simp)).alloc _) (rfl) (rfl)) rfl) rfl ?_))
 intro A9 BP AX;have AJ:=yD AX;clear AX Ad
 try simp only[Act.put]
 go_wp2_with ((refine zBS rfl (.tmp 13) (.const (.int .u8 26)) (.tmp 110) 26 _ rfl rfl rfl rfl (AJ.out.mono ((Ext.alloc _ _).trans (Ext.alloc _ _))) (by exact vL rfl rfl (Blk.newAt (by simp)) (zCn ((Blk.newAt (by simp)).alloc _) (rfl)) rfl) rfl ?_))
 intro BQ BS AI;have Ac:=yD AI;clear AI AJ
 try simp only[Act.put]
 go_wp2_with (refine zXa rfl (.tmp 112) (.tmp 113) k rfl rfl rfl Ac.out HZ.out ?_)
 intro v hv;have HV:=yD hv;clear hv
 try simp only[Act.put]
 go_wp2_with fail
 go_ret;exact⟨v,rfl,HV.out,Ac.out.ext⟩
end Go.Proofs.YtioffpjajhalaaaGreatDoor.TT
namespace Go.Proofs.YtioffpjajhalaaaGreatDoor.TT
theorem zFK {ks:List (List Int)}:∀(l:List Int) (a0 e:Nat),a0≤ks.length→zA6 (JO ks) ks.length l (some a0)=some e→∀k ∈ l,∃a:Nat,k=(a:Int)∧a0≤a∧a<e:=by
 intro l
 induction l with
 | nil=>intro a0 e _ _ k hk; cases hk
 | cons x r ih=>
  intro a0 e h0 h k hk;rw[YJ] at h
  split at h
  ·rename_i hc
   cases ha:JO ks a0 with
   | none=>rw[ha,JY] at h; cases h
   | some a1=>
    rw[ha] at h;have h1:=XA ha;have h2:=zEl (fun a e he=>XA he) r a1 e h1.2 h
    rcases List.mem_cons.1 hk with rfl | hk
    ·exact⟨a0,hc.2,zU _,by omega⟩
    ·obtain⟨a,h3,h4,h5⟩:=ih a1 e h1.2 h k hk;exact⟨a,h3,by omega,h5⟩
  ·cases h
def zAl (k:Int):Int:=if k=6∨k=20 then 1 else 0
def exD (k:Int):Int:=if ZQ k=true then 1 else 0
def vG (v:Int):List Int→List Int→List Int
 | [],D=>D
 | k::r,D=>vG v r (D.set k.toNat v)
theorem zBf (v:Int)(l:List Int):∀D,(vG v l D).length=D.length:=by
 induction l with
 | nil=>intro D; rfl
 | cons k r ih=>intro D; unfold vG; rw[ih]; simp
theorem zCV (v:Int)(l:List Int)(k:Int):∀D,vG v (l++[k]) D=(vG v l D).set k.toNat v:=by
 induction l with
 | nil=>intro D; rfl
 | cons x r ih=>intro D; exact ih _
theorem zBP (D:List Int)(i j:Nat)(v:Int):(D.set i v).getD j 0=if i=j∧j<D.length then v else D.getD j 0:=by
 simp only[yE,List.getElem?_set]
 by_cases h:i=j
 ·subst h
  by_cases h2:i<D.length
  ·simp[h2]
  ·simp[h2]
 ·simp[h]
theorem zBs (v:Int)(l:List Int):∀(D:List Int) (j:Nat),(∀k ∈ l,k.toNat≠j)→(vG v l D).getD j 0=D.getD j 0:=by
 induction l with
 | nil=>intro D j _; rfl
 | cons k r ih=>
  intro D j h;unfold vG;rw[ih _ j (fun x hx=>h x (by simp[hx])),zBP,if_neg (fun hh=>h k (by simp) hh.1)]
theorem zQX (v:Int)(l:List Int):∀(D:List Int) (j:Nat),j<D.length→(∃k ∈ l,k.toNat=j)→(vG v l D).getD j 0=v:=by
 induction l with
 | nil=>rintro D j hj ⟨k,hk,_⟩; cases hk
 | cons k r ih=>
  rintro D j hj ⟨x,hx,he⟩;unfold vG
  by_cases hr:∃x ∈ r,x.toNat=j
  ·exact ih _ j (by simpa using hj) hr
  ·rw[zBs v r _ j (fun x hx hh=>hr ⟨x,hx,hh⟩)]
   rcases List.mem_cons.1 hx with rfl | hx
   ·rw[zBP,if_pos ⟨he,hj⟩]
   ·exact absurd ⟨x,hx,he⟩ hr
def zCx (kd:List Int)(ks:List (List Int))(i:Nat)(st:List Int × Int):List Int × Int:=
 (vG (st.1.getD i 0+zAl (kd.getD i 0)+exD (kd.getD i 0)) (ks.getD i []) (st.1.set i (st.1.getD i 0+zAl (kd.getD i 0))),max st.2 (st.1.getD i 0+zAl (kd.getD i 0)))
def runs (kd:List Int)(ks:List (List Int)):Nat→Nat→List Int × Int→List Int × Int
 | 0,_,st=>st
 | c+1,i,st=>runs kd ks c (i+1) (zCx kd ks i st)
theorem zM9 (kd:List Int)(ks:List (List Int)):∀(a b i:Nat) (st:List Int × Int),runs kd ks (a+b) i st=runs kd ks b (i+a) (runs kd ks a i st):=by
 intro a
 induction a with
 | zero=>intro b i st; rw[Nat.zero_add]; rfl
 | succ a ih=>
  intro b i st;rw[show a+1+b=(a+b)+1 from by omega]
  show runs kd ks (a+b) (i+1) _=_
  rw[ih,show i+1+a=i+(a+1) from by omega]
  rfl
def zCU (kd:List Int)(ks:List (List Int))(i:Nat):List Int × Int:=runs kd ks i 0 (List.replicate ks.length 0,0)
theorem zJW (kd:List Int)(ks:List (List Int))(i:Nat):zCU kd ks (i+1)=zCx kd ks i (zCU kd ks i):=by
 unfold zCU;rw[zM9,Nat.zero_add]
 rfl
theorem zM6 (kd:List Int)(ks:List (List Int)):∀(c i:Nat) (st:List Int × Int),(runs kd ks c i st).1.length=st.1.length:=by
 intro c
 induction c with
 | zero=>intro i st; rfl
 | succ c ih=>
  intro i st;unfold runs;rw[ih];unfold zCx;simp only[zBf,zB]
def zNd (kd:List Int)(ks:List (List Int)):Int:=(zCU kd ks ks.length).2
def zJG (k u:Int):Int:=if (k=6∨k=20)∨(ZQ k=true∧ZQ u=true) then 1 else 0
def zAs (kd:List Int)(ks:List (List Int)):Nat→Nat→Int→Int
 | 0,_,_=>0
 | f+1,i,u=>zJG (kd.getD i 0) u+(ks.getD i []).foldl (fun m k=>max m (zAs kd ks f k.toNat (kd.getD i 0))) 0
theorem zLX (h:Int→Int)(a:Int):∀(l:List Int) (m c:Int),l.foldl (fun m k=>max m (a+h k)) (max m (a+c))=max m (a+l.foldl (fun m k=>max m (h k)) c):=by
 intro l
 induction l with
 | nil=>intro m c; rfl
 | cons k r ih=>
  intro m c;rw[List.foldl_cons,List.foldl_cons,←ih m (max c (h k))]
  congr 1
  omega
theorem fold_congr {f g:Int→Int}:∀(l:List Int) (m:Int),(∀k ∈ l,f k=g k)→l.foldl (fun m k=>max m (f k)) m=l.foldl (fun m k=>max m (g k)) m:=by
 intro l
 induction l with
 | nil=>intro m _; rfl
 | cons k r ih=>intro m h; rw[List.foldl_cons,List.foldl_cons,h k (by simp)]; exact ih _ (fun x hx=>h x (by simp[hx]))
theorem zTU (f:Int→Int):∀(l:List Int) (m:Int),m≤l.foldl (fun m k=>max m (f k)) m:=by
 intro l
 induction l with
 | nil=>intro m; exact Int.le_refl _
 | cons k r ih=>intro m; rw[List.foldl_cons]; exact Int.le_trans (by omega) (ih _)
theorem zSC (k:Int):¬((k=6∨k=20)∧ZQ k=true):=by
 rintro ⟨h,h2⟩;unfold ZQ at h2
 simp at h2
 omega
theorem zQK (k u:Int)(h:ZQ u=true→ZQ k=true):exD u+zJG k 0=zJG k u:=by
 have h0:¬ZQ 0=true:=by decide
 have h2:=zSC k;unfold exD zJG
 by_cases hu:ZQ u=true
 ·have hk:=h hu
  rw[if_pos hu,if_neg (by
   rintro (hh | hh)
   ·exact h2 ⟨hh,hk⟩
   ·exact h0 hh.2),if_pos (.inr ⟨hk,hu⟩)]
  rfl
 ·rw[if_neg hu,Int.zero_add]
  by_cases hk:k=6∨k=20
  ·rw[if_pos (.inl hk),if_pos (.inl hk)]
  ·rw[if_neg (by rintro (hh | hh); exact hk hh; exact h0 hh.2),if_neg (by rintro (hh | hh); exact hk hh; exact hu hh.2)]
theorem zUR {kd:List Int}{ks:List (List Int)}(hex:∀i,i<ks.length→ZQ (kd.getD i 0)=true→∀k ∈ ks.getD i [],ZQ (kd.getD k.toNat 0)=true) :
  ∀(f i e:Nat) (D:List Int) (m:Int),ks.length-i≤f→JO ks i=some e→D.length=ks.length →
   ∃D',runs kd ks (e-i) i (D,m)=(D',max m (D.getD i 0+zAs kd ks f i 0))∧∀j,e≤j→D'.getD j 0=D.getD j 0:=by
 intro f
 induction f with
 | zero=>intro i e D m hf he; have:=zMo he; omega
 | succ f ih=>
  intro i e D m hf he hD;have AK:=zMo he;have AL:=XA he;have hk:=he;rw[zBC,if_pos AK] at hk
  have AA:∀(l:List Int) (a0 e0:Nat) (D:List Int) (m b:Int),i<a0→a0≤ks.length→zA6 (JO ks) ks.length l (some a0)=some e0→D.length=ks.length→(∀k ∈ l,D.getD k.toNat 0=b) →
    ∃D',runs kd ks (e0-a0) a0 (D,m)=(D',l.foldl (fun m k=>max m (b+zAs kd ks f k.toNat 0)) m)∧∀j,e0≤j→D'.getD j 0=D.getD j 0:=by
   intro l
   induction l with
   | nil=>
    intro a0 e0 D m b _ _ h _ _;injection h with h;subst h;exact⟨D,by rw[Nat.sub_self]; rfl,fun j _=>rfl⟩
   | cons x r ihl=>
    intro a0 e0 D m b h0 h1 h hD hb;rw[YJ] at h
    split at h
    ·rename_i hc
     cases ha:JO ks a0 with
     | none=>rw[ha,JY] at h; cases h
     | some a1=>
      rw[ha] at h;have AD:=XA ha;have AM:=zEl (fun a e he=>XA he) r a1 e0 AD.2 h;obtain⟨D1,AI,AJ⟩:=ih a0 a1 D m (by omega) ha hD
      have AC:D1.length=ks.length:=by
       have:=zM6 kd ks (a1-a0) a0 (D,m)
       rw[AI] at this;exact this.trans hD
      have AH:=hb x (by simp)
      obtain⟨D2,AG,AF⟩:=ihl a1 e0 D1 (max m (D.getD a0 0+zAs kd ks f a0 0)) b (by omega) AD.2 h AC (fun k hk=>by
       obtain⟨a,h3,h4,h5⟩:=zFK r a1 e0 AD.2 h k hk;rw[AJ k.toNat (by rw[h3]; simpa using h4)]
       exact hb k (by simp[hk]))
      refine⟨D2,?_,fun j hj=>?_⟩
      ·rw[show e0-a0=(a1-a0)+(e0-a1) from by omega,zM9,AI,show a0+(a1-a0)=a1 from by omega,AG,List.foldl_cons];rw[hc.2] at AH ⊢;rw[zH] at AH ⊢;rw[AH]
      ·rw[AF j hj,AJ j (by omega)]
    ·cases h
  have hv:runs kd ks (e-i) i (D,m)=runs kd ks (e-(i+1)) (i+1) (zCx kd ks i (D,m)):=by
   rw[show e-i=(e-(i+1))+1 from by omega]
   rfl
  have AC:(D.set i (D.getD i 0+zAl (kd.getD i 0))).length=ks.length:=by simpa using hD
  obtain⟨D2,AG,AF⟩:=AA (ks.getD i []) (i+1) e (vG (D.getD i 0+zAl (kd.getD i 0)+exD (kd.getD i 0)) (ks.getD i []) (D.set i (D.getD i 0+zAl (kd.getD i 0)))) (max m (D.getD i 0+zAl (kd.getD i 0))) (D.getD i 0+zAl (kd.getD i 0)+exD (kd.getD i 0)) (by omega) (by omega) hk (by rw[zBf]; exact AC) (fun k AB=>by
    obtain⟨a,h3,h4,h5⟩:=zFK _ _ _ (by omega) hk k AB
    exact zQX _ _ _ _ (by rw[AC,h3,zH]; omega) ⟨k,AB,rfl⟩)
  refine⟨D2,?_,fun j hj=>?_⟩
  ·rw[hv];unfold zCx
   simp only
   rw[AG]
   congr 1
   rw[show zAs kd ks (f+1) i 0=zJG (kd.getD i 0) 0+(ks.getD i []).foldl (fun m k=>max m (zAs kd ks f k.toNat (kd.getD i 0))) 0 from rfl]
   have hu:zJG (kd.getD i 0) 0=zAl (kd.getD i 0):=by
    unfold zJG zAl
    have:¬ZQ 0=true:=by decide
    simp[this]
   rw[hu]
   have AE:∀k ∈ ks.getD i [],exD (kd.getD i 0)+zAs kd ks f k.toNat 0=zAs kd ks f k.toNat (kd.getD i 0):=by
    intro k AB;obtain⟨a,h3,h4,h5⟩:=zFK _ _ _ (by omega) hk k AB
    cases f with
    | zero=>omega
    | succ f=>
     unfold zAs
     have:=zQK (kd.getD k.toNat 0) (kd.getD i 0) (fun hx=>hex i AK hx k AB)
     omega
   rw[←fold_congr _ _ AE]
   have:=zLX (fun k=>exD (kd.getD i 0)+zAs kd ks f k.toNat 0) (D.getD i 0+zAl (kd.getD i 0)) (ks.getD i []) m 0
   rw[Int.add_zero] at this;rw[←Int.add_assoc,←this];apply fold_congr;intro k _;omega
  ·rw[AF j hj,zBs _ _ _ j (fun k AB=>by
    obtain⟨a,h3,h4,h5⟩:=zFK _ _ _ (by omega) hk k AB;rw[h3,zH]
    omega),zBP,if_neg (by omega)]
theorem zNg (kd:List Int)(ks:List (List Int))(f i:Nat)(u:Int):0≤zAs kd ks f i u:=by
 cases f with
 | zero=>exact Int.le_refl _
 | succ f=>
  unfold zAs
  have:=zTU (fun k=>zAs kd ks f k.toNat (kd.getD i 0)) (ks.getD i []) 0
  have h2:0≤zJG (kd.getD i 0) u:=by unfold zJG; split <;> omega
  omega
theorem deep_law {kd:List Int}{ks:List (List Int)}(hex:∀i,i<ks.length→ZQ (kd.getD i 0)=true→∀k ∈ ks.getD i [],ZQ (kd.getD k.toNat 0)=true)(h:JO ks 0=some ks.length) :
  zNd kd ks=zAs kd ks ks.length 0 0:=by
 obtain⟨D',hr,_⟩:=zUR hex ks.length 0 ks.length (List.replicate ks.length 0) 0 (by omega) h (by simp);unfold zNd zCU;rw[Nat.sub_zero] at hr;rw[hr]
 have:=zNg kd ks ks.length 0 0
 simp only
 have h0:(List.replicate ks.length (0:Int)).getD 0 0=0:=by
  cases ks with
  | nil=>rfl
  | cons a l=>rfl
 rw[h0];omega
def JI (l:List xC)(k:Int):Int:=match l[k.toNat]? with | some x=>x.kind | none=>0
def jY (l:List xC)(ks:List Int):List Int:=ks.map (JI l)
def zIM (l:List xC)(ks:List Int):Prop:=∀k ∈ ks,∃a:Nat,k=(a:Int)∧a<l.length
theorem zGT {l:List xC}{a:Nat}(h:a<l.length):JI l (a:Int)=l[a].kind:=by
 unfold JI;rw[zH,yG h]
def ZO (l:List xC):List (List Int):=l.map (·.kids)
def zD2 (l:List xC):List Int:=l.map (·.kind)
theorem jC (l:List xC):(ZO l).length=l.length:=by simp[ZO]
theorem zCr (l:List xC)(i:Nat)(h:i<l.length):(ZO l).getD i []=l[i].kids:=by simp[ZO,yE,h]
theorem zGB (l:List xC)(i:Nat)(h:i<l.length):(zD2 l).getD i 0=l[i].kind:=by simp[zD2,yE,h]
def zBa (l:List xC)(x:xC):Bool:=zC9 x.kind x.num x.text.data.toList (jY l x.kids)
def jT (l:List xC):Bool:=(zAA (ZO l)).isSome&&(JI l 0==1&&l.all (zBa l))
def zGp (l:List xC):Bool:=(List.range l.length).all fun i=>((ZO l).getD i []).all fun k=>decide ((i:Int)<k)&&decide (k<(l.length:Int))
def zE9 (l:List xC)(x:xC):Bool:=decide (1≤x.kind)&&(decide (x.kind≤26)&&(JR x.kind x.num x.text.data.toList&&zAE x.kind (jY l x.kids)))
def zI4 (l:List xC):Bool:=decide (0<l.length)&&(JI l 0==1&&(zGp l&&(decide (JO (ZO l) 0=some l.length)&&l.all (zE9 l))))
theorem zFt (l:List xC):zGp l=true↔∀i,i<l.length→∀k ∈ (ZO l).getD i [],(i:Int)<k∧k<(l.length:Int):=by
 unfold zGp;rw[zG];simp only[List.mem_range,zG,zF,zE]
theorem zFo {l:List xC}{Z:List Nat}(h:zAA (ZO l)=some Z):zGp l=true:=by
 rw[zFt];obtain⟨_,_,_,hz⟩:=zBl h;intro i hi k hk;obtain⟨a,h1,h2,h3⟩:=zO8 (hz i (by rw[jC]; exact hi)) k hk;rw[jC] at h3;omega
theorem zS0 (l:List xC):(zAA (ZO l)).isSome=(decide (0<l.length)&&(zGp l&&decide (JO (ZO l) 0=some l.length))):=by
 cases h:zAA (ZO l) with
 | none=>
  have:=zK6 h
  rw[jC] at this;rw[yO this]
  simp
 | some Z=>
  obtain⟨h1,h2,h3,_⟩:=zBl h;rw[jC] at h2 h3;rw[zFo h,yP h3,yP (by omega)]
  rfl
theorem zNa (l:List xC)(x:xC):zBa l x=zE9 l x:=zTi _ _ _ _
theorem zEL (l:List xC):jT l=zI4 l:=by
 unfold jT zI4;rw[zS0,show zBa l=zE9 l from funext (zNa l)]
 cases decide (0<l.length) <;> cases (JI l 0==1) <;> cases zGp l <;> cases decide (JO (ZO l) 0=some l.length) <;> simp
theorem zCH {l:List xC}(h:jT l=true):∃Z,zAA (ZO l)=some Z:=by
 unfold jT at h;rw[zF] at h;exact Option.isSome_iff_exists.1 h.1
theorem zC1 {l:List xC}{Z:List Nat}(h:zAA (ZO l)=some Z):∀x ∈ l,zIM l x.kids:=by
 intro x hx k hk;obtain⟨i,hi,rfl⟩:=List.getElem_of_mem hx;have h1:=(zFt l).1 (zFo h) i hi k (by rw[zCr l i hi]; exact hk);exact⟨k.toNat,by omega,by omega⟩
theorem zRI {l:List xC}(h:jT l=true):∀i,i<(ZO l).length→ZQ ((zD2 l).getD i 0)=true→∀k ∈ (ZO l).getD i [],ZQ ((zD2 l).getD k.toNat 0)=true:=by
 obtain⟨Z,hZ⟩:=zCH h;have hr:=zC1 hZ;rw[zEL] at h;unfold zI4 at h;simp only[zF] at h;have AD:=List.all_eq_true.1 h.2.2.2.2;intro i hi he k hk;rw[jC] at hi;rw[zGB l i hi] at he;rw[zCr l i hi] at hk;obtain⟨a,ha,AF⟩:=hr l[i] (yL hi) k hk;have hn:=AD l[i] (yL hi);unfold zE9 at hn;simp only[zF] at hn;have AB:=hn.2.2.2;have AA:JI l k ∈ jY l l[i].kids:=List.mem_map_of_mem hk;rw[ha,zGT AF] at AA;rw[ha,zH,zGB l a AF];generalize jY l l[i].kids=ws at *;generalize l[i].kind=kd at *;generalize l[a].kind=x at *
 have AE:21≤kd∧kd≤26:=by
  unfold ZQ at he
  simpa using he
 have hc:kd=21∨kd=22∨kd=23∨kd=24∨kd=25∨kd=26:=by omega
 have one:∀ {ws:List Int},isR ws [0]=true→x ∈ ws→ZQ x=true:=by
  intro ws h hm;unfold isR at h;rw[zF,zN] at h;obtain⟨h1,h2⟩:=h
  match ws,h1 with
  | [y],_=>
   rw[List.mem_singleton.1 hm]
   have:=List.all_eq_true.1 h2 0 (by simp)
   simpa [jH] using this
 have AC:∀ {ws:List Int},isR ws [0,0]=true→x ∈ ws→ZQ x=true:=by
  intro ws h hm;unfold isR at h;rw[zF,zN] at h;obtain⟨h1,h2⟩:=h
  match ws,h1 with
  | [y,z],_=>
   have h3:=List.all_eq_true.1 h2 0 (by simp);have h4:=List.all_eq_true.1 h2 1 (by simp)
   rcases List.mem_cons.1 hm with rfl | hm
   ·simpa [jH] using h3
   ·rw[List.mem_singleton.1 hm]
    simpa [jH] using h4
 rcases hc with rfl | rfl | rfl | rfl | rfl | rfl
 ·simp[zAE] at AB; rw[AB] at AA; cases AA
 ·simp[zAE] at AB; rw[AB] at AA; cases AA
 ·exact AC (by simpa [zAE] using AB) AA
 ·exact AC (by simpa [zAE] using AB) AA
 ·exact AC (by simpa [zAE] using AB) AA
 ·exact one (by simpa [zAE] using AB) AA
def zDn (l:List xC):Int:=if jT l=true then zNd (zD2 l) (ZO l) else 0
def zPn (l:List xC):Int:=if zI4 l=true then zAs (zD2 l) (ZO l) l.length 0 0 else 0
theorem zRf (l:List xC):zDn l=zPn l:=by
 unfold zDn zPn;rw[←zEL]
 by_cases h:jT l=true
 ·rw[if_pos h,if_pos h];obtain⟨Z,hZ⟩:=zCH h;obtain⟨_,_,he,_⟩:=zBl hZ;rw[deep_law (zRI h) he,jC]
 ·rw[if_neg h,if_neg h]
def zFL (l:List xC)(i:Int):Int:=if jT l=true∧0≤i∧i<(l.length:Int) then ((JO (ZO l) i.toNat).getD 0:Int)-i else 0
theorem zPd {l:List xC}{Z:List Nat}(hr:jT l=true)(h:zAA (ZO l)=some Z)(i:Nat)(hi:i<l.length):zFL l i=(Z.getD i 0:Int)-i:=by
 obtain⟨_,_,_,hz⟩:=zBl h;unfold zFL;rw[if_pos ⟨hr,by omega,by omega⟩,zH,hz i (by rw[jC]; exact hi)]
 rfl
def XI (x y:xC):Bool:=x.kind==y.kind&&(x.text.toList==y.text.toList&&(x.num==y.num&&x.kids==y.kids))
def zC5:List xC→List xC→Bool
 | [],[]=>true
 | x::l,y::m=>XI x y&&zC5 l m
 | _,_=>false
theorem zLk:∀ {l m:List xC},l.length≠m.length→zC5 l m=false
 | [],[],h=>absurd rfl h
 | [],_::_,_=>rfl
 | _::_,[],_=>rfl
 | x::l,y::m,h=>by
  show(XI x y&&zC5 l m)=false
  rw[zLk (l:=l) (m:=m) (fun e=>h (by simp[e])),Bool.and_false]
theorem zKL:∀ {l m:List xC},l.length=m.length→(∀i (h1:i<l.length) (h2:i<m.length),XI l[i] m[i]=true)→zC5 l m=true
 | [],[],_,_=>rfl
 | x::l,y::m,h,ha=>by
  show(XI x y&&zC5 l m)=true
  rw[show XI x y=true from ha 0 (by simp) (by simp),zKL (l:=l) (m:=m) (by simpa using h) (fun i h1 h2=>ha (i+1) (by simpa using h1) (by simpa using h2)),Bool.and_true]
theorem zNK:∀ {l m:List xC} (i:Nat) (h1:i<l.length) (h2:i<m.length),XI l[i] m[i]=false→zC5 l m=false
 | x::l,y::m,0,_,_,h=>by
  show(XI x y&&zC5 l m)=false
  rw[show XI x y=false from h,Bool.false_and]
 | x::l,y::m,i+1,h1,h2,h=>by
  show(XI x y&&zC5 l m)=false
  rw[zNK (l:=l) (m:=m) i (by simpa using h1) (by simpa using h2) h,Bool.and_false]
theorem zNS {ks:List (List Int)}{j:Nat}(h:JK ks j=none):∀m,j≤m→JK ks m=none:=by
 intro m
 induction m with
 | zero=>intro hm; rw[show j=0 from by omega] at h; exact h
 | succ m ih=>
  intro hm
  by_cases he:j=m+1
  ·rw[←he]; exact h
  ·unfold JK;rw[ih (by omega)]
theorem zJF {ks:List (List Int)}{j:Nat}(hj:j≤ks.length)(h:JK ks j=none):zAA ks=none:=by
 unfold zAA;rw[zNS h _ hj]
end Go.Proofs.YtioffpjajhalaaaGreatDoor.TT
