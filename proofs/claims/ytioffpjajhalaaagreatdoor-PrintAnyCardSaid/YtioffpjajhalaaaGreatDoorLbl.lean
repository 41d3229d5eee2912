/- A parsed tree in memory, as the forest that it is; printed; printed and parsed again. (and what follows of it). The conditions stand at each lemma. -/
import Derived.Test.YtioffpjajhalaaaGreatDoorLaa
import Derived.Test.YtioffpjajhalaaaGreatDoorLbk
import Derived.Test.YtioffpjajhalaaaGreatDoorLbf
import Derived.Test.YtioffpjajhalaaaGreatDoorLaw
import Derived.Lib.ConvBytes
import Derived.Deep.Cut
import Derived.Deep.QuietTactic
import Derived.Test.YtioffpjajhalaaaGreatDoorLal
import Derived.Test.YtioffpjajhalaaaGreatDoorLaf
import Derived.Test.YtioffpjajhalaaaGreatDoorLag
import Derived.Test.YtioffpjajhalaaaGreatDoorLab
set_option linter.unusedVariables false
set_option linter.unusedSimpArgs false
set_option maxRecDepth 100000
set_option maxHeartbeats 16000000
namespace Go.Proofs.YtioffpjajhalaaaGreatDoor
open Go Go.RowKit
theorem zJN (W:World)(cs:Array Value)(n:Nat)(hn:cs.size=n):(convert 22 22 (.slice (some ⟨W.heap.size,0,none⟩) n n)).run Tryz.prog (W.alloc (.cells cs 5))=.ok (.slice (some ⟨W.heap.size,0,none⟩) n n) ((W.alloc (.cells cs 5)).freeze ⟨W.heap.size,n,none⟩ 1):=by
 subst hn;exact zCd _ _ _ Tryz.underlying22 Tryz.underlying5 _ _ _ (zO _ _)
theorem zNA (W:World)(cs:Array Value)(n:Nat):Ext W ((W.alloc (.cells cs 5)).freeze ⟨W.heap.size,n,none⟩ 1):=
 ⟨rfl,rfl,rfl,by simp[World.freeze],fun k hk=>(zCX _ _ _ _ (by omega)).trans ((Ext.alloc W _).block k hk)⟩
theorem zIu (W:World)(cs:Array Value)(n:Nat)(l:Bs)(hl:cs.toList=xL l):Cells ((W.alloc (.cells cs 5)).freeze ⟨W.heap.size,n,none⟩ 1) (some ⟨W.heap.size,0,none⟩) (xL l):=by
 obtain⟨fr,AA⟩:=zAn (W.alloc (.cells cs 5)) W.heap.size n (zO _ _);refine .inr ⟨W.heap.size,0,rfl,(Array.getElem?_eq_some_iff.1 AA).1,fun k hk=>?_⟩;rw[Nat.zero_add,cell_of_row _ _ k _ _ fr AA,←hl]
 simp
theorem zP2 (A:Option Addr)(l:Bs)(n c:Nat)(w:World)(hn:n=l.length)(hbig:l.length≤140737488355328)(hcap:l.length≤c)(hnil:A=none→c=0)(h:Cells w A (xL l))(nd:List Nd)(hr:zDI l=.ok nd) :
  Calls Tryz.prog 16 #[.slice A n c] w fun e w'=>∃A' c' nh,e=.returned (.tuple #[.agg #[.slice A' nh.length c'],.nilIface])∧nd=nh.map Prod.fst∧NS w' w.heap.size 48 3 A' c' nh∧Ext w w':=by
 refine(zPi A l n c w hn hbig hcap hnil h).mono ?_;rintro e w' ⟨hx,h⟩;rw[hr] at h;obtain⟨A',c',nh,h1,h2,h3⟩:=h;exact⟨A',c',nh,h1,h2,h3,hx⟩
theorem zQP {w:World}{B:Nat}{t:TypeId}{s n m c:Nat}{A:Option Addr}{xs:List Value}(h:w.ownsRow B t s (.slice A m c) n xs):A=none→c=0:=fun e=>by
 subst e
 rcases h.2 with ⟨hv,_⟩ | ⟨g,_,_,hv,_⟩
 ·injection hv
 ·injection hv with h1; cases h1
def toT (x:Nd × Hd2):TT.xB:=⟨x.1.kind,x.1.pos,yX x.1.text,x.1.num,x.2.1,x.2.2,x.1.kids.map fun (k:Nat)=>(k:Int)⟩
theorem zOI (x:Nd × Hd2):(toT x).cells=ZW x:=by simp[toT,TT.xB.cells,ZW]
theorem zRr (l:List Nat):ints l=TT.xD (l.map fun (k:Nat)=>(k:Int)):=by simp[ints,TT.xD]
theorem NS.toT {w:World}{B:Nat}{A:Option Addr}{c:Nat}{nh:List (Nd × Hd2)}(h:NS w B 48 3 A c nh)(hk:∀x ∈ nh,x.1.kind<256 ∧ -9223372036854775808≤x.1.num∧x.1.num≤9223372036854775807):TT.vV w A (nh.map Proofs.YtioffpjajhalaaaGreatDoor.toT):=by
 refine⟨?_,fun x hx=>?_⟩
 ·have e:TT.YN (nh.map Proofs.YtioffpjajhalaaaGreatDoor.toT)=ncs nh:=by
   unfold TT.YN ncs;rw[List.flatMap_map]
   congr 1
   funext x
   exact zOI x
  rw[e];exact Cells.own h.row
 ·obtain⟨y,hy,rfl⟩:=List.mem_map.1 hx;obtain⟨h1,h2,h3⟩:=hk y hy;refine⟨⟨Int.natCast_nonneg _,by show((y.1.kind:Nat):Int)<256; omega⟩,⟨h2,h3⟩,?_,zQP (h.kids y hy)⟩
  have:=Cells.own (h.kids y hy)
  rw[zRr] at this;exact this
theorem zOP (nh:List (Nd × Hd2)):TT.XL (nh.map toT)=TT.XL ((nh.map Prod.fst).map zKW):=by
 have AC:TT.XE (nh.map toT)=TT.XE ((nh.map Prod.fst).map zKW):=by simp[TT.XE,zKW,toT,Function.comp_def]
 have AA:TT.JH (nh.map toT)=TT.JH ((nh.map Prod.fst).map zKW):=by
  funext k
  unfold TT.JH;rw[zM,zM,zM]
  cases nh[k.toNat]? <;> rfl
 have AB:∀x:Nd × Hd2,TT.zAM (nh.map toT) (toT x)=TT.zAM ((nh.map Prod.fst).map zKW) (zKW x.1):=fun x=>by
  unfold TT.zAM TT.vG;rw[AA]
  rfl
 unfold TT.XL;rw[AC,AA,List.all_map,List.all_map,List.all_map]
 congr 2
 congr 1
 funext x
 exact AB x
def Fo.sm:Fo→Prop
 | .nil=>True
 | .cons k p t x c r=>t.length≤9000∧c.sm∧r.sm
theorem zPX:∀f:Fo,f.sm→f.wt≤9030*f.size
 | .nil,_=>zT _
 | .cons k p t x c r,h=>by
  have h1:=zPX c h.2.1;have h2:=zPX r h.2.2;have h0:=h.1
  show t.length+30+c.wt+r.wt≤9030*(1+c.size+r.size)
  omega
theorem zIS {M:Nat}:∀(f:Fo) (a:Nat),f.ok M→f.sm→∀n ∈ f.flat a,n.kind≤26∧0≤n.num∧n.num≤2147483647∧n.text.length≤9000∧n.kids.length≤f.size
 | .nil,a,h,_=>fun n hn=>by cases hn
 | .cons k p t x c r,a,h,hs=>fun n hn=>by
  have hn:n ∈ (⟨k,p,t,x,c.roots (a+1)⟩:Nd)::(c.flat (a+1)++r.flat (a+1+c.size)):=hn;have e:(Fo.cons k p t x c r).size=1+c.size+r.size:=rfl;rw[e]
  rcases List.mem_cons.1 hn with rfl | hn
  ·obtain⟨_,h2,h3,_⟩:=h.1.1;obtain⟨_,_,h4,h5⟩:=zQ8 h3;refine⟨h2,h4,?_,hs.1,?_⟩
   ·show x≤2147483647
    unfold TT.zBB at h5
    split at h5
    ·omega
    ·split at h5 <;> omega
   ·show(c.roots (a+1)).length≤_
    have:=jO c (a+1)
    omega
  ·rcases List.mem_append.1 hn with hn | hn
   ·obtain⟨h1,h2,h3,h4,h5⟩:=zIS c _ h.2.1 hs.2.1 n hn;exact⟨h1,h2,h3,h4,by omega⟩
   ·obtain⟨h1,h2,h3,h4,h5⟩:=zIS r _ h.2.2 hs.2.2 n hn;exact⟨h1,h2,h3,h4,by omega⟩
structure zEn (w:World)(A:Option Addr)(L:List TT.xB)(f:Fo):Prop where
 tree:TT.vV w A L
 len:L.length=1+f.size
 few:L.length≤9000
 sm:∀x ∈ L,TT.zBz x
 right:TT.XL L=true
 lay:VE L 0 (Fo.one 1 0 [] 0 f.z)
 ok:(Fo.one 1 0 [] 0 f.z).ok 0
 wt:f.wt≤1099511627776
theorem zEn.ext {w w':World}{A:Option Addr}{L:List TT.xB}{f:Fo}(h:zEn w A L f)(hx:Ext w w'):zEn w' A L f:=⟨h.tree.ext hx,h.len,h.few,h.sm,h.right,h.lay,h.ok,h.wt⟩
theorem zRM {w:World}{B:Nat}{A:Option Addr}{c:Nat}{nh:List (Nd × Hd2)}{y:List Nd}{f:Fo}{M p:Nat}(h:NS w B 48 3 A c nh)(hn:y=nh.map Prod.fst)(hy:y=⟨1,p,[],0,f.roots 1⟩::f.flat 1)(hr:TT.XL (y.map zKW)=true)(ho:f.ok M)(hk:ZY 1 [] 0 f.kinds)(hs:f.size≤8000)(hB:f.sm):zEn w A (nh.map Proofs.YtioffpjajhalaaaGreatDoor.toT) f:=by
 have AC:(Fo.one 1 p [] 0 f).flat 0=y:=by
  rw[hy]
  show _::(f.flat 1++[])=_
  rw[List.append_nil]
 have AA:∀n ∈ y,n.kind≤26∧0≤n.num∧n.num≤2147483647∧n.text.length≤9000∧n.kids.length≤f.size:=fun n hn=>by
  rw[hy] at hn
  rcases List.mem_cons.1 hn with rfl | hn
  ·exact⟨by show 1≤26; decide,by show(0:Int)≤0; decide,by show(0:Int)≤2147483647; decide,zT _,jO f 1⟩
  ·exact zIS f 1 ho hB n hn
 have hx:∀x ∈ nh,x.1 ∈ y:=fun x hx=>by rw[hn]; exact List.mem_map.2 ⟨x,hx,rfl⟩
 have AD:(nh.map Proofs.YtioffpjajhalaaaGreatDoor.toT).length=1+f.size:=by
  have:nh.length=y.length:=by rw[hn,yN]
  rw[yN,this,hy,zJ,ZQ];omega
 refine⟨h.toT fun x AB=>?_,AD,by omega,fun x AB=>?_,by rw[zOP,←hn]; exact hr,?_,⟨⟨by rw[zGJ]; exact hk,zU _⟩,zSz f ho,trivial⟩,?_⟩
 ·obtain⟨h1,h2,h3,_⟩:=AA _ (hx x AB);omega
 ·obtain⟨u,hu,rfl⟩:=List.mem_map.1 AB;obtain⟨h1,h2,h3,h4,h5⟩:=AA _ (hx u hu);refine⟨?_,?_⟩
  ·show(yX u.1.text).size≤9000
   have:(yX u.1.text).size=u.1.text.length:=by simp[yX,ByteArray.size]
   omega
  ·show(u.1.kids.map fun (k:Nat)=>(k:Int)).length≤9000
   rw[yN];omega
 ·have hl:VE (nh.map Proofs.YtioffpjajhalaaaGreatDoor.toT) 0 (Fo.one 1 p [] 0 f):=zMk _ 0 fun j n hj=>by
   rw[AC,hn,zM] at hj
   cases hq:nh[j]? with
   | none=>rw[hq] at hj; cases hj
   | some u=>
    rw[hq] at hj;injection hj with hj;subst hj;refine⟨Proofs.YtioffpjajhalaaaGreatDoor.toT u,by rw[Nat.zero_add,zM,hq]; rfl,rfl,rfl,by simp[Proofs.YtioffpjajhalaaaGreatDoor.toT,yX],rfl⟩
  exact zJT _ _ hl
 ·have:=zPX f hB
  omega
theorem zHp (w:World)(A:Option Addr)(n c:Nat)(L:List TT.xB)(f:Fo)(hn:n=L.length)(h:zEn w A L f)(hpw:PW w)(hl:f.print.length≤65536) :
  Calls Tryz.prog 17 #[.agg #[.slice A n c]] w fun e w'=>∃b k,e=.returned (.tuple #[.slice (some ⟨b,0,none⟩) f.print.length k,.nilIface])∧f.print.length≤k∧Cells w' (some ⟨b,0,none⟩) (xL f.print)∧Ext w w':=by
 have hz:=zRs f;refine(zIx w A n c L hn h.tree h.few h.sm h.right hpw [] 0 f.z h.lay h.ok (by rw[zSI]; exact h.wt) (by rw[zDO]; have:=h.len; have:=h.few; omega) (by rw[hz]; omega)).mono ?_;rintro e w' ⟨_,h2,h3⟩;rw[hz] at h2;obtain⟨b,k,e1,e2,e3⟩:=h2 hl;exact⟨b,k,e1,e2,e3,h3⟩
theorem zKs:∀(L L':List TT.xB),L.length=L'.length→(∀j,j<L.length→∃m m',L[j]?=some m∧L'[j]?=some m'∧m.kind=m'.kind∧m.num=m'.num∧m.text=m'.text∧m.kids=m'.kids)→TT.zM4 L L'=true
 | [],[],_,_=>rfl
 | [],_::_,h,_=>by cases h
 | _::_,[],h,_=>by cases h
 | x::l,y::m,h,hh=>by
  obtain⟨a,b,h1,h2,h3,h4,h5,h6⟩:=hh 0 (Nat.zero_lt_succ _);injection h1 with h1;injection h2 with h2;subst h1 h2
  have:=zKs l m (Nat.succ.inj h) fun j hj=>hh (j+1) (Nat.succ_lt_succ hj)
  show(TT.zHx x y&&TT.zM4 l m)=true
  rw[this];unfold TT.zHx;rw[h3,h4,h5,h6]
  simp
theorem zEn.same {w w':World}{A A':Option Addr}{L L':List TT.xB}{f:Fo}(h:zEn w A L f)(h':zEn w' A' L' f):TT.zM4 L L'=true:=zKs _ _ (by rw[h.len,h'.len]) fun j hj=>by
 have hs:(Fo.one 1 0 [] 0 f.z).size=1+f.size:=by
  show 1+f.z.size+0=_
  rw[zDO]
  rfl
 have:=zPK h.lay h'.lay rfl j (by rw[hs,←h.len]; exact hj)
 rw[Nat.zero_add] at this;exact this
def zNr:Bs:=[112,114,111,99,32,112,40,41,123,101,109,105,116,40,40,49,41,45,40,50,45,51,41,41,42,45,40,97,43,98,41,59,125]
def zNp:Bs:=[116,97,98,108,101,32,116,40,99,44,100,41,59]
def zR9:Bs:=[112,114,111,99,32,112,40,41,32,123,10,9,101,109,105,116,32,40,49,32,45,32,40,50,32,45,32,51,41,41,32,42,32,45,40,97,32,43,32,98,41,59,10,125,10]
def zSe:Bs:=[116,97,98,108,101,32,116,40,99,44,32,100,41,59,10]
def f61:Fo:=.cons 3 0 [112] 0 (.cons 4 7 [] 0 .nil (.cons 6 8 [] 0 (.cons 17 9 [] 0 (.cons 25 15 [] 0 (.cons 24 15 [] 0 (.cons 21 15 [] 1 .nil (.cons 24 19 [] 0 (.cons 21 19 [] 2 .nil (.cons 21 21 [] 3 .nil .nil)) .nil)) (.cons 26 25 [] 0 (.cons 23 27 [] 0 (.cons 22 27 [97] 0 .nil (.cons 22 29 [98] 0 .nil .nil)) .nil) .nil)) .nil) .nil) .nil)) .nil
def f62:Fo:=.cons 2 0 [116] 0 (.cons 5 8 [99] 0 .nil (.cons 5 10 [100] 0 .nil .nil)) .nil
theorem zRu:zDI zNr=.ok (⟨1,0,[],0,f61.roots 1⟩::f61.flat 1):=by decide +kernel
theorem zRl:zDI zNp=.ok (⟨1,0,[],0,f62.roots 1⟩::f62.flat 1):=by decide +kernel
theorem zNm:f61.print=zR9:=by decide +kernel
theorem zNa:f62.print=zSe:=by decide +kernel
end Go.Proofs.YtioffpjajhalaaaGreatDoor
namespace Go.Proofs.YtioffpjajhalaaaGreatDoor

end Go.Proofs.YtioffpjajhalaaaGreatDoor
namespace Go.Proofs.YtioffpjajhalaaaGreatDoor.TT
open Go Go.RowKit

end Go.Proofs.YtioffpjajhalaaaGreatDoor.TT
namespace Go.Proofs.YtioffpjajhalaaaGreatDoor
open Go Go.RowKit
def zRR (L:List TT.xB)(w:World)(e:Ending)(w':World):Prop:=∃b:Bool,e=.returned (.bool b)∧Ext w w'∧(b=true→L.length≤200∧∀x ∈ L,x.kids.length≤200∧x.text.size≤50)
theorem zPw (A:Option Addr)(L:List TT.xB)(n c:Nat)(w:World)(hn:n=L.length)(ht:TT.vV w A L) :
  Calls Tryz.prog 20 #[.agg #[.slice A n c]] w (zRR L w):=by
 subst hn;have HT:=yD ht;clear ht
 go_enter Tryz.func20,Tryz.ntmps20
 go_upto_region 1 with fail
 have AA:Hid (Ext w (w.alloc (.cells #[.slice A L.length c] 39))):=yD (Ext.alloc _ _);have AD:Hid (Blk (w.alloc (.cells #[.slice A L.length c] 39)) w.heap.size 39 #[.slice A L.length c]):=yD (Blk.new _ _ _);have AB:=yD (HT.out.ext AA.out);generalize w.heap.size=g at *;generalize w.alloc (.cells #[.slice A L.length c] 39)=w1 at *;have t0:w1.cell? ⟨g,0,none⟩=some (.slice A L.length c):=AD.out.cell 0
 by_cases h4:200<L.length
 ·have d0:decide ((L.length:Int) > 200)=true:=yP (by omega);have d1:decide ((200:Int)<(L.length:Int))=true:=d0;clear h4
  go_wp2_with fail
  go_ret;exact⟨false,rfl,AA.out,fun h=>by cases h⟩
 have d0:decide ((L.length:Int) > 200)=false:=yO (by omega);have d1:decide ((200:Int)<(L.length:Int))=false:=d0;have d2:decide (200<L.length)=false:=yO h4
 go_wp2_with fail
 go_loopw [3] (fun i' wr=>∃k:Nat,k≤L.length∧i'=.int .i64 k∧Hid (wr=w1)∧Hid (∀j (hj:j<L.length),j<k→L[j].kids.length≤200∧L[j].text.size≤50)) (fun i' _=>L.length-(intOf i').toNat)
 case atStart=>exact⟨0,zT _,rfl,yD rfl,yD fun j hj h=>absurd h (Nat.not_lt_zero _)⟩
 case round=>
  clear d0 d1 d2;obtain⟨k,hk,rfl,HW,HD⟩:=hrel;have hw:=HW.out;subst hw
  by_cases AE:k<L.length
  rotate_left
  ·obtain rfl:k=L.length:=by omega
   have d0:decide ((L.length:Int)<(L.length:Int))=false:=by simp
   have d1:decide (L.length<L.length)=false:=by simp
   go_wp2_with fail
   go_ret
   exact⟨true,rfl,AA.out,fun _=>⟨by omega,fun x hx=>by
    obtain⟨j,hj,rfl⟩:=List.getElem_of_mem hx
    exact HD.out j hj hj⟩⟩
  have d0:decide ((k:Int)<(L.length:Int))=true:=yP (by omega)
  have q1:(k:Int)<(L.length:Int):=by omega
  obtain⟨b,AG,rfl,_,hc⟩:=AB.out.at_ k AE;have e2:=hc 2 (by decide);have e4:=hc 4 (by decide)
  have HN:Hid (L[k].kids.length≤200→L[k].text.size≤50→∀j (hj:j<L.length),j<k+1→L[j].kids.length≤200∧L[j].text.size≤50):=yD fun h1 h2 j hj AH=>by
   by_cases e:j=k
   ·subst e; exact⟨h1,h2⟩
   ·exact HD.out j hj (by omega)
  clear hc;generalize L[k]=x at *;unfold TT.xB.cells at e2 e4;simp only[yJ,List.getElem?_cons_succ] at e2 e4
  by_cases h1:200<x.kids.length
  ·have g0:decide ((x.kids.length:Int) > 200)=true:=yP (by omega);have g1:decide ((200:Int)<(x.kids.length:Int))=true:=g0;clear h1
   go_wp2_with fail
   go_ret;exact⟨false,rfl,AA.out,fun h=>by cases h⟩
  have g0:decide ((x.kids.length:Int) > 200)=false:=yO (by omega);have g1:decide ((200:Int)<(x.kids.length:Int))=false:=g0;have g2:decide (200<x.kids.length)=false:=yO h1;have AF:Hid (x.kids.length≤200):=yD (by omega);clear h1
  by_cases h2:50<x.text.size
  ·have f0:decide ((x.text.size:Int) > 50)=true:=yP (by omega);have f1:decide ((50:Int)<(x.text.size:Int))=true:=f0;clear h2
   go_wp2_with fail
   go_ret;exact⟨false,rfl,AA.out,fun h=>by cases h⟩
  have f0:decide ((x.text.size:Int) > 50)=false:=yO (by omega);have f1:decide ((50:Int)<(x.text.size:Int))=false:=f0;have f2:decide (50<x.text.size)=false:=yO h2;have AC:=yD (HN.out AF.out (by omega));clear h2 HN
  go_wp2_with fail
  go_roundw
  case rel=>exact⟨k+1,by omega,by go_num,by first | exact yD rfl | exact yD trivial,AC⟩
  case measure=>simp[intOf] <;> omega
def Fo.okB:Fo→Bool
 | .nil=>true
 | .cons k p t x c r=>(decide (1≤k)&&(decide (k≤26)&&(TT.vL (k:Int) x t&&(TT.vY (k:Int) (xG c.kinds)&&(decide (p≤1000)&&decide (t.length≤9000))))))&&(c.okB&&r.okB)
theorem zEP:∀f:Fo,f.okB=true→f.ok 1000∧f.sm
 | .nil,_=>⟨trivial,trivial⟩
 | .cons k p t x c r,h=>by
  unfold Fo.okB at h;simp only[zF,zE] at h;obtain⟨⟨h1,h2,h3,h4,h5,h6⟩,h7,h8⟩:=h;exact⟨⟨⟨⟨h1,h2,h3,h4⟩,h5⟩,(zEP c h7).1,(zEP r h8).1⟩,⟨h6,(zEP c h7).2,(zEP r h8).2⟩⟩
theorem zEg (A:Option Addr)(l:Bs)(f:Fo)(p n c:Nat)(w:World)(hn:n=l.length)(hl:l.length≤1000)(hcap:l.length≤c)(hnil:A=none→c=0)(h:Cells w A (xL l))(hp:zDI l=.ok (⟨1,p,[],0,f.roots 1⟩::f.flat 1))(hr:TT.XL ((⟨1,p,[],0,f.roots 1⟩::f.flat 1:List Nd).map zKW)=true)(ho:f.okB=true)(hk:(decide (f.size≤8000)&&TT.vY 1 (xG f.kinds))=true) :
  Calls Tryz.prog 16 #[.slice A n c] w fun e w'=>∃A' c' L,e=.returned (.tuple #[.agg #[.slice A' L.length c'],.nilIface])∧zEn w' A' L f∧Ext w w':=by
 refine(zP2 A l n c w hn (by omega) hcap hnil h _ hp).mono ?_;rintro e w' ⟨A',c',nh,rfl,AB,AA,hx⟩;simp only[zF,zE] at hk;exact⟨A',c',nh.map Proofs.YtioffpjajhalaaaGreatDoor.toT,by rw[yN],zRM AA AB rfl hr (zEP f ho).1 ⟨by decide,by decide,rfl,hk.2⟩ hk.1 (zEP f ho).2,hx⟩
theorem VX (w:World)(hpw:PW w):Calls Tryz.prog 15 #[] w fun e w'=>e=.returned (.bool true)∧Ext w w':=by
 have HP:=yD hpw;clear hpw;have v1:=fun W=>zJN W #[.int .u8 112,.int .u8 114,.int .u8 111,.int .u8 99,.int .u8 32,.int .u8 112,.int .u8 40,.int .u8 41,.int .u8 123,.int .u8 101,.int .u8 109,.int .u8 105,.int .u8 116,.int .u8 40,.int .u8 40,.int .u8 49,.int .u8 41,.int .u8 45,.int .u8 40,.int .u8 50,.int .u8 45,.int .u8 51,.int .u8 41,.int .u8 41,.int .u8 42,.int .u8 45,.int .u8 40,.int .u8 97,.int .u8 43,.int .u8 98,.int .u8 41,.int .u8 59,.int .u8 125] 33 rfl
 go_enter Tryz.func15,Tryz.ntmps15
 go_wp2_with fail
 have AP:Hid (Cells ((w.alloc (.cells #[.int .u8 112,.int .u8 114,.int .u8 111,.int .u8 99,.int .u8 32,.int .u8 112,.int .u8 40,.int .u8 41,.int .u8 123,.int .u8 101,.int .u8 109,.int .u8 105,.int .u8 116,.int .u8 40,.int .u8 40,.int .u8 49,.int .u8 41,.int .u8 45,.int .u8 40,.int .u8 50,.int .u8 45,.int .u8 51,.int .u8 41,.int .u8 41,.int .u8 42,.int .u8 45,.int .u8 40,.int .u8 97,.int .u8 43,.int .u8 98,.int .u8 41,.int .u8 59,.int .u8 125] 5)).freeze ⟨w.heap.size,33,none⟩ 1) (some ⟨w.heap.size,0,none⟩) (xL zNr)):=yD (zIu w _ 33 zNr rfl);have Ac:Hid (Ext w ((w.alloc (.cells #[.int .u8 112,.int .u8 114,.int .u8 111,.int .u8 99,.int .u8 32,.int .u8 112,.int .u8 40,.int .u8 41,.int .u8 123,.int .u8 101,.int .u8 109,.int .u8 105,.int .u8 116,.int .u8 40,.int .u8 40,.int .u8 49,.int .u8 41,.int .u8 45,.int .u8 40,.int .u8 50,.int .u8 45,.int .u8 51,.int .u8 41,.int .u8 41,.int .u8 42,.int .u8 45,.int .u8 40,.int .u8 97,.int .u8 43,.int .u8 98,.int .u8 41,.int .u8 59,.int .u8 125] 5)).freeze ⟨w.heap.size,33,none⟩ 1)):=yD (zNA w _ 33)
 generalize ((w.alloc (.cells #[.int .u8 112,.int .u8 114,.int .u8 111,.int .u8 99,.int .u8 32,.int .u8 112,.int .u8 40,.int .u8 41,.int .u8 123,.int .u8 101,.int .u8 109,.int .u8 105,.int .u8 116,.int .u8 40,.int .u8 40,.int .u8 49,.int .u8 41,.int .u8 45,.int .u8 40,.int .u8 50,.int .u8 45,.int .u8 51,.int .u8 41,.int .u8 41,.int .u8 42,.int .u8 45,.int .u8 40,.int .u8 97,.int .u8 43,.int .u8 98,.int .u8 41,.int .u8 59,.int .u8 125] 5)).freeze ⟨w.heap.size,33,none⟩ 1)=w1 at *;generalize w.heap.size=g1 at *;clear v1;refine(zEg (some ⟨g1,0,none⟩) zNr f61 0 33 33 w1 rfl (by decide) (by decide) (fun h=>by cases h) AP.out zRu (by decide +kernel) (by decide +kernel) (by decide +kernel)).mono ?_;rintro e w2 ⟨A2,c2,L2,rfl,AN,AU⟩;have AO:=yD (Ac.out.trans AU);have AR:=yD AN;clear AU AN AP Ac
 go_upto_region 2 with fail
 have AG:Ext w2 (w2.alloc (.cells #[.slice A2 L2.length c2] 39)):=Ext.alloc _ _;have Aa:=yD (AO.out.trans AG);have Ad:=yD (AR.out.ext AG);have AT:=yD (Blk.new w2 39 #[.slice A2 L2.length c2]);clear AG AO AR;generalize w2.heap.size=g3 at *;generalize w2.alloc (.cells #[.slice A2 L2.length c2] 39)=w3 at *;have v1:=fun W=>zJN W #[.int .u8 116,.int .u8 97,.int .u8 98,.int .u8 108,.int .u8 101,.int .u8 32,.int .u8 116,.int .u8 40,.int .u8 99,.int .u8 44,.int .u8 100,.int .u8 41,.int .u8 59] 13 rfl
 go_wp2_with fail
 have Ai:Hid (Cells ((w3.alloc (.cells #[.int .u8 116,.int .u8 97,.int .u8 98,.int .u8 108,.int .u8 101,.int .u8 32,.int .u8 116,.int .u8 40,.int .u8 99,.int .u8 44,.int .u8 100,.int .u8 41,.int .u8 59] 5)).freeze ⟨w3.heap.size,13,none⟩ 1) (some ⟨w3.heap.size,0,none⟩) (xL zNp)):=yD (zIu w3 _ 13 zNp rfl);have AE:Ext w3 ((w3.alloc (.cells #[.int .u8 116,.int .u8 97,.int .u8 98,.int .u8 108,.int .u8 101,.int .u8 32,.int .u8 116,.int .u8 40,.int .u8 99,.int .u8 44,.int .u8 100,.int .u8 41,.int .u8 59] 5)).freeze ⟨w3.heap.size,13,none⟩ 1):=zNA w3 _ 13;have Ae:=yD (Aa.out.trans AE);have Ah:=yD (Ad.out.ext AE);have AX:=yD (AT.out.ext AE);clear AE Aa Ad AT;generalize ((w3.alloc (.cells #[.int .u8 116,.int .u8 97,.int .u8 98,.int .u8 108,.int .u8 101,.int .u8 32,.int .u8 116,.int .u8 40,.int .u8 99,.int .u8 44,.int .u8 100,.int .u8 41,.int .u8 59] 5)).freeze ⟨w3.heap.size,13,none⟩ 1)=w4 at *;generalize w3.heap.size=g4 at *;clear v1;refine(zEg (some ⟨g4,0,none⟩) zNp f62 0 13 13 w4 rfl (by decide) (by decide) (fun h=>by cases h) Ai.out zRl (by decide +kernel) (by decide +kernel) (by decide +kernel)).mono ?_;rintro e w5 ⟨A5,c5,L5,rfl,AL,AC⟩;have AK:=yD (Ae.out.trans AC);have AS:=yD (Ah.out.ext AC);have AM:=yD (AX.out.ext AC);have Af:=yD AL;clear AC AL Ae Ah AX Ai
 go_upto_region 3 with fail
 have AB:Ext w5 (w5.alloc (.cells #[.slice A5 L5.length c5] 39)):=Ext.alloc _ _;have AI:=yD (AK.out.trans AB);have AY:=yD (AS.out.ext AB);have Ag:=yD (Af.out.ext AB);have AW:=yD (AM.out.ext AB);have AV:=yD (Blk.new w5 39 #[.slice A5 L5.length c5]);clear AB AK AS Af AM;generalize w5.heap.size=g6 at *;generalize w5.alloc (.cells #[.slice A5 L5.length c5] 39)=w6 at *;have y0:w6.cell? ⟨g3,0,none⟩=some (.slice A2 L2.length c2):=AW.out.cell 0
 go_wp2_with fail
 refine(zHp w6 A2 L2.length c2 L2 f61 rfl AY.out (HP.out.ext AI.out) (by rw[zNm]; decide)).mono ?_;rw[zNm];rintro e w7 ⟨b7,k7,rfl,Al,AA,AD⟩;have AF:=yD (AI.out.trans AD);have AQ:=yD AA;have AZ:=yD (Ag.out.ext AD);have AJ:=yD (AV.out.ext AD);clear Al AA AD y0 AI AY Ag AW AV;have y0:w7.cell? ⟨g6,0,none⟩=some (.slice A5 L5.length c5):=AJ.out.cell 0
 go_wp2_with fail
 refine(zHp w7 A5 L5.length c5 L5 f62 rfl AZ.out (HP.out.ext AF.out) (by rw[zNa]; decide)).mono ?_;rw[zNa];rintro e w8 ⟨b8,k8,rfl,Aj,Ab,AH⟩;have Ak:=yD (AF.out.trans AH);have AA:=AQ.out.ext AH;clear Aj AH y0 AF AZ AJ AQ;have h1:(convert 22 9 (.slice (some ⟨b7,0,none⟩) zR9.length k7)).run Tryz.prog w8=.ok (.string ⟨#[112,114,111,99,32,112,40,41,32,123,10,9,101,109,105,116,32,40,49,32,45,32,40,50,32,45,32,51,41,41,32,42,32,45,40,97,32,43,32,98,41,59,10,125,10]⟩) w8:=ZV (P:=Tryz.prog) Tryz.underlying22 Tryz.underlying5 Tryz.underlying9 rfl AA;have h2:(convert 22 9 (.slice (some ⟨b8,0,none⟩) zSe.length k8)).run Tryz.prog w8=.ok (.string ⟨#[116,97,98,108,101,32,116,40,99,44,32,100,41,59,10]⟩) w8:=ZV (P:=Tryz.prog) Tryz.underlying22 Tryz.underlying5 Tryz.underlying9 rfl Ab;clear AA Ab
 go_wp2_with fail
 go_ret;exact⟨rfl,Ak.out⟩
theorem zSj (t:Value)(w:World) :
  Calls Tryz.prog 61 #[.nilIface,t] w fun e w'=>e=.returned (.bool false)∧w=w':=by
 go_enter Tryz.func61,Tryz.ntmps61
 go_wp2_with fail
 go_ret;exact⟨rfl,rfl⟩
theorem zQT (w:World):Calls Tryz.prog 27 #[.nilIface] w fun e w'=>e=.returned (.int .i64 0)∧w=w':=by
 go_enter Tryz.func27,Tryz.ntmps27
 go_wp2_with fail
 go_ret;exact⟨rfl,rfl⟩
theorem zJE (v:jZ)(w:World)(hG:GT w)(hv:v.ok w):Calls Tryz.prog 27 #[.iface v.ty v.dat] w fun e w'=>e=.returned (.int .i64 v.code)∧Ext w w':=by
 have hb:Blk (w.alloc (.cells #[.int .i64 0] 54)) w.heap.size 54 #[.int .i64 0]:=Blk.new _ _ _;have HC:=yD (zRg v (w.alloc (.cells #[.int .i64 0] 54)) (hG.ext (Ext.alloc _ _)) (jZ.zCB (Ext.alloc _ _) hv) 0 w.heap.size hb);obtain⟨vt,AC⟩:∃vt,v.ty=vt:=⟨_,rfl⟩;obtain⟨vd,AA⟩:∃vd,v.dat=vd:=⟨_,rfl⟩;obtain⟨vc,AB⟩:∃vc,v.code=vc:=⟨_,rfl⟩;rw[AC,AA,AB] at HC;rw[AC,AA,AB];clear AC AA AB hb hv hG
 go_enter Tryz.func27,Tryz.ntmps27
 go_wp2_with fail
 refine HC.out.mono ?_;rintro e w' ⟨rfl,hm,hb⟩;have c0:=hb.cell 0;have HX:=yD (hm.ext (Ext.alloc w (.cells #[.int .i64 0] 54)) (zU _));clear hm hb HC
 go_wp2_with fail
 go_ret;exact⟨rfl,HX.out⟩
def zBQ:Value:=.tuple #[.int .i64 0,.int .i64 0,.int .i64 0,.bool false]
theorem zPr (w:World):Calls Tryz.prog 28 #[.nilIface] w fun e w'=>e=.returned zBQ∧Ext w w':=by
 have HC:=yD (fun t W=>zSj t W);have HX:Hid (Ext w (w.alloc (.cells #[.pointer none] 107))):=yD (Ext.alloc _ _)
 go_enter Tryz.func28,Tryz.ntmps28
 go_wp2_with fail
 refine(HC.out _ _).mono ?_;rintro e w' ⟨rfl,rfl⟩
 go_wp2_with fail
 refine bodyPost_ret (v:=zBQ) (by simp[results,Tryz.results28,go_sem,zBQ]) rfl ?_;exact⟨rfl,HX.out⟩
theorem zMO (v:jZ)(w:World)(hG:GT w)(hv:v.ok w)(hsp:v.spot=none):Calls Tryz.prog 28 #[.iface v.ty v.dat] w fun e w'=>e=.returned zBQ∧Ext w w':=by
 have hb:Blk (w.alloc (.cells #[.pointer none] 107)) w.heap.size 107 #[.pointer none]:=Blk.new _ _ _;have HC:=yD (zQR v (w.alloc (.cells #[.pointer none] 107)) (hG.ext (Ext.alloc _ _)) (jZ.zCB (Ext.alloc _ _) hv) hsp w.heap.size hb);have HX:Hid (Ext w (w.alloc (.cells #[.pointer none] 107))):=yD (Ext.alloc _ _);obtain⟨vt,AB⟩:∃vt,v.ty=vt:=⟨_,rfl⟩;obtain⟨vd,AA⟩:∃vd,v.dat=vd:=⟨_,rfl⟩;rw[AB,AA] at HC;rw[AB,AA];clear AB AA hb hv hG hsp
 go_enter Tryz.func28,Tryz.ntmps28
 go_wp2_with fail
 refine HC.out.mono ?_;rintro e w' ⟨rfl,hx⟩
 go_wp2_with fail
 refine bodyPost_ret (v:=zBQ) (by simp[results,Tryz.results28,go_sem,zBQ]) rfl ?_;exact⟨rfl,HX.out.trans hx⟩
end Go.Proofs.YtioffpjajhalaaaGreatDoor
namespace Go.Proofs.YtioffpjajhalaaaGreatDoor.TT
open Go Go.RowKit Go.Deep Go.ChangeShapes Go.WideShapes
structure zHk (x:xB):Prop where
 pos:-9223372036854775808≤x.pos∧x.pos≤9223372036854775807
 cap:x.kids.length≤x.kc
section
variable {H:Type} {enc:TypeId × Value→H} {w:World} {base:Nat} {spare:Nat→Bool} {held:Bool}
theorem zMx {n:Nat}{cs:List Value}{y:DataW H × List MemPlace}(hl:cs.length=5)(h:DataW.trod enc Tryz.prog w base spare held n 48 cs=some y) :
  ∃x:xB,cs=x.cells∧VQ w x∧zHk x:=by
 obtain⟨m,hf⟩:=zFq Tryz.underlying48 (by kernel_rfl) h hl
 match cs,hl with
 | [v0,v1,v2,v3,v4],_=>
  obtain⟨u0,z0,e0,t0⟩:=hf 0 _ rfl;obtain⟨u1,z1,e1,t1⟩:=hf 1 _ rfl;obtain⟨u2,z2,e2,t2⟩:=hf 2 _ rfl;obtain⟨u3,z3,e3,t3⟩:=hf 3 _ rfl;obtain⟨u4,z4,e4,t4⟩:=hf 4 _ rfl;simp only[yJ,List.getElem?_cons_succ,yV] at e0 e1 e2 e3 e4;subst e0 e1 e2 e3 e4;obtain⟨x0,g0,_,b0⟩:=DataW.trod_int Tryz.underlying5 t0;obtain⟨x1,g1,_,b1⟩:=DataW.trod_int Tryz.underlying3 t1;obtain⟨x2,g2,_,b2⟩:=DataW.trod_string Tryz.underlying9 t2;obtain⟨x3,g3,_,b3⟩:=DataW.trod_int Tryz.underlying2 t3;obtain⟨A,len,cap,g4⟩:=zJV Tryz.underlying32 t4;injection g0 with g0; injection g1 with g1; injection g2 with g2; injection g3 with g3;subst g0 g1 g2 g3 g4
  have AB:len≤cap:=by
   rcases DataW.trod_slice Tryz.underlying32 t4 with ⟨h1,_⟩ | ⟨a,AC,AD,_,_,_,_,h1,_,_,h2,_⟩
   ·injection h1 with h1; injection h1 with _ h3 h4; subst h3 h4; exact zU _
   ·injection h1 with h1; injection h1 with _ h3 h4; subst h3 h4; exact h2
  obtain⟨l,AA,hz,hc,_⟩:=zN0 (k:=.i64) Tryz.underlying32 Tryz.underlying3 (by kernel_rfl) (w:=w) (enc:=enc) (base:=base) (spare:=spare) (held:=held) (d:=z4.1) (p:=z4.2) ⟨m,t4⟩;subst AA;exact⟨⟨x0,x1,x2,x3,A,cap,l⟩,rfl,⟨zSr b0,zM9 b3,hc,hz⟩,⟨zM9 b1,AB⟩⟩
theorem zJ5 {a:Option Addr}{len cap:Nat}{d:DataW H}{p:List MemPlace}(h:DataW.Trod enc Tryz.prog w base spare held 37 (.slice a len cap) d p) :
  ∃l:List xB,len=l.length∧(a=none→cap=0)∧vV w a l∧∀x ∈ l,zHk x:=by
 obtain⟨l,h1,h2,h3,h4⟩:=zHi xB.cells (fun x=>VQ w x∧zHk x) 5 (by decide) (fun _=>rfl) Tryz.underlying37 (by kernel_rfl) (fun n cs y hl hy=>zMx hl hy) h;exact⟨l,h1,h2,⟨h3,fun x hx=>(h4 x hx).1⟩,fun x hx=>(h4 x hx).2⟩
theorem zMt {r:Reach}{b0:Nat}{v:Value}{d:DataW H}{p:List MemPlace}(hval:Value.okWide Tryz.prog w r b0 39 v)(hd:DataW.Trod enc Tryz.prog w base spare held 39 v d p) :
  ∃(A:Option Addr) (AA:Nat) (l:List xB),v=.agg #[.slice A l.length AA]∧(A=none→AA=0)∧(vV w A l∧∀x ∈ l,zHk x):=by
 obtain⟨cs,rfl,AD⟩:=okWide_struct Tryz.underlying39 hval;obtain⟨m,hm⟩:=hd
 have h1:Tryz.prog.cellsOf 39=1:=by kernel_rfl
 have hl:cs.toList.length=1:=by rw[Array.length_toList,AD]; exact h1
 obtain⟨m',hf⟩:=zFq Tryz.underlying39 (by kernel_rfl) hm hl;obtain⟨v0,z0,e0,t0⟩:=hf 0 _ rfl;obtain⟨A,len,AA,rfl⟩:=zJV Tryz.underlying37 t0;obtain⟨l,AC,hz,ht⟩:=zJ5 (enc:=enc) (base:=base) (spare:=spare) (held:=held) (d:=z0.1) (p:=z0.2) ⟨m',t0⟩;subst AC;refine⟨A,AA,l,?_,hz,ht⟩
 have:cs=#[.slice A l.length AA]:=by
  apply Array.toList_inj.1
  match hcl:cs.toList,hl with
  | [c],_=>
   have AB:(Value.agg cs).cells.toList[0]?=some (.slice A l.length AA):=e0;simp only[Value.cells] at AB;rw[hcl] at AB
   simp at AB
   rw[AB]
 rw[this]
end
end Go.Proofs.YtioffpjajhalaaaGreatDoor.TT
namespace Go.Proofs.YtioffpjajhalaaaGreatDoor
open Go Go.RowKit
theorem zI2 (A:Option Addr)(L:List TT.xB)(n c:Nat)(i:Int)(w:World)(hG:GT w)(hpw:PW w)(hn:n=L.length)(ht:TT.vV w A L∧∀x ∈ L,TT.zHk x) :
  Calls Tryz.prog 6 #[.agg #[.slice A n c],.int .i64 i] w fun e w'=>e=.returned (.bool true)∧Ext w w':=by
 subst hn;have HT:=yD ht.1;have An:Hid (∀x ∈ L,x.kids.length≤x.kc):=yD fun x hx=>(ht.2 x hx).cap;have HG:=yD hG;have HP:=yD hpw;clear ht hpw hG
 go_enter Tryz.func6,Tryz.ntmps6
 go_upto_region 1 with fail
 have Ak:Hid (Ext w (w.alloc (.cells #[.slice A L.length c] 39))):=yD (Ext.alloc _ _);have Al:Hid (Blk (w.alloc (.cells #[.slice A L.length c] 39)) w.heap.size 39 #[.slice A L.length c]):=yD (Blk.new _ _ _);generalize w.heap.size=g1 at *;generalize w.alloc (.cells #[.slice A L.length c] 39)=w1 at *;have y0:w1.cell? ⟨g1,0,none⟩=some (.slice A L.length c):=Al.out.cell 0
 go_wp2_with fail
 refine(zPw A L L.length c w1 rfl (HT.out.ext Ak.out)).mono ?_;rintro e w2 ⟨b,rfl,Aj,hb⟩;have AW:=yD (Ak.out.trans Aj);have Ah:=yD (Al.out.ext Aj);clear Aj y0 Ak Al
 cases b with
 | false=>
  clear hb
  go_wp2_with fail
  refine(VX w2 (HP.out.ext AW.out)).mono ?_;rintro e w' ⟨rfl,hx⟩
  go_wp2_with fail
  go_ret;exact⟨rfl,AW.out.trans hx⟩
 | true=>
 obtain⟨AG,HK⟩:Hid (L.length≤200)∧Hid (∀x ∈ L,x.kids.length≤200∧x.text.size≤50):=⟨yD (hb rfl).1,yD (hb rfl).2⟩;have AJ:Hid (∀x ∈ L,TT.zBz x):=yD fun y hy=>⟨by have:=(HK.out y hy).2; omega,by have:=(HK.out y hy).1; omega⟩;have AF:Hid (L.length≤9000):=yD (by have:=AG.out; omega);clear hb;have y0:w2.cell? ⟨g1,0,none⟩=some (.slice A L.length c):=Ah.out.cell 0
 go_wp2_with fail
 refine(zMP A L L.length c w2 rfl AF.out (HT.out.ext AW.out)).mono ?_;rintro e w3 ⟨A5,c5,rfl,ho,Ai⟩;have AH:=yD (AW.out.trans Ai);have AX:=yD (Ah.out.ext Ai);have Ab:Hid (TT.vV w3 A5 L):=yD ⟨Cells.own ho,fun x hx=>(HT.out.ok x hx).ext AH.out⟩;clear ho Ai y0 AW Ah;have y0:w3.cell? ⟨g1,0,none⟩=some (.slice A L.length c):=AX.out.cell 0;obtain⟨b,HR⟩:∃b,Hid (TT.XL L=b):=⟨_,yD rfl⟩;have Ap:Hid (TT.JN L=b):=yD (by rw[←TT.zIe]; exact HR.out)
 cases b with
 | false=>
  go_wp2_with fail
  refine(zQF w3 A L.length c L rfl (HT.out.ext AH.out) AF.out AJ.out HR.out).mono ?_;rintro e w4 ⟨rfl,AI⟩;have AU:=yD (AH.out.trans AI);have AT:=yD (AX.out.ext AI);have Aw:=yD (Ab.out.ext AI);clear AI y0 AH AX Ab
  go_wp2_with fail
  refine(zNW w4 A5 L.length c5 L rfl Aw.out AF.out AJ.out Ap.out).mono ?_;rintro e w5 ⟨rfl,AK⟩;have AV:=yD (AU.out.trans AK);have AZ:=yD (AT.out.ext AK);clear AK AU AT Aw;have AP:Hid (∀W,Ext w W→Calls Tryz.prog 27 #[.iface 54 (.int .i64 2)] W fun e w'=>e=.returned (.int .i64 2)∧Ext W w'):=yD fun W hx=>zJE (.num 2) W (HG.out.ext hx) trivial;have AO:=ZV (P:=Tryz.prog) (w:=w5) (A:=none) (l:=[]) (n:=0) (c:=0) Tryz.underlying22 Tryz.underlying5 Tryz.underlying9 rfl (.inl rfl)
  go_wp2_with fail
  refine(AP.out w5 AV.out).mono ?_;rintro e w6 ⟨rfl,Af⟩;have Ax:=yD (AV.out.trans Af);have BB:=yD (AZ.out.ext Af);clear Af AO;have AO:=ZV (P:=Tryz.prog) (w:=w6) (A:=none) (l:=[]) (n:=0) (c:=0) Tryz.underlying22 Tryz.underlying5 Tryz.underlying9 rfl (.inl rfl);have Az:yX []=(⟨#[]⟩:ByteArray):=rfl;rw[Az] at AO
  go_wp2_with fail
  refine(zMO (.num 2) w6 (HG.out.ext Ax.out) trivial rfl).mono ?_;rintro e w7 ⟨rfl,AL⟩;unfold zBQ;have AC:=yD (Ax.out.trans AL);have AQ:=yD (BB.out.ext AL);clear AL AO Az;have y0:w7.cell? ⟨g1,0,none⟩=some (.slice A L.length c):=AQ.out.cell 0
  go_wp2_with fail
  refine(zGL w7 A L.length c L rfl (HT.out.ext AC.out) AF.out AJ.out i (.inl HR.out)).mono ?_;rintro e w8 ⟨rfl,AA⟩;have AB:=yD (AC.out.trans AA);clear AA y0
  go_wp2_with fail
  refine(AP.out w8 AB.out).mono ?_;rintro e w9 ⟨rfl,AD⟩;have AE:=yD (AB.out.trans AD);clear AD
  go_wp2_with fail
  refine(VX w9 (HP.out.ext AE.out)).mono ?_;rintro e w' ⟨rfl,hx⟩
  go_wp2_with fail
  go_ret;exact⟨rfl,AE.out.trans hx⟩
 | true=>
  obtain⟨t1,x1,f,hL,AN,As⟩:=zSX HR.out
  have At:f.size≤199:=by have:=AG.out; omega
  have BC:f.wt≤80*f.size:=zJe (fun x hx=>(HK.out x hx).2) f 1 hL.2.1
  have Ag:Hid (f.print.length≤65536):=yD (by
   have h1:=zIj f AN.2.1 (fun j hj=>zEN AN.1.1 j hj) At;have h2:=zDH f
   omega)
  have HY:=yD (zIx w3 A L.length c L rfl (HT.out.ext AH.out) AF.out AJ.out HR.out (HP.out.ext AH.out) t1 x1 f hL AN (by omega) (by omega) (by have:=Ag.out; omega));have A0:Hid (∀W,Ext w3 W→Calls Tryz.prog 26 #[.slice A5 L.length c5] W (zG6 W f.print)):=yD fun W hx=>zM2 W A5 L.length c5 L rfl (Ab.out.ext hx) AF.out AJ.out Ap.out ((HP.out.ext AH.out).ext hx) An.out t1 x1 f hL AN (by omega) (by omega)
  have BD:Hid (∀j,j<L.length→∃(k p:Nat) (t:Bs) (x:Int) (f:Fo),VE L j (.cons k p t x f .nil)∧(Fo.cons k p t x f .nil).ok 0∧(Fo.cons k p t x f .nil).wt≤1000000∧(Fo.cons k p t x f .nil).size≤1000):=yD fun j hj=>by
   have BG:(Fo.one 1 0 t1 x1 f).size=L.length:=As;have BF:(Fo.one 1 0 t1 x1 f).wt≤80*(Fo.one 1 0 t1 x1 f).size:=zJe (fun x hx=>(HK.out x hx).2) _ 0 hL;obtain⟨k,p,t,x,f',g1,g2,g3,g4⟩:=zHD (Fo.one 1 0 t1 x1 f) 0 hL AN j (zT _) (by omega);exact⟨k,p,t,x,f',g1,g2,by have:=AG.out; omega,by have:=AG.out; omega⟩
  clear hL AN As At BC;generalize f.print=out at *
  go_wp2_with fail
  refine HY.out.mono ?_;rintro e w4 ⟨_,hy,AI⟩;obtain⟨b,k4,rfl,BE,Ar⟩:=hy Ag.out;have AU:=yD (AH.out.trans AI);have AM:=yD AI;have AT:=yD (AX.out.ext AI);have Ay:=yD Ar;clear AI y0 hy BE Ar AH AX HY
  go_wp2_with fail
  refine(A0.out w4 AM.out).mono ?_;rintro e w5 ⟨_,hy,AK⟩;obtain rfl:=hy Ag.out;have AV:=yD (AU.out.trans AK);have AS:=yD (AM.out.trans AK);have AZ:=yD (AT.out.ext AK);have A1:=yD (Ay.out.ext AK);clear AK hy AU AT Ay AM A0;have AO:=ZV (P:=Tryz.prog) (w:=w5) (A:=some ⟨b,0,none⟩) (l:=out) (n:=out.length) (c:=k4) Tryz.underlying22 Tryz.underlying5 Tryz.underlying9 rfl A1.out
  have A3:((yX out).toList != (yX out).toList)=false:=by simp
  generalize yX out=bo at *
  go_wp2_with fail
  refine(zQT w5).mono ?_;rintro e _ ⟨rfl,rfl⟩
  go_wp2_with fail
  refine(zPr w5).mono ?_;rintro e w7 ⟨rfl,AL⟩;unfold zBQ;have AC:=yD (AV.out.trans AL);have Am:=yD (AS.out.trans AL);have AQ:=yD (AZ.out.ext AL);clear AL AO A3 AV AS AZ A1;have y0:w7.cell? ⟨g1,0,none⟩=some (.slice A L.length c):=AQ.out.cell 0;have AP:Hid (∀W,Ext w W→Calls Tryz.prog 27 #[.iface 54 (.int .i64 2)] W fun e w'=>e=.returned (.int .i64 2)∧Ext W w'):=yD fun W hx=>zJE (.num 2) W (HG.out.ext hx) trivial
  by_cases h0:i<0
  ·have d0:decide (i<0)=true:=yP h0;have HE:=yD (zGL w7 A L.length c L rfl (HT.out.ext AC.out) AF.out AJ.out i (.inr (.inl h0)));clear h0
   go_wp2_with fail
   refine HE.out.mono ?_;rintro e w8 ⟨rfl,AA⟩;have AB:=yD (AC.out.trans AA);clear AA y0
   go_wp2_with fail
   refine(AP.out w8 AB.out).mono ?_;rintro e w9 ⟨rfl,AD⟩;have AE:=yD (AB.out.trans AD);clear AD
   go_wp2_with fail
   refine(VX w9 (HP.out.ext AE.out)).mono ?_;rintro e w' ⟨rfl,hx⟩
   go_wp2_with fail
   go_ret;exact⟨rfl,AE.out.trans hx⟩
  have d0:decide (i<0)=false:=yO h0
  by_cases h1:(L.length:Int)≤i
  ·have d1:decide (i ≥ (L.length:Int))=true:=yP h1;have d2:decide ((L.length:Int)≤i)=true:=d1;have HE:=yD (zGL w7 A L.length c L rfl (HT.out.ext AC.out) AF.out AJ.out i (.inr (.inr (.inl h1))));clear h0 h1
   go_wp2_with fail
   refine HE.out.mono ?_;rintro e w8 ⟨rfl,AA⟩;have AB:=yD (AC.out.trans AA);have y0:w8.cell? ⟨g1,0,none⟩=some (.slice A L.length c):=(AQ.out.ext AA).cell 0;clear AA
   go_wp2_with fail
   refine(AP.out w8 AB.out).mono ?_;rintro e w9 ⟨rfl,AD⟩;have AE:=yD (AB.out.trans AD);clear AD y0
   go_wp2_with fail
   refine(VX w9 (HP.out.ext AE.out)).mono ?_;rintro e w' ⟨rfl,hx⟩
   go_wp2_with fail
   go_ret;exact⟨rfl,AE.out.trans hx⟩
  obtain⟨j,rfl⟩:∃j:Nat,i=(j:Int):=⟨i.toNat,by omega⟩
  have AY:j<L.length:=by omega
  clear h0;have d1:decide ((j:Int) ≥ (L.length:Int))=false:=yO (by omega);have d2:decide ((L.length:Int)≤(j:Int))=false:=d1;have d3:decide (L.length≤j)=false:=yO (by omega)
  have q0:(j:Int)<(L.length:Int):=by omega
  obtain⟨m,HM⟩:∃m,Hid (L[j]?=some m):=⟨L[j],yD (yG AY)⟩
  have Ad:Hid (∀W,Ext w W→∃tb tf,A=some ⟨tb,tf,none⟩∧W.cell? ⟨tb,tf+j*5,none⟩=some (.int .u8 m.kind)):=yD fun W hx=>by
   obtain⟨tb,tf,hA,_,hc⟩:=(HT.out.ext hx).at_ j AY
   have BA:L[j]=m:=by have h:=HM.out; rw[yG AY] at h; exact Option.some.inj h
   rw[BA] at hc;exact⟨tb,tf,hA,hc 0 (by decide)⟩
  obtain⟨tb,tf,hA,_⟩:=Ad.out w7 AC.out
  by_cases hk:m.kind<20
  ·have d4:decide (m.kind<20)=true:=yP hk;have HE:=yD (zGL w7 A L.length c L rfl (HT.out.ext AC.out) AF.out AJ.out (j:Int) (.inr (.inr (.inr ⟨j,m,rfl,HM.out,hk⟩))));subst hA;clear h1 hk
   go_wp2_with fail
   refine HE.out.mono ?_;rintro e w8 ⟨rfl,AA⟩;have AB:=yD (AC.out.trans AA);have y0:w8.cell? ⟨g1,0,none⟩=some (.slice (some ⟨tb,tf,none⟩) L.length c):=(AQ.out.ext AA).cell 0;obtain⟨A7,A4,hA,v0⟩:=Ad.out w8 AB.out;injection hA with hA;injection hA with e1 e2;subst e1 e2;clear AA
   go_wp2_with fail
   refine(AP.out w8 AB.out).mono ?_;rintro e w9 ⟨rfl,AD⟩;have AE:=yD (AB.out.trans AD);clear AD y0 v0
   go_wp2_with fail
   refine(VX w9 (HP.out.ext AE.out)).mono ?_;rintro e w' ⟨rfl,hx⟩
   go_wp2_with fail
   go_ret;exact⟨rfl,AE.out.trans hx⟩
  have d4:decide (m.kind<20)=false:=yO hk;obtain⟨k,p,t,x,f',Aa,Ac,A9,A6⟩:=BD.out j AY;obtain⟨m',Aq,Av,_⟩:=Aa.1
  have Au:m'=m:=by have h:=HM.out; rw[Aq] at h; exact Option.some.inj h
  have AR:20≤k:=by rw[Au] at Av; omega
  have HE:=yD (zRx w7 A L.length c L rfl (HT.out.ext AC.out) AF.out AJ.out HR.out (HP.out.ext AC.out) j m HM.out (by omega) k p t x f' Aa Ac (by omega));obtain⟨_,_,_,Ao⟩:=zDi w7 L.length c5 A5 L (Ab.out.ext Am.out) (HP.out.ext AC.out) rfl (.cons k p t x f' .nil) j Aa Ac (by omega) (by omega) 0 (Nat.zero_lt_succ _) AR;have A8:Hid (∀w',Ext w7 w'→Calls Tryz.prog 29 #[.slice A5 L.length c5,.int .i64 (j:Int)] w' fun e A2=>e=.returned (.string (yX (YH k t x f'.txt f'.kinds)))∧Ext w' A2):=yD Ao;clear Ao Aa Ac A9 A6 Aq Av Au AR h1 hk;subst hA
  have BH:((yX (YH k t x f'.txt f'.kinds)).toList==(yX (YH k t x f'.txt f'.kinds)).toList)=true:=by simp
  generalize yX (YH k t x f'.txt f'.kinds)=tx at *
  go_wp2_with fail
  refine HE.out.mono ?_;rintro e w8 ⟨rfl,AA⟩;have AB:=yD (AC.out.trans AA);have Ae:=yD AA;have y0:w8.cell? ⟨g1,0,none⟩=some (.slice (some ⟨tb,tf,none⟩) L.length c):=(AQ.out.ext AA).cell 0;obtain⟨A7,A4,hA,v0⟩:=Ad.out w8 AB.out;injection hA with hA;injection hA with e1 e2;subst e1 e2;clear AA
  go_wp2_with fail
  refine(A8.out w8 Ae.out).mono ?_;rintro e w9 ⟨rfl,AD⟩;have AE:=yD (AB.out.trans AD);clear AD y0 v0
  go_wp2_with fail
  refine(VX w9 (HP.out.ext AE.out)).mono ?_;rintro e w' ⟨rfl,hx⟩
  go_wp2_with fail
  go_ret;exact⟨rfl,AE.out.trans hx⟩
end Go.Proofs.YtioffpjajhalaaaGreatDoor
namespace Go.Proofs.YtioffpjajhalaaaGreatDoor
open Go Go.RowKit Go.Deep Go.ChangeShapes Go.WideShapes

end Go.Proofs.YtioffpjajhalaaaGreatDoor
