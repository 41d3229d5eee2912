/- The statement of ParseKnown, whole: for every input that can be read the law returns true and leaves its arguments as they were. Out of the walk of the law and the contracts of all that it calls. No condition. -/
import Derived.Test.YtioffpjajhalaaaGreatDoorKaa
import Derived.Test.YtioffpjajhalaaaGreatDoorRows
import Derived.Test.YtioffpjajhalaaaGreatDoorTie
import Derived.Test.YtioffpjajhalaaaGreatDoorCards
import Derived.Test.YtioffpjajhalaaaGreatDoorKaf
import Derived.Test.YtioffpjajhalaaaGreatDoorKbp
import Derived.WalkKit
import Derived.ProofKit
import Derived.OpenShut
import Derived.ShutString
import Derived.ChangeOld
import Derived.Below
set_option linter.unusedVariables false
set_option linter.unusedSimpArgs false
set_option maxRecDepth 100000
set_option maxHeartbeats 16000000
namespace Go.Proofs.YtioffpjajhalaaaGreatDoor.parseKnown
open Go.ChangeShapes Go.WideShapes Go.ChangeAt Go.RowKit
open Go.ChangeMaps (open_string shut_string)
theorem own:ownKnob Tryz.prog.godebug=none:=by kernel_rfl
theorem lifted (os:Os)(started:os.Started)(H:Type)(enc:TypeId × Value→H) :
  ReturnsInHanded {} Tryz.checked os 3 .any (fun w args=>(Rows.parseKnownSpec.pre enc Tryz.prog Tryz.f3 [] false w args∧laidMetH Tryz.prog zHe w)∧sizedMet enc Tryz.prog Tryz.f3 (OpenSpec.ofChange Rows.parseKnownSpec) false w args) (Rows.parseKnownSpec.post enc Tryz.prog Tryz.f3 false true false false):=by
 refine returnsInHanded_of_change_and (C:=Tryz.checked) (X:=fun w _=>laidMetH Tryz.prog zHe w) (fun _ _ _ hh h=>h.of_heap hh) own started (by kernel_rfl) Tryz.func3
  (ChangeSpec.witness_at (enc:=enc) (C:=Tryz.checked) (os:=os) (X:=fun w _=>laidMetH Tryz.prog zHe w) false (zLi os) #[] 8 rfl (by kernel_rfl) (by kernel_rfl) (by kernel_rfl) (by kernel_rfl) (by kernel_rfl) (zKp os _)) ?_
 intro W base args ds gs before hval0 hW _ _ hL _;have hG:GT W:=zOH hL;have hval:∀(j:Nat) t v,Tryz.f3.params[j]?=some t→args[j]?=some v→Value.okWide Tryz.prog W .any base t v:=hval0;have hW':=hW;obtain⟨p,q,hA0,hV,rfl,hfz,hnd⟩:=hW;have hA:DataW.TrodAll enc Tryz.prog W 0 (fun _=>true) true Tryz.f3.params.toList args.toList ds p:=hA0;rw[Tryz.params3] at hA hval;obtain⟨rfl,rfl,rfl⟩:=trodAll_none hA;obtain⟨rfl,rfl⟩:=trodVars_none hV;clear hA0 hval0;refine(zJG W hG).mono fun e W' ⟨he,bel⟩=>?_;subst he;exact⟨_,rfl,_,_,_,[],_,[],hW',trodAll_mk1 (shut_bool Tryz.underlying4 _),trodAll_mk0,rfl,bel.frame _,fun h=>by cases h⟩
theorem over:Rows.parseKnownRow.holds Tryz.pinned (OpenSpec.ofChange Rows.parseKnownSpec):=
 OpenClaim.holds_of_wide 3 Tryz.f3 rfl rfl rfl rfl rfl rfl rfl ⟨rfl,rfl,rfl,rfl,rfl⟩ rfl rfl rfl rfl rfl (by kernel_rfl) Tryz.func3 (by kernel_rfl)
  (of_decide_eq_true (by kernel_rfl)) (by unfold Func.isWrapper; first | (rw[if_pos (by decide +kernel)]; kernel_rfl) | (rw[if_neg (by decide +kernel)]; exact⟨rfl,rfl⟩))
  (fun os started H enc _=>lifted os started H enc)
theorem proved:Rows.ParseKnownCardSaid:=
 Claim7.holds_tied_plain_at .later [] [.handle] true (true, "d75ebf5cbd8b9ff02b74a799e06e7447155754e088c2dd8a3ec9ff4b2b3bfe8c") true
  over (fun _ h=>by cases h) (by kernel_rfl) (fun _ h=>by cases h) parseKnown_row_tie rfl ⟨rfl,rfl⟩ (by kernel_rfl) rfl
  (fun f fn hf hfn=>by
   obtain rfl:f=3:=Option.some.inj ((show Tryz.prog.funcNamed "interlock/interlocklaw05.ParseKnown" = some 3 by kernel_rfl).symm.trans hf) |>.symm;obtain rfl:fn=Tryz.f3:=(Option.some.inj (Tryz.func3.symm.trans hfn)).symm
   exact⟨by kernel_rfl,fun j t ht=>by
    rw[Tryz.params3] at ht
    simp at ht⟩)
  (by kernel_rfl)
#print axioms proved
end Go.Proofs.YtioffpjajhalaaaGreatDoor.parseKnown
