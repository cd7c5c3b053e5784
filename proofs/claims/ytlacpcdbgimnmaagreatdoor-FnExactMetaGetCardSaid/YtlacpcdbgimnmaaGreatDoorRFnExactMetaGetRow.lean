/- FnExactMetaGet's row: the law holds for all arguments. No condition. -/
import Derived.Test.YtlacpcdbgimnmaaGreatDoorRFnExactMetaGet
import Derived.Test.YtlacpcdbgimnmaaGreatDoorRMarkN
import Derived.Test.YtlacpcdbgimnmaaGreatDoorTie
import Derived.Test.YtlacpcdbgimnmaaGreatDoorCards
import Derived.Test.YtlacpcdbgimnmaaGreatDoorRNum
import Derived.LaidMore
import Derived.Stop.Joined
import Derived.SevenTiedAt
import Derived.Lay
set_option linter.unnecessarySimpa false
set_option linter.unusedSimpArgs false
set_option linter.unusedVariables false
namespace Go.Proofs.YtlacpcdbgimnmaaGreatDoor
open Go.ChangeShapes Go.WideShapes Go.ChangeAt Go.RowKit
open Go.ChangeMaps (open_string shut_string)
set_option maxRecDepth 100000 in
theorem fnExactMetaGet_door (os : Os) (args : Array Value) : laidMetH Tryz.prog Rows.fnExactMetaGetRow.laid ((World.laidAll Tryz.prog os Rows.fnExactMetaGetRow.laid).forCall (fun _ _ => 0) ⟨#[], args, []⟩).memory := by
 rw [MakeChecks.laidMetH_plain _ _ _ (by kernel_rfl)]
 exact laidMet_laidAll _ (by kernel_rfl) (by kernel_rfl)
theorem fnExactMetaGet_env {W : World} (h : laidMetH Tryz.prog Rows.fnExactMetaGetRow.laid W) (hsh : W.ShapedOpen Tryz.prog) : Env W := by
 rw [MakeChecks.laidMetH_plain _ _ _ (by kernel_rfl)] at h
 refine ⟨?_, ?_, maxLen_of hsh⟩
 · first | exact tab_of_laid h | exact tab_of_laid h.tail | exact tab_of_laid h.tail.tail | exact tab_of_laid h.tail.tail.tail | exact tab_of_laid h.tail.tail.tail.tail | exact tab_of_laid h.tail.tail.tail.tail.tail | exact tab_of_laid h.tail.tail.tail.tail.tail.tail | exact tab_of_laid h.tail.tail.tail.tail.tail.tail.tail
 first | exact errSyntax_of h | exact errSyntax_of h.tail | exact errSyntax_of h.tail.tail | exact errSyntax_of h.tail.tail.tail | exact errSyntax_of h.tail.tail.tail.tail | exact errSyntax_of h.tail.tail.tail.tail.tail | exact errSyntax_of h.tail.tail.tail.tail.tail.tail | exact errSyntax_of h.tail.tail.tail.tail.tail.tail.tail
set_option maxRecDepth 100000 in
theorem fnExactMetaGet_lifted (os : Os) (started : os.Started) (H : Type) (enc : TypeId × Value → H) :
 ReturnsInHanded {} Tryz.checked os 3 .any (fun w args => (Rows.fnExactMetaGetSpec.pre enc Tryz.prog Tryz.f3 Rows.fnExactMetaGetRow.domain false w args ∧ laidMetH Tryz.prog Rows.fnExactMetaGetRow.laid w) ∧ sizedMet enc Tryz.prog Tryz.f3 (OpenSpec.ofChange Rows.fnExactMetaGetSpec) false w args) (Rows.fnExactMetaGetSpec.post enc Tryz.prog Tryz.f3 false true false false) := by
 refine returns_both (C := Tryz.checked) (X := fun w _ => laidMetH Tryz.prog Rows.fnExactMetaGetRow.laid w) (fun _ _ _ hh h => h.of_heap hh) own_knob started (by kernel_rfl) Tryz.func3
  (ChangeSpec.witness_shaped (enc := enc) (C := Tryz.checked) (os := os) (X := fun w _ => laidMetH Tryz.prog Rows.fnExactMetaGetRow.laid w) false (World.laidAll Tryz.prog os Rows.fnExactMetaGetRow.laid) #[.string ByteArray.empty] 8 (World.laidAll_os _ _ _) (World.shaped_of_ZipB (by kernel_rfl) (by kernel_rfl)) (by kernel_rfl) (by kernel_rfl) (by kernel_rfl) (fnExactMetaGet_door os _)) ?_
 intro W base args ds gs before hval0 hW hcnd hL hsh
 have HT := fnExactMetaGet_env hL hsh
 have hval : ∀ (j : Nat) t v, Tryz.f3.params[j]? = some t → args[j]? = some v → Value.okWide Tryz.prog W .any base t v := hval0
 have hW' := hW
 obtain ⟨p, q, hA0, hV, rfl, hfz, hnd⟩ := hW
 have hA : DataW.TrodAll enc Tryz.prog W 0 (fun _ => true) true Tryz.f3.params.toList args.toList ds p := hA0
 rw [Tryz.params3] at hA hval
 obtain ⟨v0, vs0, d0, ds0, p0, q0, hargs, rfl, rfl, h0, r0⟩ := trodAll_cons hA
 obtain ⟨rfl, rfl, rfl⟩ := trodAll_nil r0
 obtain rfl : args = #[v0] := by cases args; simp_all
 obtain ⟨rfl, rfl⟩ := trodVars_none hV
 obtain ⟨s0, rfl, rfl, rfl, w0⟩ := open_string Tryz.underlying9 (hval 0 9 v0 rfl rfl) h0
 clear hA0 hval0
 refine (fnExactMetaGet_walk s0 W HT w0).mono fun e W' ⟨he, bel⟩ => ?_
 subst he
 exact ⟨_, rfl, _, _, _, [], _, [], hW', trodAll_mk1 (shut_bool Tryz.underlying4 _), (trodAll_cons_mk (shut_string Tryz.underlying9 w0) trodAll_mk0), rfl, bel.frame _, fun h => by cases h⟩
theorem fnExactMetaGet_holds : Rows.FnExactMetaGetSaid :=
 OpenClaim.holds_of_wide 3 Tryz.f3 rfl rfl rfl rfl rfl rfl rfl ⟨rfl, rfl, rfl, rfl, rfl⟩ rfl rfl rfl rfl rfl (by kernel_rfl) Tryz.func3 (by kernel_rfl)
  (of_decide_eq_true (by kernel_rfl)) (by unfold Func.isWrapper; first | (rw [if_pos (by decide +kernel)]; kernel_rfl) | (rw [if_neg (by decide +kernel)]; exact ⟨rfl, rfl⟩))
  (fun os started H enc _ => fnExactMetaGet_lifted os started H enc)
set_option maxRecDepth 100000 in
theorem fnExactMetaGet_card : Rows.FnExactMetaGetCardSaid :=
 Claim7.holds_tied_plain_at .later [] Rows.fnExactMetaGetCard.laidKinds true Rows.fnExactMetaGetCard.stood.harness Rows.fnExactMetaGetCard.stood.looks
  fnExactMetaGet_holds (fun _ h => by cases h) (by kernel_rfl) (fun _ h => by cases h) fnExactMetaGet_row_tie rfl ⟨rfl, rfl⟩ (by kernel_rfl) rfl
  (fun f fn hf hfn => by
    obtain rfl : f = 3 := Option.some.inj ((show Tryz.prog.funcNamed Rows.fnExactMetaGetRow.func = some 3 by kernel_rfl).symm.trans hf) |>.symm
    obtain rfl : fn = Tryz.f3 := (Option.some.inj (Tryz.func3.symm.trans hfn)).symm
    exact ⟨by kernel_rfl, fun j t ht => by
     rw [Tryz.params3] at ht
     have hm : t ∈ [9] := by simpa using Array.mem_of_getElem? ht
     have hall : ([9].all fun u => !Tryz.prog.wantsStandIn u) = true := by kernel_rfl
     exact (show Tryz.prog.wantsStandIn t = false by simpa using List.all_eq_true.1 hall t hm)⟩)
  (by kernel_rfl)
end Go.Proofs.YtlacpcdbgimnmaaGreatDoor
