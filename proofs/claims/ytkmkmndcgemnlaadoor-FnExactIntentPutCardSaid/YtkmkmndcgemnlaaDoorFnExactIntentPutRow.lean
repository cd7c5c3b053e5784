/- FnExactIntentPut's row: the law holds for all arguments. No condition. -/
import Derived.Test.YtkmkmndcgemnlaaDoorFnExactIntentPut
import Derived.Test.YtkmkmndcgemnlaaDoorFrame
import Derived.Test.YtkmkmndcgemnlaaDoorOpen
import Derived.Test.YtkmkmndcgemnlaaDoorTie
import Derived.Test.YtkmkmndcgemnlaaDoorCards
import Derived.Test.YtkmkmndcgemnlaaDoorTab
import Derived.LaidMore
import Derived.Stop.Joined
import Derived.SevenTiedAt
import Derived.Test.YtkmkmndcgemnlaaDoorEnv
import Derived.Lay
namespace Go.Proofs.YtkmkmndcgemnlaaDoor
set_option linter.unusedSimpArgs false
set_option linter.unnecessarySimpa false
open Go.ChangeShapes Go.WideShapes Go.ChangeAt Go.RowKit
open Go.ChangeMaps (open_string shut_string)
set_option linter.unusedVariables false

set_option maxRecDepth 100000 in
theorem fnExactIntentPut_door (os : Os) (args : Array Value) : laidMetH Tryd.prog Rows.fnExactIntentPutRow.laid ((World.laidAll Tryd.prog os Rows.fnExactIntentPutRow.laid).forCall (fun _ _ => 0) ⟨#[], args, []⟩).memory := by
  rw [MakeChecks.laidMetH_plain _ _ _ (by kernel_rfl)]
  exact laidMet_laidAll _ (by kernel_rfl) (by kernel_rfl)
theorem fnExactIntentPut_env {W : World} (h : laidMetH Tryd.prog Rows.fnExactIntentPutRow.laid W) (hsh : W.ShapedOpen Tryd.prog) : EnvM W := by
  rw [MakeChecks.laidMetH_plain _ _ _ (by kernel_rfl)] at h
  refine ⟨?_, maxLen_of hsh⟩
  first | exact tab_of_laid h | exact tab_of_laid h.tail | exact tab_of_laid h.tail.tail | exact tab_of_laid h.tail.tail.tail | exact tab_of_laid h.tail.tail.tail.tail | exact tab_of_laid h.tail.tail.tail.tail.tail | exact tab_of_laid h.tail.tail.tail.tail.tail.tail | exact tab_of_laid h.tail.tail.tail.tail.tail.tail.tail
set_option maxRecDepth 100000 in
theorem fnExactIntentPut_lifted (os : Os) (started : os.Started) (H : Type) (enc : TypeId × Value → H) :
    ReturnsInHanded {} Tryd.checked os 5 .any (fun w args => (Rows.fnExactIntentPutSpec.pre enc Tryd.prog Tryd.f5 Rows.fnExactIntentPutRow.domain false w args ∧ laidMetH Tryd.prog Rows.fnExactIntentPutRow.laid w) ∧ sizedMet enc Tryd.prog Tryd.f5 (OpenSpec.ofChange Rows.fnExactIntentPutSpec) false w args) (Rows.fnExactIntentPutSpec.post enc Tryd.prog Tryd.f5 false true false false) := by
  refine returns_both (C := Tryd.checked) (X := fun w _ => laidMetH Tryd.prog Rows.fnExactIntentPutRow.laid w) (fun _ _ _ hh h => h.of_heap hh) own_knob started (by kernel_rfl) Tryd.func5
    (ChangeSpec.witness_shaped (enc := enc) (C := Tryd.checked) (os := os) (X := fun w _ => laidMetH Tryd.prog Rows.fnExactIntentPutRow.laid w) false (World.laidAll Tryd.prog os Rows.fnExactIntentPutRow.laid) #[.agg #[.int .i64 0, .int .i64 0, .string ByteArray.empty, .int .i64 0, .string ByteArray.empty, .string ByteArray.empty, .int .i64 0, .string ByteArray.empty]] 8 (World.laidAll_os _ _ _) (World.shaped_of_ZipB (by kernel_rfl) (by kernel_rfl)) (by kernel_rfl) (by kernel_rfl) (by kernel_rfl) (fnExactIntentPut_door os _)) ?_
  intro W base args ds gs before hval0 hW hcnd hL hsh
  have HT := fnExactIntentPut_env hL hsh
  have hval : ∀ (j : Nat) t v, Tryd.f5.params[j]? = some t → args[j]? = some v → Value.okWide Tryd.prog W .any base t v := hval0
  have hW' := hW
  obtain ⟨p, q, hA0, hV, rfl, hfz, hnd⟩ := hW
  have hA : DataW.TrodAll enc Tryd.prog W 0 (fun _ => true) true Tryd.f5.params.toList args.toList ds p := hA0
  rw [Tryd.params5] at hA hval
  obtain ⟨v0, vs0, d0, ds0, p0, q0, hargs, rfl, rfl, h0, r0⟩ := trodAll_cons hA
  obtain ⟨rfl, rfl, rfl⟩ := trodAll_nil r0
  obtain rfl : args = #[v0] := by cases args; simp_all
  obtain ⟨rfl, rfl⟩ := trodVars_none hV
  have k0 := h0
  have lt0 : ∀ x ∈ p0, x.block < W.heap.size := by obtain ⟨m, hm⟩ := k0; exact DataW.trod_lt m _ _ _ hm
  obtain ⟨⟨l0⟩, rfl, _⟩ := okWide_struct Tryd.underlying25 (hval 0 25 v0 rfl rfl)
  obtain ⟨fu0, hf0⟩ := h0
  obtain ⟨x0, hx0, _⟩ := openIntent (cs := l0) (by simpa [Value.cells] using hf0)
  clear hA0 hval0
  refine (fnExactIntentPut_walk l0 x0 W HT hx0).mono fun e W' ⟨he, bel⟩ => ?_
  subst he
  exact ⟨_, rfl, _, _, _, [], _, [], hW', trodAll_mk1 (shut_bool Tryd.underlying4 _), (trodAll_cons_mk (Below.trod laid_out (by kernel_rfl) (of_decide_eq_true (by kernel_rfl)) k0 bel lt0) trodAll_mk0), rfl, bel.frame _, fun h => by cases h⟩

theorem fnExactIntentPut_holds : Rows.FnExactIntentPutSaid :=
  OpenClaim.holds_of_wide 5 Tryd.f5 rfl rfl rfl rfl rfl rfl rfl ⟨rfl, rfl, rfl, rfl, rfl⟩ rfl rfl rfl rfl rfl (by kernel_rfl) Tryd.func5 (by kernel_rfl)
    (of_decide_eq_true (by kernel_rfl)) (by unfold Func.isWrapper; first | (rw [if_pos (by decide +kernel)]; kernel_rfl) | (rw [if_neg (by decide +kernel)]; exact ⟨rfl, rfl⟩))
    (fun os started H enc _ => fnExactIntentPut_lifted os started H enc)

set_option maxRecDepth 100000 in
theorem fnExactIntentPut_card : Rows.FnExactIntentPutCardSaid :=
  Claim7.holds_tied_plain_at .later [] Rows.fnExactIntentPutCard.laidKinds true Rows.fnExactIntentPutCard.stood.harness Rows.fnExactIntentPutCard.stood.looks
    fnExactIntentPut_holds (fun _ h => by cases h) (by kernel_rfl) (fun _ h => by cases h) fnExactIntentPut_row_tie rfl ⟨rfl, rfl⟩ (by kernel_rfl) rfl
    (fun f fn hf hfn => by
      obtain rfl : f = 5 := Option.some.inj ((show Tryd.prog.funcNamed Rows.fnExactIntentPutRow.func = some 5 by kernel_rfl).symm.trans hf) |>.symm
      obtain rfl : fn = Tryd.f5 := (Option.some.inj (Tryd.func5.symm.trans hfn)).symm
      exact ⟨by kernel_rfl, fun j t ht => by
        rw [Tryd.params5] at ht
        have hm : t ∈ [25] := by simpa using Array.mem_of_getElem? ht
        have hall : ([25].all fun u => !Tryd.prog.wantsStandIn u) = true := by kernel_rfl
        exact (show Tryd.prog.wantsStandIn t = false by simpa using List.all_eq_true.1 hall t hm)⟩)
    (by kernel_rfl)

end Go.Proofs.YtkmkmndcgemnlaaDoor
