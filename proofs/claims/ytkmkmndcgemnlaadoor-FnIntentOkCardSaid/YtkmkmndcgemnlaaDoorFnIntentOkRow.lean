/- FnIntentOk's row: the law holds for all arguments. No condition. -/
import Derived.Test.YtkmkmndcgemnlaaDoorFnIntentOk
import Derived.Test.YtkmkmndcgemnlaaDoorFrame
import Derived.Test.YtkmkmndcgemnlaaDoorTie
import Derived.Test.YtkmkmndcgemnlaaDoorCards
import Derived.Test.YtkmkmndcgemnlaaDoorTab
import Derived.LaidMore
import Derived.Stop.Joined
import Derived.SevenTiedAt
import Derived.Test.YtkmkmndcgemnlaaDoorEnv
import Derived.Lay
namespace Go.Proofs.YtkmkmndcgemnlaaDoor
set_option linter.unusedSimpArgs false
set_option linter.unnecessarySimpa false
open Go.ChangeShapes Go.WideShapes Go.ChangeAt Go.RowKit
open Go.ChangeMaps (open_string shut_string)
set_option linter.unusedVariables false

set_option maxRecDepth 100000 in
theorem fnIntentOk_door (os : Os) (args : Array Value) : laidMetH Tryd.prog Rows.fnIntentOkRow.laid ((World.laidAll Tryd.prog os Rows.fnIntentOkRow.laid).forCall (fun _ _ => 0) ⟨#[], args, []⟩).memory := by
  rw [MakeChecks.laidMetH_plain _ _ _ (by kernel_rfl)]
  exact laidMet_laidAll _ (by kernel_rfl) (by kernel_rfl)
theorem fnIntentOk_env {W : World} (h : laidMetH Tryd.prog Rows.fnIntentOkRow.laid W) (hsh : W.ShapedOpen Tryd.prog) : EnvM W := by
  rw [MakeChecks.laidMetH_plain _ _ _ (by kernel_rfl)] at h
  refine ⟨?_, maxLen_of hsh⟩
  first | exact tab_of_laid h | exact tab_of_laid h.tail | exact tab_of_laid h.tail.tail | exact tab_of_laid h.tail.tail.tail | exact tab_of_laid h.tail.tail.tail.tail | exact tab_of_laid h.tail.tail.tail.tail.tail | exact tab_of_laid h.tail.tail.tail.tail.tail.tail | exact tab_of_laid h.tail.tail.tail.tail.tail.tail.tail
set_option maxRecDepth 100000 in
theorem fnIntentOk_lifted (os : Os) (started : os.Started) (H : Type) (enc : TypeId × Value → H) :
    ReturnsInHanded {} Tryd.checked os 4 .any (fun w args => (Rows.fnIntentOkSpec.pre enc Tryd.prog Tryd.f4 Rows.fnIntentOkRow.domain false w args ∧ laidMetH Tryd.prog Rows.fnIntentOkRow.laid w) ∧ sizedMet enc Tryd.prog Tryd.f4 (OpenSpec.ofChange Rows.fnIntentOkSpec) false w args) (Rows.fnIntentOkSpec.post enc Tryd.prog Tryd.f4 false true false false) := by
  refine returns_both (C := Tryd.checked) (X := fun w _ => laidMetH Tryd.prog Rows.fnIntentOkRow.laid w) (fun _ _ _ hh h => h.of_heap hh) own_knob started (by kernel_rfl) Tryd.func4
    (ChangeSpec.witness_shaped (enc := enc) (C := Tryd.checked) (os := os) (X := fun w _ => laidMetH Tryd.prog Rows.fnIntentOkRow.laid w) false (World.laidAll Tryd.prog os Rows.fnIntentOkRow.laid) #[.slice none 0 0] 8 (World.laidAll_os _ _ _) (World.shaped_of_ZipB (by kernel_rfl) (by kernel_rfl)) (by kernel_rfl) (by kernel_rfl) (by kernel_rfl) (fnIntentOk_door os _)) ?_
  intro W base args ds gs before hval0 hW hcnd hL hsh
  have HT := fnIntentOk_env hL hsh
  have hval : ∀ (j : Nat) t v, Tryd.f4.params[j]? = some t → args[j]? = some v → Value.okWide Tryd.prog W .any base t v := hval0
  have hW' := hW
  obtain ⟨p, q, hA0, hV, rfl, hfz, hnd⟩ := hW
  have hA : DataW.TrodAll enc Tryd.prog W 0 (fun _ => true) true Tryd.f4.params.toList args.toList ds p := hA0
  rw [Tryd.params4] at hA hval
  obtain ⟨v0, vs0, d0, ds0, p0, q0, hargs, rfl, rfl, h0, r0⟩ := trodAll_cons hA
  obtain ⟨rfl, rfl, rfl⟩ := trodAll_nil r0
  obtain rfl : args = #[v0] := by cases args; simp_all
  obtain ⟨rfl, rfl⟩ := trodVars_none hV
  obtain ⟨a0, len0, cap0, rfl⟩ := okWide_slice Tryd.underlying33 (hval 0 33 v0 rfl rfl)
  have k0 := h0
  have lt0 : ∀ x ∈ p0, x.block < W.heap.size := by obtain ⟨m, hm⟩ := k0; exact DataW.trod_lt m _ _ _ hm
  obtain ⟨z0, w0⟩ : ∃ zs, BytesIn W a0 len0 cap0 zs := bytesIn_of Tryd.underlying33 Tryd.underlying5 (by kernel_rfl) h0
  clear hA0 hval0
  refine (fnIntentOk_walk a0 len0 cap0 z0 W HT w0).mono fun e W' ⟨he, bel⟩ => ?_
  subst he
  exact ⟨_, rfl, _, _, _, [], _, [], hW', trodAll_mk1 (shut_bool Tryd.underlying4 _), (trodAll_cons_mk (Below.trod laid_out (by kernel_rfl) (of_decide_eq_true (by kernel_rfl)) k0 bel lt0) trodAll_mk0), rfl, bel.frame _, fun h => by cases h⟩

theorem fnIntentOk_holds : Rows.FnIntentOkSaid :=
  OpenClaim.holds_of_wide 4 Tryd.f4 rfl rfl rfl rfl rfl rfl rfl ⟨rfl, rfl, rfl, rfl, rfl⟩ rfl rfl rfl rfl rfl (by kernel_rfl) Tryd.func4 (by kernel_rfl)
    (of_decide_eq_true (by kernel_rfl)) (by unfold Func.isWrapper; first | (rw [if_pos (by decide +kernel)]; kernel_rfl) | (rw [if_neg (by decide +kernel)]; exact ⟨rfl, rfl⟩))
    (fun os started H enc _ => fnIntentOk_lifted os started H enc)

set_option maxRecDepth 100000 in
theorem fnIntentOk_card : Rows.FnIntentOkCardSaid :=
  Claim7.holds_tied_plain_at .later [] Rows.fnIntentOkCard.laidKinds true Rows.fnIntentOkCard.stood.harness Rows.fnIntentOkCard.stood.looks
    fnIntentOk_holds (fun _ h => by cases h) (by kernel_rfl) (fun _ h => by cases h) fnIntentOk_row_tie rfl ⟨rfl, rfl⟩ (by kernel_rfl) rfl
    (fun f fn hf hfn => by
      obtain rfl : f = 4 := Option.some.inj ((show Tryd.prog.funcNamed Rows.fnIntentOkRow.func = some 4 by kernel_rfl).symm.trans hf) |>.symm
      obtain rfl : fn = Tryd.f4 := (Option.some.inj (Tryd.func4.symm.trans hfn)).symm
      exact ⟨by kernel_rfl, fun j t ht => by
        rw [Tryd.params4] at ht
        have hm : t ∈ [33] := by simpa using Array.mem_of_getElem? ht
        have hall : ([33].all fun u => !Tryd.prog.wantsStandIn u) = true := by kernel_rfl
        exact (show Tryd.prog.wantsStandIn t = false by simpa using List.all_eq_true.1 hall t hm)⟩)
    (by kernel_rfl)

end Go.Proofs.YtkmkmndcgemnlaaDoor
