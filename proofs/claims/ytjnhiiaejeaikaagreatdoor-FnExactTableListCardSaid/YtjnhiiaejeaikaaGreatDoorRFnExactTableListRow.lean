/- FnExactTableList's row: the law holds for all arguments. No condition. -/
import Derived.Test.YtjnhiiaejeaikaaGreatDoorRFnExactTableList
import Derived.Test.YtjnhiiaejeaikaaGreatDoorRTableOk
import Derived.Test.YtjnhiiaejeaikaaGreatDoorROpen
import Derived.Test.YtjnhiiaejeaikaaGreatDoorTie
import Derived.Test.YtjnhiiaejeaikaaGreatDoorCards
import Derived.Test.YtjnhiiaejeaikaaGreatDoorRNum
import Derived.LaidMore
import Derived.Stop.Joined
import Derived.SevenTiedAt
import Derived.Lay
set_option linter.unnecessarySimpa false
set_option linter.unusedSimpArgs false
set_option linter.unusedVariables false
namespace Go.Proofs.YtjnhiiaejeaikaaGreatDoor
open Go.ChangeShapes Go.WideShapes Go.ChangeAt Go.RowKit
open Go.ChangeMaps (open_string shut_string)
set_option maxRecDepth 100000 in
theorem fnExactTableList_door (os : Os) (args : Array Value) : laidMetH Tryz.prog Rows.fnExactTableListRow.laid ((World.laidAll Tryz.prog os Rows.fnExactTableListRow.laid).forCall (fun _ _ => 0) ⟨#[], args, []⟩).memory := by
 rw [MakeChecks.laidMetH_plain _ _ _ (by kernel_rfl)]
 exact laidMet_laidAll _ (by kernel_rfl) (by kernel_rfl)
theorem fnExactTableList_env {W : World} (h : laidMetH Tryz.prog Rows.fnExactTableListRow.laid W) (hsh : W.ShapedOpen Tryz.prog) : Env W := by
 rw [MakeChecks.laidMetH_plain _ _ _ (by kernel_rfl)] at h
 refine ⟨?_, ?_, maxLen_of hsh⟩
 · first | exact tab_of_laid h | exact tab_of_laid h.tail | exact tab_of_laid h.tail.tail | exact tab_of_laid h.tail.tail.tail | exact tab_of_laid h.tail.tail.tail.tail | exact tab_of_laid h.tail.tail.tail.tail.tail | exact tab_of_laid h.tail.tail.tail.tail.tail.tail | exact tab_of_laid h.tail.tail.tail.tail.tail.tail.tail
 first | exact errSyntax_of h | exact errSyntax_of h.tail | exact errSyntax_of h.tail.tail | exact errSyntax_of h.tail.tail.tail | exact errSyntax_of h.tail.tail.tail.tail | exact errSyntax_of h.tail.tail.tail.tail.tail | exact errSyntax_of h.tail.tail.tail.tail.tail.tail | exact errSyntax_of h.tail.tail.tail.tail.tail.tail.tail
set_option maxRecDepth 100000 in
theorem fnExactTableList_lifted (os : Os) (started : os.Started) (H : Type) (enc : TypeId × Value → H) :
 ReturnsInHanded {} Tryz.checked os 3 .any (fun w args => (Rows.fnExactTableListSpec.pre enc Tryz.prog Tryz.f3 Rows.fnExactTableListRow.domain false w args ∧ laidMetH Tryz.prog Rows.fnExactTableListRow.laid w) ∧ sizedMet enc Tryz.prog Tryz.f3 (OpenSpec.ofChange Rows.fnExactTableListSpec) false w args) (Rows.fnExactTableListSpec.post enc Tryz.prog Tryz.f3 false true false false) := by
 refine returns_both (C := Tryz.checked) (X := fun w _ => laidMetH Tryz.prog Rows.fnExactTableListRow.laid w) (fun _ _ _ hh h => h.of_heap hh) own_knob started (by kernel_rfl) Tryz.func3
  (ChangeSpec.witness_shaped (enc := enc) (C := Tryz.checked) (os := os) (X := fun w _ => laidMetH Tryz.prog Rows.fnExactTableListRow.laid w) false (World.laidAll Tryz.prog os Rows.fnExactTableListRow.laid) #[.agg #[.slice none 0 0, .slice none 0 0, .slice none 0 0, .int .i64 0, .slice none 0 0, .int .i64 0, .slice none 0 0, .bool false], .agg #[.int .i64 0, .int .i64 0, .int .i64 0, .int .i64 0, .int .i64 0, .int .i64 0, .int .i64 0]] 8 (World.laidAll_os _ _ _) (World.shaped_of_ZipB (by kernel_rfl) (by kernel_rfl)) (by kernel_rfl) (by kernel_rfl) (by kernel_rfl) (fnExactTableList_door os _)) ?_
 intro W base args ds gs before hval0 hW hcnd hL hsh
 have HT := fnExactTableList_env hL hsh
 have hval : ∀ (j : Nat) t v, Tryz.f3.params[j]? = some t → args[j]? = some v → Value.okWide Tryz.prog W .any base t v := hval0
 have hW' := hW
 obtain ⟨p, q, hA0, hV, rfl, hfz, hnd⟩ := hW
 have hA : DataW.TrodAll enc Tryz.prog W 0 (fun _ => true) true Tryz.f3.params.toList args.toList ds p := hA0
 rw [Tryz.params3] at hA hval
 obtain ⟨v0, vs0, d0, ds0, p0, q0, hargs, rfl, rfl, h0, r0⟩ := trodAll_cons hA
 obtain ⟨v1, vs1, d1, ds1, p1, q1, rfl, rfl, rfl, h1, r1⟩ := trodAll_cons r0
 obtain ⟨rfl, rfl, rfl⟩ := trodAll_nil r1
 obtain rfl : args = #[v0, v1] := by cases args; simp_all
 obtain ⟨rfl, rfl⟩ := trodVars_none hV
 have k0 := h0
 have lt0 : ∀ x ∈ p0, x.block < W.heap.size := by obtain ⟨m, hm⟩ := k0; exact DataW.trod_lt m _ _ _ hm
 obtain ⟨⟨l0⟩, rfl, _⟩ := okWide_struct Tryz.underlying28 (hval 0 28 v0 rfl rfl)
 obtain ⟨fu0, hf0⟩ := h0
 obtain ⟨x0, hx0, _⟩ := openStore (cs := l0) (by simpa [Value.cells] using hf0)
 have k1 := h1
 have lt1 : ∀ x ∈ p1, x.block < W.heap.size := by obtain ⟨m, hm⟩ := k1; exact DataW.trod_lt m _ _ _ hm
 obtain ⟨⟨l1⟩, rfl, _⟩ := okWide_struct Tryz.underlying32 (hval 1 32 v1 rfl rfl)
 obtain ⟨fu1, hf1⟩ := h1
 obtain ⟨x1, hx1, _⟩ := openTree (cs := l1) (by simpa [Value.cells] using hf1)
 clear hA0 hval0
 refine (fnExactTableList_walk l0 x0 l1 x1 W HT hx0 hx1).mono fun e W' ⟨he, bel⟩ => ?_
 subst he
 exact ⟨_, rfl, _, _, _, [], _, [], hW', trodAll_mk1 (shut_bool Tryz.underlying4 _), (trodAll_cons_mk (Below.trod laid_out (by kernel_rfl) (of_decide_eq_true (by kernel_rfl)) k0 bel lt0) (trodAll_cons_mk (Below.trod laid_out (by kernel_rfl) (of_decide_eq_true (by kernel_rfl)) k1 bel lt1) trodAll_mk0)), rfl, bel.frame _, fun h => by cases h⟩
theorem fnExactTableList_holds : Rows.FnExactTableListSaid :=
 OpenClaim.holds_of_wide 3 Tryz.f3 rfl rfl rfl rfl rfl rfl rfl ⟨rfl, rfl, rfl, rfl, rfl⟩ rfl rfl rfl rfl rfl (by kernel_rfl) Tryz.func3 (by kernel_rfl)
  (of_decide_eq_true (by kernel_rfl)) (by unfold Func.isWrapper; first | (rw [if_pos (by decide +kernel)]; kernel_rfl) | (rw [if_neg (by decide +kernel)]; exact ⟨rfl, rfl⟩))
  (fun os started H enc _ => fnExactTableList_lifted os started H enc)
set_option maxRecDepth 100000 in
theorem fnExactTableList_card : Rows.FnExactTableListCardSaid :=
 Claim7.holds_tied_plain_at .later [] Rows.fnExactTableListCard.laidKinds true Rows.fnExactTableListCard.stood.harness Rows.fnExactTableListCard.stood.looks
  fnExactTableList_holds (fun _ h => by cases h) (by kernel_rfl) (fun _ h => by cases h) fnExactTableList_row_tie rfl ⟨rfl, rfl⟩ (by kernel_rfl) rfl
  (fun f fn hf hfn => by
    obtain rfl : f = 3 := Option.some.inj ((show Tryz.prog.funcNamed Rows.fnExactTableListRow.func = some 3 by kernel_rfl).symm.trans hf) |>.symm
    obtain rfl : fn = Tryz.f3 := (Option.some.inj (Tryz.func3.symm.trans hfn)).symm
    exact ⟨by kernel_rfl, fun j t ht => by
     rw [Tryz.params3] at ht
     have hm : t ∈ [28, 32] := by simpa using Array.mem_of_getElem? ht
     have hall : ([28, 32].all fun u => !Tryz.prog.wantsStandIn u) = true := by kernel_rfl
     exact (show Tryz.prog.wantsStandIn t = false by simpa using List.all_eq_true.1 hall t hm)⟩)
  (by kernel_rfl)
end Go.Proofs.YtjnhiiaejeaikaaGreatDoor
