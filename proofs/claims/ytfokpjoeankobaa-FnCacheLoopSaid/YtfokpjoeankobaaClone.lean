/- slices.Clone at a list of ints. No condition. -/
import Derived.Test.YtfokpjoeankobaaSpaceLaw
import Derived.Lib.SliceRun
import Derived.Maps.AppendAt
import Derived.Deep.DeepMust
import Derived.Deep.RegionWith
namespace Go.Proofs.Ytfokpjoeankobaa
set_option linter.unusedVariables false
set_option linter.unusedSimpArgs false
set_option linter.unnecessarySimpa false
open Go.RowKit

/-- What an append leaves, as a row of the call's own. -/
theorem ownS_of_row {w : World} {base n : Nat} {v : Value} {xs : List Int} (h : w.ownsRow base 3 1 v n (xs.map (Value.int .i64))) (hb : n ≤ 140737488355328) :
    ∃ A c S, v = .slice A n c ∧ OwnS w S A n c xs ∧ (∀ k ∈ S, base ≤ k) ∧ (S = [] → n = 0) := by
  obtain ⟨hl, h⟩ := h
  have hl' : xs.length = n := by simpa using hl
  rcases h with ⟨rfl, rfl⟩ | ⟨g, cap, cur, rfl, hg, hh, h1, h2, h3, h4⟩
  · exact ⟨none, 0, [], rfl, .inl ⟨rfl, rfl, by simpa using hl', fun _ => rfl⟩, by simp, fun _ => rfl⟩
  · refine ⟨some ⟨g, 0, none⟩, cap, [g], rfl, .inr ⟨g, rfl, rfl, hl', h1, ⟨h2, hb⟩, cur, hh, by simpa using h3, fun j hj => ?_⟩, by simpa using hg, by simp⟩
    have e1 : (cur.toList.take (n * 1))[j]? = cur[j]? := by
      rw [List.getElem?_take, if_pos (by omega)]
      simp
    rw [← e1, h4]
    simp [List.getD, show j < xs.length by omega]

theorem IntsAt.news {w : World} {A : Option Addr} {n : Nat} {xs : List Int} (h : IntsAt w A n xs) {ad : Addr} (hA : A = some ad) :
    ∀ j u, (xs.map (Value.int .i64))[j]? = some u → w.cell? (ad.add j) = some u := by
  intro j u hu
  have hj : j < n := by
    have := h.len
    have h2 : j < (xs.map (Value.int .i64)).length := by
      rcases Nat.lt_or_ge j (xs.map (Value.int .i64)).length with h | h
      · exact h
      · rw [List.getElem?_eq_none h] at hu; cases hu
    simp at h2
    omega
  obtain ⟨b, off, hA', _, hc⟩ := h.at_ hj
  rw [hA] at hA'
  injection hA' with e
  subst e
  have ea : (⟨b, off, none⟩ : Addr).add j = ⟨b, off + j, none⟩ := by
    unfold Addr.add
    split <;> simp_all
  rw [ea, hc j hj, ← hu]
  have hl := h.len
  simp [List.getD, show j < xs.length by omega]

set_option maxHeartbeats 1000000 in
theorem clone_any (A : Option Addr) (n c : Nat) (xs : List Int) (w : World) (hA : IntsAt w A n xs) (hn : n ≤ 17592186044416) (h0 : A = none → n = 0 ∧ c = 0) :
    Calls Try.prog 37 #[.slice A n c] w (NewInts w n xs) := by
  have hnil := Lib.run_eql_slice_nil (P := Try.prog) w 24 3 A n c 0 0 Try.underlying24
  obtain ⟨i0, hi, hz0, hz1, hz2⟩ := info_parts info_int
  rcases A with _ | ad
  · obtain ⟨rfl, rfl⟩ := h0 rfl
    have hx : xs = [] := List.eq_nil_of_length_eq_zero hA.len
    subst hx
    go_enter Try.func37, Try.ntmps37
    go_wp2_with fail
    go_ret
    exact ⟨none, 0, [], rfl, .inl ⟨rfl, rfl, rfl, fun _ => rfl⟩, by simp, Below.refl _ _⟩
  · have hown := World.ownsRow_made (base := w.heap.size) (e := 3) (size := 1) w #[] 0 (Nat.le_refl _) (Nat.zero_le _) rfl
    have hnews := hA.news rfl
    have hlen := hA.len
    have hl2 : (xs.map (Value.int .i64)).length = n * 1 := by simpa using hlen
    have hone := ints_oneCell .i64 xs
    have hA' := hA.below ((Below.refl _ _).alloc (Nat.le_refl _) (.cells #[] 3))
    have hnews' := hA'.news rfl
    have HL := Lib.hid hlen
    have HL2 := Lib.hid hl2
    have HN := Lib.hid hnews'
    have HO := Lib.hid hown
    clear hown hnews hnews' hlen hl2 hA'
    go_enter Try.func37, Try.ntmps37
    go_wp2_with (at_builtin; go_must (refine wpList_append_own _ rfl _ _ 24 rfl w.heap.size 3 i0 (.int .i64 0) 1 8 Try.underlying24 hi hz0 hz1 hz2 rfl (by decide) (.slice (some ⟨w.heap.size, 0, none⟩) 0 0) 0 [] rfl HO.out ad n c (xs.map (Value.int .i64)) rfl HL2.out HN.out hone (by unfold maxLen; omega) (by omega) (by simp) ?_); intro v' w1 hown' hgrow _)
    go_ret
    obtain ⟨A', c', S', rfl, ho, hS, _⟩ := ownS_of_row (n := n) (xs := xs) (by simpa using hown') (by omega)
    exact ⟨A', c', S', rfl, ho, hS, ((Below.refl _ _).alloc (Nat.le_refl _) _).grown hgrow (by simp) (by intro k hk; simp [Value.ownBlock] at hk; subst hk; exact Nat.le_refl _)⟩

end Go.Proofs.Ytfokpjoeankobaa
