/- slices.Clone at a list of ints. No condition. -/
import Derived.Test.YtffieobjcipeoaaSpaceLaw
import Derived.Lib.SliceRun
import Derived.Maps.AppendAt
import Derived.Deep.DeepMust
import Derived.Deep.RegionWith
namespace Go.Proofs.Ytffieobjcipeoaa
set_option linter.unusedVariables false
set_option linter.unusedSimpArgs false
set_option linter.unnecessarySimpa false
open Go.RowKit

/-- What an append leaves, as a row of the call's own. -/
theorem ownS_of_row {w : World} {base n : Nat} {v : Value} {xs : List Int} (h : w.ownsRow base 3 1 v n (xs.map (Value.int .i64))) (hb : n ≤ 140737488355328) :
    ∃ A c S, v = .slice A n c ∧ OwnS w S A n c xs ∧ (∀ k ∈ S, base ≤ k) ∧ (S = [] → n = 0) := by
  obtain ⟨hl, h⟩ := h
  have hl' : xs.length = n := by simpa using hl
  rcases h with ⟨rfl, rfl⟩ | ⟨g, cap, cur, rfl, hg, hh, h1, h2, h3, h4⟩
  · exact ⟨none, 0, [], rfl, .inl ⟨rfl, rfl, by simpa using hl', fun _ => rfl⟩, by simp, fun _ => rfl⟩
  · refine ⟨some ⟨g, 0, none⟩, cap, [g], rfl, .inr ⟨g, rfl, rfl, hl', h1, ⟨h2, hb⟩, cur, hh, by simpa using h3, fun j hj => ?_⟩, by simpa using hg, by simp⟩
    have e1 : (cur.toList.take (n * 1))[j]? = cur[j]? := by
      rw [List.getElem?_take, if_pos (by omega)]
      simp
    rw [← e1, h4]
    simp [List.getD, show j < xs.length by omega]

theorem IntsAt.news {w : World} {A : Option Addr} {n : Nat} {xs : List Int} (h : IntsAt w A n xs) {ad : Addr} (hA : A = some ad) :
    ∀ j u, (xs.map (Value.int .i64))[j]? = some u → w.cell? (ad.add j) = some u := by
  intro j u hu
  have hj : j < n := by
    have := h.len
    have h2 : j < (xs.map (Value.int .i64)).length := by
      rcases Nat.lt_or_ge j (xs.map (Value.int .i64)).length with h | h
      · exact h
      · rw [List.getElem?_eq_none h] at hu; cases hu
    simp at h2
    omega
  obtain ⟨b, off, hA', _, hc⟩ := h.at_ hj
  rw [hA] at hA'
  injection hA' with e
  subst e
  have ea : (⟨b, off, none⟩ : Addr).add j = ⟨b, off + j, none⟩ := by
    unfold Addr.add
    split <;> simp_all
  rw [ea, hc j hj, ← hu]
  have hl := h.len
  simp [List.getD, show j < xs.length by omega]

set_option maxHeartbeats 1000000 in
theorem clone_any (A : Option Addr) (n c : Nat) (xs : List Int) (w : World) (hA : IntsAt w A n xs) (hn : n ≤ 17592186044416) (h0 : A = none → n = 0 ∧ c = 0) :
    Calls Try.prog 121 #[.slice A n c] w (NewInts w n xs) := by
  have hnil := Lib.run_eql_slice_nil (P := Try.prog) w 25 3 A n c 0 0 Try.underlying25
  obtain ⟨i0, hi, hz0, hz1, hz2⟩ := info_parts info_int
  rcases A with _ | ad
  · obtain ⟨rfl, rfl⟩ := h0 rfl
    have hx : xs = [] := List.eq_nil_of_length_eq_zero hA.len
    subst hx
    go_enter Try.func121, Try.ntmps121
    go_wp2_with fail
    go_ret
    exact ⟨none, 0, [], rfl, .inl ⟨rfl, rfl, rfl, fun _ => rfl⟩, by simp, Below.refl _ _⟩
  · have hown := World.ownsRow_made (base := w.heap.size) (e := 3) (size := 1) w #[] 0 (Nat.le_refl _) (Nat.zero_le _) rfl
    have hnews := hA.news rfl
    have hlen := hA.len
    have hl2 : (xs.map (Value.int .i64)).length = n * 1 := by simpa using hlen
    have hone := ints_oneCell .i64 xs
    have hA' := hA.below ((Below.refl _ _).alloc (Nat.le_refl _) (.cells #[] 3))
    have hnews' := hA'.news rfl
    have HL := Lib.hid hlen
    have HL2 := Lib.hid hl2
    have HN := Lib.hid hnews'
    have HO := Lib.hid hown
    clear hown hnews hnews' hlen hl2 hA'
    go_enter Try.func121, Try.ntmps121
    go_wp2_with (at_builtin; go_must (refine wpList_append_own _ rfl _ _ 25 rfl w.heap.size 3 i0 (.int .i64 0) 1 8 Try.underlying25 hi hz0 hz1 hz2 rfl (by decide) (.slice (some ⟨w.heap.size, 0, none⟩) 0 0) 0 [] rfl HO.out ad n c (xs.map (Value.int .i64)) rfl HL2.out HN.out hone (by unfold maxLen; omega) (by omega) (by simp) ?_); intro v' w1 hown' hgrow _)
    go_ret
    obtain ⟨A', c', S', rfl, ho, hS, _⟩ := ownS_of_row (n := n) (xs := xs) (by simpa using hown') (by omega)
    exact ⟨A', c', S', rfl, ho, hS, ((Below.refl _ _).alloc (Nat.le_refl _) _).grown hgrow (by simp) (by intro k hk; simp [Value.ownBlock] at hk; subst hk; exact Nat.le_refl _)⟩

set_option maxHeartbeats 1000000 in
theorem spClone_any (A B : Option Addr) (n c m d : Nat) (xs ys : List Int) (w : World) (hA : IntsAt w A n xs) (hB : IntsAt w B m ys) (hn : n ≤ 17592186044416) (hm : m ≤ 17592186044416)
    (hA0 : A = none → n = 0 ∧ c = 0) (hB0 : B = none → m = 0 ∧ d = 0) :
    Calls Try.prog 86 #[.agg #[.slice A n c, .slice B m d]] w (NewSpO w xs ys) := by
  obtain ⟨W0, hW⟩ : ∃ W0, W0 = (w.alloc (.cells #[.slice A n c, .slice B m d] 27)).alloc (.cells #[.slice none 0 0, .slice none 0 0] 27) := ⟨_, rfl⟩
  have hb0 : Below w.heap.size w W0 := by rw [hW]; exact ((Below.refl _ _).alloc (Nat.le_refl _) _).alloc (by simp) _
  have z0 : W0.heap.size = w.heap.size + 1 + 1 := by rw [hW]; simp
  have c0 : W0.cell? ⟨w.heap.size, 0, none⟩ = some (.slice A n c) := by rw [hW]; simp [go_sem]
  have c1 : W0.cell? ⟨w.heap.size, 1, none⟩ = some (.slice B m d) := by rw [hW]; simp [go_sem]
  have r0 : W0.cell? ⟨w.heap.size + 1, 0, none⟩ = some (.slice none 0 0) := by rw [hW]; simp [go_sem]
  have r1 : W0.cell? ⟨w.heap.size + 1, 1, none⟩ = some (.slice none 0 0) := by rw [hW]; simp [go_sem]
  have f0 : W0.frozen? ⟨w.heap.size + 1, 0, none⟩ = false := by rw [hW]; simp [go_sem]
  have f1 : W0.frozen? ⟨w.heap.size + 1, 1, none⟩ = false := by rw [hW]; simp [go_sem]
  have HW := Lib.hid hW
  have hA1 := hA.below hb0
  have hB1 := hB.below hb0
  have z1 : w.heap.size + 1 + 1 ≤ W0.heap.size := by omega
  have hk0 : Below W0.heap.size W0 W0 := Below.refl _ _
  have HZ := Lib.hid z0
  clear z0
  go_enter Try.func86, Try.ntmps86
  clear hW
  go_wp2_with fail
  rw [← HW.out]
  go_region_with (first
    | (go_at_call_of 121 A; refine (clone_any A n c xs _ ?_ hn hA0).mono ?_; (exact hA1.below (by repeat (first | assumption | refine Below.drew ?_))); rintro e w1 ⟨A1, d1, S1, rfl, o1, hS1, hb1⟩; have hk1 : Below W0.heap.size W0 w1 := Below.trans (by repeat (first | assumption | refine Below.drew ?_)) (hb1.mono (by first | exact Nat.le_refl _ | exact hk2.size)); have cc0 := (hk1.cell (p := ⟨w.heap.size, 1, none⟩) (by simp; omega)).trans c1; have rr0 := (hk1.cell (p := ⟨w.heap.size + 1, 0, none⟩) (by simp; omega)).trans r0; have rr1 := (hk1.cell (p := ⟨w.heap.size + 1, 1, none⟩) (by simp; omega)).trans r1; have ff0 := (hk1.frozen (p := ⟨w.heap.size + 1, 0, none⟩) (by simp; omega)).trans f0; have ff1 := (hk1.frozen (p := ⟨w.heap.size + 1, 1, none⟩) (by simp; omega)).trans f1)
    | (go_at_call_of 121 B; refine (clone_any B m d ys _ ?_ hm hB0).mono ?_; (exact hB1.below (by repeat (first | assumption | refine Below.drew ?_))); rintro e w2 ⟨A2, d2, S2, rfl, o2, hS2, hb2⟩; have hk2 : Below W0.heap.size W0 w2 := Below.trans (by repeat (first | assumption | refine Below.drew ?_)) (hb2.mono (by first | exact Nat.le_refl _ | exact hk1.size)); have cd0 := (hk2.cell (p := ⟨w.heap.size, 0, none⟩) (by simp; omega)).trans c0; have rs0 := (hk2.cell (p := ⟨w.heap.size + 1, 0, none⟩) (by simp; omega)).trans r0; have rs1 := (hk2.cell (p := ⟨w.heap.size + 1, 1, none⟩) (by simp; omega)).trans r1; have fs0 := (hk2.frozen (p := ⟨w.heap.size + 1, 0, none⟩) (by simp; omega)).trans f0; have fs1 := (hk2.frozen (p := ⟨w.heap.size + 1, 1, none⟩) (by simp; omega)).trans f1))
  all_goals
    go_wp2_with fail
    have z2 := hk2.size
    have l1 := o1.lt
    have z3 := HZ.out
    have hs1 : ∀ k ∈ S1, W0.heap.size ≤ k := hS1
    have hs2 : ∀ k ∈ S2, w1.heap.size ≤ k := hS2
    have o1b := o1.below hb2
    refine bodyPost_ret (v := .agg #[.slice A1 n d1, .slice A2 m d2]) (by simp [results, Try.results86, go_sem, rs0, rs1, fs0, fs1]) rfl ?_
    refine ⟨_, _, _, _, _, _, S1 ++ S2, rfl, SpOwn.keep ⟨S1, S2, rfl, o1b, o2, fun k h1 h2 => ?_⟩ fun k hk => ?_, fun k hk => ?_, ?_⟩
    · have a1 := l1 k h1
      have a2 := hs2 k h2
      omega
    · have : w.heap.size + 1 < k := by
        rcases List.mem_append.1 hk with h | h
        · have := hs1 k h; omega
        · have := hs2 k h; have := hk1.size; omega
      simp [World.setCell, Array.getElem?_modify]
      repeat rw [if_neg (by omega)]
    · rcases List.mem_append.1 hk with h | h
      · have := hs1 k h; omega
      · have := hs2 k h; have := hk1.size; omega
    · exact ((hb0.trans (hk2.mono hb0.size)).setCell (by simp <;> omega) _).setCell (by simp <;> omega) _
end Go.Proofs.Ytffieobjcipeoaa
