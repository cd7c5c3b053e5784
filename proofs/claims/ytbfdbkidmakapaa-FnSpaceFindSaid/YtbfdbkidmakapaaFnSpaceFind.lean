/- FnSpaceFind: the walk. No condition. -/
import Derived.Test.YtbfdbkidmakapaaDrawSpaceFind
import Derived.Test.YtbfdbkidmakapaaSpaceFind
import Derived.Test.YtbfdbkidmakapaaSpPlain
import Derived.Test.YtbfdbkidmakapaaTake
namespace Go.Proofs.Ytbfdbkidmakapaa
set_option linter.unusedVariables false
set_option linter.unusedSimpArgs false
set_option linter.unnecessarySimpa false
open Go.RowKit

theorem find_law {xs ys but : List Int} {f r : Int} (h : spFind xs ys f but = r) (h0 : 0 ≤ r) : ∃ a : Nat, r = (a : Int) ∧ 8 ≤ a ∧ a < 64 ∧ SpOk xs ys ∧ xs.getD a 0 = 0 ∧ hasI but a = false ∧
    (∀ i : Nat, 8 ≤ i → f ≤ i → i < a → (decide (0 < xs.getD i 0) || hasI but i) = true) ∧ takeOk xs ys a 900 = true := by
  unfold spFind at h
  cases hok : spOk xs ys with
  | false => rw [hok] at h; simp at h; omega
  | true =>
    rw [if_pos hok] at h
    have hs := spOk_iff.1 hok
    have hf8 : 8 ≤ fromOf f ∧ fromOf f ≤ 63 ∧ (f ≤ 63 → fromOf f = max f 8) := by
      unfold fromOf
      split
      · rename_i hi; unfold inB at hi; simp at hi; omega
      · rename_i hi; unfold inB at hi; simp at hi; omega
    unfold findFrom at h
    split at h
    · rename_i k hk
      rw [List.find?_range_eq_some] at hk
      obtain ⟨hg, hk56, hp⟩ := hk
      have hk56 : k < 56 := by simpa using hk56
      obtain ⟨b1, b2, b3⟩ := row_bd k hf8.1
      unfold goodB at hg
      simp only [Bool.and_eq_true, decide_eq_true_eq, Bool.not_eq_true'] at hg
      have hrow := hs.2.2 _ b2
      unfold rowOk at hrow
      refine ⟨_, h.symm, b1, b2, hs, hg.1, hg.2, fun i h8 hfi hia => ?_, ?_⟩
      · have hf63 : f ≤ 63 := by omega
        have hff := hf8.2.2 hf63
        obtain ⟨j, hj, hji⟩ : ∃ j, j < k ∧ rowAt (fromOf f) j = i := by
          refine ⟨(i - fromOf f).toNat, ?_, ?_⟩
          · unfold rowAt at hia
            omega
          · unfold rowAt
            omega
        have := hp j hj
        rw [hji] at this
        unfold goodB at this
        have hri := hs.2.2 i (by omega)
        unfold rowOk at hri
        cases hh : hasI but (i : Int) with
        | true => simp
        | false =>
          rw [hh] at this
          simp at this
          have : 0 < xs.getD i 0 := by have e : xs.getD i 0 = xs[i]?.getD 0 := by simp [List.getD]
                                       omega
          rw [decide_eq_true this, Bool.true_or]
      · unfold takeOk
        rw [hok, inB_yes (by omega), inB_yes (by omega), Int.toNat_natCast]
        have : (ys.getD (rowAt (fromOf f) k) 0) = 0 := hrow.2.2.2.2.1 hg.1
        rw [this]; rfl
    · omega
theorem hasI_take (xs : List Int) (v : Int) {k : Nat} (h : k < xs.length) : hasI (xs.take (k + 1)) v = (hasI (xs.take k) v || (xs.getD k 0 == v)) := by
  have e : xs.getD k 0 = xs[k] := by simp [List.getD, h]
  unfold hasI
  rw [List.take_succ_eq_append_getElem h, Bool.eq_iff_iff, e]
  simp only [decide_eq_true_eq, List.mem_append, List.mem_singleton, Bool.or_eq_true, beq_iff_eq]
  exact ⟨fun h => h.elim .inl fun h => .inr h.symm, fun h => h.elim .inl fun h => .inr h.symm⟩

set_option maxRecDepth 100000 in
set_option maxHeartbeats 4000000 in
theorem fnSpaceFind_walk (A : Option Addr) (n c : Nat) (zs : List Int) (w : World) (hz : BytesIn w A n c zs) :
    Calls Try.prog 12 #[.slice A n c] w fun e w' => e = .returned (.bool true) ∧ Below w.heap.size w w' := by
  by_cases hn : n ≤ 1048576
  · go_enter Try.func12, Try.ntmps12
    go_wp2_with fail
    refine (drawSpaceFind_any A n c zs _ hz).mono ?_
    rintro e w1 ⟨A1, n1, c1, B1, m1, d1, xs, ys, fr, C, nb, cb, but, rfl, ia_1, ib_1, nl1, ic_1, hb1⟩
    have hk1 : Below w.heap.size w w1 := hb1
    have z1 : w.heap.size + 0 ≤ w1.heap.size := by have := hb1.size; (try simp at this); omega
    have hB1 : Below w.heap.size w w1 := hk1
    have y1 : w.heap.size ≤ w1.heap.size := hB1.size
    clear hk1 hb1
    go_wp2_with fail
    generalize hr : spFind xs ys fr but = r; have HR := Lib.hid hr; clear hr
    refine (spaceFind_any _ _ _ _ _ _ _ _ _ xs ys but fr _ (ia_1.below ((Below.refl _ _).alloc (Nat.le_refl _) _)) (ib_1.below ((Below.refl _ _).alloc (Nat.le_refl _) _)) (ic_1.below ((Below.refl _ _).alloc (Nat.le_refl _) _))).mono ?_
    rw [HR.out]
    rintro e w2 ⟨rfl, hb2⟩
    have hk2 : Below w1.heap.size w1 w2 := ((Below.refl _ _).alloc (Nat.le_refl _) _).trans (hb2.mono (by simp <;> omega))
    have z2 : w1.heap.size + 1 ≤ w2.heap.size := by have := hb2.size; (try simp at this); omega
    have c2_0 : w2.cell? ⟨w1.heap.size, 0, none⟩ = some (.slice A1 n1 c1) := (hb2.cell (by simp <;> omega)).trans (by simp [go_sem])
    have c2_1 : w2.cell? ⟨w1.heap.size, 1, none⟩ = some (.slice B1 m1 d1) := (hb2.cell (by simp <;> omega)).trans (by simp [go_sem])
    have l2_0 : w1.heap.size < w2.heap.size := by omega
    have ia_2 := ia_1.below hk2
    have ib_2 := ib_1.below hk2
    have ic_2 := ic_1.below hk2
    have hB2 : Below w.heap.size w w2 := hB1.trans (hk2.mono hB1.size)
    have y2 : w.heap.size ≤ w2.heap.size := hB2.size
    clear ia_1 ib_1 ic_1 hk2 hb2
    go_wp2_with fail
    refine (spSpaceFind_any _ _ _ _ _ _ _ _ _ xs ys but fr _ ia_2 ib_2 ic_2).mono ?_
    rw [HR.out]
    rintro e w3 ⟨rfl, hb3⟩
    have hk3 : Below w2.heap.size w2 w3 := hb3
    have z3 : w2.heap.size + 0 ≤ w3.heap.size := by have := hb3.size; (try simp at this); omega
    have c3_0 : w3.cell? ⟨w1.heap.size, 0, none⟩ = some (.slice A1 n1 c1) := (hk3.cell (by simp <;> omega)).trans c2_0
    have c3_1 : w3.cell? ⟨w1.heap.size, 1, none⟩ = some (.slice B1 m1 d1) := (hk3.cell (by simp <;> omega)).trans c2_1
    have l3_0 : w1.heap.size < w3.heap.size := by omega
    have ia_3 := ia_2.below hk3
    have ib_3 := ib_2.below hk3
    have ic_3 := ic_2.below hk3
    have hB3 : Below w.heap.size w w3 := hB2.trans (hk3.mono hB2.size)
    have y3 : w.heap.size ≤ w3.heap.size := hB3.size
    clear c2_0 c2_1 l2_0 ia_2 ib_2 ic_2 hk3 hb3
    have hrr : (r == r) = true := by simp
    by_cases h0 : 0 ≤ r
    rotate_left
    · have d0 : decide (0 ≤ r) = false := by simpa using h0
      have d1 : r < 0 := by omega
      clear h0
      go_wp2_with fail
      go_ret
      exact ⟨rfl, hB3⟩
    have d0 : decide (0 ≤ r) = true := by simpa using h0
    obtain ⟨a, rfl, h8, ha, hsp, hxa, hba, hloop, htk⟩ := find_law HR.out h0
    have hnbm := ic_3.max; have hnl := ic_3.len; have hnal := ia_3.len; have hn1 : n1 = 64 := by have := hsp.1; omega
    have HNL := Lib.hid hnl; have HSP := Lib.hid hsp; have HXA := Lib.hid hxa; have HBA := Lib.hid hba; have HLP := Lib.hid hloop; have HTK := Lib.hid htk; clear hnl hnal hsp hxa hba hloop htk HR
    subst hn1
    go_wp2_with fail
    go_loop [9] (fun i => ∃ k : Nat, k ≤ nb ∧ i = .int .i64 k) (fun i => nb - (intOf i).toNat)
    case atStart => exact ⟨0, Nat.zero_le _, rfl⟩
    case round =>
      obtain ⟨k, hk, rfl⟩ := hrel
      by_cases hlt : k < nb
      · obtain ⟨b, off, rfl, hb, hc⟩ := ic_3.at_ hlt
        have h1 := hc k hlt
        clear hc
        have hne : ¬ but.getD k 0 = (a : Int) := fun h => by
          have := hasI_yes (xs := but) (v := (a : Int)) (k := k) (by rw [HNL.out]; exact hlt) h.symm
          rw [HBA.out] at this; cases this
        generalize but.getD k 0 = g at *
        have e1 : (g == (a : Int)) = false := by simpa using hne
        clear hne
        have k0 : (0 : Int) ≤ (k : Int) := by omega
        go_wp2_with fail
        go_round
        case rel => exact ⟨k + 1, by omega, by go_num⟩
        case measure => simp [intOf]; omega
      · obtain rfl : k = nb := by omega
        go_wp2_with fail
        all_goals
          go_loop [10] (fun i => ∃ z : Int, 8 ≤ z ∧ fr ≤ z ∧ i = .int .i64 z) (fun i => (a - intOf i).toNat)
          case atStart => exact ⟨_, by omega, by omega, rfl⟩
          case round =>
            obtain ⟨z, hz8, hzf, rfl⟩ := hrel
            by_cases hza : z < a
            · obtain ⟨j, rfl⟩ : ∃ j : Nat, z = (j : Int) := ⟨z.toNat, by omega⟩
              obtain ⟨b, off, rfl, hb, hc⟩ := ia_3.at_ (k := j) (by omega)
              have h1 := hc j (by omega)
              clear hc
              have hl := HLP.out j (by omega) hzf (by omega)
              have HL := Lib.hid hl; clear hl
              generalize hg : xs.getD j 0 = g at h1
              rw [hg] at HL
              clear hg
              have k0 : (0 : Int) ≤ (j : Int) := by omega
              have k1 : (j : Int) < 64 := by omega
              go_wp2_with fail
              go_loop [11, 12] (fun b i => ∃ k' : Nat, k' ≤ k ∧ i = .int .i64 k' ∧ b = .bool (decide (0 < g) || hasI (but.take k') j)) (fun _ i => k - (intOf i).toNat)
              case atStart => exact ⟨0, Nat.zero_le _, rfl, by simp [hasI]⟩
              case round =>
                obtain ⟨k', hk', rfl, rfl⟩ := hrel
                by_cases hlt' : k' < k
                · obtain ⟨b', off', rfl, hb', hc'⟩ := ic_3.at_ hlt'
                  have h2 := hc' k' hlt'
                  clear hc'
                  have hstep := hasI_take but (j : Int) (k := k') (by rw [HNL.out]; exact hlt')
                  generalize but.getD k' 0 = g' at *
                  have HST := Lib.hid hstep; clear hstep
                  generalize hbb : (decide (0 < g) || hasI (but.take k') (j : Int)) = bb
                  have HBB := Lib.hid hbb; clear hbb
                  have k0' : (0 : Int) ≤ (k' : Int) := by omega
                  have k1' : (k' : Int) < (k : Int) := by omega
                  cases bb
                  · go_wp2_with fail
                    go_round
                    case rel => exact ⟨k' + 1, by omega, by go_num, by rw [HST.out, ← Bool.or_assoc, HBB.out, Bool.false_or]⟩
                    case measure => simp [intOf]; omega
                  · go_wp2_with fail
                    go_round
                    case rel => exact ⟨k' + 1, by omega, by go_num, by rw [HST.out, ← Bool.or_assoc, HBB.out, Bool.true_or]⟩
                    case measure => simp [intOf]; omega
                · obtain rfl : k' = k := by omega
                  have hlast : (decide (0 < g) || hasI (but.take k') (j : Int)) = true := by rw [List.take_of_length_le (by rw [HNL.out]; exact Nat.le_refl _)]; exact HL.out
                  have HLL := Lib.hid hlast; clear hlast
                  generalize hbb : (decide (0 < g) || hasI (but.take k') (j : Int)) = bb at *
                  obtain rfl := HLL.out
                  clear HLL hbb
                  go_wp2_with fail
                  go_round
                  case rel => exact ⟨(j : Int) + 1, by omega, by omega, rfl⟩
                  case measure => simp [intOf]; omega
            · have hza' : ¬ z < (a : Int) := hza
              go_wp2_with fail
              refine (take_any _ _ _ _ _ _ xs ys (a : Int) 900 _ ia_3 ib_3 nl1.1 nl1.2.1).mono ?_
              rw [HTK.out]
              rintro e w4 ⟨A4, n4, c4, B4, m4, d4, S4, rfl, og_4, hS4, hb4⟩
              have hk4 : Below w3.heap.size w3 w4 := hb4
              have z4 : w3.heap.size + 0 ≤ w4.heap.size := by have := hb4.size; (try simp at this); omega
              have c4_0 : w4.cell? ⟨w1.heap.size, 0, none⟩ = some (.slice A1 64 c1) := (hk4.cell (by simp <;> omega)).trans c3_0
              have c4_1 : w4.cell? ⟨w1.heap.size, 1, none⟩ = some (.slice B1 m1 d1) := (hk4.cell (by simp <;> omega)).trans c3_1
              have l4_0 : w1.heap.size < w4.heap.size := by omega
              have ia_4 := ia_3.below hk4
              have ib_4 := ib_3.below hk4
              have ic_4 := ic_3.below hk4
              have iv_og : ∀ k ∈ S4, w3.heap.size + 0 ≤ k ∧ k < w4.heap.size := fun k hk => ⟨by have := hS4 k hk; (try simp at this); omega, og_4.lt k hk⟩
              have hB4 : Below w.heap.size w w4 := hB3.trans (hk4.mono hB3.size)
              have y4 : w.heap.size ≤ w4.heap.size := hB4.size
              clear c3_0 c3_1 l3_0 ia_3 ib_3 ic_3 hS4 hk4 hb4
              obtain ⟨b, off, rfl, hb, hc⟩ := ia_4.at_ (k := a) ha
              have h1 := hc a ha
              rw [HXA.out] at h1
              clear hc
              have k0 : (0 : Int) ≤ (a : Int) := by omega
              have k1 : (a : Int) < 64 := by omega
              go_wp2_with fail
              go_ret
              exact ⟨rfl, hB4.alloc (by omega) _⟩

  · go_enter Try.func12, Try.ntmps12
    go_wp2_with fail
    go_ret
    exact ⟨rfl, Below.refl _ _⟩

end Go.Proofs.Ytbfdbkidmakapaa
