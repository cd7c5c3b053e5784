/- FnRootAt: the walk. Condition: the tables that strconv's functions read lie as their initialisers lay them. -/
import Derived.Test.YtcfgbeajdkbbcaaGreatDoorDrawRootAt
namespace Go.Proofs.YtcfgbeajdkbbcaaGreatDoor
set_option linter.unusedSimpArgs false
set_option linter.unnecessarySimpa false
open Go Go.Lib Go.RowKit
set_option linter.unusedVariables false

set_option maxRecDepth 100000 in
set_option maxHeartbeats 8000000 in
theorem fnRootAt_walk (A : Option Addr) (n c : Nat) (zs : List Int) (w : World) (he : Env w) (h : BytesIn w A n c zs) :
    Calls Tryz.prog 4 #[.slice A n c] w fun e w' => e = .returned (.bool true) ∧ Below w.heap.size w w' := by
  go_enter Tryz.func4, Tryz.ntmps4
  by_cases hb : 1048576 < n
  · have h0 : (1048576 : Int) < (n : Int) := by omega
    go_wp2_with fail
    go_ret
    exact ⟨rfl, Below.refl _ _⟩
  have h0 : ¬ (1048576 : Int) < (n : Int) := by omega
  have h1 : (n : Int) ≤ 1048576 := by omega
  go_wp2_with fail
  refine (drawRootAt_any A n c zs _ h).mono ?_
  rintro e w1 ⟨g, c3, x, row, rfl, hx, hb1⟩
  obtain ⟨rd, hrd⟩ : ∃ r, r = rootAtR x row := ⟨_, rfl⟩
  obtain ⟨rb, hrb⟩ : ∃ r, r = rootAtB x row := ⟨_, rfl⟩
  have HRD := Lib.hid hrd; have HRB := Lib.hid hrb; clear hrd hrb
  have HG : Hid (rb = true → okR rd = true ∧ rd.1 % 4 = row) := Lib.hid (fun hb => by
    have h1 := HRB.out.symm.trans hb
    unfold rootAtB at h1
    obtain ⟨h2, h3⟩ := (Bool.and_eq_true _ _).mp h1
    have h4 := HRD.out
    unfold rootAtR at h4
    rw [if_pos h2] at h4
    rw [h4]
    exact (rootAt_good x row).ok (of_decide_eq_true h3))
  obtain ⟨t, ⟨a, b, s, m, l⟩, d, y⟩ := rd
  have HX := Lib.hid hx; have HB1 := Lib.hid hb1
  clear hx hb1
  go_wp2_with fail
  refine (rootAtW_any _ x row _ w.heap.size w1.heap.size (he.below (Below.alloc HB1.out HB1.out.size _)) (RaidR.below bel1 (Nat.le_refl _) _ _ HX.out)).mono ?_
  rw [← HRD.out, ← HRB.out]
  rintro e w2 ⟨rfl, hb2⟩
  have c0 : w2.cell? ⟨w1.heap.size, 0, none⟩ = some (.slice (some ⟨g, 0, none⟩) 3 c3) := (hb2.cell (by simp)).trans (by simp [go_sem])
  have l1 : w1.heap.size < w2.heap.size := World.block_lt_of_cell? _ _ c0
  have HX2 := Lib.hid (RaidR.below (bel1.trans (hb2.mono (by simp))) (Nat.le_refl _) _ _ HX.out)
  have HB2 := Lib.hid ((Below.alloc HB1.out HB1.out.size _).trans (hb2.mono (by have := HB1.out.size; simp; omega)))
  clear hb2 HX HB1
  unfold rcA
  go_wp2_with fail
  refine (spRootAtW_any _ x row _ w.heap.size w1.heap.size (RaidR.below bel1 (by omega) _ _ HX2.out)).mono ?_
  rw [← HRD.out, ← HRB.out]
  rintro e w3 ⟨rfl, hb3⟩
  have HB3 := Lib.hid ((Below.alloc HB2.out HB2.out.size _).trans (hb3.mono (by have := HB2.out.size; simp; omega)))
  have q0 : w3.cell? ⟨w2.heap.size, 0, none⟩ = some (.int .i64 t) := (hb3.cell (by simp)).trans (by simp [go_sem])
  have q1 : w3.cell? ⟨w2.heap.size, 1, none⟩ = some (.int .i64 a) := (hb3.cell (by simp)).trans (by simp [go_sem])
  have q2 : w3.cell? ⟨w2.heap.size, 2, none⟩ = some (.int .i64 b) := (hb3.cell (by simp)).trans (by simp [go_sem])
  have q3 : w3.cell? ⟨w2.heap.size, 3, none⟩ = some (.int .i64 s) := (hb3.cell (by simp)).trans (by simp [go_sem])
  have q4 : w3.cell? ⟨w2.heap.size, 4, none⟩ = some (.int .i64 m) := (hb3.cell (by simp)).trans (by simp [go_sem])
  have q5 : w3.cell? ⟨w2.heap.size, 5, none⟩ = some (.int .i64 l) := (hb3.cell (by simp)).trans (by simp [go_sem])
  have q6 : w3.cell? ⟨w2.heap.size, 6, none⟩ = some (.int .i64 d) := (hb3.cell (by simp)).trans (by simp [go_sem])
  have q7 : w3.cell? ⟨w2.heap.size, 7, none⟩ = some (.int .i64 y) := (hb3.cell (by simp)).trans (by simp [go_sem])
  have l2 : w2.heap.size < w3.heap.size := World.block_lt_of_cell? _ _ q0
  clear hb3 HX2 HB2 c0
  unfold rcA
  have hself : ∀ s : ByteArray, (s.toList == s.toList) = true := fun s => by simp
  cases rb
  · go_wp2_with fail
    go_ret
    exact ⟨rfl, Below.alloc HB3.out HB3.out.size _⟩
  obtain ⟨hok, h4⟩ := HG.out rfl
  have HOK := Lib.hid (show rootOkB t a b s m l d y = true from hok)
  have ht := (rootOk_parts HOK.out).1
  have h4 : t % 4 = row := h4
  have hrem : IntKind.i64.wrap (t.tmod 4) = t % 4 := by rw [Int.tmod_eq_emod_of_nonneg (by omega), IntWalk.i64_in _ (by omega)]
  clear hok HG
  go_wp2_with fail
  refine (rootOk_any t a b s m l d y _).mono ?_
  rw [HOK.out]
  rintro e w4 ⟨rfl, hb4⟩
  have q9 := (hb4.cell (by simp; omega)).trans (((bel1 (w := w3)).cell l2).trans q0)
  have l4 := World.block_lt_of_cell? _ _ q9
  go_wp2_with fail
  go_ret
  exact ⟨rfl, (Below.alloc HB3.out HB3.out.size _).trans (hb4.mono (by have := HB3.out.size; simp; omega))⟩
end Go.Proofs.YtcfgbeajdkbbcaaGreatDoor
