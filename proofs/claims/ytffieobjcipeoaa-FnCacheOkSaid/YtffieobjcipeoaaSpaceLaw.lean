/- The laws' helpers on spaces: sizes, copies, equality, marks. No condition. -/
import Derived.Test.YtffieobjcipeoaaTypes
namespace Go.Proofs.Ytffieobjcipeoaa
set_option linter.unusedVariables false
set_option linter.unusedSimpArgs false
set_option linter.unnecessarySimpa false
open Go.RowKit

/-- A space whose memory is the call's own: its two rows are not one. S: its blocks. -/
def SpOwn (w : World) (S : List Nat) (A : Option Addr) (n c : Nat) (B : Option Addr) (m d : Nat) (xs ys : List Int) : Prop :=
  ∃ S1 S2, S = S1 ++ S2 ∧ OwnS w S1 A n c xs ∧ OwnS w S2 B m d ys ∧ ∀ k ∈ S1, k ∉ S2
section
variable {w w' : World} {S : List Nat} {A B : Option Addr} {n c m d : Nat} {xs ys : List Int}
theorem SpOwn.one (h : SpOwn w S A n c B m d xs ys) : IntsAt w A n xs := by obtain ⟨_, _, _, h, _⟩ := h; exact h.at_
theorem SpOwn.two (h : SpOwn w S A n c B m d xs ys) : IntsAt w B m ys := by obtain ⟨_, _, _, _, h, _⟩ := h; exact h.at_
theorem SpOwn.lt (h : SpOwn w S A n c B m d xs ys) : ∀ k ∈ S, k < w.heap.size := by
  obtain ⟨S1, S2, rfl, h1, h2, _⟩ := h
  intro k hk
  rcases List.mem_append.1 hk with hk | hk
  · exact h1.lt k hk
  · exact h2.lt k hk
theorem SpOwn.keep (h : SpOwn w S A n c B m d xs ys) (hk : ∀ k ∈ S, w'.heap[k]? = w.heap[k]?) : SpOwn w' S A n c B m d xs ys := by
  obtain ⟨S1, S2, rfl, h1, h2, h3⟩ := h
  exact ⟨S1, S2, rfl, h1.keep fun k h => hk k (List.mem_append.2 (.inl h)), h2.keep fun k h => hk k (List.mem_append.2 (.inr h)), h3⟩
theorem SpOwn.below (h : SpOwn w S A n c B m d xs ys) (hb : Below w.heap.size w w') : SpOwn w' S A n c B m d xs ys := h.keep fun k hk => hb.block k (h.lt k hk)
theorem SpOwn.nils (h : SpOwn w S A n c B m d xs ys) : (A = none → n = 0 ∧ c = 0) ∧ (B = none → m = 0 ∧ d = 0) ∧ n ≤ c ∧ m ≤ d := by
  obtain ⟨_, _, _, h1, h2, _⟩ := h
  exact ⟨h1.nil_, h2.nil_, h1.le, h2.le⟩
theorem SpOwn.both (h : SpOwn w S A n c B m d xs ys) (hn : 0 < n) (hm : 0 < m) : ∃ g k, S = [g, k] ∧ A = some ⟨g, 0, none⟩ ∧ B = some ⟨k, 0, none⟩ ∧ g ≠ k ∧ OwnI w g n c xs ∧ OwnI w k m d ys := by
  obtain ⟨S1, S2, rfl, h1, h2, hd⟩ := h
  obtain ⟨g, rfl, hA, h1⟩ := h1.pos hn
  obtain ⟨k, rfl, hB, h2⟩ := h2.pos hm
  exact ⟨g, k, rfl, hA, hB, fun e => hd g (by simp) (by simp [e]), h1, h2⟩
theorem SpOwn.mk2 {g k : Nat} (h1 : OwnI w g n c xs) (h2 : OwnI w k m d ys) (hgk : g ≠ k) : SpOwn w [g, k] (some ⟨g, 0, none⟩) n c (some ⟨k, 0, none⟩) m d xs ys :=
  ⟨[g], [k], rfl, .inr ⟨g, rfl, rfl, h1⟩, .inr ⟨k, rfl, rfl, h2⟩, by simpa using hgk⟩
theorem SpOwn.none_ : SpOwn w [] none 0 0 none 0 0 [] [] := ⟨[], [], rfl, .inl ⟨rfl, rfl, rfl, fun _ => rfl⟩, .inl ⟨rfl, rfl, rfl, fun _ => rfl⟩, by simp⟩
theorem SpOwn.max1 (h : SpOwn w S A n c B m d xs ys) : n ≤ 140737488355328 := by obtain ⟨_, _, _, h, _⟩ := h; exact h.max
theorem SpOwn.max2 (h : SpOwn w S A n c B m d xs ys) : m ≤ 140737488355328 := by obtain ⟨_, _, _, _, h, _⟩ := h; exact h.max
end
/-- What a call that makes a space returns: its memory is the call's own. -/
def NewSpO (w : World) (xs ys : List Int) (e : Ending) (w' : World) : Prop :=
  ∃ A n c B m d S, e = .returned (.agg #[.slice A n c, .slice B m d]) ∧ SpOwn w' S A n c B m d xs ys ∧ (∀ k ∈ S, w.heap.size ≤ k) ∧ Below w.heap.size w w'

def szSp (n m : Nat) (left : Int) : Int := if szI n left < 0 then -1 else szI m (szI n left)
theorem szI_bd (n : Nat) (left : Int) (h1 : left ≤ 1048576) : -1 ≤ szI n left ∧ szI n left ≤ 1048576 := by unfold szI; split <;> omega
theorem szI_yes {n : Nat} {left : Int} (h : ¬ szI n left < 0) : (n : Int) ≤ left := by unfold szI at h; split at h <;> omega
theorem szI_neg {n : Nat} {left : Int} (h : szI n left < 0) : szI n left = -1 := by unfold szI at h ⊢; split at h <;> rename_i h2 <;> simp [h2] <;> omega
theorem szSp_yes {n m : Nat} {left : Int} (h0 : left ≤ 1048576) (h : ¬ szSp n m left < 0) : n ≤ 1048576 ∧ m ≤ 1048576 := by
  unfold szSp at h
  split at h
  · omega
  · rename_i h1
    have h2 := szI_yes h1
    have h3 := szI_yes h
    have h4 := szI_bd n left h0
    omega

set_option maxHeartbeats 400000 in
theorem szSpace_any (A B : Option Addr) (n c m d : Nat) (left : Int) (w : World) (hn : n ≤ maxLen) (hm : m ≤ maxLen) (h0 : 0 ≤ left) (h1 : left ≤ 1048576) :
    Calls Try.prog 63 #[.agg #[.slice A n c, .slice B m d], .int .i64 left] w fun e w' => e = .returned (.int .i64 (szSp n m left)) ∧ Below w.heap.size w w' := by
  have hbd := szI_bd n left h1
  by_cases hlt : szI n left < 0
  · have hf := Lib.hid (show szSp n m left = -1 by unfold szSp; rw [if_pos hlt])
    go_enter Try.func63, Try.ntmps63
    go_wp2_with fail
    refine (szIntS_any _ _ _ _ _ hn h0 h1).mono ?_
    rintro e w1 ⟨rfl, rfl⟩
    go_wp2_with fail
    go_ret
    exact ⟨ret_int hf.out.symm, (Below.refl _ _).alloc (Nat.le_refl _) _⟩
  · have hf := Lib.hid (show szSp n m left = szI m (szI n left) by unfold szSp; rw [if_neg hlt])
    have hbd2 := szI_bd m (szI n left) hbd.2
    go_enter Try.func63, Try.ntmps63
    go_wp2_with fail
    refine (szIntS_any _ _ _ _ _ hn h0 h1).mono ?_
    rintro e w1 ⟨rfl, rfl⟩
    go_wp2_with fail
    refine (szIntS_any _ _ _ _ _ hm (by omega) hbd.2).mono ?_
    rintro e w1 ⟨rfl, rfl⟩
    by_cases h2 : szI m (szI n left) < 0
    · have hg := Lib.hid (szI_neg h2)
      go_wp2_with fail
      go_ret
      exact ⟨ret_int (hf.out.trans hg.out).symm, (Below.refl _ _).alloc (Nat.le_refl _) _⟩
    · go_wp2_with fail
      go_ret
      exact ⟨ret_int hf.out.symm, (Below.refl _ _).alloc (Nat.le_refl _) _⟩

set_option maxHeartbeats 1000000 in
theorem eqSpace_any (A B A' B' : Option Addr) (n c m d n' c' m' d' : Nat) (xs ys xs' ys' : List Int) (w : World) (hA : IntsAt w A n xs) (hB : IntsAt w B m ys) (hA' : IntsAt w A' n' xs') (hB' : IntsAt w B' m' ys') :
    Calls Try.prog 73 #[.agg #[.slice A n c, .slice B m d], .agg #[.slice A' n' c', .slice B' m' d']] w fun e w' =>
      e = .returned (.bool (eqInts xs xs' && eqInts ys ys')) ∧ Below w.heap.size w w' := by
  have hb : ∀ o o', Below w.heap.size w ((w.alloc o).alloc o') := fun o o' => ((Below.refl _ _).alloc (Nat.le_refl _) _).alloc (by simp) _
  cases h1 : eqInts xs xs'
  · go_enter Try.func73, Try.ntmps73
    go_wp2_with fail
    refine (eqIntS_any _ _ _ _ _ _ xs xs' _ (hA.below (hb _ _)) (hA'.below (hb _ _))).mono ?_
    rintro e w1 ⟨rfl, q, rfl⟩
    go_wp2_with fail
    go_ret
    exact ⟨rfl, below_drewN (hb _ _) _⟩
  · cases h2 : eqInts ys ys'
    all_goals
      go_enter Try.func73, Try.ntmps73
      go_wp2_with fail
      refine (eqIntS_any _ _ _ _ _ _ xs xs' _ (hA.below (hb _ _)) (hA'.below (hb _ _))).mono ?_
      rintro e w1 ⟨rfl, q, rfl⟩
      go_wp2_with fail
      refine (eqIntS_any _ _ _ _ _ _ ys ys' _ ?_ ?_).mono ?_
      · exact hB.below (below_drewN (hb _ _) _)
      · exact hB'.below (below_drewN (hb _ _) _)
      rintro e w1 ⟨rfl, q', rfl⟩
      go_wp2_with fail
      go_ret
      exact ⟨rfl, below_drewN (hb _ _) _⟩

set_option maxHeartbeats 1000000 in
theorem toSpace_any (A B : Option Addr) (n c m d : Nat) (xs ys : List Int) (w : World) (hA : IntsAt w A n xs) (hB : IntsAt w B m ys) (hn : n ≤ 17592186044416) (hm : m ≤ 17592186044416) :
    Calls Try.prog 70 #[.agg #[.slice A n c, .slice B m d]] w (NewSpO w xs ys) := by
  have hb : ∀ o o' o'', Below w.heap.size w (((w.alloc o).alloc o').alloc o'') := fun o o' o'' => (((Below.refl _ _).alloc (Nat.le_refl _) _).alloc (by simp) _).alloc (by simp <;> omega) _
  go_enter Try.func70, Try.ntmps70
  go_wp2_with fail
  refine (toIntS_any _ _ _ xs _ (hA.below (hb _ _ _)) hn).mono ?_
  rintro e w1 ⟨A1, c1, S1, rfl, o1, hS1, hb1⟩
  have s1 := hb1.size
  simp at s1 hS1
  have f1 : ∀ j, w1.frozen? ⟨w.heap.size + 1 + 1, j, none⟩ = false := fun j => (hb1.frozen (by simp)).trans (by simp [go_sem])
  have k1 : w1.cell? ⟨w.heap.size, 1, none⟩ = some (.slice B m d) := (hb1.cell (by simp <;> omega)).trans (by simp [go_sem])
  have k4 : w1.cell? ⟨w.heap.size + 1 + 1, 0, none⟩ = some (.slice none 0 0) := (hb1.cell (by simp)).trans (by simp [go_sem])
  have k5 : w1.cell? ⟨w.heap.size + 1 + 1, 1, none⟩ = some (.slice none 0 0) := (hb1.cell (by simp)).trans (by simp [go_sem])
  have k2 : w1.cell? ⟨w.heap.size + 1, 0, none⟩ = some (.slice none 0 0) := (hb1.cell (by simp <;> omega)).trans (by simp [go_sem])
  have k3 : w1.cell? ⟨w.heap.size + 1, 1, none⟩ = some (.slice none 0 0) := (hb1.cell (by simp <;> omega)).trans (by simp [go_sem])
  have f2 : ∀ j, w1.frozen? ⟨w.heap.size + 1, j, none⟩ = false := fun j => (hb1.frozen (by simp <;> omega)).trans (by simp [go_sem])
  have hb2 : Below w.heap.size w w1 := (hb _ _ _).trans (hb1.mono (by simp <;> omega))
  go_wp2_with fail
  have hb3 : Below w.heap.size w (w1.setCell ⟨w.heap.size + 1 + 1, 0, none⟩ (.slice A1 n c1)) := hb2.setCell (by simp <;> omega) _
  refine (toIntS_any _ _ _ ys _ (hB.below hb3) hm).mono ?_
  rintro e w2 ⟨A2, c2, S2, rfl, o2, hS2, hb4⟩
  have s2 := hb4.size
  simp at s2 hS2
  have g1 : ∀ j, w2.frozen? ⟨w.heap.size + 1 + 1, j, none⟩ = false := fun j => (hb4.frozen (by simp <;> omega)).trans (by simp [go_sem, f1])
  have k6 : w2.cell? ⟨w.heap.size + 1 + 1, 0, none⟩ = some (.slice A1 n c1) := (hb4.cell (by simp <;> omega)).trans (by simp [go_sem, k4])
  have k7 : w2.cell? ⟨w.heap.size + 1 + 1, 1, none⟩ = some (.slice none 0 0) := (hb4.cell (by simp <;> omega)).trans (by simp [go_sem, k5])
  have k8 : w2.cell? ⟨w.heap.size + 1, 0, none⟩ = some (.slice none 0 0) := (hb4.cell (by simp <;> omega)).trans (by simp [go_sem, k2])
  have k9 : w2.cell? ⟨w.heap.size + 1, 1, none⟩ = some (.slice none 0 0) := (hb4.cell (by simp <;> omega)).trans (by simp [go_sem, k3])
  have g2 : ∀ j, w2.frozen? ⟨w.heap.size + 1, j, none⟩ = false := fun j => (hb4.frozen (by simp <;> omega)).trans (by simp [go_sem, f2])
  have o1b : OwnS w2 S1 A1 n c1 xs := o1.keep fun k hk => (hb4.block k (by have := o1.lt k hk; simpa using this)).trans (Below.heap_setCell _ _ _ _ (by have := hS1 k hk; simp; omega))
  have hb5 : Below w.heap.size w w2 := hb3.trans (hb4.mono (by simp <;> omega))
  have l1 := o1.lt
  clear k1 k2 k3 k4 k5 f1 f2 hb1 hb2 hb3 hb4 o1
  go_wp2_with fail
  refine bodyPost_ret (v := .agg #[.slice A1 n c1, .slice A2 m c2]) (by simp [results, Try.results70, go_sem, k6, k7, k8, k9, g1, g2]) rfl ?_
  refine ⟨_, _, _, _, _, _, S1 ++ S2, rfl, SpOwn.keep ⟨S1, S2, rfl, o1b, o2, fun k h1 h2 => ?_⟩ fun k hk => ?_, fun k hk => ?_, ?_⟩
  · have a1 := l1 k h1
    have a2 := hS2 k h2
    omega
  · have : w.heap.size + 1 + 1 < k := by
      rcases List.mem_append.1 hk with h | h
      · have := hS1 k h; omega
      · have := hS2 k h; omega
    simp [World.setCell, Array.getElem?_modify]
    repeat rw [if_neg (by omega)]
  · rcases List.mem_append.1 hk with h | h
    · have := hS1 k h; omega
    · have := hS2 k h; omega
  · exact ((hb5.setCell (by simp <;> omega) _).setCell (by simp <;> omega) _).setCell (by simp <;> omega) _


end Go.Proofs.Ytffieobjcipeoaa
