/- The laws' helpers on spaces: sizes, copies, equality, marks. No condition. -/
import Derived.Test.YtfokpjoeankobaaTypes
namespace Go.Proofs.Ytfokpjoeankobaa
set_option linter.unusedVariables false
set_option linter.unusedSimpArgs false
set_option linter.unnecessarySimpa false
open Go.RowKit

/-- A space whose memory is the call's own: its two rows are not one. S: its blocks. -/
def SpOwn (w : World) (S : List Nat) (A : Option Addr) (n c : Nat) (B : Option Addr) (m d : Nat) (xs ys : List Int) : Prop :=
  ∃ S1 S2, S = S1 ++ S2 ∧ OwnS w S1 A n c xs ∧ OwnS w S2 B m d ys ∧ ∀ k ∈ S1, k ∉ S2
section
variable {w w' : World} {S : List Nat} {A B : Option Addr} {n c m d : Nat} {xs ys : List Int}
theorem SpOwn.one (h : SpOwn w S A n c B m d xs ys) : IntsAt w A n xs := by obtain ⟨_, _, _, h, _⟩ := h; exact h.at_
theorem SpOwn.two (h : SpOwn w S A n c B m d xs ys) : IntsAt w B m ys := by obtain ⟨_, _, _, _, h, _⟩ := h; exact h.at_
theorem SpOwn.lt (h : SpOwn w S A n c B m d xs ys) : ∀ k ∈ S, k < w.heap.size := by
  obtain ⟨S1, S2, rfl, h1, h2, _⟩ := h
  intro k hk
  rcases List.mem_append.1 hk with hk | hk
  · exact h1.lt k hk
  · exact h2.lt k hk
theorem SpOwn.keep (h : SpOwn w S A n c B m d xs ys) (hk : ∀ k ∈ S, w'.heap[k]? = w.heap[k]?) : SpOwn w' S A n c B m d xs ys := by
  obtain ⟨S1, S2, rfl, h1, h2, h3⟩ := h
  exact ⟨S1, S2, rfl, h1.keep fun k h => hk k (List.mem_append.2 (.inl h)), h2.keep fun k h => hk k (List.mem_append.2 (.inr h)), h3⟩
theorem SpOwn.below (h : SpOwn w S A n c B m d xs ys) (hb : Below w.heap.size w w') : SpOwn w' S A n c B m d xs ys := h.keep fun k hk => hb.block k (h.lt k hk)
theorem SpOwn.nils (h : SpOwn w S A n c B m d xs ys) : (A = none → n = 0 ∧ c = 0) ∧ (B = none → m = 0 ∧ d = 0) ∧ n ≤ c ∧ m ≤ d := by
  obtain ⟨_, _, _, h1, h2, _⟩ := h
  exact ⟨h1.nil_, h2.nil_, h1.le, h2.le⟩
theorem SpOwn.both (h : SpOwn w S A n c B m d xs ys) (hn : 0 < n) (hm : 0 < m) : ∃ g k, S = [g, k] ∧ A = some ⟨g, 0, none⟩ ∧ B = some ⟨k, 0, none⟩ ∧ g ≠ k ∧ OwnI w g n c xs ∧ OwnI w k m d ys := by
  obtain ⟨S1, S2, rfl, h1, h2, hd⟩ := h
  obtain ⟨g, rfl, hA, h1⟩ := h1.pos hn
  obtain ⟨k, rfl, hB, h2⟩ := h2.pos hm
  exact ⟨g, k, rfl, hA, hB, fun e => hd g (by simp) (by simp [e]), h1, h2⟩
theorem SpOwn.mk2 {g k : Nat} (h1 : OwnI w g n c xs) (h2 : OwnI w k m d ys) (hgk : g ≠ k) : SpOwn w [g, k] (some ⟨g, 0, none⟩) n c (some ⟨k, 0, none⟩) m d xs ys :=
  ⟨[g], [k], rfl, .inr ⟨g, rfl, rfl, h1⟩, .inr ⟨k, rfl, rfl, h2⟩, by simpa using hgk⟩
theorem SpOwn.none_ : SpOwn w [] none 0 0 none 0 0 [] [] := ⟨[], [], rfl, .inl ⟨rfl, rfl, rfl, fun _ => rfl⟩, .inl ⟨rfl, rfl, rfl, fun _ => rfl⟩, by simp⟩
theorem SpOwn.max1 (h : SpOwn w S A n c B m d xs ys) : n ≤ 140737488355328 := by obtain ⟨_, _, _, h, _⟩ := h; exact h.max
theorem SpOwn.max2 (h : SpOwn w S A n c B m d xs ys) : m ≤ 140737488355328 := by obtain ⟨_, _, _, _, h, _⟩ := h; exact h.max
end
/-- What a call that makes a space returns: its memory is the call's own. -/
def NewSpO (w : World) (xs ys : List Int) (e : Ending) (w' : World) : Prop :=
  ∃ A n c B m d S, e = .returned (.agg #[.slice A n c, .slice B m d]) ∧ SpOwn w' S A n c B m d xs ys ∧ (∀ k ∈ S, w.heap.size ≤ k) ∧ Below w.heap.size w w'

def szSp (n m : Nat) (left : Int) : Int := if szI n left < 0 then -1 else szI m (szI n left)
theorem szI_bd (n : Nat) (left : Int) (h1 : left ≤ 1048576) : -1 ≤ szI n left ∧ szI n left ≤ 1048576 := by unfold szI; split <;> omega
theorem szI_yes {n : Nat} {left : Int} (h : ¬ szI n left < 0) : (n : Int) ≤ left := by unfold szI at h; split at h <;> omega
theorem szI_neg {n : Nat} {left : Int} (h : szI n left < 0) : szI n left = -1 := by unfold szI at h ⊢; split at h <;> rename_i h2 <;> simp [h2] <;> omega
theorem szSp_yes {n m : Nat} {left : Int} (h0 : left ≤ 1048576) (h : ¬ szSp n m left < 0) : n ≤ 1048576 ∧ m ≤ 1048576 := by
  unfold szSp at h
  split at h
  · omega
  · rename_i h1
    have h2 := szI_yes h1
    have h3 := szI_yes h
    have h4 := szI_bd n left h0
    omega





end Go.Proofs.Ytfokpjoeankobaa
