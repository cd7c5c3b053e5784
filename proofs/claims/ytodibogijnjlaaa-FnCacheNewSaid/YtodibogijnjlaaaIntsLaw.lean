/- The laws' helpers on lists of ints: sizes, copies, equality, marks. No condition. -/
import Derived.Test.YtodibogijnjlaaaInts
import Derived.Laws.MakeOwn
namespace Go.Proofs.Ytodibogijnjlaaa
set_option linter.unusedVariables false
set_option linter.unusedSimpArgs false
set_option linter.unnecessarySimpa false
open Go.RowKit

/-- What is left of a bound behind a list of n. -/
def szI (n : Nat) (left : Int) : Int := if left - n < 0 then -1 else left - n

set_option maxHeartbeats 400000 in
theorem szIntS_any (A : Option Addr) (n c : Nat) (left : Int) (w : World) (hn : n ≤ maxLen) (h0 : 0 ≤ left) (h1 : left ≤ 1048576) :
    Calls Try.prog 56 #[.slice A n c, .int .i64 left] w fun e w' => e = .returned (.int .i64 (szI n left)) ∧ w = w' := by
  unfold maxLen at hn
  by_cases hlt : left - n < 0
  · have hf := Lib.hid (show szI n left = -1 by unfold szI; rw [if_pos hlt])
    go_enter Try.func56, Try.ntmps56
    go_wp2
    go_ret
    exact ⟨ret_int hf.out.symm, rfl⟩
  · have hf := Lib.hid (show szI n left = left - n by unfold szI; rw [if_neg hlt])
    go_enter Try.func56, Try.ntmps56
    go_wp2
    go_ret
    exact ⟨ret_int hf.out.symm, rfl⟩

set_option maxHeartbeats 400000 in
theorem eqIntS_any (A B : Option Addr) (n c m d : Nat) (xs ys : List Int) (w : World) (hA : IntsAt w A n xs) (hB : IntsAt w B m ys) :
    Calls Try.prog 47 #[.slice A n c, .slice B m d] w fun e w' => e = .returned (.bool (eqInts xs ys)) ∧ Quiet w w' := by
  have hn := hA.max
  have hm := hB.max
  by_cases hnm : n = m
  · subst hnm
    go_enter Try.func47, Try.ntmps47
    go_wp2
    go_loopw [5] (fun i wr => ∃ k : Nat, k ≤ n ∧ i = .int .i64 k ∧ Hid (∀ j, j < k → xs.getD j 0 = ys.getD j 0) ∧ Quiet w wr) (fun i _ => n - (intOf i).toNat)
    case atStart => exact ⟨0, Nat.zero_le _, rfl, fun j hj => absurd hj (by omega), Quiet.refl _⟩
    case round =>
      obtain ⟨k, hk, rfl, HP, q, rfl⟩ := hrel
      by_cases hlt : k < n
      · obtain ⟨b, off, rfl, _, hc⟩ := hA.at_ hlt
        obtain ⟨b', off', rfl, _, hc'⟩ := hB.at_ hlt
        have h1 := hc k hlt
        have h2 := hc' k hlt
        clear hc hc'
        go_wp2
        go_quiet (fail)
        by_cases he : xs.getD k 0 = ys.getD k 0
        · have he' : (xs[k]?.getD 0 != ys[k]?.getD 0) = false := by simpa [List.getD] using he
          have HE := Lib.hid he
          clear he
          go_wp2
          go_roundw
          case rel => exact ⟨k + 1, by omega, by go_num, fun j hj => by
            rcases Nat.lt_or_ge j k with h | h
            · exact HP.out j h
            · obtain rfl : j = k := by omega
              exact HE.out, ⟨_, rfl⟩⟩
          case measure => simp [intOf]; omega
        · have he' : (xs[k]?.getD 0 != ys[k]?.getD 0) = true := by simpa [List.getD] using he
          have hf := Lib.hid (eqInts_ne he)
          clear he
          go_wp2
          go_ret
          exact ⟨ret_bool hf.out.symm, ((Quiet.refl _).drewN _).drewN _⟩
      · have hf := Lib.hid (eqInts_of_getD hA.len hB.len fun j hj => HP.out j (by omega))
        go_wp2
        go_ret
        exact ⟨ret_bool hf.out.symm, (Quiet.refl _).drewN _⟩
  · have hf := Lib.hid (eqInts_len (xs := xs) (ys := ys) (by rw [hA.len, hB.len]; exact hnm))
    have hne : ((n : Int) != (m : Int)) = true := by simp; omega
    go_enter Try.func47, Try.ntmps47
    go_wp2
    go_ret
    exact ⟨ret_bool hf.out.symm, Quiet.refl _⟩

theorem info_int : (Try.prog.info? 3).map (fun i => (i.zero, i.size, i.bytes)) = some (some (.int .i64 0), 1, 8) := by kernel_rfl

/-- make([]int, n). -/
theorem make_ints (n : Nat) (hn : n ≤ 17592186044416) (w : World) :
    (Instr.makeSlice 36 (.int .i64 (n : Int)) (.int .i64 (n : Int))).run Try.prog w = .ok (.slice (some ⟨w.heap.size, 0, none⟩) n n) (w.alloc (.cells (madeCells #[.int .i64 0] n) 3)) := by
  obtain ⟨i, hi, hz, hs, hb⟩ := info_parts info_int
  have hr := run_make (P := Try.prog) w 36 3 i (.int .i64 0) Try.underlying36 hi hz .i64 .i64 n n (by omega) (by omega) (by rw [hb]; omega) (by omega)
  simp only [Int.toNat_natCast, hs, Nat.mul_one] at hr
  exact hr

/-- The first k of the list, zeros behind. -/
def copyTo (xs : List Int) (n k : Nat) : List Int := xs.take k ++ List.replicate (n - k) 0
theorem copyTo_zero (xs : List Int) (n : Nat) : copyTo xs n 0 = List.replicate n 0 := by simp [copyTo]
theorem copyTo_all {xs : List Int} {n : Nat} (h : xs.length = n) : copyTo xs n n = xs := by simp [copyTo, ← h]
theorem copyTo_succ {xs : List Int} {n k : Nat} (h : xs.length = n) (hk : k < n) : (copyTo xs n k).set k (xs.getD k 0) = copyTo xs n (k + 1) := by
  apply List.ext_getElem?
  intro i
  unfold copyTo
  simp only [List.getElem?_set, List.getElem?_append, List.length_append, List.length_take, List.length_replicate, List.getElem?_take, List.getElem?_replicate, List.getD]
  rw [show min k xs.length = k by omega, show min (k + 1) xs.length = k + 1 by omega]
  by_cases h1 : k = i
  · subst h1
    rw [if_pos rfl, if_pos (by omega), if_pos (by omega), if_pos (by omega), List.getElem?_eq_getElem (by omega)]
    rfl
  · rw [if_neg h1]
    by_cases h2 : i < k
    · rw [if_pos h2, if_pos h2, if_pos (show i < k + 1 by omega), if_pos (show i < k + 1 by omega)]
    · rw [if_neg h2, if_neg (show ¬ i < k + 1 by omega)]
      by_cases h3 : i < n
      · rw [if_pos (show i - k < n - k by omega), if_pos (show i - (k + 1) < n - (k + 1) by omega)]
      · rw [if_neg (show ¬ i - k < n - k by omega), if_neg (show ¬ i - (k + 1) < n - (k + 1) by omega)]

/-- The numbers k, k + 1 .. -/
def seqI (k : Int) : Nat → List Int
  | 0 => []
  | n + 1 => k :: seqI (k + 1) n
theorem seqI_len (k : Int) (n : Nat) : (seqI k n).length = n := by
  induction n generalizing k with
  | zero => rfl
  | succ n ih => simp [seqI, ih]
theorem seqI_get (k : Int) (n j : Nat) (hj : j < n) : (seqI k n).getD j 0 = k + j := by
  induction n generalizing k j with
  | zero => omega
  | succ n ih =>
    cases j with
    | zero => simp [seqI]
    | succ j =>
      have := ih (k + 1) j (by omega)
      simp only [seqI, List.getD_cons_succ, this]
      omega
/-- The list whose first j numbers are marked from k on. -/
def markTo (xs : List Int) (k : Int) (j : Nat) : List Int := seqI k j ++ xs.drop j
theorem markTo_zero (xs : List Int) (k : Int) : markTo xs k 0 = xs := by simp [markTo, seqI]
theorem markTo_all {xs : List Int} {n : Nat} (h : xs.length = n) (k : Int) : markTo xs k n = seqI k n := by simp [markTo, ← h]
theorem markTo_succ {xs : List Int} {n j : Nat} (h : xs.length = n) (hj : j < n) (k : Int) : (markTo xs k j).set j (k + j) = markTo xs k (j + 1) := by
  apply List.ext_getElem?
  intro i
  unfold markTo
  simp only [List.getElem?_set, List.getElem?_append, List.length_append, seqI_len, List.length_drop, List.getElem?_drop]
  have g : ∀ a b, b < a → (seqI k a)[b]? = some (k + b) := by
    intro a b hb
    have h1 := seqI_get k a b hb
    have h2 : b < (seqI k a).length := by rw [seqI_len]; exact hb
    rw [List.getElem?_eq_getElem h2]
    rw [List.getD, List.getElem?_eq_getElem h2] at h1
    simpa using h1
  by_cases h1 : j = i
  · subst h1
    rw [if_pos rfl, if_pos (by omega), if_pos (by omega), g _ _ (by omega)]
  · rw [if_neg h1]
    by_cases h2 : i < j
    · rw [if_pos h2, if_pos (by omega), g _ _ h2, g _ _ (by omega)]
    · rw [if_neg h2, if_neg (by omega)]
      congr 1
      omega

/-- A new slice of ints: its memory is the call's own. -/
def NewInts (w : World) (n : Nat) (xs : List Int) (e : Ending) (w' : World) : Prop :=
  ∃ A c S, e = .returned (.slice A n c) ∧ OwnS w' S A n c xs ∧ (∀ k ∈ S, w.heap.size ≤ k) ∧ Below w.heap.size w w'

set_option maxHeartbeats 1000000 in
theorem toIntS_any (A : Option Addr) (n c : Nat) (xs : List Int) (w : World) (hA : IntsAt w A n xs) (hn : n ≤ 17592186044416) :
    Calls Try.prog 59 #[.slice A n c] w (NewInts w n xs) := by
  have hmk := make_ints n hn
  have hlen := Lib.hid hA.len
  have hnew : OwnI (w.alloc (.cells (madeCells #[.int .i64 0] n) 3)) w.heap.size n n (copyTo xs n 0) :=
    OwnI.new (by rw [copyTo_zero, toList_madeCells_one]; simp) (by rw [size_madeCells]; omega) rfl (size_madeCells _ _).symm
  go_enter Try.func59, Try.ntmps59
  go_wp2_with fail
  generalize hW : w.alloc (.cells (madeCells #[.int .i64 0] n) 3) = w1 at *
  have hb1 : Below w.heap.size w w1 := by rw [← hW]; exact (Below.refl _ _).alloc (Nat.le_refl _) _
  clear hW hmk
  go_loopw [4] (fun i wr => ∃ k : Nat, k ≤ n ∧ i = .int .i64 k ∧ OwnI wr w.heap.size n n (copyTo xs n k) ∧ Below w.heap.size w wr) (fun i _ => n - (intOf i).toNat)
  case atStart => exact ⟨0, Nat.zero_le _, rfl, hnew, hb1⟩
  case round =>
    clear hnew hb1
    obtain ⟨k, hk, rfl, ho, hb⟩ := hrel
    by_cases hlt : k < n
    · obtain ⟨b, off, rfl, hblk, hc⟩ := hA.at_ hlt
      have h1 : wr.cell? ⟨b, off + k, none⟩ = some (.int .i64 (xs.getD k 0)) := (hb.cell hblk).trans (hc k hlt)
      have h2 := ho.cell hlt
      have h3 := ho.frozen k
      have hs := Lib.hid (ho.set_ hlt (xs.getD k 0))
      rw [copyTo_succ hlen.out hlt] at hs
      have hbs := Lib.hid (hb.setCell (p := ⟨w.heap.size, k, none⟩) (Nat.le_refl _) (.int .i64 (xs.getD k 0)))
      obtain ⟨r, hr⟩ : ∃ r, r = xs.getD k 0 := ⟨_, rfl⟩
      rw [← hr] at h1 hs hbs
      obtain ⟨r', hr'⟩ : ∃ r', r' = (copyTo xs n k).getD k 0 := ⟨_, rfl⟩
      rw [← hr'] at h2
      clear hc hr hr' ho hb
      go_wp2_with fail
      go_roundw
      case rel => exact ⟨k + 1, by omega, by go_num, hs.out, hbs.out⟩
      case measure => simp [intOf]; omega
    · obtain rfl : k = n := by omega
      rw [copyTo_all hlen.out] at ho
      go_wp2_with fail
      go_ret
      exact ⟨_, _, [w.heap.size], rfl, .inr ⟨_, rfl, rfl, ho⟩, by simp, hb⟩

set_option maxHeartbeats 1000000 in
theorem markIntS_any (A : Option Addr) (n c : Nat) (S : List Nat) (xs : List Int) (k : Int) (w : World) (hA : OwnS w S A n c xs) (h0 : 0 ≤ k) (h1 : k ≤ 1152921504606846976) :
    Calls Try.prog 48 #[.slice A n c, .int .i64 k] w fun e w' =>
      e = .returned (.int .i64 (k + n)) ∧ OwnS w' S A n c (seqI k n) ∧ Chg (· ∈ S) w w' := by
  have hn := hA.max
  have hlen := Lib.hid hA.at_.len
  rcases hA with ⟨rfl, rfl, rfl, hnil⟩ | ⟨g, rfl, rfl, hA⟩
  · go_enter Try.func48, Try.ntmps48
    go_wp2_with fail
    refine wp_loop_rounds 1 ?_
    rw [rounds_succ]
    go_wp2_with fail
    go_ret
    exact ⟨by simp, .inl ⟨rfl, rfl, rfl, hnil⟩, Chg.refl _ _⟩
  · go_enter Try.func48, Try.ntmps48
    go_wp2_with fail
    go_loopw [1, 5] (fun s i wr => ∃ j : Nat, j ≤ n ∧ i = .int .i64 j ∧ s = .int .i64 (k + j) ∧ OwnI wr g n c (markTo xs k j) ∧ Chg (· ∈ [g]) w wr) (fun _ i _ => n - (intOf i).toNat)
    case atStart => exact ⟨0, Nat.zero_le _, rfl, by simp, by rw [markTo_zero]; exact hA, Chg.refl _ _⟩
    case round =>
      clear hA
      obtain ⟨j, hj, rfl, rfl, ho, hb⟩ := hrel
      by_cases hlt : j < n
      · have h2 := ho.cell hlt
        have h3 := ho.frozen j
        have hs := Lib.hid (ho.set_ hlt (k + j))
        rw [markTo_succ hlen.out hlt] at hs
        have hbs := Lib.hid (hb.setCell (p := ⟨g, j, none⟩) (.inl (by simp)) (.int .i64 (k + j)))
        obtain ⟨r', hr'⟩ : ∃ r', r' = (markTo xs k j).getD j 0 := ⟨_, rfl⟩
        rw [← hr'] at h2
        clear hr' ho hb
        go_wp2_with fail
        go_roundw
        case rel => exact ⟨j + 1, by omega, by go_num, by go_num, hs.out, hbs.out⟩
        case measure => simp [intOf]; omega
      · obtain rfl : j = n := by omega
        rw [markTo_all hlen.out] at ho
        go_wp2_with fail
        go_ret
        exact ⟨rfl, .inr ⟨g, rfl, rfl, ho⟩, hb⟩

set_option maxHeartbeats 1000000 in
theorem heldIntS_any (A : Option Addr) (n c : Nat) (k : Int) (w : World) (hA : IntsAt w A n (seqI k n)) (h0 : 0 ≤ k) (h1 : k ≤ 1152921504606846976) (hn : n ≤ 140737488355328) :
    Calls Try.prog 49 #[.slice A n c, .int .i64 k] w fun e w' => e = .returned (.int .i64 (k + n)) ∧ Quiet w w' := by
  go_enter Try.func49, Try.ntmps49
  go_wp2_with fail
  go_loopw [1, 5] (fun s i wr => ∃ j : Nat, j ≤ n ∧ i = .int .i64 j ∧ s = .int .i64 (k + j) ∧ Quiet w wr) (fun _ i _ => n - (intOf i).toNat)
  case atStart => exact ⟨0, Nat.zero_le _, rfl, by simp, Quiet.refl _⟩
  case round =>
    obtain ⟨j, hj, rfl, rfl, q, rfl⟩ := hrel
    by_cases hlt : j < n
    · obtain ⟨b, off, rfl, hblk, hc⟩ := hA.at_ hlt
      have h2 := hc j hlt
      rw [seqI_get _ _ _ hlt] at h2
      have he : ((k + (j : Int)) != (k + (j : Int))) = false := by simp
      clear hc
      go_wp2_with fail
      try (go_quiet (fail); go_wp2_with fail)
      go_roundw
      case rel => exact ⟨j + 1, by omega, by go_num, by go_num, ⟨_, rfl⟩⟩
      case measure => simp [intOf]; omega
    · obtain rfl : j = n := by omega
      go_wp2_with fail
      go_ret
      exact ⟨rfl, _, rfl⟩

end Go.Proofs.Ytodibogijnjlaaa
