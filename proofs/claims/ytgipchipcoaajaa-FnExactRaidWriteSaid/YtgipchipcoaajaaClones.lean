/- slices.Clone at the disks' types: new memory, arrays whole. Condition: fewer than 2^40 members. -/
import Derived.Test.YtgipchipcoaajaaTypes
import Derived.Test.YtgipchipcoaajaaCopies
import Derived.Test.YtgipchipcoaajaaChecked
namespace Go.Proofs.Ytgipchipcoaajaa
set_option linter.unusedVariables false
set_option linter.unusedSimpArgs false
set_option linter.unnecessarySimpa false
open Go.RowKit

def DiskN : Reads DiskD := fun w lo hi cs x => ∃ (A0 : Option Addr) (n0 c0 : Nat) (A1 : Option Addr) (n1 c1 : Nat), cs = [.slice A0 n0 c0, .slice A1 n1 c1, .bool x.2.2] ∧ SliceR StrR 1 w lo hi A0 n0 c0 x.1 ∧ Whole w 9 1 lo hi A0 n0 c0 ∧ SliceR WaitR 2 w lo hi A1 n1 c1 x.2.1 ∧ Whole w 78 2 lo hi A1 n1 c1
theorem DiskN.r {w : World} {lo hi : Nat} {cs : List Value} {x : DiskD} (h : DiskN w lo hi cs x) : DiskR w lo hi cs x := by
  obtain ⟨A0, n0, c0, A1, n1, c1, rfl, h0, h1, h2, h3⟩ := h
  exact ⟨A0, n0, c0, A1, n1, c1, rfl, h0, h2⟩
theorem DiskN.keep {w w' : World} {lo hi : Nat} (hs : Same lo hi w w') (hz : w.heap.size ≤ w'.heap.size) (cs : List Value) (x : DiskD) (h : DiskN w lo hi cs x) : DiskN w' lo hi cs x := by
  obtain ⟨A0, n0, c0, A1, n1, c1, rfl, h0, h1, h2, h3⟩ := h
  exact ⟨A0, n0, c0, A1, n1, c1, rfl, h0.keep hs hz (StrR.keep hs hz), h1.keep hs, h2.keep hs hz (WaitR.keep hs hz), h3.keep hs⟩
theorem DiskN.wide {w : World} {lo hi lo' hi' : Nat} (b1 : lo' ≤ lo) (b2 : hi ≤ hi') (b3 : hi' ≤ w.heap.size) (cs : List Value) (x : DiskD) (h : DiskN w lo hi cs x) : DiskN w lo' hi' cs x := by
  obtain ⟨A0, n0, c0, A1, n1, c1, rfl, h0, h1, h2, h3⟩ := h
  exact ⟨A0, n0, c0, A1, n1, c1, rfl, h0.wide b1 b2 b3 (StrR.wide b1 b2 b3), h1.wide b1 b2, h2.wide b1 b2 b3 (WaitR.wide b1 b2 b3), h3.wide b1 b2⟩
theorem DiskN.below {w w' : World} {lo hi : Nat} (hb : Below w.heap.size w w') (hhi : hi ≤ w.heap.size) (cs : List Value) (x : DiskD) (h : DiskN w lo hi cs x) : DiskN w' lo hi cs x := DiskN.keep (Same.of_below hb hhi) hb.size cs x h

theorem infoE_StringS : (Try.prog.info? 9).map (fun i => (i.zero, i.size, i.bytes)) = some (some (.string ByteArray.empty), 1, 16) := by kernel_rfl
set_option maxRecDepth 100000 in
set_option maxHeartbeats 2000000 in
theorem cloneStringS_any (A : Option Addr) (n c : Nat) (xs : List ByteArray) (w : World) (lo hi : Nat) (h : SliceR StrR 1 w lo hi A n c xs) (hn : n ≤ 1099511627776) :
    Calls Try.prog 116 #[.slice A n c] w (NewW StrR 1 9 w n xs) := by
  have hnil := Lib.run_eql_slice_nil (P := Try.prog) w 23 9 A n c 0 0 Try.underlying23
  obtain ⟨i0, hi0, hz0, hz1, hz2⟩ := info_parts infoE_StringS
  have hlen := h.len
  rcases A with _ | ad
  · have h1 := h.2.2.2.2.1 rfl; have h2 := h.2.1
    obtain rfl : c = 0 := h1
    obtain rfl : n = 0 := by omega
    obtain rfl : xs = [] := List.eq_nil_of_length_eq_zero hlen
    clear h h2
    go_enter Try.func116, Try.ntmps116
    go_wp2_with fail
    go_ret
    exact ⟨none, 0, rfl, ⟨rfl, Nat.le_refl _, Nat.zero_le _, Nat.le_refl _, fun _ => rfl, fun h => absurd h (by omega)⟩, .inl ⟨rfl, rfl⟩, Below.refl _ _⟩
  · obtain ⟨vs, r1, r2, r3, r4⟩ := h.row (by decide)
    have hone : ∀ u ∈ vs, u.oneCell' = true := fun u hu => by obtain ⟨cs, x, hm, hr⟩ := r4 u hu; obtain ⟨rfl, _⟩ := hr; simp at hm; subst hm; rfl
    have HR := Lib.hid (RowAt.below r1 (bel1 (o := .cells #[] 9)))
    have HL := Lib.hid hlen; have H3 := Lib.hid r3; have HO := Lib.hid hone
    clear h hlen r1 r2 r3 r4 hone
    go_enter Try.func116, Try.ntmps116
    go_wp2_with (at_builtin; go_must (refine wpList_append_row rfl _ _ 23 rfl 9 i0 (.string ByteArray.empty) 1 16 Try.underlying23 hi0 hz0 hz1 hz2 rfl (by decide) [] (some ⟨w.heap.size, 0, none⟩) (some ad) 0 0 n c [] vs rfl rfl (OwnA.nil _) HR.out HO.out (by unfold maxLen; omega) (by omega) ?_); intro A' c' S' w1 hO' hS' hC')
    go_ret
    have hb : Below (w.alloc (.cells #[] 9)).heap.size (w.alloc (.cells #[] 9)) w1 := hC'.below (fun k _ hk => by simp at hk) (Nat.le_refl _)
    have hb1 : Below w.heap.size w w1 := bel1.trans (hb.mono (by simp))
    simp only [Nat.zero_add, List.nil_append] at hO'
    obtain ⟨g1, g2⟩ := OwnA.slice (R := StrR) (lo := w.heap.size) (hi := w1.heap.size) hO' HL.out H3.out (fun g hg => ⟨(hS' g hg).elim (fun h => by simp at h) (fun h => by simp at h; omega), hO'.lt g hg⟩) (Nat.le_refl _)
    exact ⟨A', c', rfl, g1, g2, hb1⟩

theorem infoE_WaitS : (Try.prog.info? 78).map (fun i => (i.zero, i.size, i.bytes)) = some (some (.agg #[.int .i64 0, .string ⟨#[]⟩]), 2, 24) := by kernel_rfl
set_option maxRecDepth 100000 in
set_option maxHeartbeats 2000000 in
theorem cloneWaitS_any (A : Option Addr) (n c : Nat) (xs : List WaitD) (w : World) (lo hi : Nat) (h : SliceR WaitR 2 w lo hi A n c xs) (hn : n ≤ 1099511627776) :
    Calls Try.prog 117 #[.slice A n c] w (NewW WaitR 2 78 w n xs) := by
  have hnil := Lib.run_eql_slice_nil (P := Try.prog) w 24 78 A n c 0 0 Try.underlying24
  obtain ⟨i0, hi0, hz0, hz1, hz2⟩ := info_parts infoE_WaitS
  have hlen := h.len
  rcases A with _ | ad
  · have h1 := h.2.2.2.2.1 rfl; have h2 := h.2.1
    obtain rfl : c = 0 := h1
    obtain rfl : n = 0 := by omega
    obtain rfl : xs = [] := List.eq_nil_of_length_eq_zero hlen
    clear h h2
    go_enter Try.func117, Try.ntmps117
    go_wp2_with fail
    go_ret
    exact ⟨none, 0, rfl, ⟨rfl, Nat.le_refl _, Nat.zero_le _, Nat.le_refl _, fun _ => rfl, fun h => absurd h (by omega)⟩, .inl ⟨rfl, rfl⟩, Below.refl _ _⟩
  · obtain ⟨vs, r1, r2, r3, r4⟩ := h.row (by decide)
    have hone : ∀ u ∈ vs, u.oneCell' = true := fun u hu => by obtain ⟨cs, x, hm, hr⟩ := r4 u hu; obtain ⟨at_, text_⟩ := x; obtain ⟨rfl, ho0⟩ := hr; simp at hm; rcases hm with rfl | rfl <;> rfl
    have HR := Lib.hid (RowAt.below r1 (bel1 (o := .cells #[] 78)))
    have HL := Lib.hid hlen; have H3 := Lib.hid r3; have HO := Lib.hid hone
    clear h hlen r1 r2 r3 r4 hone
    go_enter Try.func117, Try.ntmps117
    go_wp2_with (at_builtin; go_must (refine wpList_append_row rfl _ _ 24 rfl 78 i0 (.agg #[.int .i64 0, .string ⟨#[]⟩]) 2 24 Try.underlying24 hi0 hz0 hz1 hz2 rfl (by decide) [] (some ⟨w.heap.size, 0, none⟩) (some ad) 0 0 n c [] vs rfl rfl (OwnA.nil _) HR.out HO.out (by unfold maxLen; omega) (by omega) ?_); intro A' c' S' w1 hO' hS' hC')
    go_ret
    have hb : Below (w.alloc (.cells #[] 78)).heap.size (w.alloc (.cells #[] 78)) w1 := hC'.below (fun k _ hk => by simp at hk) (Nat.le_refl _)
    have hb1 : Below w.heap.size w w1 := bel1.trans (hb.mono (by simp))
    simp only [Nat.zero_add, List.nil_append] at hO'
    obtain ⟨g1, g2⟩ := OwnA.slice (R := WaitR) (lo := w.heap.size) (hi := w1.heap.size) hO' HL.out H3.out (fun g hg => ⟨(hS' g hg).elim (fun h => by simp at h) (fun h => by simp at h; omega), hO'.lt g hg⟩) (Nat.le_refl _)
    exact ⟨A', c', rfl, g1, g2, hb1⟩

theorem infoE_PtrS : (Try.prog.info? 106).map (fun i => (i.zero, i.size, i.bytes)) = some (some (.agg #[.int .i64 0, .int .i64 0, .int .i64 0, .int .i64 0, .int .i64 0]), 5, 40) := by kernel_rfl
set_option maxRecDepth 100000 in
set_option maxHeartbeats 2000000 in
theorem clonePtrS_any (A : Option Addr) (n c : Nat) (xs : List PtrD) (w : World) (lo hi : Nat) (h : SliceR PtrR 5 w lo hi A n c xs) (hn : n ≤ 1099511627776) :
    Calls Try.prog 127 #[.slice A n c] w (NewW PtrR 5 106 w n xs) := by
  have hnil := Lib.run_eql_slice_nil (P := Try.prog) w 51 106 A n c 0 0 Try.underlying51
  obtain ⟨i0, hi0, hz0, hz1, hz2⟩ := info_parts infoE_PtrS
  have hlen := h.len
  rcases A with _ | ad
  · have h1 := h.2.2.2.2.1 rfl; have h2 := h.2.1
    obtain rfl : c = 0 := h1
    obtain rfl : n = 0 := by omega
    obtain rfl : xs = [] := List.eq_nil_of_length_eq_zero hlen
    clear h h2
    go_enter Try.func127, Try.ntmps127
    go_wp2_with fail
    go_ret
    exact ⟨none, 0, rfl, ⟨rfl, Nat.le_refl _, Nat.zero_le _, Nat.le_refl _, fun _ => rfl, fun h => absurd h (by omega)⟩, .inl ⟨rfl, rfl⟩, Below.refl _ _⟩
  · obtain ⟨vs, r1, r2, r3, r4⟩ := h.row (by decide)
    have hone : ∀ u ∈ vs, u.oneCell' = true := fun u hu => by obtain ⟨cs, x, hm, hr⟩ := r4 u hu; obtain ⟨at_, birth_, size_, sum_, level_⟩ := x; obtain rfl := hr; simp at hm; rcases hm with rfl | rfl | rfl | rfl | rfl <;> rfl
    have HR := Lib.hid (RowAt.below r1 (bel1 (o := .cells #[] 106)))
    have HL := Lib.hid hlen; have H3 := Lib.hid r3; have HO := Lib.hid hone
    clear h hlen r1 r2 r3 r4 hone
    go_enter Try.func127, Try.ntmps127
    go_wp2_with (at_builtin; go_must (refine wpList_append_row rfl _ _ 51 rfl 106 i0 (.agg #[.int .i64 0, .int .i64 0, .int .i64 0, .int .i64 0, .int .i64 0]) 5 40 Try.underlying51 hi0 hz0 hz1 hz2 rfl (by decide) [] (some ⟨w.heap.size, 0, none⟩) (some ad) 0 0 n c [] vs rfl rfl (OwnA.nil _) HR.out HO.out (by unfold maxLen; omega) (by omega) ?_); intro A' c' S' w1 hO' hS' hC')
    go_ret
    have hb : Below (w.alloc (.cells #[] 106)).heap.size (w.alloc (.cells #[] 106)) w1 := hC'.below (fun k _ hk => by simp at hk) (Nat.le_refl _)
    have hb1 : Below w.heap.size w w1 := bel1.trans (hb.mono (by simp))
    simp only [Nat.zero_add, List.nil_append] at hO'
    obtain ⟨g1, g2⟩ := OwnA.slice (R := PtrR) (lo := w.heap.size) (hi := w1.heap.size) hO' HL.out H3.out (fun g hg => ⟨(hS' g hg).elim (fun h => by simp at h) (fun h => by simp at h; omega), hO'.lt g hg⟩) (Nat.le_refl _)
    exact ⟨A', c', rfl, g1, g2, hb1⟩

end Go.Proofs.Ytgipchipcoaajaa
