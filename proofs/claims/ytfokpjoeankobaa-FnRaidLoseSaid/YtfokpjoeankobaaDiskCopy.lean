/- Copies of disks: new memory, arrays whole. Condition: fewer than 2^40 members a slice. -/
import Derived.Test.YtfokpjoeankobaaTypes
import Derived.Test.YtfokpjoeankobaaChecked
namespace Go.Proofs.Ytfokpjoeankobaa
set_option linter.unusedVariables false
set_option linter.unusedSimpArgs false
set_option linter.unnecessarySimpa false
section
open Go.RowKit

def DiskN : Reads DiskD := fun w lo hi cs x => ∃ (A0 : Option Addr) (n0 c0 : Nat) (A1 : Option Addr) (n1 c1 : Nat), cs = [.slice A0 n0 c0, .slice A1 n1 c1, .bool x.2.2] ∧ SliceR StrR 1 w lo hi A0 n0 c0 x.1 ∧ Whole w 9 1 lo hi A0 n0 c0 ∧ SliceR WaitR 2 w lo hi A1 n1 c1 x.2.1 ∧ Whole w 63 2 lo hi A1 n1 c1
theorem DiskN.r {w : World} {lo hi : Nat} {cs : List Value} {x : DiskD} (h : DiskN w lo hi cs x) : DiskR w lo hi cs x := by
  obtain ⟨A0, n0, c0, A1, n1, c1, rfl, h0, h1, h2, h3⟩ := h
  exact ⟨A0, n0, c0, A1, n1, c1, rfl, h0, h2⟩
theorem DiskN.keep {w w' : World} {lo hi : Nat} (hs : Same lo hi w w') (hz : w.heap.size ≤ w'.heap.size) (cs : List Value) (x : DiskD) (h : DiskN w lo hi cs x) : DiskN w' lo hi cs x := by
  obtain ⟨A0, n0, c0, A1, n1, c1, rfl, h0, h1, h2, h3⟩ := h
  exact ⟨A0, n0, c0, A1, n1, c1, rfl, h0.keep hs hz (StrR.keep hs hz), h1.keep hs, h2.keep hs hz (WaitR.keep hs hz), h3.keep hs⟩
theorem DiskN.wide {w : World} {lo hi lo' hi' : Nat} (b1 : lo' ≤ lo) (b2 : hi ≤ hi') (b3 : hi' ≤ w.heap.size) (cs : List Value) (x : DiskD) (h : DiskN w lo hi cs x) : DiskN w lo' hi' cs x := by
  obtain ⟨A0, n0, c0, A1, n1, c1, rfl, h0, h1, h2, h3⟩ := h
  exact ⟨A0, n0, c0, A1, n1, c1, rfl, h0.wide b1 b2 b3 (StrR.wide b1 b2 b3), h1.wide b1 b2, h2.wide b1 b2 b3 (WaitR.wide b1 b2 b3), h3.wide b1 b2⟩
theorem DiskN.below {w w' : World} {lo hi : Nat} (hb : Below w.heap.size w w') (hhi : hi ≤ w.heap.size) (cs : List Value) (x : DiskD) (h : DiskN w lo hi cs x) : DiskN w' lo hi cs x := DiskN.keep (Same.of_below hb hhi) hb.size cs x h

theorem infoE_StringS : (Try.prog.info? 9).map (fun i => (i.zero, i.size, i.bytes)) = some (some (.string ByteArray.empty), 1, 16) := by kernel_rfl
set_option maxRecDepth 100000 in
set_option maxHeartbeats 2000000 in
theorem cloneStringS_any (A : Option Addr) (n c : Nat) (xs : List ByteArray) (w : World) (lo hi : Nat) (h : SliceR StrR 1 w lo hi A n c xs) (hn : n ≤ 1099511627776) :
    Calls Try.prog 70 #[.slice A n c] w (NewW StrR 1 9 w n xs) := by
  have hnil := Lib.run_eql_slice_nil (P := Try.prog) w 42 9 A n c 0 0 Try.underlying42
  obtain ⟨i0, hi0, hz0, hz1, hz2⟩ := info_parts infoE_StringS
  have hlen := h.len
  rcases A with _ | ad
  · have h1 := h.2.2.2.2.1 rfl; have h2 := h.2.1
    obtain rfl : c = 0 := h1
    obtain rfl : n = 0 := by omega
    obtain rfl : xs = [] := List.eq_nil_of_length_eq_zero hlen
    clear h h2
    go_enter Try.func70, Try.ntmps70
    go_wp2_with fail
    go_ret
    exact ⟨none, 0, rfl, ⟨rfl, Nat.le_refl _, Nat.zero_le _, Nat.le_refl _, fun _ => rfl, fun h => absurd h (by omega)⟩, .inl ⟨rfl, rfl⟩, Below.refl _ _⟩
  · obtain ⟨vs, r1, r2, r3, r4⟩ := h.row (by decide)
    have hone : ∀ u ∈ vs, u.oneCell' = true := fun u hu => by obtain ⟨cs, x, hm, hr⟩ := r4 u hu; obtain ⟨rfl, _⟩ := hr; simp at hm; subst hm; rfl
    have HR := Lib.hid (RowAt.below r1 (bel1 (o := .cells #[] 9)))
    have HL := Lib.hid hlen; have H3 := Lib.hid r3; have HO := Lib.hid hone
    clear h hlen r1 r2 r3 r4 hone
    go_enter Try.func70, Try.ntmps70
    go_wp2_with (at_builtin; go_must (refine wpList_append_row rfl _ _ 42 rfl 9 i0 (.string ByteArray.empty) 1 16 Try.underlying42 hi0 hz0 hz1 hz2 rfl (by decide) [] (some ⟨w.heap.size, 0, none⟩) (some ad) 0 0 n c [] vs rfl rfl (OwnA.nil _) HR.out HO.out (by unfold maxLen; omega) (by omega) ?_); intro A' c' S' w1 hO' hS' hC')
    go_ret
    have hb : Below (w.alloc (.cells #[] 9)).heap.size (w.alloc (.cells #[] 9)) w1 := hC'.below (fun k _ hk => by simp at hk) (Nat.le_refl _)
    have hb1 : Below w.heap.size w w1 := bel1.trans (hb.mono (by simp))
    simp only [Nat.zero_add, List.nil_append] at hO'
    obtain ⟨g1, g2⟩ := OwnA.slice (R := StrR) (lo := w.heap.size) (hi := w1.heap.size) hO' HL.out H3.out (fun g hg => ⟨(hS' g hg).elim (fun h => by simp at h) (fun h => by simp at h; omega), hO'.lt g hg⟩) (Nat.le_refl _)
    exact ⟨A', c', rfl, g1, g2, hb1⟩

theorem infoE_WaitS : (Try.prog.info? 63).map (fun i => (i.zero, i.size, i.bytes)) = some (some (.agg #[.int .i64 0, .string ⟨#[]⟩]), 2, 24) := by kernel_rfl
set_option maxRecDepth 100000 in
set_option maxHeartbeats 2000000 in
theorem cloneWaitS_any (A : Option Addr) (n c : Nat) (xs : List WaitD) (w : World) (lo hi : Nat) (h : SliceR WaitR 2 w lo hi A n c xs) (hn : n ≤ 1099511627776) :
    Calls Try.prog 71 #[.slice A n c] w (NewW WaitR 2 63 w n xs) := by
  have hnil := Lib.run_eql_slice_nil (P := Try.prog) w 43 63 A n c 0 0 Try.underlying43
  obtain ⟨i0, hi0, hz0, hz1, hz2⟩ := info_parts infoE_WaitS
  have hlen := h.len
  rcases A with _ | ad
  · have h1 := h.2.2.2.2.1 rfl; have h2 := h.2.1
    obtain rfl : c = 0 := h1
    obtain rfl : n = 0 := by omega
    obtain rfl : xs = [] := List.eq_nil_of_length_eq_zero hlen
    clear h h2
    go_enter Try.func71, Try.ntmps71
    go_wp2_with fail
    go_ret
    exact ⟨none, 0, rfl, ⟨rfl, Nat.le_refl _, Nat.zero_le _, Nat.le_refl _, fun _ => rfl, fun h => absurd h (by omega)⟩, .inl ⟨rfl, rfl⟩, Below.refl _ _⟩
  · obtain ⟨vs, r1, r2, r3, r4⟩ := h.row (by decide)
    have hone : ∀ u ∈ vs, u.oneCell' = true := fun u hu => by obtain ⟨cs, x, hm, hr⟩ := r4 u hu; obtain ⟨at_, text_⟩ := x; obtain ⟨rfl, ho0⟩ := hr; simp at hm; rcases hm with rfl | rfl <;> rfl
    have HR := Lib.hid (RowAt.below r1 (bel1 (o := .cells #[] 63)))
    have HL := Lib.hid hlen; have H3 := Lib.hid r3; have HO := Lib.hid hone
    clear h hlen r1 r2 r3 r4 hone
    go_enter Try.func71, Try.ntmps71
    go_wp2_with (at_builtin; go_must (refine wpList_append_row rfl _ _ 43 rfl 63 i0 (.agg #[.int .i64 0, .string ⟨#[]⟩]) 2 24 Try.underlying43 hi0 hz0 hz1 hz2 rfl (by decide) [] (some ⟨w.heap.size, 0, none⟩) (some ad) 0 0 n c [] vs rfl rfl (OwnA.nil _) HR.out HO.out (by unfold maxLen; omega) (by omega) ?_); intro A' c' S' w1 hO' hS' hC')
    go_ret
    have hb : Below (w.alloc (.cells #[] 63)).heap.size (w.alloc (.cells #[] 63)) w1 := hC'.below (fun k _ hk => by simp at hk) (Nat.le_refl _)
    have hb1 : Below w.heap.size w w1 := bel1.trans (hb.mono (by simp))
    simp only [Nat.zero_add, List.nil_append] at hO'
    obtain ⟨g1, g2⟩ := OwnA.slice (R := WaitR) (lo := w.heap.size) (hi := w1.heap.size) hO' HL.out H3.out (fun g hg => ⟨(hS' g hg).elim (fun h => by simp at h) (fun h => by simp at h; omega), hO'.lt g hg⟩) (Nat.le_refl _)
    exact ⟨A', c', rfl, g1, g2, hb1⟩

end
section
open Go.RowKit

set_option maxRecDepth 100000 in
set_option maxHeartbeats 8000000 in
theorem cloneDisk_any (cs : List Value) (x : DiskD) (w : World) (lo hi : Nat) (h : DiskR w lo hi cs x) (b0 : x.1.length ≤ 1099511627776) (b1 : x.2.1.length ≤ 1099511627776) :
    Calls Try.prog 52 #[.agg cs.toArray] w (NewR DiskN w x) := by
  obtain ⟨cells_, waits_, gone_⟩ := x
  obtain ⟨Aa0, na0, ca0, Aa1, na1, ca1, rfl, ha0, ha1⟩ := h
  show Calls Try.prog 52 #[.agg #[.slice Aa0 na0 ca0, .slice Aa1 na1 ca1, .bool gone_]] w _
  have g0 : cells_.length = na0 := ha0.len
  have m0 : na0 ≤ 1099511627776 := by have := b0; simp only at this; omega
  have H0 := Lib.hid ha0; clear ha0
  have g1 : waits_.length = na1 := ha1.len
  have m1 : na1 ≤ 1099511627776 := by have := b1; simp only at this; omega
  have H1 := Lib.hid ha1; clear ha1
  have G0 := Lib.hid g0; clear g0 b0
  have G1 := Lib.hid g1; clear g1 b1
  go_enter Try.func52, Try.ntmps52
  go_wp2_with fail
  obtain ⟨w1, hW⟩ : ∃ w1, w1 = (w.alloc (.cells #[.slice Aa0 na0 ca0, .slice Aa1 na1 ca1, .bool gone_] 45)).alloc (.cells #[.slice none 0 0, .slice none 0 0, .bool false] 45) := ⟨_, rfl⟩
  have X1 : Below w.heap.size w w1 := by rw [hW]; exact bel2
  have z1 : w1.heap.size = w.heap.size + 2 := by rw [hW]; simp
  have hq : w1.heap[w.heap.size + 1]? = some (.cells #[.slice none 0 0, .slice none 0 0, .bool false] 45 (0, 0)) := by rw [hW]; have := heap_alloc_new (w.alloc (.cells #[.slice Aa0 na0 ca0, .slice Aa1 na1 ca1, .bool gone_] 45)) (.cells #[.slice none 0 0, .slice none 0 0, .bool false] 45); simpa using this
  have hbx : w1.heap[w.heap.size]? = some (.cells #[.slice Aa0 na0 ca0, .slice Aa1 na1 ca1, .bool gone_] 45 (0, 0)) := by rw [hW]; exact (Below.heap_alloc _ _ _ (by simp)).trans (heap_alloc_new _ _)
  have HW := Lib.hid hW; rw [← HW.out]; clear hW HW
  have HQ : Hid (Shape (w.heap.size + 1) 45 3 w1) := Lib.hid ⟨_, hq, rfl⟩
  have HX := Lib.hid hbx; clear hq hbx
  have HZ := Lib.hid z1; clear z1
  apply wp_region_rgm (OwnQ (w.heap.size + 1) (w.heap.size + 1) 45 3) (Ext) (fun _ _ => True) [0, 0, 0, 0, 0, 0, 0, 0, 0, 0] (by kernel_rfl) [false, false, false, true, true, true, true, true, true, true, true, true] [some 3, some 4, some 5, some 6, some 7, some 8, some 9, some 10, some 11, none] [[], [0], [1], [], [3], [4], [], [6], [2, 5, 7], [8]] [false, false, false, false, false, false, false, false, false, true] [true, true, false, true, true, false, true, true, false, false] [9] [MStP.is _, MStP.is _, MStP.newSl (S := OwnQ (w.heap.size + 1) (w.heap.size + 1) 45 3) (R := StrR) StrR.below 1 9 (w.heap.size + 2) na0 cells_, MStP.is _, MStP.is _, MStP.newSl (S := OwnQ (w.heap.size + 1) (w.heap.size + 1) 45 3) (R := WaitR) WaitR.below 2 63 (w.heap.size + 2) na1 waits_, MStP.is _, MStP.is _, MStP.newT (S := OwnQ (w.heap.size + 1) (w.heap.size + 1) 45 3) (R := DiskN) DiskN.below (w.heap.size + 2) (cells_, waits_, gone_), MStP.stored (S := OwnQ (w.heap.size + 1) (w.heap.size + 1) 45 3) (R := DiskN) DiskN.below (w.heap.size + 1) 45 (w.heap.size + 2) (cells_, waits_, gone_)] (by kernel_rfl) (by kernel_rfl) (by kernel_rfl)
  case hobs =>
    refine ⟨fun y w' k hS hj hk hF K hK => ?_, ?_⟩
    · skip -- 0: fieldAddr
      simp only [fillL, cond_true, cond_false, List.getD_cons_zero, List.getD_cons_succ, StP.is, Act.put, List.setIfInBounds_toArray, List.set_cons_zero, List.set_cons_succ, Nat.reduceAdd, MStP.is, Option.isSome_some, Option.isSome_none] at hK ⊢
      refine rg_yes (by kernel_rfl) ?_
      clear hF
      go_simp
      exact hK _ _ (Ext.refl _) trivial rfl
    refine ⟨fun y w' k hS hj hk hF K hK => ?_, ?_⟩
    · skip -- 1: load
      have e3 : y 3 = _ := hF.1
      simp only [fillL, cond_true, cond_false, List.getD_cons_zero, List.getD_cons_succ, StP.is, Act.put, List.setIfInBounds_toArray, List.set_cons_zero, List.set_cons_succ, Nat.reduceAdd, e3, MStP.is, Option.isSome_some, Option.isSome_none] at hK ⊢
      refine rg_yes (by kernel_rfl) ?_
      have hSb : Below (w.heap.size + 1) w1 w' := hS.1 (by have := HZ.out; omega)
      have hlw : w.heap.size + 2 ≤ w'.heap.size := by have := hSb.size; have := HZ.out; omega
      have hxw := (hSb.block _ (Nat.lt_succ_self _)).trans HX.out
      have q0_ : w'.cell? ⟨w.heap.size, 0, none⟩ = some (.slice Aa0 na0 ca0) := cell_of_row _ _ 0 _ _ (0, 0) hxw
      have q1_ : w'.cell? ⟨w.heap.size, 1, none⟩ = some (.slice Aa1 na1 ca1) := cell_of_row _ _ 1 _ _ (0, 0) hxw
      have q2_ : w'.cell? ⟨w.heap.size, 2, none⟩ = some (.bool gone_) := cell_of_row _ _ 2 _ _ (0, 0) hxw
      clear hxw
      clear e3
      clear hF
      go_simp
      exact hK _ _ (Ext.refl _) trivial rfl
    refine ⟨fun y w' k hS hj hk hF K hK => ?_, ?_⟩
    · skip -- 2: call
      have e4 : y 4 = _ := hF.1
      simp only [fillL, cond_true, cond_false, List.getD_cons_zero, List.getD_cons_succ, StP.is, Act.put, List.setIfInBounds_toArray, List.set_cons_zero, List.set_cons_succ, Nat.reduceAdd, e4, MStP.is, Option.isSome_some, Option.isSome_none] at hK ⊢
      refine rg_yes (by kernel_rfl) ?_
      have hSb : Below (w.heap.size + 1) w1 w' := hS.1 (by have := HZ.out; omega)
      have hlw : w.heap.size + 2 ≤ w'.heap.size := by have := hSb.size; have := HZ.out; omega
      have hxw := (hSb.block _ (Nat.lt_succ_self _)).trans HX.out
      have q0_ : w'.cell? ⟨w.heap.size, 0, none⟩ = some (.slice Aa0 na0 ca0) := cell_of_row _ _ 0 _ _ (0, 0) hxw
      have q1_ : w'.cell? ⟨w.heap.size, 1, none⟩ = some (.slice Aa1 na1 ca1) := cell_of_row _ _ 1 _ _ (0, 0) hxw
      have q2_ : w'.cell? ⟨w.heap.size, 2, none⟩ = some (.bool gone_) := cell_of_row _ _ 2 _ _ (0, 0) hxw
      clear hxw
      clear e4
      clear hF
      have hbw : Below w.heap.size w w' := X1.trans (hSb.mono (by omega))
      go_simp
      go_at_call 70
      refine (cloneStringS_any _ _ _ cells_ _ lo hi (SliceR.below H0.out hbw (StrR.below hbw H0.out.lo_le)) m0).mono ?_
      rintro e w'' ⟨A', c', rfl, g1, g2, hb⟩
      exact hK _ _ hb trivial ⟨A', c', _, rfl, Nat.le_refl _, g1.wide hlw (Nat.le_refl _) (Nat.le_refl _) (StrR.wide hlw (Nat.le_refl _) (Nat.le_refl _)), g2.wide hlw (Nat.le_refl _)⟩
    refine ⟨fun y w' k hS hj hk hF K hK => ?_, ?_⟩
    · skip -- 3: fieldAddr
      simp only [fillL, cond_true, cond_false, List.getD_cons_zero, List.getD_cons_succ, StP.is, Act.put, List.setIfInBounds_toArray, List.set_cons_zero, List.set_cons_succ, Nat.reduceAdd, MStP.is, Option.isSome_some, Option.isSome_none] at hK ⊢
      refine rg_yes (by kernel_rfl) ?_
      clear hF
      go_simp
      exact hK _ _ (Ext.refl _) trivial rfl
    refine ⟨fun y w' k hS hj hk hF K hK => ?_, ?_⟩
    · skip -- 4: load
      have e6 : y 6 = _ := hF.1
      simp only [fillL, cond_true, cond_false, List.getD_cons_zero, List.getD_cons_succ, StP.is, Act.put, List.setIfInBounds_toArray, List.set_cons_zero, List.set_cons_succ, Nat.reduceAdd, e6, MStP.is, Option.isSome_some, Option.isSome_none] at hK ⊢
      refine rg_yes (by kernel_rfl) ?_
      have hSb : Below (w.heap.size + 1) w1 w' := hS.1 (by have := HZ.out; omega)
      have hlw : w.heap.size + 2 ≤ w'.heap.size := by have := hSb.size; have := HZ.out; omega
      have hxw := (hSb.block _ (Nat.lt_succ_self _)).trans HX.out
      have q0_ : w'.cell? ⟨w.heap.size, 0, none⟩ = some (.slice Aa0 na0 ca0) := cell_of_row _ _ 0 _ _ (0, 0) hxw
      have q1_ : w'.cell? ⟨w.heap.size, 1, none⟩ = some (.slice Aa1 na1 ca1) := cell_of_row _ _ 1 _ _ (0, 0) hxw
      have q2_ : w'.cell? ⟨w.heap.size, 2, none⟩ = some (.bool gone_) := cell_of_row _ _ 2 _ _ (0, 0) hxw
      clear hxw
      clear e6
      clear hF
      go_simp
      exact hK _ _ (Ext.refl _) trivial rfl
    refine ⟨fun y w' k hS hj hk hF K hK => ?_, ?_⟩
    · skip -- 5: call
      have e7 : y 7 = _ := hF.1
      simp only [fillL, cond_true, cond_false, List.getD_cons_zero, List.getD_cons_succ, StP.is, Act.put, List.setIfInBounds_toArray, List.set_cons_zero, List.set_cons_succ, Nat.reduceAdd, e7, MStP.is, Option.isSome_some, Option.isSome_none] at hK ⊢
      refine rg_yes (by kernel_rfl) ?_
      have hSb : Below (w.heap.size + 1) w1 w' := hS.1 (by have := HZ.out; omega)
      have hlw : w.heap.size + 2 ≤ w'.heap.size := by have := hSb.size; have := HZ.out; omega
      have hxw := (hSb.block _ (Nat.lt_succ_self _)).trans HX.out
      have q0_ : w'.cell? ⟨w.heap.size, 0, none⟩ = some (.slice Aa0 na0 ca0) := cell_of_row _ _ 0 _ _ (0, 0) hxw
      have q1_ : w'.cell? ⟨w.heap.size, 1, none⟩ = some (.slice Aa1 na1 ca1) := cell_of_row _ _ 1 _ _ (0, 0) hxw
      have q2_ : w'.cell? ⟨w.heap.size, 2, none⟩ = some (.bool gone_) := cell_of_row _ _ 2 _ _ (0, 0) hxw
      clear hxw
      clear e7
      clear hF
      have hbw : Below w.heap.size w w' := X1.trans (hSb.mono (by omega))
      go_simp
      go_at_call 71
      refine (cloneWaitS_any _ _ _ waits_ _ lo hi (SliceR.below H1.out hbw (WaitR.below hbw H1.out.lo_le)) m1).mono ?_
      rintro e w'' ⟨A', c', rfl, g1, g2, hb⟩
      exact hK _ _ hb trivial ⟨A', c', _, rfl, Nat.le_refl _, g1.wide hlw (Nat.le_refl _) (Nat.le_refl _) (WaitR.wide hlw (Nat.le_refl _) (Nat.le_refl _)), g2.wide hlw (Nat.le_refl _)⟩
    refine ⟨fun y w' k hS hj hk hF K hK => ?_, ?_⟩
    · skip -- 6: fieldAddr
      simp only [fillL, cond_true, cond_false, List.getD_cons_zero, List.getD_cons_succ, StP.is, Act.put, List.setIfInBounds_toArray, List.set_cons_zero, List.set_cons_succ, Nat.reduceAdd, MStP.is, Option.isSome_some, Option.isSome_none] at hK ⊢
      refine rg_yes (by kernel_rfl) ?_
      clear hF
      go_simp
      exact hK _ _ (Ext.refl _) trivial rfl
    refine ⟨fun y w' k hS hj hk hF K hK => ?_, ?_⟩
    · skip -- 7: load
      have e9 : y 9 = _ := hF.1
      simp only [fillL, cond_true, cond_false, List.getD_cons_zero, List.getD_cons_succ, StP.is, Act.put, List.setIfInBounds_toArray, List.set_cons_zero, List.set_cons_succ, Nat.reduceAdd, e9, MStP.is, Option.isSome_some, Option.isSome_none] at hK ⊢
      refine rg_yes (by kernel_rfl) ?_
      have hSb : Below (w.heap.size + 1) w1 w' := hS.1 (by have := HZ.out; omega)
      have hlw : w.heap.size + 2 ≤ w'.heap.size := by have := hSb.size; have := HZ.out; omega
      have hxw := (hSb.block _ (Nat.lt_succ_self _)).trans HX.out
      have q0_ : w'.cell? ⟨w.heap.size, 0, none⟩ = some (.slice Aa0 na0 ca0) := cell_of_row _ _ 0 _ _ (0, 0) hxw
      have q1_ : w'.cell? ⟨w.heap.size, 1, none⟩ = some (.slice Aa1 na1 ca1) := cell_of_row _ _ 1 _ _ (0, 0) hxw
      have q2_ : w'.cell? ⟨w.heap.size, 2, none⟩ = some (.bool gone_) := cell_of_row _ _ 2 _ _ (0, 0) hxw
      clear hxw
      clear e9
      clear hF
      go_simp
      exact hK _ _ (Ext.refl _) trivial rfl
    refine ⟨fun y w' k hS hj hk hF K hK => ?_, ?_⟩
    · skip -- 8: build
      obtain ⟨At0, ct0, ut0, e5, hut0, st0, kt0⟩ := hF.1
      obtain ⟨At1, ct1, ut1, e8, hut1, st1, kt1⟩ := hF.2.1
      have e10 : y 10 = _ := hF.2.2.1
      simp only [fillL, cond_true, cond_false, List.getD_cons_zero, List.getD_cons_succ, StP.is, Act.put, List.setIfInBounds_toArray, List.set_cons_zero, List.set_cons_succ, Nat.reduceAdd, e5, e8, e10, MStP.is, Option.isSome_some, Option.isSome_none] at hK ⊢
      refine rg_yes (by kernel_rfl) ?_
      have hSb : Below (w.heap.size + 1) w1 w' := hS.1 (by have := HZ.out; omega)
      have hlw : w.heap.size + 2 ≤ w'.heap.size := by have := hSb.size; have := HZ.out; omega
      have hxw := (hSb.block _ (Nat.lt_succ_self _)).trans HX.out
      have q0_ : w'.cell? ⟨w.heap.size, 0, none⟩ = some (.slice Aa0 na0 ca0) := cell_of_row _ _ 0 _ _ (0, 0) hxw
      have q1_ : w'.cell? ⟨w.heap.size, 1, none⟩ = some (.slice Aa1 na1 ca1) := cell_of_row _ _ 1 _ _ (0, 0) hxw
      have q2_ : w'.cell? ⟨w.heap.size, 2, none⟩ = some (.bool gone_) := cell_of_row _ _ 2 _ _ (0, 0) hxw
      clear hxw
      clear e5 e8 e10
      clear hF
      go_simp
      exact hK _ _ (Ext.refl _) trivial ⟨[.slice At0 na0 ct0, .slice At1 na1 ct1, .bool gone_], w'.heap.size, rfl, Nat.le_refl _, ⟨_, _, _, _, _, _, rfl, st0.wide (Nat.le_refl _) hut0 (Nat.le_refl _) (StrR.wide (Nat.le_refl _) hut0 (Nat.le_refl _)), kt0.wide (Nat.le_refl _) hut0, st1.wide (Nat.le_refl _) hut1 (Nat.le_refl _) (WaitR.wide (Nat.le_refl _) hut1 (Nat.le_refl _)), kt1.wide (Nat.le_refl _) hut1⟩⟩
    refine ⟨fun y w' k hS hj hk hF K hK => ?_, ?_⟩
    · skip -- 9: store
      obtain ⟨csz, uz, e11, hhz, hnz⟩ := hF.1
      have hnz2 := hnz
      obtain ⟨Az0, nz0, cz0, Az1, nz1, cz1, rfl, _, _, _, _⟩ := hnz2
      change y 11 = .agg #[.slice Az0 nz0 cz0, .slice Az1 nz1 cz1, .bool gone_] at e11
      simp only [fillL, cond_true, cond_false, List.getD_cons_zero, List.getD_cons_succ, StP.is, Act.put, List.setIfInBounds_toArray, List.set_cons_zero, List.set_cons_succ, Nat.reduceAdd, e11, MStP.is, Option.isSome_some, Option.isSome_none] at hK ⊢
      refine rg_yes (by kernel_rfl) ?_
      have hSb : Below (w.heap.size + 1) w1 w' := hS.1 (by have := HZ.out; omega)
      have hlw : w.heap.size + 2 ≤ w'.heap.size := by have := hSb.size; have := HZ.out; omega
      have hxw := (hSb.block _ (Nat.lt_succ_self _)).trans HX.out
      have q0_ : w'.cell? ⟨w.heap.size, 0, none⟩ = some (.slice Aa0 na0 ca0) := cell_of_row _ _ 0 _ _ (0, 0) hxw
      have q1_ : w'.cell? ⟨w.heap.size, 1, none⟩ = some (.slice Aa1 na1 ca1) := cell_of_row _ _ 1 _ _ (0, 0) hxw
      have q2_ : w'.cell? ⟨w.heap.size, 2, none⟩ = some (.bool gone_) := cell_of_row _ _ 2 _ _ (0, 0) hxw
      clear hxw
      clear e11
      clear hF
      obtain ⟨cur, hsh, hcs⟩ := hS.2 HQ.out
      have t0_ : w'.cell? ⟨w.heap.size + 1, 0, none⟩ = some _ := block_cell hsh (by omega)
      have t1_ : w'.cell? ⟨w.heap.size + 1, 1, none⟩ = some _ := block_cell hsh (by omega)
      have t2_ : w'.cell? ⟨w.heap.size + 1, 2, none⟩ = some _ := block_cell hsh (by omega)
      have f0_ : w'.frozen? ⟨w.heap.size + 1, 0, none⟩ = false := block_free hsh _
      have f1_ : w'.frozen? ⟨w.heap.size + 1, 1, none⟩ = false := block_free hsh _
      have f2_ : w'.frozen? ⟨w.heap.size + 1, 2, none⟩ = false := block_free hsh _
      have hst : (World.setCell (World.setCell (World.setCell w' ⟨w.heap.size + 1, 0, none⟩ (.slice Az0 nz0 cz0)) ⟨w.heap.size + 1, 1, none⟩ (.slice Az1 nz1 cz1)) ⟨w.heap.size + 1, 2, none⟩ (.bool gone_)).heap[w.heap.size + 1]? = some (.cells #[.slice Az0 nz0 cz0, .slice Az1 nz1 cz1, .bool gone_] 45 (0, 0)) := (block_set (block_set (block_set (hsh)))).trans (by rw [show (Array.setIfInBounds (Array.setIfInBounds (Array.setIfInBounds cur 0 (.slice Az0 nz0 cz0)) 1 (.slice Az1 nz1 cz1)) 2 (.bool gone_)) = putAt cur 0 [.slice Az0 nz0 cz0, .slice Az1 nz1 cz1, .bool gone_] from rfl, set_all (by simpa using hcs)])
      have hown1 : Own (w.heap.size + 1) w' (World.setCell (World.setCell (World.setCell w' ⟨w.heap.size + 1, 0, none⟩ (.slice Az0 nz0 cz0)) ⟨w.heap.size + 1, 1, none⟩ (.slice Az1 nz1 cz1)) ⟨w.heap.size + 1, 2, none⟩ (.bool gone_)) := fun _ => by repeat (first | exact Below.refl _ _ | refine Below.setCell ?_ (by exact Nat.le_refl _) _)
      have hown2 : Shape (w.heap.size + 1) 45 3 w' → Shape (w.heap.size + 1) 45 3 (World.setCell (World.setCell (World.setCell w' ⟨w.heap.size + 1, 0, none⟩ (.slice Az0 nz0 cz0)) ⟨w.heap.size + 1, 1, none⟩ (.slice Az1 nz1 cz1)) ⟨w.heap.size + 1, 2, none⟩ (.bool gone_)) := fun hs => by repeat (first | exact hs | refine Shape.set ?_)
      have hown : OwnQ (w.heap.size + 1) (w.heap.size + 1) 45 3 w' (World.setCell (World.setCell (World.setCell w' ⟨w.heap.size + 1, 0, none⟩ (.slice Az0 nz0 cz0)) ⟨w.heap.size + 1, 1, none⟩ (.slice Az1 nz1 cz1)) ⟨w.heap.size + 1, 2, none⟩ (.bool gone_)) := ⟨hown1, hown2⟩
      have hkp : Same (w.heap.size + 2) uz w' (World.setCell (World.setCell (World.setCell w' ⟨w.heap.size + 1, 0, none⟩ (.slice Az0 nz0 cz0)) ⟨w.heap.size + 1, 1, none⟩ (.slice Az1 nz1 cz1)) ⟨w.heap.size + 1, 2, none⟩ (.bool gone_)) := by repeat (first | exact Same.refl _ _ _ | refine Same.setCell ?_ (.inl (by exact Nat.lt_succ_self _)) _)
      have hsz : (World.setCell (World.setCell (World.setCell w' ⟨w.heap.size + 1, 0, none⟩ (.slice Az0 nz0 cz0)) ⟨w.heap.size + 1, 1, none⟩ (.slice Az1 nz1 cz1)) ⟨w.heap.size + 1, 2, none⟩ (.bool gone_)).heap.size = w'.heap.size := by simp [World.setCell]
      have hnew := DiskN.keep hkp (Nat.le_of_eq hsz.symm) _ _ hnz
      have HST := Lib.hid hst; have HOWN := Lib.hid hown; have HNEW := Lib.hid hnew; have HHZ := Lib.hid (hsz ▸ hhz : uz ≤ (World.setCell (World.setCell (World.setCell w' ⟨w.heap.size + 1, 0, none⟩ (.slice Az0 nz0 cz0)) ⟨w.heap.size + 1, 1, none⟩ (.slice Az1 nz1 cz1)) ⟨w.heap.size + 1, 2, none⟩ (.bool gone_)).heap.size); clear hst hown hown1 hown2 hnew hkp hsz hsh hnz hhz
      generalize cur[0]'_ = d0_ at t0_
      generalize cur[1]'_ = d1_ at t1_
      generalize cur[2]'_ = d2_ at t2_
      go_simp
      exact hK undef _ HOWN.out trivial ⟨_, _, HST.out, HHZ.out, HNEW.out⟩
    trivial
  case hH => rfl
  case hNS => exact OwnQ.of_ext _ _ _ _
  case hSt => exact fun a b => OwnQ.trans a b
  case hJ => exact fun _ _ _ _ h => h
  case hdrew => exact OwnQ.drew _ _ _ _ _
  case hj0 => trivial
  case hend =>
    intro y w2 hS _ hF
    obtain ⟨cs, u, hst, hu, hn⟩ := hF.1
    clear hF
    have hSb : Below (w.heap.size + 1) w1 w2 := hS.1 (by have := HZ.out; omega)
    have X2 : Below w.heap.size w w2 := X1.trans (hSb.mono (by omega))
    have hn2 := hn
    obtain ⟨Az0, nz0, cz0, Az1, nz1, cz1, rfl, _, _, _, _⟩ := hn2
    change w2.heap[w.heap.size + 1]? = some (.cells #[.slice Az0 nz0 cz0, .slice Az1 nz1 cz1, .bool gone_] 45 (0, 0)) at hst
    have c0_ : w2.cell? ⟨w.heap.size + 1, 0, none⟩ = some (.slice Az0 nz0 cz0) := cell_of_row _ _ 0 _ _ (0, 0) hst
    have c1_ : w2.cell? ⟨w.heap.size + 1, 1, none⟩ = some (.slice Az1 nz1 cz1) := cell_of_row _ _ 1 _ _ (0, 0) hst
    have c2_ : w2.cell? ⟨w.heap.size + 1, 2, none⟩ = some (.bool gone_) := cell_of_row _ _ 2 _ _ (0, 0) hst
    have HN := Lib.hid (DiskN.wide (by omega) hu (Nat.le_refl _) _ _ hn : DiskN w2 w.heap.size w2.heap.size _ _); clear hn hst hS hSb
    simp only [fillL, cond_true, cond_false, Nat.reduceAdd]
    go_wp2_with fail
    exact bodyPost_ret (v := .agg #[.slice Az0 nz0 cz0, .slice Az1 nz1 cz1, .bool gone_]) (by simp [results, Try.results52, go_sem, c0_, c1_, c2_]) rfl ⟨_, rfl, HN.out, X2⟩

set_option maxRecDepth 100000 in
set_option maxHeartbeats 8000000 in
theorem l3Copy_any (cs : List Value) (x : DiskD) (w : World) (lo hi : Nat) (h : DiskR w lo hi cs x) (b0 : x.1.length ≤ 1099511627776) (b1 : x.2.1.length ≤ 1099511627776) :
    Calls Try.prog 54 #[.agg cs.toArray] w (NewR DiskN w x) := by
  obtain ⟨cells_, waits_, gone_⟩ := x
  obtain ⟨Aa0, na0, ca0, Aa1, na1, ca1, rfl, ha0, ha1⟩ := h
  show Calls Try.prog 54 #[.agg #[.slice Aa0 na0 ca0, .slice Aa1 na1 ca1, .bool gone_]] w _
  have g0 : cells_.length = na0 := ha0.len
  have m0 : na0 ≤ 1099511627776 := by have := b0; simp only at this; omega
  have H0 := Lib.hid ha0; clear ha0
  have g1 : waits_.length = na1 := ha1.len
  have m1 : na1 ≤ 1099511627776 := by have := b1; simp only at this; omega
  have H1 := Lib.hid ha1; clear ha1
  have G0 := Lib.hid g0; clear g0 b0
  have G1 := Lib.hid g1; clear g1 b1
  obtain ⟨iWaitS, hiWaitS, hz0WaitS, hz1WaitS, hz2WaitS⟩ := info_parts infoE_WaitS
  obtain ⟨iStringS, hiStringS, hz0StringS, hz1StringS, hz2StringS⟩ := info_parts infoE_StringS
  go_enter Try.func54, Try.ntmps54
  go_wp2_with fail
  obtain ⟨w1, hW⟩ : ∃ w1, w1 = (w.alloc (.cells #[.slice Aa0 na0 ca0, .slice Aa1 na1 ca1, .bool gone_] 45)).alloc (.cells #[.slice none 0 0, .slice none 0 0, .bool false] 45) := ⟨_, rfl⟩
  have X1 : Below w.heap.size w w1 := by rw [hW]; exact bel2
  have z1 : w1.heap.size = w.heap.size + 2 := by rw [hW]; simp
  have hq : w1.heap[w.heap.size + 1]? = some (.cells #[.slice none 0 0, .slice none 0 0, .bool false] 45 (0, 0)) := by rw [hW]; have := heap_alloc_new (w.alloc (.cells #[.slice Aa0 na0 ca0, .slice Aa1 na1 ca1, .bool gone_] 45)) (.cells #[.slice none 0 0, .slice none 0 0, .bool false] 45); simpa using this
  have hbx : w1.heap[w.heap.size]? = some (.cells #[.slice Aa0 na0 ca0, .slice Aa1 na1 ca1, .bool gone_] 45 (0, 0)) := by rw [hW]; exact (Below.heap_alloc _ _ _ (by simp)).trans (heap_alloc_new _ _)
  have HW := Lib.hid hW; rw [← HW.out]; clear hW HW
  have HQ : Hid (Shape (w.heap.size + 1) 45 3 w1) := Lib.hid ⟨_, hq, rfl⟩
  have HX := Lib.hid hbx; clear hq hbx
  have HZ := Lib.hid z1; clear z1
  apply wp_region_rgm (OwnQ (w.heap.size + 1) (w.heap.size + 1) 45 3) (Ext) (fun _ _ => True) [0, 0, 0, 0, 0, 0, 0, 0, 0, 0, 0, 0] (by kernel_rfl) (false :: false :: false :: true :: true :: true :: true :: true :: true :: true :: true :: true :: true :: true :: []) [some 3, some 4, some 5, some 6, some 7, some 8, some 9, some 10, some 11, some 12, some 13, none] [[], [], [1], [0, 2], [], [], [5], [4, 6], [], [8], [3, 7, 9], [10]] [false, false, false, false, false, false, false, false, false, false, false, true] [true, true, true, false, true, true, true, false, true, true, false, false] [11] [MStP.emp, MStP.is _, MStP.is _, MStP.newSl (S := OwnQ (w.heap.size + 1) (w.heap.size + 1) 45 3) (R := StrR) StrR.below 1 9 (w.heap.size + 2) na0 cells_, MStP.emp, MStP.is _, MStP.is _, MStP.newSl (S := OwnQ (w.heap.size + 1) (w.heap.size + 1) 45 3) (R := WaitR) WaitR.below 2 63 (w.heap.size + 2) na1 waits_, MStP.is _, MStP.is _, MStP.newT (S := OwnQ (w.heap.size + 1) (w.heap.size + 1) 45 3) (R := DiskN) DiskN.below (w.heap.size + 2) (cells_, waits_, gone_), MStP.stored (S := OwnQ (w.heap.size + 1) (w.heap.size + 1) 45 3) (R := DiskN) DiskN.below (w.heap.size + 1) 45 (w.heap.size + 2) (cells_, waits_, gone_)] (by kernel_rfl) (by kernel_rfl) (by kernel_rfl)
  case hobs =>
    refine ⟨fun y w' k hS hj hk hF K hK => ?_, ?_⟩
    · skip -- 0: buildSlice
      simp only [fillL, cond_true, cond_false, List.getD_cons_zero, List.getD_cons_succ, StP.is, Act.put, List.setIfInBounds_toArray, List.set_cons_zero, List.set_cons_succ, Nat.reduceAdd, MStP.is, Option.isSome_some, Option.isSome_none] at hK ⊢
      refine rg_yes (by kernel_rfl) ?_
      have hSb : Below (w.heap.size + 1) w1 w' := hS.1 (by have := HZ.out; omega)
      have hlw : w.heap.size + 2 ≤ w'.heap.size := by have := hSb.size; have := HZ.out; omega
      have hxw := (hSb.block _ (Nat.lt_succ_self _)).trans HX.out
      have q0_ : w'.cell? ⟨w.heap.size, 0, none⟩ = some (.slice Aa0 na0 ca0) := cell_of_row _ _ 0 _ _ (0, 0) hxw
      have q1_ : w'.cell? ⟨w.heap.size, 1, none⟩ = some (.slice Aa1 na1 ca1) := cell_of_row _ _ 1 _ _ (0, 0) hxw
      have q2_ : w'.cell? ⟨w.heap.size, 2, none⟩ = some (.bool gone_) := cell_of_row _ _ 2 _ _ (0, 0) hxw
      clear hxw
      clear hF
      go_simp
      exact hK _ _ (Ext.alloc _ _) trivial ⟨_, rfl⟩
    refine ⟨fun y w' k hS hj hk hF K hK => ?_, ?_⟩
    · skip -- 1: fieldAddr
      simp only [fillL, cond_true, cond_false, List.getD_cons_zero, List.getD_cons_succ, StP.is, Act.put, List.setIfInBounds_toArray, List.set_cons_zero, List.set_cons_succ, Nat.reduceAdd, MStP.is, Option.isSome_some, Option.isSome_none] at hK ⊢
      refine rg_yes (by kernel_rfl) ?_
      clear hF
      go_simp
      exact hK _ _ (Ext.refl _) trivial rfl
    refine ⟨fun y w' k hS hj hk hF K hK => ?_, ?_⟩
    · skip -- 2: load
      have e4 : y 4 = _ := hF.1
      simp only [fillL, cond_true, cond_false, List.getD_cons_zero, List.getD_cons_succ, StP.is, Act.put, List.setIfInBounds_toArray, List.set_cons_zero, List.set_cons_succ, Nat.reduceAdd, e4, MStP.is, Option.isSome_some, Option.isSome_none] at hK ⊢
      refine rg_yes (by kernel_rfl) ?_
      have hSb : Below (w.heap.size + 1) w1 w' := hS.1 (by have := HZ.out; omega)
      have hlw : w.heap.size + 2 ≤ w'.heap.size := by have := hSb.size; have := HZ.out; omega
      have hxw := (hSb.block _ (Nat.lt_succ_self _)).trans HX.out
      have q0_ : w'.cell? ⟨w.heap.size, 0, none⟩ = some (.slice Aa0 na0 ca0) := cell_of_row _ _ 0 _ _ (0, 0) hxw
      have q1_ : w'.cell? ⟨w.heap.size, 1, none⟩ = some (.slice Aa1 na1 ca1) := cell_of_row _ _ 1 _ _ (0, 0) hxw
      have q2_ : w'.cell? ⟨w.heap.size, 2, none⟩ = some (.bool gone_) := cell_of_row _ _ 2 _ _ (0, 0) hxw
      clear hxw
      clear e4
      clear hF
      go_simp
      exact hK _ _ (Ext.refl _) trivial rfl
    refine ⟨fun y w' k hS hj hk hF K hK => ?_, ?_⟩
    · skip -- 3: call
      obtain ⟨Xe3, e3⟩ := hF.1
      have e5 : y 5 = _ := hF.2.1
      simp only [fillL, cond_true, cond_false, List.getD_cons_zero, List.getD_cons_succ, StP.is, Act.put, List.setIfInBounds_toArray, List.set_cons_zero, List.set_cons_succ, Nat.reduceAdd, e3, e5, MStP.is, Option.isSome_some, Option.isSome_none] at hK ⊢
      refine rg_yes (by kernel_rfl) ?_
      have hSb : Below (w.heap.size + 1) w1 w' := hS.1 (by have := HZ.out; omega)
      have hlw : w.heap.size + 2 ≤ w'.heap.size := by have := hSb.size; have := HZ.out; omega
      have hxw := (hSb.block _ (Nat.lt_succ_self _)).trans HX.out
      have q0_ : w'.cell? ⟨w.heap.size, 0, none⟩ = some (.slice Aa0 na0 ca0) := cell_of_row _ _ 0 _ _ (0, 0) hxw
      have q1_ : w'.cell? ⟨w.heap.size, 1, none⟩ = some (.slice Aa1 na1 ca1) := cell_of_row _ _ 1 _ _ (0, 0) hxw
      have q2_ : w'.cell? ⟨w.heap.size, 2, none⟩ = some (.bool gone_) := cell_of_row _ _ 2 _ _ (0, 0) hxw
      clear hxw
      clear e3 e5
      clear hF
      have hbw : Below w.heap.size w w' := X1.trans (hSb.mono (by omega))
      obtain ⟨vs, r1, r2, r3, r4⟩ := (SliceR.below H0.out hbw (StrR.below hbw H0.out.lo_le)).row (by decide)
      refine wp_append_row (.tmp 3) (.tmp 5) 42 rfl 9 iStringS (.string ByteArray.empty) 1 16 Try.underlying42 hiStringS hz0StringS hz1StringS hz2StringS rfl (by decide) [] _ Aa0 0 0 na0 ca0 [] vs rfl rfl (OwnA.nil _) r1 (fun u hu => by obtain ⟨cs, x, hm, hr⟩ := r4 u hu; obtain ⟨rfl, _⟩ := hr; simp at hm; subst hm; rfl) (by unfold maxLen; omega) (by omega) ?_
      intro A' c' S' w'' hO' hS' hC'
      have hE : Ext w' w'' := hC'.below (fun k _ hk => by simp at hk) (Nat.le_refl _)
      simp only [Nat.zero_add, List.nil_append] at hO'
      obtain ⟨g1, g2⟩ := OwnA.slice (R := StrR) (lo := (w.heap.size + 2)) (hi := w''.heap.size) hO' G0.out r3 (fun g hg => ⟨(hS' g hg).elim (fun h => by simp at h) (fun h => Nat.le_trans hlw h), hO'.lt g hg⟩) (Nat.le_refl _)
      exact hK _ _ hE trivial ⟨A', c', _, by rw [Nat.zero_add], Nat.le_refl _, g1, g2⟩
    refine ⟨fun y w' k hS hj hk hF K hK => ?_, ?_⟩
    · skip -- 4: buildSlice
      simp only [fillL, cond_true, cond_false, List.getD_cons_zero, List.getD_cons_succ, StP.is, Act.put, List.setIfInBounds_toArray, List.set_cons_zero, List.set_cons_succ, Nat.reduceAdd, MStP.is, Option.isSome_some, Option.isSome_none] at hK ⊢
      refine rg_yes (by kernel_rfl) ?_
      have hSb : Below (w.heap.size + 1) w1 w' := hS.1 (by have := HZ.out; omega)
      have hlw : w.heap.size + 2 ≤ w'.heap.size := by have := hSb.size; have := HZ.out; omega
      have hxw := (hSb.block _ (Nat.lt_succ_self _)).trans HX.out
      have q0_ : w'.cell? ⟨w.heap.size, 0, none⟩ = some (.slice Aa0 na0 ca0) := cell_of_row _ _ 0 _ _ (0, 0) hxw
      have q1_ : w'.cell? ⟨w.heap.size, 1, none⟩ = some (.slice Aa1 na1 ca1) := cell_of_row _ _ 1 _ _ (0, 0) hxw
      have q2_ : w'.cell? ⟨w.heap.size, 2, none⟩ = some (.bool gone_) := cell_of_row _ _ 2 _ _ (0, 0) hxw
      clear hxw
      clear hF
      go_simp
      exact hK _ _ (Ext.alloc _ _) trivial ⟨_, rfl⟩
    refine ⟨fun y w' k hS hj hk hF K hK => ?_, ?_⟩
    · skip -- 5: fieldAddr
      simp only [fillL, cond_true, cond_false, List.getD_cons_zero, List.getD_cons_succ, StP.is, Act.put, List.setIfInBounds_toArray, List.set_cons_zero, List.set_cons_succ, Nat.reduceAdd, MStP.is, Option.isSome_some, Option.isSome_none] at hK ⊢
      refine rg_yes (by kernel_rfl) ?_
      clear hF
      go_simp
      exact hK _ _ (Ext.refl _) trivial rfl
    refine ⟨fun y w' k hS hj hk hF K hK => ?_, ?_⟩
    · skip -- 6: load
      have e8 : y 8 = _ := hF.1
      simp only [fillL, cond_true, cond_false, List.getD_cons_zero, List.getD_cons_succ, StP.is, Act.put, List.setIfInBounds_toArray, List.set_cons_zero, List.set_cons_succ, Nat.reduceAdd, e8, MStP.is, Option.isSome_some, Option.isSome_none] at hK ⊢
      refine rg_yes (by kernel_rfl) ?_
      have hSb : Below (w.heap.size + 1) w1 w' := hS.1 (by have := HZ.out; omega)
      have hlw : w.heap.size + 2 ≤ w'.heap.size := by have := hSb.size; have := HZ.out; omega
      have hxw := (hSb.block _ (Nat.lt_succ_self _)).trans HX.out
      have q0_ : w'.cell? ⟨w.heap.size, 0, none⟩ = some (.slice Aa0 na0 ca0) := cell_of_row _ _ 0 _ _ (0, 0) hxw
      have q1_ : w'.cell? ⟨w.heap.size, 1, none⟩ = some (.slice Aa1 na1 ca1) := cell_of_row _ _ 1 _ _ (0, 0) hxw
      have q2_ : w'.cell? ⟨w.heap.size, 2, none⟩ = some (.bool gone_) := cell_of_row _ _ 2 _ _ (0, 0) hxw
      clear hxw
      clear e8
      clear hF
      go_simp
      exact hK _ _ (Ext.refl _) trivial rfl
    refine ⟨fun y w' k hS hj hk hF K hK => ?_, ?_⟩
    · skip -- 7: call
      obtain ⟨Xe7, e7⟩ := hF.1
      have e9 : y 9 = _ := hF.2.1
      simp only [fillL, cond_true, cond_false, List.getD_cons_zero, List.getD_cons_succ, StP.is, Act.put, List.setIfInBounds_toArray, List.set_cons_zero, List.set_cons_succ, Nat.reduceAdd, e7, e9, MStP.is, Option.isSome_some, Option.isSome_none] at hK ⊢
      refine rg_yes (by kernel_rfl) ?_
      have hSb : Below (w.heap.size + 1) w1 w' := hS.1 (by have := HZ.out; omega)
      have hlw : w.heap.size + 2 ≤ w'.heap.size := by have := hSb.size; have := HZ.out; omega
      have hxw := (hSb.block _ (Nat.lt_succ_self _)).trans HX.out
      have q0_ : w'.cell? ⟨w.heap.size, 0, none⟩ = some (.slice Aa0 na0 ca0) := cell_of_row _ _ 0 _ _ (0, 0) hxw
      have q1_ : w'.cell? ⟨w.heap.size, 1, none⟩ = some (.slice Aa1 na1 ca1) := cell_of_row _ _ 1 _ _ (0, 0) hxw
      have q2_ : w'.cell? ⟨w.heap.size, 2, none⟩ = some (.bool gone_) := cell_of_row _ _ 2 _ _ (0, 0) hxw
      clear hxw
      clear e7 e9
      clear hF
      have hbw : Below w.heap.size w w' := X1.trans (hSb.mono (by omega))
      obtain ⟨vs, r1, r2, r3, r4⟩ := (SliceR.below H1.out hbw (WaitR.below hbw H1.out.lo_le)).row (by decide)
      refine wp_append_row (.tmp 7) (.tmp 9) 43 rfl 63 iWaitS (.agg #[.int .i64 0, .string ⟨#[]⟩]) 2 24 Try.underlying43 hiWaitS hz0WaitS hz1WaitS hz2WaitS rfl (by decide) [] _ Aa1 0 0 na1 ca1 [] vs rfl rfl (OwnA.nil _) r1 (fun u hu => by obtain ⟨cs, x, hm, hr⟩ := r4 u hu; obtain ⟨at_, text_⟩ := x; obtain ⟨rfl, ho0⟩ := hr; simp at hm; rcases hm with rfl | rfl <;> rfl) (by unfold maxLen; omega) (by omega) ?_
      intro A' c' S' w'' hO' hS' hC'
      have hE : Ext w' w'' := hC'.below (fun k _ hk => by simp at hk) (Nat.le_refl _)
      simp only [Nat.zero_add, List.nil_append] at hO'
      obtain ⟨g1, g2⟩ := OwnA.slice (R := WaitR) (lo := (w.heap.size + 2)) (hi := w''.heap.size) hO' G1.out r3 (fun g hg => ⟨(hS' g hg).elim (fun h => by simp at h) (fun h => Nat.le_trans hlw h), hO'.lt g hg⟩) (Nat.le_refl _)
      exact hK _ _ hE trivial ⟨A', c', _, by rw [Nat.zero_add], Nat.le_refl _, g1, g2⟩
    refine ⟨fun y w' k hS hj hk hF K hK => ?_, ?_⟩
    · skip -- 8: fieldAddr
      simp only [fillL, cond_true, cond_false, List.getD_cons_zero, List.getD_cons_succ, StP.is, Act.put, List.setIfInBounds_toArray, List.set_cons_zero, List.set_cons_succ, Nat.reduceAdd, MStP.is, Option.isSome_some, Option.isSome_none] at hK ⊢
      refine rg_yes (by kernel_rfl) ?_
      clear hF
      go_simp
      exact hK _ _ (Ext.refl _) trivial rfl
    refine ⟨fun y w' k hS hj hk hF K hK => ?_, ?_⟩
    · skip -- 9: load
      have e11 : y 11 = _ := hF.1
      simp only [fillL, cond_true, cond_false, List.getD_cons_zero, List.getD_cons_succ, StP.is, Act.put, List.setIfInBounds_toArray, List.set_cons_zero, List.set_cons_succ, Nat.reduceAdd, e11, MStP.is, Option.isSome_some, Option.isSome_none] at hK ⊢
      refine rg_yes (by kernel_rfl) ?_
      have hSb : Below (w.heap.size + 1) w1 w' := hS.1 (by have := HZ.out; omega)
      have hlw : w.heap.size + 2 ≤ w'.heap.size := by have := hSb.size; have := HZ.out; omega
      have hxw := (hSb.block _ (Nat.lt_succ_self _)).trans HX.out
      have q0_ : w'.cell? ⟨w.heap.size, 0, none⟩ = some (.slice Aa0 na0 ca0) := cell_of_row _ _ 0 _ _ (0, 0) hxw
      have q1_ : w'.cell? ⟨w.heap.size, 1, none⟩ = some (.slice Aa1 na1 ca1) := cell_of_row _ _ 1 _ _ (0, 0) hxw
      have q2_ : w'.cell? ⟨w.heap.size, 2, none⟩ = some (.bool gone_) := cell_of_row _ _ 2 _ _ (0, 0) hxw
      clear hxw
      clear e11
      clear hF
      go_simp
      exact hK _ _ (Ext.refl _) trivial rfl
    refine ⟨fun y w' k hS hj hk hF K hK => ?_, ?_⟩
    · skip -- 10: build
      obtain ⟨At0, ct0, ut0, e6, hut0, st0, kt0⟩ := hF.1
      obtain ⟨At1, ct1, ut1, e10, hut1, st1, kt1⟩ := hF.2.1
      have e12 : y 12 = _ := hF.2.2.1
      simp only [fillL, cond_true, cond_false, List.getD_cons_zero, List.getD_cons_succ, StP.is, Act.put, List.setIfInBounds_toArray, List.set_cons_zero, List.set_cons_succ, Nat.reduceAdd, e6, e10, e12, MStP.is, Option.isSome_some, Option.isSome_none] at hK ⊢
      refine rg_yes (by kernel_rfl) ?_
      have hSb : Below (w.heap.size + 1) w1 w' := hS.1 (by have := HZ.out; omega)
      have hlw : w.heap.size + 2 ≤ w'.heap.size := by have := hSb.size; have := HZ.out; omega
      have hxw := (hSb.block _ (Nat.lt_succ_self _)).trans HX.out
      have q0_ : w'.cell? ⟨w.heap.size, 0, none⟩ = some (.slice Aa0 na0 ca0) := cell_of_row _ _ 0 _ _ (0, 0) hxw
      have q1_ : w'.cell? ⟨w.heap.size, 1, none⟩ = some (.slice Aa1 na1 ca1) := cell_of_row _ _ 1 _ _ (0, 0) hxw
      have q2_ : w'.cell? ⟨w.heap.size, 2, none⟩ = some (.bool gone_) := cell_of_row _ _ 2 _ _ (0, 0) hxw
      clear hxw
      clear e6 e10 e12
      clear hF
      go_simp
      exact hK _ _ (Ext.refl _) trivial ⟨[.slice At0 na0 ct0, .slice At1 na1 ct1, .bool gone_], w'.heap.size, rfl, Nat.le_refl _, ⟨_, _, _, _, _, _, rfl, st0.wide (Nat.le_refl _) hut0 (Nat.le_refl _) (StrR.wide (Nat.le_refl _) hut0 (Nat.le_refl _)), kt0.wide (Nat.le_refl _) hut0, st1.wide (Nat.le_refl _) hut1 (Nat.le_refl _) (WaitR.wide (Nat.le_refl _) hut1 (Nat.le_refl _)), kt1.wide (Nat.le_refl _) hut1⟩⟩
    refine ⟨fun y w' k hS hj hk hF K hK => ?_, ?_⟩
    · skip -- 11: store
      obtain ⟨csz, uz, e13, hhz, hnz⟩ := hF.1
      have hnz2 := hnz
      obtain ⟨Az0, nz0, cz0, Az1, nz1, cz1, rfl, _, _, _, _⟩ := hnz2
      change y 13 = .agg #[.slice Az0 nz0 cz0, .slice Az1 nz1 cz1, .bool gone_] at e13
      simp only [fillL, cond_true, cond_false, List.getD_cons_zero, List.getD_cons_succ, StP.is, Act.put, List.setIfInBounds_toArray, List.set_cons_zero, List.set_cons_succ, Nat.reduceAdd, e13, MStP.is, Option.isSome_some, Option.isSome_none] at hK ⊢
      refine rg_yes (by kernel_rfl) ?_
      have hSb : Below (w.heap.size + 1) w1 w' := hS.1 (by have := HZ.out; omega)
      have hlw : w.heap.size + 2 ≤ w'.heap.size := by have := hSb.size; have := HZ.out; omega
      have hxw := (hSb.block _ (Nat.lt_succ_self _)).trans HX.out
      have q0_ : w'.cell? ⟨w.heap.size, 0, none⟩ = some (.slice Aa0 na0 ca0) := cell_of_row _ _ 0 _ _ (0, 0) hxw
      have q1_ : w'.cell? ⟨w.heap.size, 1, none⟩ = some (.slice Aa1 na1 ca1) := cell_of_row _ _ 1 _ _ (0, 0) hxw
      have q2_ : w'.cell? ⟨w.heap.size, 2, none⟩ = some (.bool gone_) := cell_of_row _ _ 2 _ _ (0, 0) hxw
      clear hxw
      clear e13
      clear hF
      obtain ⟨cur, hsh, hcs⟩ := hS.2 HQ.out
      have t0_ : w'.cell? ⟨w.heap.size + 1, 0, none⟩ = some _ := block_cell hsh (by omega)
      have t1_ : w'.cell? ⟨w.heap.size + 1, 1, none⟩ = some _ := block_cell hsh (by omega)
      have t2_ : w'.cell? ⟨w.heap.size + 1, 2, none⟩ = some _ := block_cell hsh (by omega)
      have f0_ : w'.frozen? ⟨w.heap.size + 1, 0, none⟩ = false := block_free hsh _
      have f1_ : w'.frozen? ⟨w.heap.size + 1, 1, none⟩ = false := block_free hsh _
      have f2_ : w'.frozen? ⟨w.heap.size + 1, 2, none⟩ = false := block_free hsh _
      have hst : (World.setCell (World.setCell (World.setCell w' ⟨w.heap.size + 1, 0, none⟩ (.slice Az0 nz0 cz0)) ⟨w.heap.size + 1, 1, none⟩ (.slice Az1 nz1 cz1)) ⟨w.heap.size + 1, 2, none⟩ (.bool gone_)).heap[w.heap.size + 1]? = some (.cells #[.slice Az0 nz0 cz0, .slice Az1 nz1 cz1, .bool gone_] 45 (0, 0)) := (block_set (block_set (block_set (hsh)))).trans (by rw [show (Array.setIfInBounds (Array.setIfInBounds (Array.setIfInBounds cur 0 (.slice Az0 nz0 cz0)) 1 (.slice Az1 nz1 cz1)) 2 (.bool gone_)) = putAt cur 0 [.slice Az0 nz0 cz0, .slice Az1 nz1 cz1, .bool gone_] from rfl, set_all (by simpa using hcs)])
      have hown1 : Own (w.heap.size + 1) w' (World.setCell (World.setCell (World.setCell w' ⟨w.heap.size + 1, 0, none⟩ (.slice Az0 nz0 cz0)) ⟨w.heap.size + 1, 1, none⟩ (.slice Az1 nz1 cz1)) ⟨w.heap.size + 1, 2, none⟩ (.bool gone_)) := fun _ => by repeat (first | exact Below.refl _ _ | refine Below.setCell ?_ (by exact Nat.le_refl _) _)
      have hown2 : Shape (w.heap.size + 1) 45 3 w' → Shape (w.heap.size + 1) 45 3 (World.setCell (World.setCell (World.setCell w' ⟨w.heap.size + 1, 0, none⟩ (.slice Az0 nz0 cz0)) ⟨w.heap.size + 1, 1, none⟩ (.slice Az1 nz1 cz1)) ⟨w.heap.size + 1, 2, none⟩ (.bool gone_)) := fun hs => by repeat (first | exact hs | refine Shape.set ?_)
      have hown : OwnQ (w.heap.size + 1) (w.heap.size + 1) 45 3 w' (World.setCell (World.setCell (World.setCell w' ⟨w.heap.size + 1, 0, none⟩ (.slice Az0 nz0 cz0)) ⟨w.heap.size + 1, 1, none⟩ (.slice Az1 nz1 cz1)) ⟨w.heap.size + 1, 2, none⟩ (.bool gone_)) := ⟨hown1, hown2⟩
      have hkp : Same (w.heap.size + 2) uz w' (World.setCell (World.setCell (World.setCell w' ⟨w.heap.size + 1, 0, none⟩ (.slice Az0 nz0 cz0)) ⟨w.heap.size + 1, 1, none⟩ (.slice Az1 nz1 cz1)) ⟨w.heap.size + 1, 2, none⟩ (.bool gone_)) := by repeat (first | exact Same.refl _ _ _ | refine Same.setCell ?_ (.inl (by exact Nat.lt_succ_self _)) _)
      have hsz : (World.setCell (World.setCell (World.setCell w' ⟨w.heap.size + 1, 0, none⟩ (.slice Az0 nz0 cz0)) ⟨w.heap.size + 1, 1, none⟩ (.slice Az1 nz1 cz1)) ⟨w.heap.size + 1, 2, none⟩ (.bool gone_)).heap.size = w'.heap.size := by simp [World.setCell]
      have hnew := DiskN.keep hkp (Nat.le_of_eq hsz.symm) _ _ hnz
      have HST := Lib.hid hst; have HOWN := Lib.hid hown; have HNEW := Lib.hid hnew; have HHZ := Lib.hid (hsz ▸ hhz : uz ≤ (World.setCell (World.setCell (World.setCell w' ⟨w.heap.size + 1, 0, none⟩ (.slice Az0 nz0 cz0)) ⟨w.heap.size + 1, 1, none⟩ (.slice Az1 nz1 cz1)) ⟨w.heap.size + 1, 2, none⟩ (.bool gone_)).heap.size); clear hst hown hown1 hown2 hnew hkp hsz hsh hnz hhz
      generalize cur[0]'_ = d0_ at t0_
      generalize cur[1]'_ = d1_ at t1_
      generalize cur[2]'_ = d2_ at t2_
      go_simp
      exact hK undef _ HOWN.out trivial ⟨_, _, HST.out, HHZ.out, HNEW.out⟩
    trivial
  case hH => rfl
  case hNS => exact OwnQ.of_ext _ _ _ _
  case hSt => exact fun a b => OwnQ.trans a b
  case hJ => exact fun _ _ _ _ h => h
  case hdrew => exact OwnQ.drew _ _ _ _ _
  case hj0 => trivial
  case hend =>
    intro y w2 hS _ hF
    obtain ⟨cs, u, hst, hu, hn⟩ := hF.1
    clear hF
    have hSb : Below (w.heap.size + 1) w1 w2 := hS.1 (by have := HZ.out; omega)
    have X2 : Below w.heap.size w w2 := X1.trans (hSb.mono (by omega))
    have hn2 := hn
    obtain ⟨Az0, nz0, cz0, Az1, nz1, cz1, rfl, _, _, _, _⟩ := hn2
    change w2.heap[w.heap.size + 1]? = some (.cells #[.slice Az0 nz0 cz0, .slice Az1 nz1 cz1, .bool gone_] 45 (0, 0)) at hst
    have c0_ : w2.cell? ⟨w.heap.size + 1, 0, none⟩ = some (.slice Az0 nz0 cz0) := cell_of_row _ _ 0 _ _ (0, 0) hst
    have c1_ : w2.cell? ⟨w.heap.size + 1, 1, none⟩ = some (.slice Az1 nz1 cz1) := cell_of_row _ _ 1 _ _ (0, 0) hst
    have c2_ : w2.cell? ⟨w.heap.size + 1, 2, none⟩ = some (.bool gone_) := cell_of_row _ _ 2 _ _ (0, 0) hst
    have HN := Lib.hid (DiskN.wide (by omega) hu (Nat.le_refl _) _ _ hn : DiskN w2 w.heap.size w2.heap.size _ _); clear hn hst hS hSb
    simp only [fillL, cond_true, cond_false, Nat.reduceAdd]
    go_wp2_with fail
    exact bodyPost_ret (v := .agg #[.slice Az0 nz0 cz0, .slice Az1 nz1 cz1, .bool gone_]) (by simp [results, Try.results54, go_sem, c0_, c1_, c2_]) rfl ⟨_, rfl, HN.out, X2⟩
end
end Go.Proofs.Ytfokpjoeankobaa
