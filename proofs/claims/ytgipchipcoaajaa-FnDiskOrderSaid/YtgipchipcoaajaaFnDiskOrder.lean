/- FnDiskOrder: the walk. No condition. -/
import Derived.Test.YtgipchipcoaajaaFnDiskLast
namespace Go.Proofs.Ytgipchipcoaajaa
set_option linter.unusedSimpArgs false
set_option linter.unnecessarySimpa false
open Go.RowKit
set_option linter.unusedVariables false
theorem DiskR.hi_le {w : World} {lo hi : Nat} {cs : List Value} {x : DiskD} (h : DiskR w lo hi cs x) : hi ≤ w.heap.size := by
  obtain ⟨_, _, _, _, _, _, _, h0, _⟩ := h
  exact h0.lo_le
theorem settleTo_keep {ws : List WaitD} {t : List ByteArray} (k : Nat) : settleTo keepF ws t k = t := by
  induction k with
  | zero => rfl
  | succ k ih =>
    rw [settleTo_succ, ih]
    unfold settleStep
    split
    · rename_i x hx
      apply List.ext_getElem?
      intro i
      rw [List.getElem?_set]
      split
      · rename_i e
        subst e
        split
        · rename_i hl
          simp [keepF, List.getD, List.getElem?_eq_getElem hl]
        · rename_i hl
          exact (List.getElem?_eq_none (by omega)).symm
      · rfl
    · rfl
theorem settleStep_app {f : Nat → WaitD → ByteArray → ByteArray} {ws vs : List WaitD} {t : List ByteArray} {k : Nat} (h : k < ws.length) : settleStep f (ws ++ vs) t k = settleStep f ws t k := by
  unfold settleStep
  rw [List.getElem?_append_left h]
theorem settleTo_app {f : Nat → WaitD → ByteArray → ByteArray} {ws vs : List WaitD} {t : List ByteArray} {k : Nat} (h : k ≤ ws.length) : settleTo f (ws ++ vs) t k = settleTo f ws t k := by
  induction k with
  | zero => rfl
  | succ k ih => rw [settleTo_succ, settleTo_succ, ih (by omega), settleStep_app (by omega)]
theorem flush_two {t : List ByteArray} {ws : List WaitD} {g : Bool} {a b : Int} {s u : ByteArray} : (settleD flushF (t, (ws ++ [(a, s)]) ++ [(b, u)], g)) = (((settleTo flushF ws t ws.length).set a.toNat s).set b.toNat u, [], g) := by
  unfold settleD
  simp only [List.length_append, List.length_cons, List.length_nil, Nat.zero_add]
  rw [settleTo_succ, settleTo_succ, List.append_assoc, settleTo_app (Nat.le_refl _)]
  unfold settleStep
  simp [flushF, List.getElem?_append_right]
theorem order_flush {x : DiskD} {a b : Nat} {s u : ByteArray} (hab : (a : Int) ≠ (b : Int)) (h1 : writeOk x (a : Int) s = true) (h2 : writeOk (writeD x (a : Int) s) (b : Int) u = true) (h3 : writeOk x (b : Int) u = true) (h4 : writeOk (writeD x (b : Int) u) (a : Int) s = true) :
    settleD flushF (writeD (writeD x (b : Int) u) (a : Int) s) = settleD flushF (writeD (writeD x (a : Int) s) (b : Int) u) := by
  rw [write_eq h4, write_eq h3, write_eq h2, write_eq h1, flush_two, flush_two]
  rw [List.set_comm _ _ (by simp; omega)]
theorem order_keep {x : DiskD} {a b : Nat} {s u : ByteArray} (h1 : writeOk x (a : Int) s = true) (h2 : writeOk (writeD x (a : Int) s) (b : Int) u = true) (h3 : writeOk x (b : Int) u = true) (h4 : writeOk (writeD x (b : Int) u) (a : Int) s = true) :
    settleD keepF (writeD (writeD x (b : Int) u) (a : Int) s) = settleD keepF (writeD (writeD x (a : Int) s) (b : Int) u) := by
  rw [write_eq h4, write_eq h3, write_eq h2, write_eq h1]
  unfold settleD
  rw [settleTo_keep, settleTo_keep]
/-- In a region: a disk, in memory that stands. -/
def softD (x : DiskD) : StP := ⟨fun v w => ∃ cs lo hi, v = .agg (List.toArray cs) ∧ DiskR w lo hi cs x, fun v w w' hs ⟨cs, lo, hi, e, h⟩ => ⟨cs, lo, hi, e, DiskR.below hs h.hi_le _ _ h⟩⟩
set_option maxRecDepth 100000 in
set_option maxHeartbeats 4000000 in
theorem fnDiskOrder_walk (A : Option Addr) (n c : Nat) (zs : List Int) (A' : Option Addr) (n' c' : Nat) (zs' : List Int) (w : World) (h : BytesIn w A n c zs) (h' : BytesIn w A' n' c' zs') :
    Calls Try.prog 6 #[.slice A n c, .slice A' n' c'] w fun e w' => e = .returned (.bool true) ∧ Below w.heap.size w w' := by
  go_enter Try.func6, Try.ntmps6
  by_cases hb : 1048576 < n
  · have h0 : (1048576 : Int) < (n : Int) := by omega
    go_wp2_with fail
    go_ret
    exact ⟨rfl, Below.refl _ _⟩
  have h0 : ¬ (1048576 : Int) < (n : Int) := by omega
  have h1 : (n : Int) ≤ 1048576 := by omega
  by_cases hb' : 1048576 < n'
  · have h0 : (1048576 : Int) < (n' : Int) := by omega
    go_wp2_with fail
    go_ret
    exact ⟨rfl, Below.refl _ _⟩
  have h0' : ¬ (1048576 : Int) < (n' : Int) := by omega
  have h1' : (n' : Int) ≤ 1048576 := by omega
  go_wp2_with fail
  refine (drawDiskWrite_any A n c zs _ h).mono ?_
  rintro e w1 ⟨cs, x, a, s, rfl, hD, hl1, hl2, hs, hb1⟩
  have KD1 := Lib.hid hD
  obtain ⟨A1, n1, c1, B1, m1, d1, rfl, -, -⟩ := hD
  have HB := Lib.hid hb1
  have hms : s.size ≤ maxLen := by unfold maxLen; omega
  clear hb1
  go_wp2_with fail
  obtain ⟨W1, hW⟩ : ∃ W, W = World.alloc w1 (.cells #[.slice A1 n1 c1, .slice B1 m1 d1, .bool x.2.2] 26) := ⟨_, rfl⟩
  have e1 : Below w1.heap.size w1 W1 := by rw [hW]; exact bel1
  have KB1 : Hid (W1.heap[w1.heap.size]? = some (.cells #[.slice A1 n1 c1, .slice B1 m1 d1, .bool x.2.2] 26 (0, 0))) := Lib.hid (by rw [hW]; exact heap_alloc_new _ _)
  rw [← hW]
  clear hW
  have HB := Lib.hid (HB.out.trans (e1.mono HB.out.size))
  have KD1 := Lib.hid (DiskR.below e1 KD1.out.hi_le _ _ KD1.out)
  clear e1
  refine (drawDiskWrite_any A' n' c' zs' _ (bytes_later h' HB.out)).mono ?_
  rintro e w2 ⟨cs, x', b, u, rfl, hD, hl1', hl2', hs', hb2⟩
  have KD2 := Lib.hid hD
  obtain ⟨A2, n2, c2, B2, m2, d2, rfl, -, -⟩ := hD
  have hmu : u.size ≤ maxLen := by unfold maxLen; omega
  have KB1 := Lib.hid ((hb2.block _ (Array.getElem?_eq_some_iff.1 KB1.out).1).trans KB1.out)
  have KD1 := Lib.hid (DiskR.below hb2 KD1.out.hi_le _ _ KD1.out)
  have HB := Lib.hid (HB.out.trans (hb2.mono HB.out.size))
  clear hb2
  obtain ⟨o1, ho1⟩ : ∃ o, o = writeOk x a s := ⟨_, rfl⟩
  obtain ⟨y, hy⟩ : ∃ o, o = writeD x a s := ⟨_, rfl⟩
  obtain ⟨o2, ho2⟩ : ∃ o, o = writeOk y b u := ⟨_, rfl⟩
  obtain ⟨z, hz⟩ : ∃ o, o = writeD y b u := ⟨_, rfl⟩
  obtain ⟨o3, ho3⟩ : ∃ o, o = writeOk x b u := ⟨_, rfl⟩
  obtain ⟨v, hv⟩ : ∃ o, o = writeD x b u := ⟨_, rfl⟩
  obtain ⟨o4, ho4⟩ : ∃ o, o = writeOk v a s := ⟨_, rfl⟩
  obtain ⟨t, ht⟩ : ∃ o, o = writeD v a s := ⟨_, rfl⟩
  have HO1 := Lib.hid ho1; have HY := Lib.hid hy; have HO2 := Lib.hid ho2; have HZ := Lib.hid hz; have HO3 := Lib.hid ho3; have HV := Lib.hid hv; have HO4 := Lib.hid ho4; have HT := Lib.hid ht
  clear ho1 hy ho2 hz ho3 hv ho4 ht
  have q0 := cell_of_row _ _ 0 _ _ (0, 0) KB1.out
  have q1 := cell_of_row _ _ 1 _ _ (0, 0) KB1.out
  have q2 := cell_of_row _ _ 2 _ _ (0, 0) KB1.out
  have ql := (Array.getElem?_eq_some_iff.1 KB1.out).1
  go_wp2_with fail
  obtain ⟨W2, hW⟩ : ∃ W, W = World.alloc w2 (.cells #[.slice A2 n2 c2, .slice B2 m2 d2, .bool x'.2.2] 26) := ⟨_, rfl⟩
  have e1 : Below w2.heap.size w2 W2 := by rw [hW]; exact bel1
  have KB2 : Hid (W2.heap[w2.heap.size]? = some (.cells #[.slice A2 n2 c2, .slice B2 m2 d2, .bool x'.2.2] 26 (0, 0))) := Lib.hid (by rw [hW]; exact heap_alloc_new _ _)
  rw [← hW]
  clear hW
  have KB1 := Lib.hid ((e1.block _ (Array.getElem?_eq_some_iff.1 KB1.out).1).trans KB1.out)
  have KD1 := Lib.hid (DiskR.below e1 KD1.out.hi_le _ _ KD1.out)
  have HB := Lib.hid (HB.out.trans (e1.mono HB.out.size))
  have KD2 := Lib.hid (DiskR.below e1 KD2.out.hi_le _ _ KD2.out)
  clear e1
  refine (diskWrite_any _ x a s _ _ _ KD1.out hms).mono ?_
  rw [← HO1.out, ← HY.out]
  rintro e w3 ⟨cs, rfl, hN, hb2⟩
  have hD := hN.r
  have KD3 := Lib.hid hD
  obtain ⟨A3, n3, c3, B3, m3, d3, rfl, -, -⟩ := hD
  clear q0 q1 q2 ql
  have KB1 := Lib.hid ((hb2.block _ (Array.getElem?_eq_some_iff.1 KB1.out).1).trans KB1.out)
  have KD1 := Lib.hid (DiskR.below hb2 KD1.out.hi_le _ _ KD1.out)
  have KB2 := Lib.hid ((hb2.block _ (Array.getElem?_eq_some_iff.1 KB2.out).1).trans KB2.out)
  have KD2 := Lib.hid (DiskR.below hb2 KD2.out.hi_le _ _ KD2.out)
  have HB := Lib.hid (HB.out.trans (hb2.mono HB.out.size))
  clear hb2 hN
  go_wp2_with fail
  obtain ⟨W3, hW⟩ : ∃ W, W = World.alloc w3 (.cells #[.slice A3 n3 c3, .slice B3 m3 d3, .bool y.2.2] 26) := ⟨_, rfl⟩
  have e1 : Below w3.heap.size w3 W3 := by rw [hW]; exact bel1
  have KB3 : Hid (W3.heap[w3.heap.size]? = some (.cells #[.slice A3 n3 c3, .slice B3 m3 d3, .bool y.2.2] 26 (0, 0))) := Lib.hid (by rw [hW]; exact heap_alloc_new _ _)
  rw [← hW]
  clear hW
  have KB1 := Lib.hid ((e1.block _ (Array.getElem?_eq_some_iff.1 KB1.out).1).trans KB1.out)
  have KD1 := Lib.hid (DiskR.below e1 KD1.out.hi_le _ _ KD1.out)
  have KB2 := Lib.hid ((e1.block _ (Array.getElem?_eq_some_iff.1 KB2.out).1).trans KB2.out)
  have KD2 := Lib.hid (DiskR.below e1 KD2.out.hi_le _ _ KD2.out)
  have HB := Lib.hid (HB.out.trans (e1.mono HB.out.size))
  have KD3 := Lib.hid (DiskR.below e1 KD3.out.hi_le _ _ KD3.out)
  clear e1
  refine (diskWrite_any _ y b u _ _ _ KD3.out hmu).mono ?_
  rw [← HO2.out, ← HZ.out]
  rintro e w4 ⟨cs, rfl, hN, hb2⟩
  have hD := hN.r
  have KD4 := Lib.hid hD
  obtain ⟨A4, n4, c4, B4, m4, d4, rfl, -, -⟩ := hD
  have KB1 := Lib.hid ((hb2.block _ (Array.getElem?_eq_some_iff.1 KB1.out).1).trans KB1.out)
  have KD1 := Lib.hid (DiskR.below hb2 KD1.out.hi_le _ _ KD1.out)
  have KB2 := Lib.hid ((hb2.block _ (Array.getElem?_eq_some_iff.1 KB2.out).1).trans KB2.out)
  have KD2 := Lib.hid (DiskR.below hb2 KD2.out.hi_le _ _ KD2.out)
  have KB3 := Lib.hid ((hb2.block _ (Array.getElem?_eq_some_iff.1 KB3.out).1).trans KB3.out)
  have KD3 := Lib.hid (DiskR.below hb2 KD3.out.hi_le _ _ KD3.out)
  have HB := Lib.hid (HB.out.trans (hb2.mono HB.out.size))
  clear hb2 hN
  have q0 := cell_of_row _ _ 0 _ _ (0, 0) KB1.out
  have q1 := cell_of_row _ _ 1 _ _ (0, 0) KB1.out
  have q2 := cell_of_row _ _ 2 _ _ (0, 0) KB1.out
  have ql := (Array.getElem?_eq_some_iff.1 KB1.out).1
  go_wp2_with fail
  obtain ⟨W4, hW⟩ : ∃ W, W = World.alloc w4 (.cells #[.slice A4 n4 c4, .slice B4 m4 d4, .bool z.2.2] 26) := ⟨_, rfl⟩
  have e1 : Below w4.heap.size w4 W4 := by rw [hW]; exact bel1
  have KB4 : Hid (W4.heap[w4.heap.size]? = some (.cells #[.slice A4 n4 c4, .slice B4 m4 d4, .bool z.2.2] 26 (0, 0))) := Lib.hid (by rw [hW]; exact heap_alloc_new _ _)
  rw [← hW]
  clear hW
  have KB1 := Lib.hid ((e1.block _ (Array.getElem?_eq_some_iff.1 KB1.out).1).trans KB1.out)
  have KD1 := Lib.hid (DiskR.below e1 KD1.out.hi_le _ _ KD1.out)
  have KB2 := Lib.hid ((e1.block _ (Array.getElem?_eq_some_iff.1 KB2.out).1).trans KB2.out)
  have KD2 := Lib.hid (DiskR.below e1 KD2.out.hi_le _ _ KD2.out)
  have KB3 := Lib.hid ((e1.block _ (Array.getElem?_eq_some_iff.1 KB3.out).1).trans KB3.out)
  have KD3 := Lib.hid (DiskR.below e1 KD3.out.hi_le _ _ KD3.out)
  have HB := Lib.hid (HB.out.trans (e1.mono HB.out.size))
  have KD4 := Lib.hid (DiskR.below e1 KD4.out.hi_le _ _ KD4.out)
  clear e1
  refine (diskWrite_any _ x b u _ _ _ KD1.out hmu).mono ?_
  rw [← HO3.out, ← HV.out]
  rintro e w5 ⟨cs, rfl, hN, hb2⟩
  have hD := hN.r
  have KD5 := Lib.hid hD
  obtain ⟨A5, n5, c5, B5, m5, d5, rfl, -, -⟩ := hD
  clear q0 q1 q2 ql
  have KB1 := Lib.hid ((hb2.block _ (Array.getElem?_eq_some_iff.1 KB1.out).1).trans KB1.out)
  have KD1 := Lib.hid (DiskR.below hb2 KD1.out.hi_le _ _ KD1.out)
  have KB2 := Lib.hid ((hb2.block _ (Array.getElem?_eq_some_iff.1 KB2.out).1).trans KB2.out)
  have KD2 := Lib.hid (DiskR.below hb2 KD2.out.hi_le _ _ KD2.out)
  have KB3 := Lib.hid ((hb2.block _ (Array.getElem?_eq_some_iff.1 KB3.out).1).trans KB3.out)
  have KD3 := Lib.hid (DiskR.below hb2 KD3.out.hi_le _ _ KD3.out)
  have KB4 := Lib.hid ((hb2.block _ (Array.getElem?_eq_some_iff.1 KB4.out).1).trans KB4.out)
  have KD4 := Lib.hid (DiskR.below hb2 KD4.out.hi_le _ _ KD4.out)
  have HB := Lib.hid (HB.out.trans (hb2.mono HB.out.size))
  clear hb2 hN
  go_wp2_with fail
  obtain ⟨W5, hW⟩ : ∃ W, W = World.alloc w5 (.cells #[.slice A5 n5 c5, .slice B5 m5 d5, .bool v.2.2] 26) := ⟨_, rfl⟩
  have e1 : Below w5.heap.size w5 W5 := by rw [hW]; exact bel1
  have KB5 : Hid (W5.heap[w5.heap.size]? = some (.cells #[.slice A5 n5 c5, .slice B5 m5 d5, .bool v.2.2] 26 (0, 0))) := Lib.hid (by rw [hW]; exact heap_alloc_new _ _)
  rw [← hW]
  clear hW
  have KB1 := Lib.hid ((e1.block _ (Array.getElem?_eq_some_iff.1 KB1.out).1).trans KB1.out)
  have KD1 := Lib.hid (DiskR.below e1 KD1.out.hi_le _ _ KD1.out)
  have KB2 := Lib.hid ((e1.block _ (Array.getElem?_eq_some_iff.1 KB2.out).1).trans KB2.out)
  have KD2 := Lib.hid (DiskR.below e1 KD2.out.hi_le _ _ KD2.out)
  have KB3 := Lib.hid ((e1.block _ (Array.getElem?_eq_some_iff.1 KB3.out).1).trans KB3.out)
  have KD3 := Lib.hid (DiskR.below e1 KD3.out.hi_le _ _ KD3.out)
  have KB4 := Lib.hid ((e1.block _ (Array.getElem?_eq_some_iff.1 KB4.out).1).trans KB4.out)
  have KD4 := Lib.hid (DiskR.below e1 KD4.out.hi_le _ _ KD4.out)
  have HB := Lib.hid (HB.out.trans (e1.mono HB.out.size))
  have KD5 := Lib.hid (DiskR.below e1 KD5.out.hi_le _ _ KD5.out)
  clear e1
  refine (diskWrite_any _ v a s _ _ _ KD5.out hms).mono ?_
  rw [← HO4.out, ← HT.out]
  rintro e w6 ⟨cs, rfl, hN, hb2⟩
  have hD := hN.r
  have KD6 := Lib.hid hD
  obtain ⟨A6, n6, c6, B6, m6, d6, rfl, -, -⟩ := hD
  have KB1 := Lib.hid ((hb2.block _ (Array.getElem?_eq_some_iff.1 KB1.out).1).trans KB1.out)
  have KD1 := Lib.hid (DiskR.below hb2 KD1.out.hi_le _ _ KD1.out)
  have KB2 := Lib.hid ((hb2.block _ (Array.getElem?_eq_some_iff.1 KB2.out).1).trans KB2.out)
  have KD2 := Lib.hid (DiskR.below hb2 KD2.out.hi_le _ _ KD2.out)
  have KB3 := Lib.hid ((hb2.block _ (Array.getElem?_eq_some_iff.1 KB3.out).1).trans KB3.out)
  have KD3 := Lib.hid (DiskR.below hb2 KD3.out.hi_le _ _ KD3.out)
  have KB4 := Lib.hid ((hb2.block _ (Array.getElem?_eq_some_iff.1 KB4.out).1).trans KB4.out)
  have KD4 := Lib.hid (DiskR.below hb2 KD4.out.hi_le _ _ KD4.out)
  have KB5 := Lib.hid ((hb2.block _ (Array.getElem?_eq_some_iff.1 KB5.out).1).trans KB5.out)
  have KD5 := Lib.hid (DiskR.below hb2 KD5.out.hi_le _ _ KD5.out)
  have HB := Lib.hid (HB.out.trans (hb2.mono HB.out.size))
  clear hb2 hN
  have q0 := cell_of_row _ _ 0 _ _ (0, 0) KB1.out
  have q1 := cell_of_row _ _ 1 _ _ (0, 0) KB1.out
  have q2 := cell_of_row _ _ 2 _ _ (0, 0) KB1.out
  have ql := (Array.getElem?_eq_some_iff.1 KB1.out).1
  go_wp2_with fail
  obtain ⟨W6, hW⟩ : ∃ W, W = World.alloc w6 (.cells #[.slice A6 n6 c6, .slice B6 m6 d6, .bool t.2.2] 26) := ⟨_, rfl⟩
  have e1 : Below w6.heap.size w6 W6 := by rw [hW]; exact bel1
  have KB6 : Hid (W6.heap[w6.heap.size]? = some (.cells #[.slice A6 n6 c6, .slice B6 m6 d6, .bool t.2.2] 26 (0, 0))) := Lib.hid (by rw [hW]; exact heap_alloc_new _ _)
  rw [← hW]
  clear hW
  have KB1 := Lib.hid ((e1.block _ (Array.getElem?_eq_some_iff.1 KB1.out).1).trans KB1.out)
  have KD1 := Lib.hid (DiskR.below e1 KD1.out.hi_le _ _ KD1.out)
  have KB2 := Lib.hid ((e1.block _ (Array.getElem?_eq_some_iff.1 KB2.out).1).trans KB2.out)
  have KD2 := Lib.hid (DiskR.below e1 KD2.out.hi_le _ _ KD2.out)
  have KB3 := Lib.hid ((e1.block _ (Array.getElem?_eq_some_iff.1 KB3.out).1).trans KB3.out)
  have KD3 := Lib.hid (DiskR.below e1 KD3.out.hi_le _ _ KD3.out)
  have KB4 := Lib.hid ((e1.block _ (Array.getElem?_eq_some_iff.1 KB4.out).1).trans KB4.out)
  have KD4 := Lib.hid (DiskR.below e1 KD4.out.hi_le _ _ KD4.out)
  have KB5 := Lib.hid ((e1.block _ (Array.getElem?_eq_some_iff.1 KB5.out).1).trans KB5.out)
  have KD5 := Lib.hid (DiskR.below e1 KD5.out.hi_le _ _ KD5.out)
  have HB := Lib.hid (HB.out.trans (e1.mono HB.out.size))
  have KD6 := Lib.hid (DiskR.below e1 KD6.out.hi_le _ _ KD6.out)
  clear e1
  refine (spDiskWrite_any _ x a s _ _ _ KD1.out hms).mono ?_
  rw [← HO1.out, ← HY.out]
  rintro e w7 ⟨cs, rfl, hN, hb2⟩
  have hD := hN.r
  have KD7 := Lib.hid hD
  obtain ⟨A7, n7, c7, B7, m7, d7, rfl, -, -⟩ := hD
  clear q0 q1 q2 ql
  have KB1 := Lib.hid ((hb2.block _ (Array.getElem?_eq_some_iff.1 KB1.out).1).trans KB1.out)
  have KD1 := Lib.hid (DiskR.below hb2 KD1.out.hi_le _ _ KD1.out)
  have KB2 := Lib.hid ((hb2.block _ (Array.getElem?_eq_some_iff.1 KB2.out).1).trans KB2.out)
  have KD2 := Lib.hid (DiskR.below hb2 KD2.out.hi_le _ _ KD2.out)
  have KB3 := Lib.hid ((hb2.block _ (Array.getElem?_eq_some_iff.1 KB3.out).1).trans KB3.out)
  have KD3 := Lib.hid (DiskR.below hb2 KD3.out.hi_le _ _ KD3.out)
  have KB4 := Lib.hid ((hb2.block _ (Array.getElem?_eq_some_iff.1 KB4.out).1).trans KB4.out)
  have KD4 := Lib.hid (DiskR.below hb2 KD4.out.hi_le _ _ KD4.out)
  have KB5 := Lib.hid ((hb2.block _ (Array.getElem?_eq_some_iff.1 KB5.out).1).trans KB5.out)
  have KD5 := Lib.hid (DiskR.below hb2 KD5.out.hi_le _ _ KD5.out)
  have KB6 := Lib.hid ((hb2.block _ (Array.getElem?_eq_some_iff.1 KB6.out).1).trans KB6.out)
  have KD6 := Lib.hid (DiskR.below hb2 KD6.out.hi_le _ _ KD6.out)
  have HB := Lib.hid (HB.out.trans (hb2.mono HB.out.size))
  clear hb2 hN
  have q0 := cell_of_row _ _ 0 _ _ (0, 0) KB3.out
  have q1 := cell_of_row _ _ 1 _ _ (0, 0) KB3.out
  have q2 := cell_of_row _ _ 2 _ _ (0, 0) KB3.out
  have ql := (Array.getElem?_eq_some_iff.1 KB3.out).1
  have hgg : (o1 != o1) = false := by simp
  have hge : (o1 == o1) = true := by simp
  go_wp2_with fail
  obtain ⟨W7, hW⟩ : ∃ W, W = World.alloc w7 (.cells #[.slice A7 n7 c7, .slice B7 m7 d7, .bool y.2.2] 26) := ⟨_, rfl⟩
  have e1 : Below w7.heap.size w7 W7 := by rw [hW]; exact bel1
  have KB7 : Hid (W7.heap[w7.heap.size]? = some (.cells #[.slice A7 n7 c7, .slice B7 m7 d7, .bool y.2.2] 26 (0, 0))) := Lib.hid (by rw [hW]; exact heap_alloc_new _ _)
  rw [← hW]
  clear hW
  have KB1 := Lib.hid ((e1.block _ (Array.getElem?_eq_some_iff.1 KB1.out).1).trans KB1.out)
  have KD1 := Lib.hid (DiskR.below e1 KD1.out.hi_le _ _ KD1.out)
  have KB2 := Lib.hid ((e1.block _ (Array.getElem?_eq_some_iff.1 KB2.out).1).trans KB2.out)
  have KD2 := Lib.hid (DiskR.below e1 KD2.out.hi_le _ _ KD2.out)
  have KB3 := Lib.hid ((e1.block _ (Array.getElem?_eq_some_iff.1 KB3.out).1).trans KB3.out)
  have KD3 := Lib.hid (DiskR.below e1 KD3.out.hi_le _ _ KD3.out)
  have KB4 := Lib.hid ((e1.block _ (Array.getElem?_eq_some_iff.1 KB4.out).1).trans KB4.out)
  have KD4 := Lib.hid (DiskR.below e1 KD4.out.hi_le _ _ KD4.out)
  have KB5 := Lib.hid ((e1.block _ (Array.getElem?_eq_some_iff.1 KB5.out).1).trans KB5.out)
  have KD5 := Lib.hid (DiskR.below e1 KD5.out.hi_le _ _ KD5.out)
  have KB6 := Lib.hid ((e1.block _ (Array.getElem?_eq_some_iff.1 KB6.out).1).trans KB6.out)
  have KD6 := Lib.hid (DiskR.below e1 KD6.out.hi_le _ _ KD6.out)
  have HB := Lib.hid (HB.out.trans (e1.mono HB.out.size))
  have KD7 := Lib.hid (DiskR.below e1 KD7.out.hi_le _ _ KD7.out)
  clear e1
  clear q0 q1 q2 ql
  refine (pfDisk_yes _ _ y _ _ _ _ _ KD3.out KD7.out).mono ?_
  rintro e w8 ⟨rfl, hb2⟩
  have KB1 := Lib.hid ((hb2.block _ (Array.getElem?_eq_some_iff.1 KB1.out).1).trans KB1.out)
  have KD1 := Lib.hid (DiskR.below hb2 KD1.out.hi_le _ _ KD1.out)
  have KB2 := Lib.hid ((hb2.block _ (Array.getElem?_eq_some_iff.1 KB2.out).1).trans KB2.out)
  have KD2 := Lib.hid (DiskR.below hb2 KD2.out.hi_le _ _ KD2.out)
  have KB3 := Lib.hid ((hb2.block _ (Array.getElem?_eq_some_iff.1 KB3.out).1).trans KB3.out)
  have KD3 := Lib.hid (DiskR.below hb2 KD3.out.hi_le _ _ KD3.out)
  have KB4 := Lib.hid ((hb2.block _ (Array.getElem?_eq_some_iff.1 KB4.out).1).trans KB4.out)
  have KD4 := Lib.hid (DiskR.below hb2 KD4.out.hi_le _ _ KD4.out)
  have KB5 := Lib.hid ((hb2.block _ (Array.getElem?_eq_some_iff.1 KB5.out).1).trans KB5.out)
  have KD5 := Lib.hid (DiskR.below hb2 KD5.out.hi_le _ _ KD5.out)
  have KB6 := Lib.hid ((hb2.block _ (Array.getElem?_eq_some_iff.1 KB6.out).1).trans KB6.out)
  have KD6 := Lib.hid (DiskR.below hb2 KD6.out.hi_le _ _ KD6.out)
  have KB7 := Lib.hid ((hb2.block _ (Array.getElem?_eq_some_iff.1 KB7.out).1).trans KB7.out)
  have KD7 := Lib.hid (DiskR.below hb2 KD7.out.hi_le _ _ KD7.out)
  have HB := Lib.hid (HB.out.trans (hb2.mono HB.out.size))
  clear hb2
  have q0 := cell_of_row _ _ 0 _ _ (0, 0) KB3.out
  have q1 := cell_of_row _ _ 1 _ _ (0, 0) KB3.out
  have q2 := cell_of_row _ _ 2 _ _ (0, 0) KB3.out
  have ql := (Array.getElem?_eq_some_iff.1 KB3.out).1
  have r0 := cell_of_row _ _ 0 _ _ (0, 0) KB7.out
  have r1 := cell_of_row _ _ 1 _ _ (0, 0) KB7.out
  have r2 := cell_of_row _ _ 2 _ _ (0, 0) KB7.out
  have rl := (Array.getElem?_eq_some_iff.1 KB7.out).1
  cases o1
  · go_wp2_with fail
    refine (pfDisk_yes _ _ y _ _ _ _ _ KD3.out KD7.out).mono ?_
    rintro e w9 ⟨rfl, hb9⟩
    go_wp2_with fail
    go_ret
    exact ⟨rfl, HB.out.trans (hb9.mono HB.out.size)⟩
  cases o2
  · go_wp2_with fail
    refine (pfDisk_yes _ _ y _ _ _ _ _ KD3.out KD7.out).mono ?_
    rintro e w9 ⟨rfl, hb9⟩
    go_wp2_with fail
    go_ret
    exact ⟨rfl, HB.out.trans (hb9.mono HB.out.size)⟩
  cases o3
  · go_wp2_with fail
    refine (pfDisk_yes _ _ y _ _ _ _ _ KD3.out KD7.out).mono ?_
    rintro e w9 ⟨rfl, hb9⟩
    go_wp2_with fail
    go_ret
    exact ⟨rfl, HB.out.trans (hb9.mono HB.out.size)⟩
  cases o4
  · go_wp2_with fail
    refine (pfDisk_yes _ _ y _ _ _ _ _ KD3.out KD7.out).mono ?_
    rintro e w9 ⟨rfl, hb9⟩
    go_wp2_with fail
    go_ret
    exact ⟨rfl, HB.out.trans (hb9.mono HB.out.size)⟩
  by_cases hab : a = b
  · have habb : (a == b) = true := by simp [hab]
    go_wp2_with fail
    refine (pfDisk_yes _ _ y _ _ _ _ _ KD3.out KD7.out).mono ?_
    rintro e w9 ⟨rfl, hb9⟩
    go_wp2_with fail
    go_ret
    exact ⟨rfl, HB.out.trans (hb9.mono HB.out.size)⟩
  have habb : (a == b) = false := by simp [hab]
  obtain ⟨k1, hk1, hk1', -⟩ := write_facts HO1.out.symm
  obtain ⟨k2, hk2, hk2', -, -, hzok, -⟩ := write_facts HO2.out.symm
  obtain ⟨_, -, -, -, -, htok, -⟩ := write_facts HO4.out.symm
  subst hk1 hk2
  rw [← HZ.out] at hzok
  rw [← HT.out] at htok
  have hfl : settleD flushF t = settleD flushF z := by
    have g1 := HO1.out.symm; have g2 := HO2.out.symm; have g3 := HO3.out.symm; have g4 := HO4.out.symm
    rw [HY.out] at g2; rw [HV.out] at g4
    rw [HT.out, HV.out, HZ.out, HY.out]; exact order_flush hab g1 g2 g3 g4
  have hkp : settleD keepF t = settleD keepF z := by
    have g1 := HO1.out.symm; have g2 := HO2.out.symm; have g3 := HO3.out.symm; have g4 := HO4.out.symm
    rw [HY.out] at g2; rw [HV.out] at g4
    rw [HT.out, HV.out, HZ.out, HY.out]; exact order_keep g1 g2 g3 g4
  obtain ⟨fd, hfd⟩ : ∃ o, o = settleD flushF z := ⟨_, rfl⟩
  obtain ⟨kd, hkd⟩ : ∃ o, o = settleD keepF z := ⟨_, rfl⟩
  have HFL := Lib.hid hfl; have HKP := Lib.hid hkp; have HFD := Lib.hid hfd; have HKD := Lib.hid hkd; have HZOK := Lib.hid hzok; have HTOK := Lib.hid htok
  clear hfl hkp hfd hkd hzok htok
  clear q0 q1 q2 ql
  clear r0 r1 r2 rl
  have q0 := cell_of_row _ _ 0 _ _ (0, 0) KB4.out
  have q1 := cell_of_row _ _ 1 _ _ (0, 0) KB4.out
  have q2 := cell_of_row _ _ 2 _ _ (0, 0) KB4.out
  have ql := (Array.getElem?_eq_some_iff.1 KB4.out).1
  have r0 := cell_of_row _ _ 0 _ _ (0, 0) KB6.out
  have r1 := cell_of_row _ _ 1 _ _ (0, 0) KB6.out
  have r2 := cell_of_row _ _ 2 _ _ (0, 0) KB6.out
  have rl := (Array.getElem?_eq_some_iff.1 KB6.out).1
  go_wp2_with fail
  try simp only [habb]
  apply wp_region_rg (by kernel_rfl) (false :: false :: false :: false :: true :: false :: false :: false :: false :: false :: false :: false :: false :: false :: false :: false :: false :: false :: false :: false :: false :: false :: false :: false :: false :: false :: false :: false :: false :: false :: false :: false :: false :: false :: false :: false :: false :: false :: false :: false :: false :: false :: false :: false :: false :: false :: false :: false :: false :: false :: false :: false :: false :: false :: false :: false :: false :: false :: false :: false :: false :: false :: false :: false :: false :: false :: false :: false :: false :: false :: false :: false :: false :: false :: false :: false :: false :: false :: false :: false :: false :: false :: false :: false :: false :: false :: false :: false :: false :: false :: false :: false :: false :: false :: false :: false :: false :: false :: false :: false :: false :: false :: false :: false :: false :: false :: false :: false :: false :: false :: false :: false :: false :: false :: true :: true :: true :: true :: true :: true :: true :: true :: true :: true :: true :: true :: []) (some 114 :: some 115 :: some 116 :: some 117 :: some 118 :: some 119 :: some 120 :: some 121 :: some 122 :: some 123 :: some 124 :: some 125 :: some 4 :: []) ([] :: [0] :: [] :: [2] :: [1, 3] :: [4] :: [5] :: [5, 6] :: [5] :: [5, 8] :: [5, 7, 9] :: [5, 10] :: [11] :: []) (StP.is _ :: softD fd :: StP.is _ :: softD fd :: StP.is _ :: StP.is _ :: StP.is _ :: softD kd :: StP.is _ :: softD kd :: StP.is _ :: StP.is _ :: StP.is _ :: []) (by kernel_rfl)
  case hobs =>
    refine ⟨fun y w' hS hF K hK => ?_, ?_⟩
    · skip -- 0: load
      simp only [fillL, cond_true, cond_false, List.getD_cons_zero, List.getD_cons_succ, StP.is, Act.put, List.setIfInBounds_toArray, List.set_cons_zero, List.set_cons_succ, Nat.reduceAdd] at hK ⊢
      refine rg_yes (by kernel_rfl) ?_
      have qx0_ := (Below.cell hS ql).trans q0
      have qx1_ := (Below.cell hS ql).trans q1
      have qx2_ := (Below.cell hS ql).trans q2
      have qx3_ := (Below.cell hS rl).trans r0
      have qx4_ := (Below.cell hS rl).trans r1
      have qx5_ := (Below.cell hS rl).trans r2
      clear hF
      go_simp
      exact hK _ _ (Ext.refl _) rfl
    refine ⟨fun y w' hS hF K hK => ?_, ?_⟩
    · skip -- 1: call
      have e114 : y 114 = _ := hF.1
      simp only [fillL, cond_true, cond_false, List.getD_cons_zero, List.getD_cons_succ, StP.is, Act.put, List.setIfInBounds_toArray, List.set_cons_zero, List.set_cons_succ, Nat.reduceAdd, e114] at hK ⊢
      refine rg_yes (by kernel_rfl) ?_
      clear e114
      clear hF
      go_simp
      go_at_call 27
      refine (diskFlush_any _ z _ _ _ (DiskR.below hS KD4.out.hi_le _ _ KD4.out) HZOK.out).mono ?_
      rw [← HFD.out]
      rintro e w'' ⟨cs, rfl, hN, hb⟩
      exact hK _ _ hb ⟨cs, _, _, rfl, hN.r⟩
    refine ⟨fun y w' hS hF K hK => ?_, ?_⟩
    · skip -- 2: load
      simp only [fillL, cond_true, cond_false, List.getD_cons_zero, List.getD_cons_succ, StP.is, Act.put, List.setIfInBounds_toArray, List.set_cons_zero, List.set_cons_succ, Nat.reduceAdd] at hK ⊢
      refine rg_yes (by kernel_rfl) ?_
      have qx0_ := (Below.cell hS ql).trans q0
      have qx1_ := (Below.cell hS ql).trans q1
      have qx2_ := (Below.cell hS ql).trans q2
      have qx3_ := (Below.cell hS rl).trans r0
      have qx4_ := (Below.cell hS rl).trans r1
      have qx5_ := (Below.cell hS rl).trans r2
      clear hF
      go_simp
      exact hK _ _ (Ext.refl _) rfl
    refine ⟨fun y w' hS hF K hK => ?_, ?_⟩
    · skip -- 3: call
      have e116 : y 116 = _ := hF.1
      simp only [fillL, cond_true, cond_false, List.getD_cons_zero, List.getD_cons_succ, StP.is, Act.put, List.setIfInBounds_toArray, List.set_cons_zero, List.set_cons_succ, Nat.reduceAdd, e116] at hK ⊢
      refine rg_yes (by kernel_rfl) ?_
      clear e116
      clear hF
      go_simp
      go_at_call 27
      refine (diskFlush_any _ t _ _ _ (DiskR.below hS KD6.out.hi_le _ _ KD6.out) HTOK.out).mono ?_
      rw [HFL.out, ← HFD.out]
      rintro e w'' ⟨cs, rfl, hN, hb⟩
      exact hK _ _ hb ⟨cs, _, _, rfl, hN.r⟩
    refine ⟨fun y w' hS hF K hK => ?_, ?_⟩
    · skip -- 4: call
      obtain ⟨csa, loa, hia, e115, hra⟩ := hF.1
      have HRa := Lib.hid hra; clear hra
      obtain ⟨csb, lob, hib, e117, hrb⟩ := hF.2.1
      have HRb := Lib.hid hrb; clear hrb
      simp only [fillL, cond_true, cond_false, List.getD_cons_zero, List.getD_cons_succ, StP.is, Act.put, List.setIfInBounds_toArray, List.set_cons_zero, List.set_cons_succ, Nat.reduceAdd, e115, e117] at hK ⊢
      refine rg_yes (by kernel_rfl) ?_
      clear e115 e117
      clear hF
      go_simp
      go_at_call 17
      refine (pfDisk_yes _ _ fd _ _ _ _ _ HRa.out HRb.out).mono ?_
      rintro e w'' ⟨rfl, hb⟩
      exact hK _ _ hb rfl
    refine ⟨fun y w' hS hF K hK => ?_, ?_⟩
    · skip -- 5: move
      have e118 : y 118 = _ := hF.1
      simp only [fillL, cond_true, cond_false, List.getD_cons_zero, List.getD_cons_succ, StP.is, Act.put, List.setIfInBounds_toArray, List.set_cons_zero, List.set_cons_succ, Nat.reduceAdd, e118] at hK ⊢
      refine rg_yes (by kernel_rfl) ?_
      clear e118
      clear hF
      go_simp
      exact hK _ _ (Ext.refl _) rfl
    refine ⟨fun y w' hS hF K hK => ?_, ?_⟩
    · skip -- 6: load
      have e119 : y 119 = _ := hF.1
      simp only [fillL, cond_true, cond_false, List.getD_cons_zero, List.getD_cons_succ, StP.is, Act.put, List.setIfInBounds_toArray, List.set_cons_zero, List.set_cons_succ, Nat.reduceAdd, e119] at hK ⊢
      refine rg_yes (by kernel_rfl) ?_
      have qx0_ := (Below.cell hS ql).trans q0
      have qx1_ := (Below.cell hS ql).trans q1
      have qx2_ := (Below.cell hS ql).trans q2
      have qx3_ := (Below.cell hS rl).trans r0
      have qx4_ := (Below.cell hS rl).trans r1
      have qx5_ := (Below.cell hS rl).trans r2
      clear e119
      clear hF
      go_simp
      exact hK _ _ (Ext.refl _) rfl
    refine ⟨fun y w' hS hF K hK => ?_, ?_⟩
    · skip -- 7: call
      have e119 : y 119 = _ := hF.1
      have e120 : y 120 = _ := hF.2.1
      simp only [fillL, cond_true, cond_false, List.getD_cons_zero, List.getD_cons_succ, StP.is, Act.put, List.setIfInBounds_toArray, List.set_cons_zero, List.set_cons_succ, Nat.reduceAdd, e119, e120] at hK ⊢
      refine rg_yes (by kernel_rfl) ?_
      clear e119 e120
      clear hF
      go_simp
      go_at_call 28
      refine (crashNone_any _ z _ _ _ (DiskR.below hS KD4.out.hi_le _ _ KD4.out) HZOK.out).mono ?_
      rw [← HKD.out]
      rintro e w'' ⟨cs, rfl, hN, hb⟩
      exact hK _ _ hb ⟨cs, _, _, rfl, hN.r⟩
    refine ⟨fun y w' hS hF K hK => ?_, ?_⟩
    · skip -- 8: load
      have e119 : y 119 = _ := hF.1
      simp only [fillL, cond_true, cond_false, List.getD_cons_zero, List.getD_cons_succ, StP.is, Act.put, List.setIfInBounds_toArray, List.set_cons_zero, List.set_cons_succ, Nat.reduceAdd, e119] at hK ⊢
      refine rg_yes (by kernel_rfl) ?_
      have qx0_ := (Below.cell hS ql).trans q0
      have qx1_ := (Below.cell hS ql).trans q1
      have qx2_ := (Below.cell hS ql).trans q2
      have qx3_ := (Below.cell hS rl).trans r0
      have qx4_ := (Below.cell hS rl).trans r1
      have qx5_ := (Below.cell hS rl).trans r2
      clear e119
      clear hF
      go_simp
      exact hK _ _ (Ext.refl _) rfl
    refine ⟨fun y w' hS hF K hK => ?_, ?_⟩
    · skip -- 9: call
      have e119 : y 119 = _ := hF.1
      have e122 : y 122 = _ := hF.2.1
      simp only [fillL, cond_true, cond_false, List.getD_cons_zero, List.getD_cons_succ, StP.is, Act.put, List.setIfInBounds_toArray, List.set_cons_zero, List.set_cons_succ, Nat.reduceAdd, e119, e122] at hK ⊢
      refine rg_yes (by kernel_rfl) ?_
      clear e119 e122
      clear hF
      go_simp
      go_at_call 28
      refine (crashNone_any _ t _ _ _ (DiskR.below hS KD6.out.hi_le _ _ KD6.out) HTOK.out).mono ?_
      rw [HKP.out, ← HKD.out]
      rintro e w'' ⟨cs, rfl, hN, hb⟩
      exact hK _ _ hb ⟨cs, _, _, rfl, hN.r⟩
    refine ⟨fun y w' hS hF K hK => ?_, ?_⟩
    · skip -- 10: call
      have e119 : y 119 = _ := hF.1
      obtain ⟨csc, loc, hic, e121, hrc⟩ := hF.2.1
      have HRc := Lib.hid hrc; clear hrc
      obtain ⟨csd, lod, hid, e123, hrd⟩ := hF.2.2.1
      have HRd := Lib.hid hrd; clear hrd
      simp only [fillL, cond_true, cond_false, List.getD_cons_zero, List.getD_cons_succ, StP.is, Act.put, List.setIfInBounds_toArray, List.set_cons_zero, List.set_cons_succ, Nat.reduceAdd, e119, e121, e123] at hK ⊢
      refine rg_yes (by kernel_rfl) ?_
      clear e119 e121 e123
      clear hF
      go_simp
      go_at_call 17
      refine (pfDisk_yes _ _ kd _ _ _ _ _ HRc.out HRd.out).mono ?_
      rintro e w'' ⟨rfl, hb⟩
      exact hK _ _ hb rfl
    refine ⟨fun y w' hS hF K hK => ?_, ?_⟩
    · skip -- 11: pick
      have e119 : y 119 = _ := hF.1
      have e124 : y 124 = _ := hF.2.1
      simp only [fillL, cond_true, cond_false, List.getD_cons_zero, List.getD_cons_succ, StP.is, Act.put, List.setIfInBounds_toArray, List.set_cons_zero, List.set_cons_succ, Nat.reduceAdd, e119, e124] at hK ⊢
      refine rg_yes (by kernel_rfl) ?_
      clear e119 e124
      clear hF
      go_simp
      exact hK _ _ (Ext.refl _) rfl
    refine ⟨fun y w' hS hF K hK => ?_, ?_⟩
    · skip -- 12: assign
      have e125 : y 125 = _ := hF.1
      simp only [fillL, cond_true, cond_false, List.getD_cons_zero, List.getD_cons_succ, StP.is, Act.put, List.setIfInBounds_toArray, List.set_cons_zero, List.set_cons_succ, Nat.reduceAdd, e125] at hK ⊢
      refine rg_yes (by kernel_rfl) ?_
      clear e125
      clear hF
      go_simp
      exact hK _ _ (Ext.refl _) rfl
    trivial
  case hend =>
    intro y w9 hX hF
    have e4 : y 4 = _ := hF.2.2.2.2.2.2.2.2.2.2.2.2.1
    clear hF
    simp only [fillL, cond_true, cond_false, Nat.reduceAdd, e4]
    clear e4
    go_wp2_with fail
    go_ret
    exact ⟨rfl, HB.out.trans (hX.mono HB.out.size)⟩
end Go.Proofs.Ytgipchipcoaajaa
