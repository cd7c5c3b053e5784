/- FnCacheHas: the walk. No condition. -/
import Derived.Test.YtffieobjcipeoaaDrawCache
import Derived.Test.YtffieobjcipeoaaRow
import Derived.Test.YtffieobjcipeoaaCacheHas
namespace Go.Proofs.Ytffieobjcipeoaa
set_option linter.unnecessarySimpa false
open Go.RowKit
set_option linter.unusedVariables false
set_option linter.unusedSimpArgs false

theorem bytes_laterC {w w' : World} {A : Option Addr} {n c : Nat} {zs : List Int} (h : BytesIn w A n c zs) (hb : Below w.heap.size w w') : BytesIn w' A n c zs := by
  obtain ⟨h1, h2, h3, h4, h5⟩ := h
  refine ⟨h1, h2, h3, h4, fun hn => ?_⟩
  obtain ⟨b, off, hA, hc⟩ := h5 hn
  exact ⟨b, off, hA, fun j hj => (hb.cell (World.block_lt_of_cell? w _ (hc j hj))).trans (hc j hj)⟩
theorem same_chgC {p lo hi : Nat} {w w' : World} (h : Chg (· ∈ [p]) w w') (hp : p < lo) (hhi : hi ≤ w.heap.size) : Same lo hi w w' := fun k h1 h2 => h.block k (by omega) (by simp; omega)
def DrawnCH (w : World) (e : Ending) (w' : World) : Prop :=
  ∃ (cs : List Value) (x : CacheD) (row : Int), e = .returned (.tuple #[.agg cs.toArray, .int .i64 row]) ∧ CacheR w' w.heap.size w'.heap.size cs x ∧ sizeCache x ≤ 1000 ∧ Below w.heap.size w w'
set_option maxRecDepth 100000 in
set_option maxHeartbeats 2000000 in
theorem drawCacheHas_any (A : Option Addr) (n c : Nat) (zs : List Int) (w : World) (h : BytesIn w A n c zs) : Calls Try.prog 25 #[.slice A n c] w (DrawnCH w) := by
  go_enter Try.func25, Try.ntmps25
  go_wp2_with fail
  refine (l6Open_any A n c zs _ (bytes_laterC h bel1)).mono ?_
  rintro e w1 ⟨m', c', ys, rfl, hr, hb1⟩
  have s1 := hb1.size
  have hp1 := hr.2.2.2.1
  have hq1 : w1.heap[w.heap.size]? = some (.cells #[.int .i64 0, .int .i64 0, .slice none 0 0, .slice none 0 0, .slice none 0 0, .slice none 0 0] 57 (0, 0)) := (hb1.block _ (by simp)).trans (heap_alloc_new _ _)
  simp at s1 hr hp1
  have hb2 : Below w.heap.size w w1 := ((Below.refl _ _).alloc (Nat.le_refl _) _).trans (hb1.mono (by simp))
  clear hb1
  go_wp2_with fail
  refine (l93Cache_any w1 _ A m' c' ys 0 hr (by omega)).mono ?_
  rintro e w2 ⟨cs, x, k2, rfl, hD, hl, hk2, hr2, hc2⟩
  have hq2 := (hc2.block w.heap.size (by omega) (by simp)).trans hq1
  have hb3 : Below w.heap.size w w2 := hb2.trans (hc2.below (fun k _ hk => by simp at hk; omega) hb2.size)
  have z2 := hc2.size
  have HD2 := Lib.hid hD
  clear hb2 hr hq1 hc2 hD
  go_wp2_with fail
  refine (l91Row_any w2 _ A m' c' ys k2 hr2 (by omega)).mono ?_
  rintro e w3 ⟨row, k3, rfl, hk3, hr3, hc3⟩
  have HD3 := CacheR.keep (same_chgC hc3 (by omega) (Nat.le_refl _)) hc3.size _ _ HD2.out
  have hq3 := (hc3.block w.heap.size (by omega) (by simp)).trans hq2
  have hb4 : Below w.heap.size w w3 := hb3.trans (hc3.below (fun k _ hk => by simp at hk; omega) hb3.size)
  have z3 := hc3.size
  obtain ⟨ro, go, x0, x1, x2, x3⟩ := x
  obtain ⟨A0, n0, c0, A1, n1, c1, A2, n2, c2, A3, n3, c3, rfl, h0, h1, h2, h3⟩ := HD3
  have uc0 := cell_of_row _ _ 0 _ _ (0, 0) hq3; have uf0 := block_free hq3 0
  have uc1 := cell_of_row _ _ 1 _ _ (0, 0) hq3; have uf1 := block_free hq3 1
  have uc2 := cell_of_row _ _ 2 _ _ (0, 0) hq3; have uf2 := block_free hq3 2
  have uc3 := cell_of_row _ _ 3 _ _ (0, 0) hq3; have uf3 := block_free hq3 3
  have uc4 := cell_of_row _ _ 4 _ _ (0, 0) hq3; have uf4 := block_free hq3 4
  have uc5 := cell_of_row _ _ 5 _ _ (0, 0) hq3; have uf5 := block_free hq3 5
  have ul := (Array.getElem?_eq_some_iff.1 hq3).1
  have HQ3 := Lib.hid hq3
  obtain ⟨wF, hwF⟩ : ∃ W, W = (World.setCell (World.setCell (World.setCell (World.setCell (World.setCell (World.setCell w3 ⟨w.heap.size, 0, none⟩ (.int .i64 ro)) ⟨w.heap.size, 1, none⟩ (.int .i64 go)) ⟨w.heap.size, 2, none⟩ (.slice A0 n0 c0)) ⟨w.heap.size, 3, none⟩ (.slice A1 n1 c1)) ⟨w.heap.size, 4, none⟩ (.slice A2 n2 c2)) ⟨w.heap.size, 5, none⟩ (.slice A3 n3 c3)) := ⟨_, rfl⟩
  have RSF : wF.heap[w.heap.size]? = some (.cells #[.int .i64 ro, .int .i64 go, .slice A0 n0 c0, .slice A1 n1 c1, .slice A2 n2 c2, .slice A3 n3 c3] 57 (0, 0)) := by rw [hwF]; exact (block_set (o := 5) (v := .slice A3 n3 c3) (block_set (o := 4) (v := .slice A2 n2 c2) (block_set (o := 3) (v := .slice A1 n1 c1) (block_set (o := 2) (v := .slice A0 n0 c0) (block_set (o := 1) (v := .int .i64 go) (block_set (o := 0) (v := .int .i64 ro) hq3))))))
  have r0 := cell_of_row _ _ 0 _ _ (0, 0) RSF; have r1 := cell_of_row _ _ 1 _ _ (0, 0) RSF; have r2 := cell_of_row _ _ 2 _ _ (0, 0) RSF; have r3 := cell_of_row _ _ 3 _ _ (0, 0) RSF; have r4 := cell_of_row _ _ 4 _ _ (0, 0) RSF; have r5 := cell_of_row _ _ 5 _ _ (0, 0) RSF
  have hD : CacheR w3 w1.heap.size w2.heap.size [.int .i64 ro, .int .i64 go, .slice A0 n0 c0, .slice A1 n1 c1, .slice A2 n2 c2, .slice A3 n3 c3] (ro, go, x0, x1, x2, x3) := ⟨_, _, _, _, _, _, _, _, _, _, _, _, rfl, h0, h1, h2, h3⟩
  have HP : Hid (DrawnCH w (.returned (.tuple #[.agg #[.int .i64 ro, .int .i64 go, .slice A0 n0 c0, .slice A1 n1 c1, .slice A2 n2 c2, .slice A3 n3 c3], .int .i64 row])) wF) := Lib.hid (by
    rw [hwF]
    exact ⟨_, (ro, go, x0, x1, x2, x3), row, rfl, CacheR.wide (lo := w1.heap.size) (hi := w2.heap.size) (by omega) (by simp [World.setCell]; omega) (Nat.le_refl _) _ _ (CacheR.keep (fun b b1 b2 => (heap_far (by simp; omega)).trans ((heap_far (by simp; omega)).trans ((heap_far (by simp; omega)).trans ((heap_far (by simp; omega)).trans ((heap_far (by simp; omega)).trans ((heap_far (by simp; omega)).trans (rfl))))))) (by simp [World.setCell]) _ _ hD), hl, (Below.setCell (p := ⟨w.heap.size, 5, none⟩) (Below.setCell (p := ⟨w.heap.size, 4, none⟩) (Below.setCell (p := ⟨w.heap.size, 3, none⟩) (Below.setCell (p := ⟨w.heap.size, 2, none⟩) (Below.setCell (p := ⟨w.heap.size, 1, none⟩) (Below.setCell (p := ⟨w.heap.size, 0, none⟩) hb4 (Nat.le_refl _) _) (Nat.le_refl _) _) (Nat.le_refl _) _) (Nat.le_refl _) _) (Nat.le_refl _) _) (Nat.le_refl _) _)⟩)
  have HWF := Lib.hid hwF
  clear hwF RSF hD h0 h1 h2 h3 hq2 hq3 hc3 hr2 hr3
  go_wp2_with fail
  rw [← HWF.out]
  exact bodyPost_ret (v := .tuple #[.agg #[.int .i64 ro, .int .i64 go, .slice A0 n0 c0, .slice A1 n1 c1, .slice A2 n2 c2, .slice A3 n3 c3], .int .i64 row]) (by simp [results, Try.results25, go_sem, r0, r1, r2, r3, r4, r5]) rfl HP.out
set_option maxRecDepth 100000 in
set_option maxHeartbeats 8000000 in
theorem fnCacheHas_walk (A : Option Addr) (n c : Nat) (zs : List Int) (w : World) (hz : BytesIn w A n c zs) :
    Calls Try.prog 6 #[.slice A n c] w fun e w' => e = .returned (.bool true) ∧ Below w.heap.size w w' := by
  by_cases hn : n ≤ 1048576
  · go_enter Try.func6, Try.ntmps6
    go_wp2_with fail
    refine (drawCacheHas_any A n c zs _ hz).mono ?_
    rintro e w1 ⟨cs, x, row, rfl, hx, hl, hb1⟩
    have HX1 := Lib.hid hx
    obtain ⟨ro, go, x0, x1, x2, x3⟩ := x
    obtain ⟨A0, n0, c0, A1, n1, c1, A2, n2, c2, A3, n3, c3, rfl, h0, h1, h2, h3⟩ := hx
    clear h0 h1 h2 h3
    have z1 := hb1.size
    go_wp2_with fail
    refine (cacheHas_any _ (ro, go, x0, x1, x2, x3) row _ w.heap.size w1.heap.size (CacheR.below bel1 (Nat.le_refl _) _ _ HX1.out) (by omega)).mono ?_
    rintro e w2 ⟨rfl, hb2⟩
    have hq2 : w2.heap[w1.heap.size]? = some (.cells #[.int .i64 ro, .int .i64 go, .slice A0 n0 c0, .slice A1 n1 c1, .slice A2 n2 c2, .slice A3 n3 c3] 57 (0, 0)) := (hb2.block _ (by simp)).trans (heap_alloc_new _ _)
    have hB2 : Below w.heap.size w w2 := (hb1.alloc z1 _).trans (hb2.mono (by simp; omega))
    have HX2 := Lib.hid (CacheR.below hb2 (by simp) _ _ (CacheR.below bel1 (Nat.le_refl _) _ _ HX1.out))
    have z2 : w1.heap.size < w2.heap.size := (Array.getElem?_eq_some_iff.1 hq2).1
    have uc0 := cell_of_row _ _ 0 _ _ (0, 0) hq2; have uf0 := block_free hq2 0
    have uc1 := cell_of_row _ _ 1 _ _ (0, 0) hq2; have uf1 := block_free hq2 1
    have uc2 := cell_of_row _ _ 2 _ _ (0, 0) hq2; have uf2 := block_free hq2 2
    have uc3 := cell_of_row _ _ 3 _ _ (0, 0) hq2; have uf3 := block_free hq2 3
    have uc4 := cell_of_row _ _ 4 _ _ (0, 0) hq2; have uf4 := block_free hq2 4
    have uc5 := cell_of_row _ _ 5 _ _ (0, 0) hq2; have uf5 := block_free hq2 5
    have ul := (Array.getElem?_eq_some_iff.1 hq2).1
    generalize hB : cacheHasB (ro, go, x0, x1, x2, x3) row = B
    have HB := Lib.hid hB
    clear hb2 HX1 hb1
    go_wp2_with fail
    refine (spCacheHas_any _ (ro, go, x0, x1, x2, x3) row _ w.heap.size w1.heap.size HX2.out (by omega)).mono ?_
    rw [hB]
    clear hB
    rintro e w3 ⟨rfl, hb3⟩
    have hq3 := (hb3.block _ z2).trans hq2
    have hB3 : Hid (Below w.heap.size w w3) := Lib.hid (hB2.trans (hb3.mono hB2.size))
    have HX3 := Lib.hid (CacheR.below hb3 (by omega) _ _ HX2.out)
    have z3 := hb3.size
    clear uc0 uf0 uc1 uf1 uc2 uf2 uc3 uf3 uc4 uf4 uc5 uf5 ul
    clear hb3 hB2 HX2 hq2
    have vc0 := cell_of_row _ _ 0 _ _ (0, 0) hq3; have vf0 := block_free hq3 0
    have vc1 := cell_of_row _ _ 1 _ _ (0, 0) hq3; have vf1 := block_free hq3 1
    have vc2 := cell_of_row _ _ 2 _ _ (0, 0) hq3; have vf2 := block_free hq3 2
    have vc3 := cell_of_row _ _ 3 _ _ (0, 0) hq3; have vf3 := block_free hq3 3
    have vc4 := cell_of_row _ _ 4 _ _ (0, 0) hq3; have vf4 := block_free hq3 4
    have vc5 := cell_of_row _ _ 5 _ _ (0, 0) hq3; have vf5 := block_free hq3 5
    have vl := (Array.getElem?_eq_some_iff.1 hq3).1
    have hself : (B == B) = true := by simp
    have hsl := HX3.out
    obtain ⟨A0', n0', c0', A1', n1', c1', A2', n2', c2', A3', n3', c3', ecs, h0, h1, h2, h3⟩ := hsl
    injection ecs with e0 ecs; injection ecs with e1 ecs; injection ecs with e2 ecs; injection ecs with e3 ecs
    injection e2 with e20 e21 e22; injection e3 with e30 e31 e32
    subst e20 e21 e22 e30 e31 e32
    have L0 := Lib.hid h0.len; have L1 := Lib.hid h1.len
    have I0 := Lib.hid h0.ints; have I1 := Lib.hid h1.ints
    have S0 : n0 ≤ 1000 := by have : x0.length = n0 := h0.len; have := hl; unfold sizeCache at this; simp only at this; omega
    have S1 : n1 ≤ 1000 := by have : x1.length = n1 := h1.len; have := hl; unfold sizeCache at this; simp only at this; omega
    clear h0 h1 h2 h3 e0 e1 ecs
    go_wp2_with fail
    go_loopw [8, 9] (fun r i wr => ∃ k : Nat, k ≤ n0 ∧ i = .int .i64 (k : Int) ∧ r = .bool (hasI (x0.take k) row) ∧ SameW wr w3) (fun _ i _ => n0 - (RowKit.intOf i).toNat)
    case atStart => exact ⟨0, Nat.zero_le _, rfl, by simp [hasI], SameW.refl _⟩
    case round =>
      obtain ⟨k, hk, rfl, rfl, HW⟩ := hrel
      obtain rfl := HW.out
      clear HW
      by_cases hlt : k < n0
      · obtain ⟨b, off, rfl, hb, hc⟩ := I0.out.at_ hlt
        have q0 := hc k hlt
        have HT := Lib.hid (hasI_take (xs := x0) (k := k) (by rw [L0.out]; exact hlt) row)
        obtain ⟨x, hx⟩ : ∃ x, x = x0.getD k 0 := ⟨_, rfl⟩
        rw [← hx] at q0
        have HX := Lib.hid hx
        clear hx hc
        have k0 : (0 : Int) ≤ (k : Int) := by omega
        have k1 : (k : Int) < (n0 : Int) := by omega
        obtain ⟨b0, hb0⟩ : ∃ b, b = hasI (x0.take k) row := ⟨_, rfl⟩
        rw [← hb0]
        have HT2 : Hid (hasI (x0.take (k + 1)) row = (b0 || decide (x = row))) := Lib.hid (by rw [HT.out, ← HX.out, hb0])
        clear hb0
        cases b0
        · by_cases hxr : x = row
          · have d0 : (x == row) = true := by simp [hxr]
            have HR : Hid (hasI (x0.take (k + 1)) row = true) := Lib.hid (by rw [HT2.out]; simp [hxr])
            clear hxr
            go_wp2_with fail
            go_roundw
            case rel => exact ⟨k + 1, by omega, by go_num, congrArg Value.bool (by first | exact HR.out.symm | (simp [HR.out, d0])), SameW.refl _⟩
            case measure => simp [RowKit.intOf]; omega
          · have d0 : (x == row) = false := by simp [hxr]
            have HR : Hid (hasI (x0.take (k + 1)) row = false) := Lib.hid (by rw [HT2.out]; simp [hxr])
            clear hxr
            go_wp2_with fail
            go_roundw
            case rel => exact ⟨k + 1, by omega, by go_num, congrArg Value.bool (by first | exact HR.out.symm | (simp [HR.out, d0])), SameW.refl _⟩
            case measure => simp [RowKit.intOf]; omega
        · have HR : Hid (hasI (x0.take (k + 1)) row = true) := Lib.hid (by rw [HT2.out]; rfl)
          go_wp2_with fail
          go_roundw
          case rel => exact ⟨k + 1, by omega, by go_num, congrArg Value.bool (by first | exact HR.out.symm | (simp [HR.out])), SameW.refl _⟩
          case measure => simp [RowKit.intOf]; omega
      · obtain rfl : k = n0 := by omega
        have HTK : Hid (x0.take k = x0) := Lib.hid (List.take_of_length_le (by rw [L0.out]; exact Nat.le_refl _))
        rw [HTK.out]
        obtain ⟨a0, ha0⟩ : ∃ b, b = hasI x0 row := ⟨_, rfl⟩
        rw [← ha0]
        have HA0 := Lib.hid ha0
        clear ha0
        go_wp2_with fail
        go_loopw [8, 10] (fun r i w9 => ∃ k : Nat, k ≤ n1 ∧ i = .int .i64 (k : Int) ∧ r = .bool (a0 || hasI (x1.take k) row) ∧ SameW w9 wr) (fun _ i _ => n1 - (RowKit.intOf i).toNat)
        case atStart => exact ⟨0, Nat.zero_le _, rfl, by simp [hasI], SameW.refl _⟩
        case round =>
          clear hk hlt HTK I0 L0
          obtain ⟨k, hk, rfl, rfl, HW⟩ := hrel
          obtain rfl := HW.out
          clear HW
          by_cases hlt : k < n1
          · obtain ⟨b, off, rfl, hb, hc⟩ := I1.out.at_ hlt
            have q0 := hc k hlt
            have HT := Lib.hid (hasI_take (xs := x1) (k := k) (by rw [L1.out]; exact hlt) row)
            obtain ⟨x, hx⟩ : ∃ x, x = x1.getD k 0 := ⟨_, rfl⟩
            rw [← hx] at q0
            have HX := Lib.hid hx
            clear hx hc
            have k0 : (0 : Int) ≤ (k : Int) := by omega
            have k1 : (k : Int) < (n1 : Int) := by omega
            obtain ⟨b0, hb0⟩ : ∃ b, b = (a0 || hasI (x1.take k) row) := ⟨_, rfl⟩
            rw [← hb0]
            have HT2 : Hid ((a0 || hasI (x1.take (k + 1)) row) = (b0 || decide (x = row))) := Lib.hid (by rw [HT.out, ← HX.out, hb0]; rw [Bool.or_assoc])
            clear hb0
            cases b0
            · by_cases hxr : x = row
              · have d0 : (x == row) = true := by simp [hxr]
                have HR : Hid ((a0 || hasI (x1.take (k + 1)) row) = true) := Lib.hid (by rw [HT2.out]; simp [hxr])
                clear hxr
                go_wp2_with fail
                go_roundw
                case rel => exact ⟨k + 1, by omega, by go_num, congrArg Value.bool (by first | exact HR.out.symm | (simp [HR.out, d0])), SameW.refl _⟩
                case measure => simp [RowKit.intOf]; omega
              · have d0 : (x == row) = false := by simp [hxr]
                have HR : Hid ((a0 || hasI (x1.take (k + 1)) row) = false) := Lib.hid (by rw [HT2.out]; simp [hxr])
                clear hxr
                go_wp2_with fail
                go_roundw
                case rel => exact ⟨k + 1, by omega, by go_num, congrArg Value.bool (by first | exact HR.out.symm | (simp [HR.out, d0])), SameW.refl _⟩
                case measure => simp [RowKit.intOf]; omega
            · have HR : Hid ((a0 || hasI (x1.take (k + 1)) row) = true) := Lib.hid (by rw [HT2.out]; rfl)
              go_wp2_with fail
              go_roundw
              case rel => exact ⟨k + 1, by omega, by go_num, congrArg Value.bool (by first | exact HR.out.symm | (simp [HR.out])), SameW.refl _⟩
              case measure => simp [RowKit.intOf]; omega
          · obtain rfl : k = n1 := by omega
            have HTK : Hid (x1.take k = x1) := Lib.hid (List.take_of_length_le (by rw [L1.out]; exact Nat.le_refl _))
            rw [HTK.out]
            obtain ⟨T, hT⟩ : ∃ b, b = (a0 || hasI x1 row) := ⟨_, rfl⟩
            have HTT : Hid ((hasI x0 row || hasI x1 row) = T) := Lib.hid (by rw [hT, HA0.out])
            rw [← hT]
            clear hT
            cases T
            · have HBf : B = false := by rw [← HB.out]; unfold cacheHasB; rw [HTT.out]; simp
              subst HBf
              go_wp2_with fail
              go_ret
              exact ⟨by first | rfl | (simp [results, go_sem]), hB3.out⟩
            · have HBt : Hid (B = cacheOkB (ro, go, x0, x1, x2, x3)) := Lib.hid (by rw [← HB.out]; unfold cacheHasB; rw [HTT.out]; simp)
              go_wp2_with fail
              refine (cacheOk_any _ (ro, go, x0, x1, x2, x3) _ w.heap.size w1.heap.size HX3.out (by omega)).mono ?_
              rintro e w4 ⟨rfl, hb4⟩
              rw [← HBt.out]
              have hB4 := hB3.out.trans (hb4.mono hB3.out.size)
              go_wp2_with fail
              go_ret
              exact ⟨by first | rfl | (simp [results, go_sem]), hB4⟩
          
  · go_enter Try.func6, Try.ntmps6
    go_wp2_with fail
    go_ret
    exact ⟨rfl, Below.refl _ _⟩
end Go.Proofs.Ytffieobjcipeoaa
