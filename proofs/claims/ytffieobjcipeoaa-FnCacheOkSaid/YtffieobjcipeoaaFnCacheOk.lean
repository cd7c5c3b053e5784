/- FnCacheOk: the walk. No condition. -/
import Derived.Test.YtffieobjcipeoaaFnCacheHas
import Derived.Test.YtffieobjcipeoaaCacheClone
import Derived.Test.YtffieobjcipeoaaPfCache
namespace Go.Proofs.Ytffieobjcipeoaa
set_option linter.unnecessarySimpa false
open Go.RowKit
set_option linter.unusedVariables false
set_option linter.unusedSimpArgs false

def DrawnCO (w : World) (e : Ending) (w' : World) : Prop :=
  ∃ (cs : List Value) (x : CacheD), e = .returned (.agg cs.toArray) ∧ CacheR w' w.heap.size w'.heap.size cs x ∧ sizeCache x ≤ 1000 ∧ Below w.heap.size w w'
set_option maxRecDepth 100000 in
set_option maxHeartbeats 2000000 in
theorem drawCacheOk_any (A : Option Addr) (n c : Nat) (zs : List Int) (w : World) (h : BytesIn w A n c zs) : Calls Try.prog 29 #[.slice A n c] w (DrawnCO w) := by
  go_enter Try.func29, Try.ntmps29
  go_wp2_with fail
  refine (l6Open_any A n c zs _ (bytes_laterC h bel1)).mono ?_
  rintro e w1 ⟨m', c', ys, rfl, hr, hb1⟩
  have s1 := hb1.size
  have hp1 := hr.2.2.2.1
  have hq1 : w1.heap[w.heap.size]? = some (.cells #[.int .i64 0, .int .i64 0, .slice none 0 0, .slice none 0 0, .slice none 0 0, .slice none 0 0] 57 (0, 0)) := (hb1.block _ (by simp)).trans (heap_alloc_new _ _)
  simp at s1 hr hp1
  have hb2 : Below w.heap.size w w1 := ((Below.refl _ _).alloc (Nat.le_refl _) _).trans (hb1.mono (by simp))
  clear hb1
  go_wp2_with fail
  refine (l93Cache_any w1 _ A m' c' ys 0 hr (by omega)).mono ?_
  rintro e w3 ⟨cs, x, k2, rfl, hD, hl, hk2, hr2, hc2⟩
  have hq3 := (hc2.block w.heap.size (by omega) (by simp)).trans hq1
  have hb4 : Below w.heap.size w w3 := hb2.trans (hc2.below (fun k _ hk => by simp at hk; omega) hb2.size)
  have z2 := hc2.size
  clear hb2 hr hq1 hc2
  obtain ⟨ro, go, x0, x1, x2, x3⟩ := x
  obtain ⟨A0, n0, c0, A1, n1, c1, A2, n2, c2, A3, n3, c3, rfl, h0, h1, h2, h3⟩ := hD
  have uc0 := cell_of_row _ _ 0 _ _ (0, 0) hq3; have uf0 := block_free hq3 0
  have uc1 := cell_of_row _ _ 1 _ _ (0, 0) hq3; have uf1 := block_free hq3 1
  have uc2 := cell_of_row _ _ 2 _ _ (0, 0) hq3; have uf2 := block_free hq3 2
  have uc3 := cell_of_row _ _ 3 _ _ (0, 0) hq3; have uf3 := block_free hq3 3
  have uc4 := cell_of_row _ _ 4 _ _ (0, 0) hq3; have uf4 := block_free hq3 4
  have uc5 := cell_of_row _ _ 5 _ _ (0, 0) hq3; have uf5 := block_free hq3 5
  have ul := (Array.getElem?_eq_some_iff.1 hq3).1
  obtain ⟨wF, hwF⟩ : ∃ W, W = (World.setCell (World.setCell (World.setCell (World.setCell (World.setCell (World.setCell w3 ⟨w.heap.size, 0, none⟩ (.int .i64 ro)) ⟨w.heap.size, 1, none⟩ (.int .i64 go)) ⟨w.heap.size, 2, none⟩ (.slice A0 n0 c0)) ⟨w.heap.size, 3, none⟩ (.slice A1 n1 c1)) ⟨w.heap.size, 4, none⟩ (.slice A2 n2 c2)) ⟨w.heap.size, 5, none⟩ (.slice A3 n3 c3)) := ⟨_, rfl⟩
  have RSF : wF.heap[w.heap.size]? = some (.cells #[.int .i64 ro, .int .i64 go, .slice A0 n0 c0, .slice A1 n1 c1, .slice A2 n2 c2, .slice A3 n3 c3] 57 (0, 0)) := by rw [hwF]; exact (block_set (o := 5) (v := .slice A3 n3 c3) (block_set (o := 4) (v := .slice A2 n2 c2) (block_set (o := 3) (v := .slice A1 n1 c1) (block_set (o := 2) (v := .slice A0 n0 c0) (block_set (o := 1) (v := .int .i64 go) (block_set (o := 0) (v := .int .i64 ro) hq3))))))
  have r0 := cell_of_row _ _ 0 _ _ (0, 0) RSF; have r1 := cell_of_row _ _ 1 _ _ (0, 0) RSF; have r2 := cell_of_row _ _ 2 _ _ (0, 0) RSF; have r3 := cell_of_row _ _ 3 _ _ (0, 0) RSF; have r4 := cell_of_row _ _ 4 _ _ (0, 0) RSF; have r5 := cell_of_row _ _ 5 _ _ (0, 0) RSF
  have hD : CacheR w3 w1.heap.size w3.heap.size [.int .i64 ro, .int .i64 go, .slice A0 n0 c0, .slice A1 n1 c1, .slice A2 n2 c2, .slice A3 n3 c3] (ro, go, x0, x1, x2, x3) := ⟨_, _, _, _, _, _, _, _, _, _, _, _, rfl, h0, h1, h2, h3⟩
  have HP : Hid (DrawnCO w (.returned (.agg #[.int .i64 ro, .int .i64 go, .slice A0 n0 c0, .slice A1 n1 c1, .slice A2 n2 c2, .slice A3 n3 c3])) wF) := Lib.hid (by
    rw [hwF]
    exact ⟨_, (ro, go, x0, x1, x2, x3), rfl, CacheR.wide (lo := w1.heap.size) (hi := w3.heap.size) (by omega) (by simp [World.setCell]) (Nat.le_refl _) _ _ (CacheR.keep (fun b b1 b2 => (heap_far (by simp; omega)).trans ((heap_far (by simp; omega)).trans ((heap_far (by simp; omega)).trans ((heap_far (by simp; omega)).trans ((heap_far (by simp; omega)).trans ((heap_far (by simp; omega)).trans (rfl))))))) (by simp [World.setCell]) _ _ hD), hl, (Below.setCell (p := ⟨w.heap.size, 5, none⟩) (Below.setCell (p := ⟨w.heap.size, 4, none⟩) (Below.setCell (p := ⟨w.heap.size, 3, none⟩) (Below.setCell (p := ⟨w.heap.size, 2, none⟩) (Below.setCell (p := ⟨w.heap.size, 1, none⟩) (Below.setCell (p := ⟨w.heap.size, 0, none⟩) hb4 (Nat.le_refl _) _) (Nat.le_refl _) _) (Nat.le_refl _) _) (Nat.le_refl _) _) (Nat.le_refl _) _) (Nat.le_refl _) _)⟩)
  have HWF := Lib.hid hwF
  clear hwF RSF hD h0 h1 h2 h3 hq3 hr2
  go_wp2_with fail
  rw [← HWF.out]
  exact bodyPost_ret (v := .agg #[.int .i64 ro, .int .i64 go, .slice A0 n0 c0, .slice A1 n1 c1, .slice A2 n2 c2, .slice A3 n3 c3]) (by simp [results, Try.results29, go_sem, r0, r1, r2, r3, r4, r5]) rfl HP.out
def Played (x : CacheD) (w : World) (e : Ending) (w' : World) : Prop :=
  ((cacheOkB x = false ∧ e = .returned (.tuple #[.agg #[.int .i64 0, .int .i64 0, .slice none 0 0, .slice none 0 0, .slice none 0 0, .slice none 0 0], .int .i64 (-1)])) ∨ (cacheOkB x = true ∧ ∃ cs, e = .returned (.tuple #[.agg (List.toArray cs), .int .i64 0]) ∧ CacheR w' 0 w'.heap.size cs x)) ∧ Below w.heap.size w w'
set_option maxRecDepth 100000 in
set_option maxHeartbeats 4000000 in
theorem cachePlay_none (cs : List Value) (x : CacheD) (R : Option Addr) (d : Nat) (w : World) (lo hi : Nat) (h : CacheR w lo hi cs x) (hsz : sizeCache x ≤ 1000) :
    Calls Try.prog 31 #[.agg cs.toArray, .slice R 0 d] w (Played x w) := by
  have hO := cacheOk_any cs x
  obtain ⟨ro, go, x0, x1, x2, x3⟩ := x
  have HX := Lib.hid h
  obtain ⟨A0, n0, c0, A1, n1, c1, A2, n2, c2, A3, n3, c3, rfl, h0, h1, h2, h3⟩ := h
  have hh := h0.lo_le
  have l0 : x0.length = n0 := h0.len; have l1 : x1.length = n1 := h1.len; have l2 : x2.length = n2 := h2.len; have l3 : x3.length = n3 := h3.len
  have hs : x0.length + x1.length + x2.length + x3.length ≤ 1000 := hsz
  have I0 := Lib.hid h0; have I1 := Lib.hid h1; have I2 := Lib.hid h2; have I3 := Lib.hid h3
  clear h0 h1 h2 h3
  go_enter Try.func31, Try.ntmps31
  go_wp2_with fail
  refine (hO _ lo hi (CacheR.below bel2 hh _ _ HX.out) (by omega)).mono ?_
  rintro e w2 ⟨rfl, hb2⟩
  have hb2' : Below w.heap.size w w2 := bel2.trans (hb2.mono (by simp; omega))
  have hqx : w2.heap[w.heap.size]? = some (.cells #[.int .i64 ro, .int .i64 go, .slice A0 n0 c0, .slice A1 n1 c1, .slice A2 n2 c2, .slice A3 n3 c3] 57 (0, 0)) := (hb2.block _ (by simp; omega)).trans ((Below.heap_alloc _ _ _ (by simp)).trans (heap_alloc_new _ _))
  have hqr : w2.heap[w.heap.size + 1]? = some (.cells #[.int .i64 0, .int .i64 0, .slice none 0 0, .slice none 0 0, .slice none 0 0, .slice none 0 0] 57 (0, 0)) := (hb2.block _ (by simp)).trans (by have := heap_alloc_new (w.alloc (.cells #[.int .i64 ro, .int .i64 go, .slice A0 n0 c0, .slice A1 n1 c1, .slice A2 n2 c2, .slice A3 n3 c3] 57)) (.cells #[.int .i64 0, .int .i64 0, .slice none 0 0, .slice none 0 0, .slice none 0 0, .slice none 0 0] 57); simpa using this)
  clear hb2
  generalize hB : cacheOkB (ro, go, x0, x1, x2, x3) = B
  have HB := Lib.hid hB
  clear hB hO
  have uc0 := cell_of_row _ _ 0 _ _ (0, 0) hqx; have uf0 := block_free hqx 0
  have uc1 := cell_of_row _ _ 1 _ _ (0, 0) hqx; have uf1 := block_free hqx 1
  have uc2 := cell_of_row _ _ 2 _ _ (0, 0) hqx; have uf2 := block_free hqx 2
  have uc3 := cell_of_row _ _ 3 _ _ (0, 0) hqx; have uf3 := block_free hqx 3
  have uc4 := cell_of_row _ _ 4 _ _ (0, 0) hqx; have uf4 := block_free hqx 4
  have uc5 := cell_of_row _ _ 5 _ _ (0, 0) hqx; have uf5 := block_free hqx 5
  have ul := (Array.getElem?_eq_some_iff.1 hqx).1
  have vc0 := cell_of_row _ _ 0 _ _ (0, 0) hqr; have vf0 := block_free hqr 0
  have vc1 := cell_of_row _ _ 1 _ _ (0, 0) hqr; have vf1 := block_free hqr 1
  have vc2 := cell_of_row _ _ 2 _ _ (0, 0) hqr; have vf2 := block_free hqr 2
  have vc3 := cell_of_row _ _ 3 _ _ (0, 0) hqr; have vf3 := block_free hqr 3
  have vc4 := cell_of_row _ _ 4 _ _ (0, 0) hqr; have vf4 := block_free hqr 4
  have vc5 := cell_of_row _ _ 5 _ _ (0, 0) hqr; have vf5 := block_free hqr 5
  have vl := (Array.getElem?_eq_some_iff.1 hqr).1
  cases B
  · obtain ⟨wF, hwF⟩ : ∃ W, W = (World.setCell (World.setCell (World.setCell (World.setCell (World.setCell (World.setCell w2 ⟨w.heap.size + 1, 0, none⟩ (.int .i64 0)) ⟨w.heap.size + 1, 1, none⟩ (.int .i64 0)) ⟨w.heap.size + 1, 2, none⟩ (.slice none 0 0)) ⟨w.heap.size + 1, 3, none⟩ (.slice none 0 0)) ⟨w.heap.size + 1, 4, none⟩ (.slice none 0 0)) ⟨w.heap.size + 1, 5, none⟩ (.slice none 0 0)) := ⟨_, rfl⟩
    have RSF : wF.heap[w.heap.size + 1]? = some (.cells #[.int .i64 0, .int .i64 0, .slice none 0 0, .slice none 0 0, .slice none 0 0, .slice none 0 0] 57 (0, 0)) := by rw [hwF]; exact (block_set (o := 5) (v := .slice none 0 0) (block_set (o := 4) (v := .slice none 0 0) (block_set (o := 3) (v := .slice none 0 0) (block_set (o := 2) (v := .slice none 0 0) (block_set (o := 1) (v := .int .i64 0) (block_set (o := 0) (v := .int .i64 0) hqr))))))
    have r0 := cell_of_row _ _ 0 _ _ (0, 0) RSF; have r1 := cell_of_row _ _ 1 _ _ (0, 0) RSF; have r2 := cell_of_row _ _ 2 _ _ (0, 0) RSF; have r3 := cell_of_row _ _ 3 _ _ (0, 0) RSF; have r4 := cell_of_row _ _ 4 _ _ (0, 0) RSF; have r5 := cell_of_row _ _ 5 _ _ (0, 0) RSF
    have HP : Hid (Played (ro, go, x0, x1, x2, x3) w (.returned (.tuple #[.agg #[.int .i64 0, .int .i64 0, .slice none 0 0, .slice none 0 0, .slice none 0 0, .slice none 0 0], .int .i64 (-1)])) wF) := Lib.hid ⟨.inl ⟨HB.out, rfl⟩, by rw [hwF]; exact (Below.setCell (p := ⟨w.heap.size + 1, 5, none⟩) (Below.setCell (p := ⟨w.heap.size + 1, 4, none⟩) (Below.setCell (p := ⟨w.heap.size + 1, 3, none⟩) (Below.setCell (p := ⟨w.heap.size + 1, 2, none⟩) (Below.setCell (p := ⟨w.heap.size + 1, 1, none⟩) (Below.setCell (p := ⟨w.heap.size + 1, 0, none⟩) hb2' (Nat.le_succ _) _) (Nat.le_succ _) _) (Nat.le_succ _) _) (Nat.le_succ _) _) (Nat.le_succ _) _) (Nat.le_succ _) _)⟩
    have HWF := Lib.hid hwF
    clear hwF RSF
    go_wp2_with fail
    rw [← HWF.out]
    exact bodyPost_ret (v := .tuple #[.agg #[.int .i64 0, .int .i64 0, .slice none 0 0, .slice none 0 0, .slice none 0 0, .slice none 0 0], .int .i64 (-1)]) (by simp [results, Try.results31, go_sem, r0, r1, r2, r3, r4, r5]) rfl HP.out
  · go_wp2_with fail
    refine (cloneC_any [w.heap.size + 1] ro go A0 n0 c0 x0 A1 n1 c1 x1 A2 n2 c2 x2 A3 n3 c3 x3 _ ?_ ?_ ?_ ?_ ?_ (by omega) (by omega) (by omega) (by omega)).mono ?_
    · intro k hk; simp at hk; omega
    · exact AL.chg (cs := []) ⟨lo, hi, fun k hk => by simp at hk; omega, I0.out⟩ (Chg.of_below hb2' _)
    · exact AL.chg (cs := []) ⟨lo, hi, fun k hk => by simp at hk; omega, I1.out⟩ (Chg.of_below hb2' _)
    · exact AL.chg (cs := []) ⟨lo, hi, fun k hk => by simp at hk; omega, I2.out⟩ (Chg.of_below hb2' _)
    · exact AL.chg (cs := []) ⟨lo, hi, fun k hk => by simp at hk; omega, I3.out⟩ (Chg.of_below hb2' _)
    rintro e w3 ⟨C0, m0, e0, C1, m1, e1, C2, m2, e2, C3, m3, e3, rfl, a0, a1, a2, a3, hb3⟩
    have hqr3 := (hb3.block _ vl).trans hqr
    have hb3' : Below w.heap.size w w3 := hb2'.trans (hb3.mono hb2'.size)
    have lr3 := (Array.getElem?_eq_some_iff.1 hqr3).1
    obtain ⟨w4, hw4⟩ : ∃ W, W = w3.alloc (.cells #[.int .i64 ro, .int .i64 go, .slice C0 m0 e0, .slice C1 m1 e1, .slice C2 m2 e2, .slice C3 m3 e3] 57) := ⟨_, rfl⟩
    have hb4 : Below w3.heap.size w3 w4 := by rw [hw4]; exact bel1
    have hb4' : Below w.heap.size w w4 := hb3'.trans (hb4.mono hb3'.size)
    have hq4 : w4.heap[w3.heap.size]? = some (.cells #[.int .i64 ro, .int .i64 go, .slice C0 m0 e0, .slice C1 m1 e1, .slice C2 m2 e2, .slice C3 m3 e3] 57 (0, 0)) := by rw [hw4]; exact heap_alloc_new _ _
    have hqr4 := (hb4.block _ lr3).trans hqr3
    have G0 := Lib.hid (a0.chg (cs := []) (Chg.of_below hb4 _)); have G1 := Lib.hid (a1.chg (cs := []) (Chg.of_below hb4 _)); have G2 := Lib.hid (a2.chg (cs := []) (Chg.of_below hb4 _)); have G3 := Lib.hid (a3.chg (cs := []) (Chg.of_below hb4 _))
    have HW4 := Lib.hid hw4
    clear uc0 uf0 vc0 vf0 uc1 uf1 vc1 vf1 uc2 uf2 vc2 vf2 uc3 uf3 vc3 vf3 uc4 uf4 vc4 vf4 uc5 uf5 vc5 vf5 ul vl hqx hqr hqr3 hb3 hb4 a0 a1 a2 a3 hw4 hb2' hb3' I0 I1 I2 I3 HX
    go_wp2_with fail
    rw [← HW4.out]
    have sc0 := cell_of_row _ _ 0 _ _ (0, 0) hq4; have sf0 := block_free hq4 0
    have sc1 := cell_of_row _ _ 1 _ _ (0, 0) hq4; have sf1 := block_free hq4 1
    have sc2 := cell_of_row _ _ 2 _ _ (0, 0) hq4; have sf2 := block_free hq4 2
    have sc3 := cell_of_row _ _ 3 _ _ (0, 0) hq4; have sf3 := block_free hq4 3
    have sc4 := cell_of_row _ _ 4 _ _ (0, 0) hq4; have sf4 := block_free hq4 4
    have sc5 := cell_of_row _ _ 5 _ _ (0, 0) hq4; have sf5 := block_free hq4 5
    have sl := (Array.getElem?_eq_some_iff.1 hq4).1
    have tc0 := cell_of_row _ _ 0 _ _ (0, 0) hqr4; have tf0 := block_free hqr4 0
    have tc1 := cell_of_row _ _ 1 _ _ (0, 0) hqr4; have tf1 := block_free hqr4 1
    have tc2 := cell_of_row _ _ 2 _ _ (0, 0) hqr4; have tf2 := block_free hqr4 2
    have tc3 := cell_of_row _ _ 3 _ _ (0, 0) hqr4; have tf3 := block_free hqr4 3
    have tc4 := cell_of_row _ _ 4 _ _ (0, 0) hqr4; have tf4 := block_free hqr4 4
    have tc5 := cell_of_row _ _ 5 _ _ (0, 0) hqr4; have tf5 := block_free hqr4 5
    have tl := (Array.getElem?_eq_some_iff.1 hqr4).1
    go_loopw [7, 18] (fun t i wr => t = .int .i64 0 ∧ i = .int .i64 0 ∧ SameW wr w4) (fun _ _ _ => 0)
    case atStart => exact ⟨rfl, rfl, SameW.refl _⟩
    case round =>
      obtain ⟨rfl, rfl, HW⟩ := hrel
      obtain rfl := HW.out
      clear HW
      obtain ⟨wF, hwF⟩ : ∃ W, W = (World.setCell (World.setCell (World.setCell (World.setCell (World.setCell (World.setCell wr ⟨w.heap.size + 1, 0, none⟩ (.int .i64 ro)) ⟨w.heap.size + 1, 1, none⟩ (.int .i64 go)) ⟨w.heap.size + 1, 2, none⟩ (.slice C0 m0 e0)) ⟨w.heap.size + 1, 3, none⟩ (.slice C1 m1 e1)) ⟨w.heap.size + 1, 4, none⟩ (.slice C2 m2 e2)) ⟨w.heap.size + 1, 5, none⟩ (.slice C3 m3 e3)) := ⟨_, rfl⟩
      have RSF : wF.heap[w.heap.size + 1]? = some (.cells #[.int .i64 ro, .int .i64 go, .slice C0 m0 e0, .slice C1 m1 e1, .slice C2 m2 e2, .slice C3 m3 e3] 57 (0, 0)) := by rw [hwF]; exact (block_set (o := 5) (v := .slice C3 m3 e3) (block_set (o := 4) (v := .slice C2 m2 e2) (block_set (o := 3) (v := .slice C1 m1 e1) (block_set (o := 2) (v := .slice C0 m0 e0) (block_set (o := 1) (v := .int .i64 go) (block_set (o := 0) (v := .int .i64 ro) hqr4))))))
      have r0 := cell_of_row _ _ 0 _ _ (0, 0) RSF; have r1 := cell_of_row _ _ 1 _ _ (0, 0) RSF; have r2 := cell_of_row _ _ 2 _ _ (0, 0) RSF; have r3 := cell_of_row _ _ 3 _ _ (0, 0) RSF; have r4 := cell_of_row _ _ 4 _ _ (0, 0) RSF; have r5 := cell_of_row _ _ 5 _ _ (0, 0) RSF
      have CF : Chg (· ∈ [w.heap.size + 1]) wr wF := by rw [hwF]; exact (Chg.setCell (p := ⟨w.heap.size + 1, 5, none⟩) (Chg.setCell (p := ⟨w.heap.size + 1, 4, none⟩) (Chg.setCell (p := ⟨w.heap.size + 1, 3, none⟩) (Chg.setCell (p := ⟨w.heap.size + 1, 2, none⟩) (Chg.setCell (p := ⟨w.heap.size + 1, 1, none⟩) (Chg.setCell (p := ⟨w.heap.size + 1, 0, none⟩) (Chg.refl _ _) (.inl (by simp)) _) (.inl (by simp)) _) (.inl (by simp)) _) (.inl (by simp)) _) (.inl (by simp)) _) (.inl (by simp)) _)
      have HP : Hid (Played (ro, go, x0, x1, x2, x3) w (.returned (.tuple #[.agg #[.int .i64 ro, .int .i64 go, .slice C0 m0 e0, .slice C1 m1 e1, .slice C2 m2 e2, .slice C3 m3 e3], .int .i64 0])) wF) := Lib.hid ⟨.inr ⟨HB.out, _, rfl, ⟨_, _, _, _, _, _, _, _, _, _, _, _, rfl, (G0.out.chg CF).il, (G1.out.chg CF).il, (G2.out.chg CF).il, (G3.out.chg CF).il⟩⟩, by rw [hwF]; exact (Below.setCell (p := ⟨w.heap.size + 1, 5, none⟩) (Below.setCell (p := ⟨w.heap.size + 1, 4, none⟩) (Below.setCell (p := ⟨w.heap.size + 1, 3, none⟩) (Below.setCell (p := ⟨w.heap.size + 1, 2, none⟩) (Below.setCell (p := ⟨w.heap.size + 1, 1, none⟩) (Below.setCell (p := ⟨w.heap.size + 1, 0, none⟩) hb4' (Nat.le_succ _) _) (Nat.le_succ _) _) (Nat.le_succ _) _) (Nat.le_succ _) _) (Nat.le_succ _) _) (Nat.le_succ _) _)⟩
      have HWF := Lib.hid hwF
      clear hwF RSF CF
      go_wp2_with fail
      rw [← HWF.out]
      exact bodyPost_ret (v := .tuple #[.agg #[.int .i64 ro, .int .i64 go, .slice C0 m0 e0, .slice C1 m1 e1, .slice C2 m2 e2, .slice C3 m3 e3], .int .i64 0]) (by simp [results, Try.results31, go_sem, r0, r1, r2, r3, r4, r5]) rfl HP.out
set_option maxRecDepth 100000 in
set_option maxHeartbeats 4000000 in
theorem fnCacheOk_walk (A : Option Addr) (n c : Nat) (zs : List Int) (w : World) (hz : BytesIn w A n c zs) :
    Calls Try.prog 7 #[.slice A n c] w fun e w' => e = .returned (.bool true) ∧ Below w.heap.size w w' := by
  by_cases hn : n ≤ 1048576
  · go_enter Try.func7, Try.ntmps7
    go_wp2_with fail
    refine (drawCacheOk_any A n c zs _ hz).mono ?_
    rintro e w1 ⟨cs, x, rfl, hx, hl, hb1⟩
    have HX1 := Lib.hid hx
    obtain ⟨ro, go, x0, x1, x2, x3⟩ := x
    obtain ⟨A0, n0, c0, A1, n1, c1, A2, n2, c2, A3, n3, c3, rfl, h0, h1, h2, h3⟩ := hx
    clear h0 h1 h2 h3
    have z1 := hb1.size
    go_wp2_with fail
    refine (cacheOk_any _ (ro, go, x0, x1, x2, x3) _ w.heap.size w1.heap.size (CacheR.below bel1 (Nat.le_refl _) _ _ HX1.out) (by omega)).mono ?_
    rintro e w2 ⟨rfl, hb2⟩
    have hq2 : w2.heap[w1.heap.size]? = some (.cells #[.int .i64 ro, .int .i64 go, .slice A0 n0 c0, .slice A1 n1 c1, .slice A2 n2 c2, .slice A3 n3 c3] 57 (0, 0)) := (hb2.block _ (by simp)).trans (heap_alloc_new _ _)
    have hB2 : Below w.heap.size w w2 := (hb1.alloc z1 _).trans (hb2.mono (by simp; omega))
    have HX2 := Lib.hid (CacheR.below hb2 (by simp) _ _ (CacheR.below bel1 (Nat.le_refl _) _ _ HX1.out))
    have z2 : w1.heap.size < w2.heap.size := (Array.getElem?_eq_some_iff.1 hq2).1
    have uc0 := cell_of_row _ _ 0 _ _ (0, 0) hq2; have uf0 := block_free hq2 0
    have uc1 := cell_of_row _ _ 1 _ _ (0, 0) hq2; have uf1 := block_free hq2 1
    have uc2 := cell_of_row _ _ 2 _ _ (0, 0) hq2; have uf2 := block_free hq2 2
    have uc3 := cell_of_row _ _ 3 _ _ (0, 0) hq2; have uf3 := block_free hq2 3
    have uc4 := cell_of_row _ _ 4 _ _ (0, 0) hq2; have uf4 := block_free hq2 4
    have uc5 := cell_of_row _ _ 5 _ _ (0, 0) hq2; have uf5 := block_free hq2 5
    have ul := (Array.getElem?_eq_some_iff.1 hq2).1
    clear hb2 HX1 hb1
    go_wp2_with fail
    refine (spCacheOk_any _ (ro, go, x0, x1, x2, x3) _ w.heap.size w1.heap.size HX2.out (by omega)).mono ?_
    rintro e w3 ⟨rfl, hb3⟩
    have hq3 := (hb3.block _ z2).trans hq2
    have hB3 : Below w.heap.size w w3 := hB2.trans (hb3.mono hB2.size)
    have HX3 := Lib.hid (CacheR.below hb3 (by omega) _ _ HX2.out)
    have z3 := hb3.size
    clear uc0 uf0 uc1 uf1 uc2 uf2 uc3 uf3 uc4 uf4 uc5 uf5 ul hb3 hB2 HX2 hq2
    have vc0 := cell_of_row _ _ 0 _ _ (0, 0) hq3; have vf0 := block_free hq3 0
    have vc1 := cell_of_row _ _ 1 _ _ (0, 0) hq3; have vf1 := block_free hq3 1
    have vc2 := cell_of_row _ _ 2 _ _ (0, 0) hq3; have vf2 := block_free hq3 2
    have vc3 := cell_of_row _ _ 3 _ _ (0, 0) hq3; have vf3 := block_free hq3 3
    have vc4 := cell_of_row _ _ 4 _ _ (0, 0) hq3; have vf4 := block_free hq3 4
    have vc5 := cell_of_row _ _ 5 _ _ (0, 0) hq3; have vf5 := block_free hq3 5
    have vl := (Array.getElem?_eq_some_iff.1 hq3).1
    generalize hB : cacheOkB (ro, go, x0, x1, x2, x3) = B
    have HB := Lib.hid hB
    clear hB
    have hself : (B == B) = true := by simp
    go_wp2_with fail
    refine (cachePlay_none _ (ro, go, x0, x1, x2, x3) _ _ _ w.heap.size w1.heap.size (CacheR.below bel1 (by omega) _ _ HX3.out) hl).mono ?_
    rintro e w4 ⟨hcase, hb4⟩
    have hq4 := (hb4.block _ (by simp; omega)).trans ((Below.heap_alloc _ _ _ (by omega)).trans hq3)
    have hB4 : Below w.heap.size w w4 := (hB3.alloc hB3.size _).trans (hb4.mono (by simp; have := hB3.size; omega))
    have HX4 := Lib.hid (CacheR.below hb4 (by simp; omega) _ _ (CacheR.below bel1 (by omega) _ _ HX3.out))
    have z4 : w1.heap.size < w4.heap.size := (Array.getElem?_eq_some_iff.1 hq4).1
    clear hq3 hB3 HX3 hb4
    rcases hcase with ⟨hf, rfl⟩ | ⟨ht, cs', rfl, hR⟩
    · obtain rfl : B = false := by rw [← HB.out]; exact hf
      go_wp2_with fail
      go_ret
      exact ⟨by first | rfl | (simp [results, go_sem]), hB4.alloc (by have := hB4.size; omega) _⟩
    · obtain rfl : B = true := by rw [← HB.out]; exact ht
      have HR := Lib.hid hR
      obtain ⟨C0, m0, e0, C1, m1, e1, C2, m2, e2, C3, m3, e3, rfl, -, -, -, -⟩ := hR
      have sc0 := cell_of_row _ _ 0 _ _ (0, 0) hq4; have sf0 := block_free hq4 0
      have sc1 := cell_of_row _ _ 1 _ _ (0, 0) hq4; have sf1 := block_free hq4 1
      have sc2 := cell_of_row _ _ 2 _ _ (0, 0) hq4; have sf2 := block_free hq4 2
      have sc3 := cell_of_row _ _ 3 _ _ (0, 0) hq4; have sf3 := block_free hq4 3
      have sc4 := cell_of_row _ _ 4 _ _ (0, 0) hq4; have sf4 := block_free hq4 4
      have sc5 := cell_of_row _ _ 5 _ _ (0, 0) hq4; have sf5 := block_free hq4 5
      have sl := (Array.getElem?_eq_some_iff.1 hq4).1
      go_wp2_with fail
      refine (pfCache_yes _ _ (ro, go, x0, x1, x2, x3) _ 0 w4.heap.size w.heap.size w1.heap.size (CacheR.below bel1 (Nat.le_refl _) _ _ HR.out) (CacheR.below bel1 (by omega) _ _ HX4.out)).mono ?_
      rintro e w5 ⟨rfl, hb5⟩
      have hB5 : Below w.heap.size w w5 := (hB4.alloc hB4.size _).trans (hb5.mono (by simp; have := hB4.size; omega))
      go_wp2_with fail
      go_ret
      exact ⟨by first | rfl | (simp [results, go_sem]), hB5⟩
  · go_enter Try.func7, Try.ntmps7
    go_wp2_with fail
    go_ret
    exact ⟨rfl, Below.refl _ _⟩
end Go.Proofs.Ytffieobjcipeoaa
