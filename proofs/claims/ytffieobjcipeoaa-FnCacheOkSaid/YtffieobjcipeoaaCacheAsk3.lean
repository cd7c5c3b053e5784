/- The reference's caches, asked. No condition. -/
import Derived.Test.YtffieobjcipeoaaCacheAsk2
namespace Go.Proofs.Ytffieobjcipeoaa
set_option linter.unnecessarySimpa false
open Go.RowKit
set_option linter.unusedVariables false
set_option linter.unusedSimpArgs false
/-- How long a cache's lists may be. -/
def InvC (ro : Int) (n0 n1 n2 n3 : Nat) : Prop := (n0 : Int) + n1 ≤ ro ∧ (n0 : Int) + n2 ≤ ro ∧ (n0 : Int) + n1 + n2 + n3 ≤ 2 * ro
def AskP (bs : List Nat) (ro : Int) (w : World) (e : Ending) (w' : World) : Prop :=
  ∃ (go : Int) (C0 : Option Addr) (m0 e0 : Nat) (y0 : List Int) (C1 : Option Addr) (m1 e1 : Nat) (y1 : List Int) (C2 : Option Addr) (m2 e2 : Nat) (y2 : List Int) (C3 : Option Addr) (m3 e3 : Nat) (y3 : List Int) (b : Bool),
    e = .returned (.tuple #[.agg #[.int .i64 ro, .int .i64 go, .slice C0 m0 e0, .slice C1 m1 e1, .slice C2 m2 e2, .slice C3 m3 e3], .bool b]) ∧ AL bs w' C0 m0 e0 y0 ∧ AL bs w' C1 m1 e1 y1 ∧ AL bs w' C2 m2 e2 y2 ∧ AL bs w' C3 m3 e3 y3 ∧ InvC ro m0 m1 m2 m3 ∧ Below w.heap.size w w'
theorem hasI_pos {xs : List Int} {v : Int} (h : hasI xs v = true) : 0 < xs.length := by
  cases xs with
  | nil => unfold hasI at h; simp at h
  | cons _ _ => simp
theorem hasI_cons {xs : List Int} {u v : Int} (h : hasI xs v = true) : hasI (u :: xs) v = true := by
  unfold hasI at h ⊢
  simp at h ⊢
  exact .inr h
set_option maxRecDepth 100000 in
set_option maxHeartbeats 8000000 in
theorem l27Ask_any (bs : List Nat) (ro go : Int) (row : Int) (A0 : Option Addr) (n0 c0 : Nat) (x0 : List Int) (A1 : Option Addr) (n1 c1 : Nat) (x1 : List Int) (A2 : Option Addr) (n2 c2 : Nat) (x2 : List Int) (A3 : Option Addr) (n3 c3 : Nat) (x3 : List Int) (w : World)
    (hbs : ∀ k ∈ bs, k < w.heap.size) (h0 : AL bs w A0 n0 c0 x0) (h1 : AL bs w A1 n1 c1 x1) (h2 : AL bs w A2 n2 c2 x2) (h3 : AL bs w A3 n3 c3 x3) (hr : 1 ≤ ro) (hr9 : ro ≤ 20) (hi : InvC ro n0 n1 n2 n3) :
    Calls Try.prog 117 #[.agg #[.int .i64 ro, .int .i64 go, .slice A0 n0 c0, .slice A1 n1 c1, .slice A2 n2 c2, .slice A3 n3 c3], .int .i64 row] w (AskP bs ro w) := by
  have p0 := h0.cap; have p1 := h1.cap; have p2 := h2.cap; have p3 := h3.cap
  have q0 := Lib.hid h0.len; have q1 := Lib.hid h1.len; have q2 := Lib.hid h2.len; have q3 := Lib.hid h3.len
  obtain ⟨i1, i2, i3⟩ := hi
  have h0 := Lib.hid h0; have h1 := Lib.hid h1; have h2 := Lib.hid h2; have h3 := Lib.hid h3
  have HBS := Lib.hid hbs; clear hbs
  go_enter Try.func117, Try.ntmps117
  go_wp2_with fail
  obtain ⟨w1, hw1⟩ : ∃ W, W = (w.alloc (.cells #[.int .i64 ro, .int .i64 go, .slice A0 n0 c0, .slice A1 n1 c1, .slice A2 n2 c2, .slice A3 n3 c3] 57)).alloc (.cells #[.int .i64 0, .int .i64 0, .slice none 0 0, .slice none 0 0, .slice none 0 0, .slice none 0 0] 57) := ⟨_, rfl⟩
  have HB1 : Hid (Below w.heap.size w w1) := Lib.hid (by rw [hw1]; exact bel2)
  have BX1 : Hid (w1.heap[w.heap.size]? = some (.cells #[.int .i64 ro, .int .i64 go, .slice A0 n0 c0, .slice A1 n1 c1, .slice A2 n2 c2, .slice A3 n3 c3] 57 (0, 0))) := Lib.hid (by rw [hw1]; exact (Below.heap_alloc _ _ _ (by simp)).trans (heap_alloc_new _ _))
  have RS1 : Hid (w1.heap[w.heap.size + 1]? = some (.cells #[.int .i64 0, .int .i64 0, .slice none 0 0, .slice none 0 0, .slice none 0 0, .slice none 0 0] 57 (0, 0))) := Lib.hid (by rw [hw1]; have := heap_alloc_new (w.alloc (.cells #[.int .i64 ro, .int .i64 go, .slice A0 n0 c0, .slice A1 n1 c1, .slice A2 n2 c2, .slice A3 n3 c3] 57)) (.cells #[.int .i64 0, .int .i64 0, .slice none 0 0, .slice none 0 0, .slice none 0 0, .slice none 0 0] 57); simpa using this)
  have F0_1 := Lib.hid ((h0.out.more).chg (cs := []) (Chg.of_below HB1.out _))
  have F1_1 := Lib.hid ((h1.out.more).chg (cs := []) (Chg.of_below HB1.out _))
  have F2_1 := Lib.hid ((h2.out.more).chg (cs := []) (Chg.of_below HB1.out _))
  have F3_1 := Lib.hid ((h3.out.more).chg (cs := []) (Chg.of_below HB1.out _))
  have zz1 : w.heap.size + 1 < w1.heap.size := (Array.getElem?_eq_some_iff.1 RS1.out).1
  rw [← hw1]
  clear hw1
  refine (l5In_any A0 n0 c0 x0 row _ (F0_1.out.chg (cs := [w.heap.size, w.heap.size + 1]) (Chg.refl _ _)).il.ints).mono ?_
  rintro e w2 ⟨rfl, hq⟩
  have hb := hq.nil_below; clear hq
  have CC2 : Chg (· ∈ [w.heap.size, w.heap.size + 1]) w1 w2 := (((Chg.refl _ _)).trans (Chg.of_below hb _))
  have HB2 := Lib.hid (HB1.out.trans (CC2.below (B := w.heap.size) (fun k _ hk => by simp at hk; omega) HB1.out.size))
  have BX2 : Hid (w2.heap[w.heap.size]? = some (.cells #[.int .i64 ro, .int .i64 go, .slice A0 n0 c0, .slice A1 n1 c1, .slice A2 n2 c2, .slice A3 n3 c3] 57 (0, 0))) := Lib.hid ((hb.block _ (by first | omega | (simp [World.setCell]; omega))).trans BX1.out)
  have RS2 : Hid (w2.heap[w.heap.size + 1]? = some (.cells #[.int .i64 0, .int .i64 0, .slice none 0 0, .slice none 0 0, .slice none 0 0, .slice none 0 0] 57 (0, 0))) := Lib.hid ((hb.block _ (by first | omega | (simp [World.setCell]; omega))).trans RS1.out)
  have F0_2 := Lib.hid (F0_1.out.chg CC2)
  have F1_2 := Lib.hid (F1_1.out.chg CC2)
  have F2_2 := Lib.hid (F2_1.out.chg CC2)
  have F3_2 := Lib.hid (F3_1.out.chg CC2)
  clear CC2 hb HB1 BX1 RS1 zz1 F0_1 F1_1 F2_1 F3_1 
  have zz2 : w.heap.size + 1 < w2.heap.size := (Array.getElem?_eq_some_iff.1 RS2.out).1
  have uc0 := cell_of_row _ _ 0 _ _ (0, 0) BX2.out; have uf0 := block_free BX2.out 0; have ud0 := cell_of_row _ _ 0 _ _ (0, 0) RS2.out; have ug0 := block_free RS2.out 0
  have uc1 := cell_of_row _ _ 1 _ _ (0, 0) BX2.out; have uf1 := block_free BX2.out 1; have ud1 := cell_of_row _ _ 1 _ _ (0, 0) RS2.out; have ug1 := block_free RS2.out 1
  have uc2 := cell_of_row _ _ 2 _ _ (0, 0) BX2.out; have uf2 := block_free BX2.out 2; have ud2 := cell_of_row _ _ 2 _ _ (0, 0) RS2.out; have ug2 := block_free RS2.out 2
  have uc3 := cell_of_row _ _ 3 _ _ (0, 0) BX2.out; have uf3 := block_free BX2.out 3; have ud3 := cell_of_row _ _ 3 _ _ (0, 0) RS2.out; have ug3 := block_free RS2.out 3
  have uc4 := cell_of_row _ _ 4 _ _ (0, 0) BX2.out; have uf4 := block_free BX2.out 4; have ud4 := cell_of_row _ _ 4 _ _ (0, 0) RS2.out; have ug4 := block_free RS2.out 4
  have uc5 := cell_of_row _ _ 5 _ _ (0, 0) BX2.out; have uf5 := block_free BX2.out 5; have ud5 := cell_of_row _ _ 5 _ _ (0, 0) RS2.out; have ug5 := block_free RS2.out 5
  have lb := (Array.getElem?_eq_some_iff.1 BX2.out).1; have lr := (Array.getElem?_eq_some_iff.1 RS2.out).1
  cases a0 : hasI x0 row
  case true =>
    go_wp2_with fail
    refine (l27Less_any A0 n0 c0 x0 row _ (F0_2.out.chg (cs := [w.heap.size, w.heap.size + 1]) (Chg.refl _ _)).il (by omega)).mono ?_
    rintro e w3 ⟨C1, m1, e1, y1, rfl, hal, hle1, hlt1, hb⟩
    have G1_3 : Hid (AL (bs ++ [w.heap.size, w.heap.size + 1]) w3 C1 m1 e1 y1) := Lib.hid (AL.new hal (fun k hk => by rcases List.mem_append.1 hk with hk | hk <;> first | (have := HBS.out k hk; omega) | (have := HBS.out k hk; simp [World.setCell]; omega) | (simp at hk; omega) | (simp at hk; simp [World.setCell]; omega))); clear hal
    have hlt1 := hlt1 (by rw [a0])
    have CC3 : Chg (· ∈ [w.heap.size, w.heap.size + 1]) w2 w3 := (((Chg.refl _ _)).trans (Chg.of_below hb _))
    have HB3 := Lib.hid (HB2.out.trans (CC3.below (B := w.heap.size) (fun k _ hk => by simp at hk; omega) HB2.out.size))
    have BX3 : Hid (w3.heap[w.heap.size]? = some (.cells #[.int .i64 ro, .int .i64 go, .slice A0 n0 c0, .slice A1 n1 c1, .slice A2 n2 c2, .slice A3 n3 c3] 57 (0, 0))) := Lib.hid ((hb.block _ (by first | omega | (simp [World.setCell]; omega))).trans BX2.out)
    have RS3 : Hid (w3.heap[w.heap.size + 1]? = some (.cells #[.int .i64 0, .int .i64 0, .slice none 0 0, .slice none 0 0, .slice none 0 0, .slice none 0 0] 57 (0, 0))) := Lib.hid ((hb.block _ (by first | omega | (simp [World.setCell]; omega))).trans RS2.out)
    have F0_3 := Lib.hid (F0_2.out.chg CC3)
    have F1_3 := Lib.hid (F1_2.out.chg CC3)
    have F2_3 := Lib.hid (F2_2.out.chg CC3)
    have F3_3 := Lib.hid (F3_2.out.chg CC3)
    clear CC3 hb HB2 BX2 RS2 zz2 F0_2 F1_2 F2_2 F3_2 uc0 uf0 ud0 ug0 uc1 uf1 ud1 ug1 uc2 uf2 ud2 ug2 uc3 uf3 ud3 ug3 uc4 uf4 ud4 ug4 uc5 uf5 ud5 ug5 lb lr
    have zz3 : w.heap.size + 1 < w3.heap.size := (Array.getElem?_eq_some_iff.1 RS3.out).1
    have uc0 := cell_of_row _ _ 0 _ _ (0, 0) BX3.out; have uf0 := block_free BX3.out 0; have ud0 := cell_of_row _ _ 0 _ _ (0, 0) RS3.out; have ug0 := block_free RS3.out 0
    have uc1 := cell_of_row _ _ 1 _ _ (0, 0) BX3.out; have uf1 := block_free BX3.out 1; have ud1 := cell_of_row _ _ 1 _ _ (0, 0) RS3.out; have ug1 := block_free RS3.out 1
    have uc2 := cell_of_row _ _ 2 _ _ (0, 0) BX3.out; have uf2 := block_free BX3.out 2; have ud2 := cell_of_row _ _ 2 _ _ (0, 0) RS3.out; have ug2 := block_free RS3.out 2
    have uc3 := cell_of_row _ _ 3 _ _ (0, 0) BX3.out; have uf3 := block_free BX3.out 3; have ud3 := cell_of_row _ _ 3 _ _ (0, 0) RS3.out; have ug3 := block_free RS3.out 3
    have uc4 := cell_of_row _ _ 4 _ _ (0, 0) BX3.out; have uf4 := block_free BX3.out 4; have ud4 := cell_of_row _ _ 4 _ _ (0, 0) RS3.out; have ug4 := block_free RS3.out 4
    have uc5 := cell_of_row _ _ 5 _ _ (0, 0) BX3.out; have uf5 := block_free BX3.out 5; have ud5 := cell_of_row _ _ 5 _ _ (0, 0) RS3.out; have ug5 := block_free RS3.out 5
    have lb := (Array.getElem?_eq_some_iff.1 BX3.out).1; have lr := (Array.getElem?_eq_some_iff.1 RS3.out).1
    go_wp2_with fail
    refine (l27Less_any A1 n1 c1 x1 row _ (F1_3.out.chg (cs := [w.heap.size, w.heap.size + 1]) (Chg.setCell (p := ⟨w.heap.size, 2, none⟩) (Chg.refl _ _) (.inl (by simp)) _)).il (by omega)).mono ?_
    rintro e w4 ⟨C2, m2, e2, y2, rfl, hal, hle2, hlt2, hb⟩
    have G2_4 : Hid (AL (bs ++ [w.heap.size, w.heap.size + 1]) w4 C2 m2 e2 y2) := Lib.hid (AL.new hal (fun k hk => by rcases List.mem_append.1 hk with hk | hk <;> first | (have := HBS.out k hk; omega) | (have := HBS.out k hk; simp [World.setCell]; omega) | (simp at hk; omega) | (simp at hk; simp [World.setCell]; omega))); clear hal
    have HLT2 := Lib.hid hlt2; clear hlt2
    have CC4 : Chg (· ∈ [w.heap.size, w.heap.size + 1]) w3 w4 := (((Chg.setCell (p := ⟨w.heap.size, 2, none⟩) (Chg.refl _ _) (.inl (by simp)) _)).trans (Chg.of_below hb _))
    have HB4 := Lib.hid (HB3.out.trans (CC4.below (B := w.heap.size) (fun k _ hk => by simp at hk; omega) HB3.out.size))
    have BX4 : Hid (w4.heap[w.heap.size]? = some (.cells #[.int .i64 ro, .int .i64 go, .slice C1 m1 e1, .slice A1 n1 c1, .slice A2 n2 c2, .slice A3 n3 c3] 57 (0, 0))) := Lib.hid ((hb.block _ (by first | omega | (simp [World.setCell]; omega))).trans (block_set (o := 2) (v := .slice C1 m1 e1) BX3.out))
    have RS4 : Hid (w4.heap[w.heap.size + 1]? = some (.cells #[.int .i64 0, .int .i64 0, .slice none 0 0, .slice none 0 0, .slice none 0 0, .slice none 0 0] 57 (0, 0))) := Lib.hid ((hb.block _ (by first | omega | (simp [World.setCell]; omega))).trans ((heap_far (p := ⟨w.heap.size, 2, none⟩) (by simp)).trans RS3.out))
    have F0_4 := Lib.hid (F0_3.out.chg CC4)
    have F1_4 := Lib.hid (F1_3.out.chg CC4)
    have F2_4 := Lib.hid (F2_3.out.chg CC4)
    have F3_4 := Lib.hid (F3_3.out.chg CC4)
    have G1_4 := Lib.hid (G1_3.out.chg CC4)
    clear CC4 hb HB3 BX3 RS3 zz3 F0_3 F1_3 F2_3 F3_3 G1_3 uc0 uf0 ud0 ug0 uc1 uf1 ud1 ug1 uc2 uf2 ud2 ug2 uc3 uf3 ud3 ug3 uc4 uf4 ud4 ug4 uc5 uf5 ud5 ug5 lb lr
    have zz4 : w.heap.size + 1 < w4.heap.size := (Array.getElem?_eq_some_iff.1 RS4.out).1
    have uc0 := cell_of_row _ _ 0 _ _ (0, 0) BX4.out; have uf0 := block_free BX4.out 0; have ud0 := cell_of_row _ _ 0 _ _ (0, 0) RS4.out; have ug0 := block_free RS4.out 0
    have uc1 := cell_of_row _ _ 1 _ _ (0, 0) BX4.out; have uf1 := block_free BX4.out 1; have ud1 := cell_of_row _ _ 1 _ _ (0, 0) RS4.out; have ug1 := block_free RS4.out 1
    have uc2 := cell_of_row _ _ 2 _ _ (0, 0) BX4.out; have uf2 := block_free BX4.out 2; have ud2 := cell_of_row _ _ 2 _ _ (0, 0) RS4.out; have ug2 := block_free RS4.out 2
    have uc3 := cell_of_row _ _ 3 _ _ (0, 0) BX4.out; have uf3 := block_free BX4.out 3; have ud3 := cell_of_row _ _ 3 _ _ (0, 0) RS4.out; have ug3 := block_free RS4.out 3
    have uc4 := cell_of_row _ _ 4 _ _ (0, 0) BX4.out; have uf4 := block_free BX4.out 4; have ud4 := cell_of_row _ _ 4 _ _ (0, 0) RS4.out; have ug4 := block_free RS4.out 4
    have uc5 := cell_of_row _ _ 5 _ _ (0, 0) BX4.out; have uf5 := block_free BX4.out 5; have ud5 := cell_of_row _ _ 5 _ _ (0, 0) RS4.out; have ug5 := block_free RS4.out 5
    have lb := (Array.getElem?_eq_some_iff.1 BX4.out).1; have lr := (Array.getElem?_eq_some_iff.1 RS4.out).1
    go_wp2_with fail
    refine (l27Front_any C2 m2 e2 y2 row _ (G2_4.out.chg (cs := [w.heap.size, w.heap.size + 1]) (Chg.refl _ _)).il (by omega)).mono ?_
    rintro e w5 ⟨C3, e3, rfl, hal, hb⟩
    have G3_5 : Hid (AL (bs ++ [w.heap.size, w.heap.size + 1]) w5 C3 (m2 + 1) e3 (row :: y2)) := Lib.hid (AL.new hal (fun k hk => by rcases List.mem_append.1 hk with hk | hk <;> first | (have := HBS.out k hk; omega) | (have := HBS.out k hk; simp [World.setCell]; omega) | (simp at hk; omega) | (simp at hk; simp [World.setCell]; omega))); clear hal
    have CC5 : Chg (· ∈ [w.heap.size, w.heap.size + 1]) w4 w5 := (((Chg.refl _ _)).trans (Chg.of_below hb _))
    have HB5 := Lib.hid (HB4.out.trans (CC5.below (B := w.heap.size) (fun k _ hk => by simp at hk; omega) HB4.out.size))
    have BX5 : Hid (w5.heap[w.heap.size]? = some (.cells #[.int .i64 ro, .int .i64 go, .slice C1 m1 e1, .slice A1 n1 c1, .slice A2 n2 c2, .slice A3 n3 c3] 57 (0, 0))) := Lib.hid ((hb.block _ (by first | omega | (simp [World.setCell]; omega))).trans BX4.out)
    have RS5 : Hid (w5.heap[w.heap.size + 1]? = some (.cells #[.int .i64 0, .int .i64 0, .slice none 0 0, .slice none 0 0, .slice none 0 0, .slice none 0 0] 57 (0, 0))) := Lib.hid ((hb.block _ (by first | omega | (simp [World.setCell]; omega))).trans RS4.out)
    have F0_5 := Lib.hid (F0_4.out.chg CC5)
    have F1_5 := Lib.hid (F1_4.out.chg CC5)
    have F2_5 := Lib.hid (F2_4.out.chg CC5)
    have F3_5 := Lib.hid (F3_4.out.chg CC5)
    have G1_5 := Lib.hid (G1_4.out.chg CC5)
    have G2_5 := Lib.hid (G2_4.out.chg CC5)
    clear CC5 hb HB4 BX4 RS4 zz4 F0_4 F1_4 F2_4 F3_4 G1_4 G2_4 uc0 uf0 ud0 ug0 uc1 uf1 ud1 ug1 uc2 uf2 ud2 ug2 uc3 uf3 ud3 ug3 uc4 uf4 ud4 ug4 uc5 uf5 ud5 ug5 lb lr
    have zz5 : w.heap.size + 1 < w5.heap.size := (Array.getElem?_eq_some_iff.1 RS5.out).1
    have uc0 := cell_of_row _ _ 0 _ _ (0, 0) BX5.out; have uf0 := block_free BX5.out 0; have ud0 := cell_of_row _ _ 0 _ _ (0, 0) RS5.out; have ug0 := block_free RS5.out 0
    have uc1 := cell_of_row _ _ 1 _ _ (0, 0) BX5.out; have uf1 := block_free BX5.out 1; have ud1 := cell_of_row _ _ 1 _ _ (0, 0) RS5.out; have ug1 := block_free RS5.out 1
    have uc2 := cell_of_row _ _ 2 _ _ (0, 0) BX5.out; have uf2 := block_free BX5.out 2; have ud2 := cell_of_row _ _ 2 _ _ (0, 0) RS5.out; have ug2 := block_free RS5.out 2
    have uc3 := cell_of_row _ _ 3 _ _ (0, 0) BX5.out; have uf3 := block_free BX5.out 3; have ud3 := cell_of_row _ _ 3 _ _ (0, 0) RS5.out; have ug3 := block_free RS5.out 3
    have uc4 := cell_of_row _ _ 4 _ _ (0, 0) BX5.out; have uf4 := block_free BX5.out 4; have ud4 := cell_of_row _ _ 4 _ _ (0, 0) RS5.out; have ug4 := block_free RS5.out 4
    have uc5 := cell_of_row _ _ 5 _ _ (0, 0) BX5.out; have uf5 := block_free BX5.out 5; have ud5 := cell_of_row _ _ 5 _ _ (0, 0) RS5.out; have ug5 := block_free RS5.out 5
    have lb := (Array.getElem?_eq_some_iff.1 BX5.out).1; have lr := (Array.getElem?_eq_some_iff.1 RS5.out).1
    have HINV : Hid (InvC ro m1 (m2 + 1) n2 n3) := Lib.hid (by unfold InvC; refine ⟨?_, ?_, ?_⟩ <;> push_cast <;> omega)
    obtain ⟨wF, hwF⟩ : ∃ W, W = (World.setCell (World.setCell (World.setCell (World.setCell (World.setCell (World.setCell (World.setCell w5 ⟨w.heap.size, 3, none⟩ (.slice C3 (m2 + 1) e3)) ⟨w.heap.size + 1, 0, none⟩ (.int .i64 ro)) ⟨w.heap.size + 1, 1, none⟩ (.int .i64 go)) ⟨w.heap.size + 1, 2, none⟩ (.slice C1 m1 e1)) ⟨w.heap.size + 1, 3, none⟩ (.slice C3 (m2 + 1) e3)) ⟨w.heap.size + 1, 4, none⟩ (.slice A2 n2 c2)) ⟨w.heap.size + 1, 5, none⟩ (.slice A3 n3 c3)) := ⟨_, rfl⟩
    have CF : Chg (· ∈ [w.heap.size, w.heap.size + 1]) w5 wF := by rw [hwF]; exact (Chg.setCell (p := ⟨w.heap.size + 1, 5, none⟩) (Chg.setCell (p := ⟨w.heap.size + 1, 4, none⟩) (Chg.setCell (p := ⟨w.heap.size + 1, 3, none⟩) (Chg.setCell (p := ⟨w.heap.size + 1, 2, none⟩) (Chg.setCell (p := ⟨w.heap.size + 1, 1, none⟩) (Chg.setCell (p := ⟨w.heap.size + 1, 0, none⟩) (Chg.setCell (p := ⟨w.heap.size, 3, none⟩) (Chg.refl _ _) (.inl (by simp)) _) (.inl (by simp)) _) (.inl (by simp)) _) (.inl (by simp)) _) (.inl (by simp)) _) (.inl (by simp)) _) (.inl (by simp)) _)
    have HBF : Below w.heap.size w wF := HB5.out.trans (CF.below (B := w.heap.size) (fun k _ hk => by simp at hk; omega) HB5.out.size)
    have F0_F := (F0_5.out.chg CF).sub
    have F1_F := (F1_5.out.chg CF).sub
    have F2_F := (F2_5.out.chg CF).sub
    have F3_F := (F3_5.out.chg CF).sub
    have G1_F := (G1_5.out.chg CF).sub
    have G2_F := (G2_5.out.chg CF).sub
    have G3_F := (G3_5.out.chg CF).sub
    have RSF : wF.heap[w.heap.size + 1]? = some (.cells #[.int .i64 ro, .int .i64 go, .slice C1 m1 e1, .slice C3 (m2 + 1) e3, .slice A2 n2 c2, .slice A3 n3 c3] 57 (0, 0)) := by rw [hwF]; exact (block_set (o := 5) (v := .slice A3 n3 c3) (block_set (o := 4) (v := .slice A2 n2 c2) (block_set (o := 3) (v := .slice C3 (m2 + 1) e3) (block_set (o := 2) (v := .slice C1 m1 e1) (block_set (o := 1) (v := .int .i64 go) (block_set (o := 0) (v := .int .i64 ro) ((heap_far (p := ⟨w.heap.size, 3, none⟩) (by simp)).trans RS5.out)))))))
    have r0 := cell_of_row _ _ 0 _ _ (0, 0) RSF
    have r1 := cell_of_row _ _ 1 _ _ (0, 0) RSF
    have r2 := cell_of_row _ _ 2 _ _ (0, 0) RSF
    have r3 := cell_of_row _ _ 3 _ _ (0, 0) RSF
    have r4 := cell_of_row _ _ 4 _ _ (0, 0) RSF
    have r5 := cell_of_row _ _ 5 _ _ (0, 0) RSF
    have HP : Hid (AskP bs ro w (.returned (.tuple #[.agg #[.int .i64 ro, .int .i64 go, .slice C1 m1 e1, .slice C3 (m2 + 1) e3, .slice A2 n2 c2, .slice A3 n3 c3], .bool true])) wF) := Lib.hid (⟨go, C1, m1, e1, y1, C3, (m2 + 1), e3, (row :: y2), A2, n2, c2, x2, A3, n3, c3, x3, true, rfl, G1_F, G3_F, F2_F, F3_F, HINV.out, HBF⟩)
    have HWF := Lib.hid hwF
    clear hwF CF HBF F0_F F1_F F2_F F3_F G1_F G2_F G3_F
    go_wp2_with fail
    rw [← HWF.out]
    exact bodyPost_ret (v := .tuple #[.agg #[.int .i64 ro, .int .i64 go, .slice C1 m1 e1, .slice C3 (m2 + 1) e3, .slice A2 n2 c2, .slice A3 n3 c3], .bool true]) (by simp [results, Try.results117, go_sem, r0, r1, r2, r3, r4, r5]) rfl HP.out
  case false =>
    go_wp2_with fail
    refine (l5In_any A1 n1 c1 x1 row _ (F1_2.out.chg (cs := [w.heap.size, w.heap.size + 1]) (Chg.refl _ _)).il.ints).mono ?_
    rintro e w3 ⟨rfl, hq⟩
    have hb := hq.nil_below; clear hq
    have CC3 : Chg (· ∈ [w.heap.size, w.heap.size + 1]) w2 w3 := (((Chg.refl _ _)).trans (Chg.of_below hb _))
    have HB3 := Lib.hid (HB2.out.trans (CC3.below (B := w.heap.size) (fun k _ hk => by simp at hk; omega) HB2.out.size))
    have BX3 : Hid (w3.heap[w.heap.size]? = some (.cells #[.int .i64 ro, .int .i64 go, .slice A0 n0 c0, .slice A1 n1 c1, .slice A2 n2 c2, .slice A3 n3 c3] 57 (0, 0))) := Lib.hid ((hb.block _ (by first | omega | (simp [World.setCell]; omega))).trans BX2.out)
    have RS3 : Hid (w3.heap[w.heap.size + 1]? = some (.cells #[.int .i64 0, .int .i64 0, .slice none 0 0, .slice none 0 0, .slice none 0 0, .slice none 0 0] 57 (0, 0))) := Lib.hid ((hb.block _ (by first | omega | (simp [World.setCell]; omega))).trans RS2.out)
    have F0_3 := Lib.hid (F0_2.out.chg CC3)
    have F1_3 := Lib.hid (F1_2.out.chg CC3)
    have F2_3 := Lib.hid (F2_2.out.chg CC3)
    have F3_3 := Lib.hid (F3_2.out.chg CC3)
    clear CC3 hb HB2 BX2 RS2 zz2 F0_2 F1_2 F2_2 F3_2 uc0 uf0 ud0 ug0 uc1 uf1 ud1 ug1 uc2 uf2 ud2 ug2 uc3 uf3 ud3 ug3 uc4 uf4 ud4 ug4 uc5 uf5 ud5 ug5 lb lr
    have zz3 : w.heap.size + 1 < w3.heap.size := (Array.getElem?_eq_some_iff.1 RS3.out).1
    have uc0 := cell_of_row _ _ 0 _ _ (0, 0) BX3.out; have uf0 := block_free BX3.out 0; have ud0 := cell_of_row _ _ 0 _ _ (0, 0) RS3.out; have ug0 := block_free RS3.out 0
    have uc1 := cell_of_row _ _ 1 _ _ (0, 0) BX3.out; have uf1 := block_free BX3.out 1; have ud1 := cell_of_row _ _ 1 _ _ (0, 0) RS3.out; have ug1 := block_free RS3.out 1
    have uc2 := cell_of_row _ _ 2 _ _ (0, 0) BX3.out; have uf2 := block_free BX3.out 2; have ud2 := cell_of_row _ _ 2 _ _ (0, 0) RS3.out; have ug2 := block_free RS3.out 2
    have uc3 := cell_of_row _ _ 3 _ _ (0, 0) BX3.out; have uf3 := block_free BX3.out 3; have ud3 := cell_of_row _ _ 3 _ _ (0, 0) RS3.out; have ug3 := block_free RS3.out 3
    have uc4 := cell_of_row _ _ 4 _ _ (0, 0) BX3.out; have uf4 := block_free BX3.out 4; have ud4 := cell_of_row _ _ 4 _ _ (0, 0) RS3.out; have ug4 := block_free RS3.out 4
    have uc5 := cell_of_row _ _ 5 _ _ (0, 0) BX3.out; have uf5 := block_free BX3.out 5; have ud5 := cell_of_row _ _ 5 _ _ (0, 0) RS3.out; have ug5 := block_free RS3.out 5
    have lb := (Array.getElem?_eq_some_iff.1 BX3.out).1; have lr := (Array.getElem?_eq_some_iff.1 RS3.out).1
    cases a1 : hasI x1 row
    case true =>
      go_wp2_with fail
      refine (l27Less_any A0 n0 c0 x0 row _ (F0_3.out.chg (cs := [w.heap.size, w.heap.size + 1]) (Chg.refl _ _)).il (by omega)).mono ?_
      rintro e w4 ⟨C1, m1, e1, y1, rfl, hal, hle1, hlt1, hb⟩
      have G1_4 : Hid (AL (bs ++ [w.heap.size, w.heap.size + 1]) w4 C1 m1 e1 y1) := Lib.hid (AL.new hal (fun k hk => by rcases List.mem_append.1 hk with hk | hk <;> first | (have := HBS.out k hk; omega) | (have := HBS.out k hk; simp [World.setCell]; omega) | (simp at hk; omega) | (simp at hk; simp [World.setCell]; omega))); clear hal
      have HLT1 := Lib.hid hlt1; clear hlt1
      have CC4 : Chg (· ∈ [w.heap.size, w.heap.size + 1]) w3 w4 := (((Chg.refl _ _)).trans (Chg.of_below hb _))
      have HB4 := Lib.hid (HB3.out.trans (CC4.below (B := w.heap.size) (fun k _ hk => by simp at hk; omega) HB3.out.size))
      have BX4 : Hid (w4.heap[w.heap.size]? = some (.cells #[.int .i64 ro, .int .i64 go, .slice A0 n0 c0, .slice A1 n1 c1, .slice A2 n2 c2, .slice A3 n3 c3] 57 (0, 0))) := Lib.hid ((hb.block _ (by first | omega | (simp [World.setCell]; omega))).trans BX3.out)
      have RS4 : Hid (w4.heap[w.heap.size + 1]? = some (.cells #[.int .i64 0, .int .i64 0, .slice none 0 0, .slice none 0 0, .slice none 0 0, .slice none 0 0] 57 (0, 0))) := Lib.hid ((hb.block _ (by first | omega | (simp [World.setCell]; omega))).trans RS3.out)
      have F0_4 := Lib.hid (F0_3.out.chg CC4)
      have F1_4 := Lib.hid (F1_3.out.chg CC4)
      have F2_4 := Lib.hid (F2_3.out.chg CC4)
      have F3_4 := Lib.hid (F3_3.out.chg CC4)
      clear CC4 hb HB3 BX3 RS3 zz3 F0_3 F1_3 F2_3 F3_3 uc0 uf0 ud0 ug0 uc1 uf1 ud1 ug1 uc2 uf2 ud2 ug2 uc3 uf3 ud3 ug3 uc4 uf4 ud4 ug4 uc5 uf5 ud5 ug5 lb lr
      have zz4 : w.heap.size + 1 < w4.heap.size := (Array.getElem?_eq_some_iff.1 RS4.out).1
      have uc0 := cell_of_row _ _ 0 _ _ (0, 0) BX4.out; have uf0 := block_free BX4.out 0; have ud0 := cell_of_row _ _ 0 _ _ (0, 0) RS4.out; have ug0 := block_free RS4.out 0
      have uc1 := cell_of_row _ _ 1 _ _ (0, 0) BX4.out; have uf1 := block_free BX4.out 1; have ud1 := cell_of_row _ _ 1 _ _ (0, 0) RS4.out; have ug1 := block_free RS4.out 1
      have uc2 := cell_of_row _ _ 2 _ _ (0, 0) BX4.out; have uf2 := block_free BX4.out 2; have ud2 := cell_of_row _ _ 2 _ _ (0, 0) RS4.out; have ug2 := block_free RS4.out 2
      have uc3 := cell_of_row _ _ 3 _ _ (0, 0) BX4.out; have uf3 := block_free BX4.out 3; have ud3 := cell_of_row _ _ 3 _ _ (0, 0) RS4.out; have ug3 := block_free RS4.out 3
      have uc4 := cell_of_row _ _ 4 _ _ (0, 0) BX4.out; have uf4 := block_free BX4.out 4; have ud4 := cell_of_row _ _ 4 _ _ (0, 0) RS4.out; have ug4 := block_free RS4.out 4
      have uc5 := cell_of_row _ _ 5 _ _ (0, 0) BX4.out; have uf5 := block_free BX4.out 5; have ud5 := cell_of_row _ _ 5 _ _ (0, 0) RS4.out; have ug5 := block_free RS4.out 5
      have lb := (Array.getElem?_eq_some_iff.1 BX4.out).1; have lr := (Array.getElem?_eq_some_iff.1 RS4.out).1
      go_wp2_with fail
      refine (l27Less_any A1 n1 c1 x1 row _ (F1_4.out.chg (cs := [w.heap.size, w.heap.size + 1]) (Chg.setCell (p := ⟨w.heap.size, 2, none⟩) (Chg.refl _ _) (.inl (by simp)) _)).il (by omega)).mono ?_
      rintro e w5 ⟨C2, m2, e2, y2, rfl, hal, hle2, hlt2, hb⟩
      have G2_5 : Hid (AL (bs ++ [w.heap.size, w.heap.size + 1]) w5 C2 m2 e2 y2) := Lib.hid (AL.new hal (fun k hk => by rcases List.mem_append.1 hk with hk | hk <;> first | (have := HBS.out k hk; omega) | (have := HBS.out k hk; simp [World.setCell]; omega) | (simp at hk; omega) | (simp at hk; simp [World.setCell]; omega))); clear hal
      have hlt2 := hlt2 (by rw [a1])
      have CC5 : Chg (· ∈ [w.heap.size, w.heap.size + 1]) w4 w5 := (((Chg.setCell (p := ⟨w.heap.size, 2, none⟩) (Chg.refl _ _) (.inl (by simp)) _)).trans (Chg.of_below hb _))
      have HB5 := Lib.hid (HB4.out.trans (CC5.below (B := w.heap.size) (fun k _ hk => by simp at hk; omega) HB4.out.size))
      have BX5 : Hid (w5.heap[w.heap.size]? = some (.cells #[.int .i64 ro, .int .i64 go, .slice C1 m1 e1, .slice A1 n1 c1, .slice A2 n2 c2, .slice A3 n3 c3] 57 (0, 0))) := Lib.hid ((hb.block _ (by first | omega | (simp [World.setCell]; omega))).trans (block_set (o := 2) (v := .slice C1 m1 e1) BX4.out))
      have RS5 : Hid (w5.heap[w.heap.size + 1]? = some (.cells #[.int .i64 0, .int .i64 0, .slice none 0 0, .slice none 0 0, .slice none 0 0, .slice none 0 0] 57 (0, 0))) := Lib.hid ((hb.block _ (by first | omega | (simp [World.setCell]; omega))).trans ((heap_far (p := ⟨w.heap.size, 2, none⟩) (by simp)).trans RS4.out))
      have F0_5 := Lib.hid (F0_4.out.chg CC5)
      have F1_5 := Lib.hid (F1_4.out.chg CC5)
      have F2_5 := Lib.hid (F2_4.out.chg CC5)
      have F3_5 := Lib.hid (F3_4.out.chg CC5)
      have G1_5 := Lib.hid (G1_4.out.chg CC5)
      clear CC5 hb HB4 BX4 RS4 zz4 F0_4 F1_4 F2_4 F3_4 G1_4 uc0 uf0 ud0 ug0 uc1 uf1 ud1 ug1 uc2 uf2 ud2 ug2 uc3 uf3 ud3 ug3 uc4 uf4 ud4 ug4 uc5 uf5 ud5 ug5 lb lr
      have zz5 : w.heap.size + 1 < w5.heap.size := (Array.getElem?_eq_some_iff.1 RS5.out).1
      have uc0 := cell_of_row _ _ 0 _ _ (0, 0) BX5.out; have uf0 := block_free BX5.out 0; have ud0 := cell_of_row _ _ 0 _ _ (0, 0) RS5.out; have ug0 := block_free RS5.out 0
      have uc1 := cell_of_row _ _ 1 _ _ (0, 0) BX5.out; have uf1 := block_free BX5.out 1; have ud1 := cell_of_row _ _ 1 _ _ (0, 0) RS5.out; have ug1 := block_free RS5.out 1
      have uc2 := cell_of_row _ _ 2 _ _ (0, 0) BX5.out; have uf2 := block_free BX5.out 2; have ud2 := cell_of_row _ _ 2 _ _ (0, 0) RS5.out; have ug2 := block_free RS5.out 2
      have uc3 := cell_of_row _ _ 3 _ _ (0, 0) BX5.out; have uf3 := block_free BX5.out 3; have ud3 := cell_of_row _ _ 3 _ _ (0, 0) RS5.out; have ug3 := block_free RS5.out 3
      have uc4 := cell_of_row _ _ 4 _ _ (0, 0) BX5.out; have uf4 := block_free BX5.out 4; have ud4 := cell_of_row _ _ 4 _ _ (0, 0) RS5.out; have ug4 := block_free RS5.out 4
      have uc5 := cell_of_row _ _ 5 _ _ (0, 0) BX5.out; have uf5 := block_free BX5.out 5; have ud5 := cell_of_row _ _ 5 _ _ (0, 0) RS5.out; have ug5 := block_free RS5.out 5
      have lb := (Array.getElem?_eq_some_iff.1 BX5.out).1; have lr := (Array.getElem?_eq_some_iff.1 RS5.out).1
      go_wp2_with fail
      refine (l27Front_any C2 m2 e2 y2 row _ (G2_5.out.chg (cs := [w.heap.size, w.heap.size + 1]) (Chg.refl _ _)).il (by omega)).mono ?_
      rintro e w6 ⟨C3, e3, rfl, hal, hb⟩
      have G3_6 : Hid (AL (bs ++ [w.heap.size, w.heap.size + 1]) w6 C3 (m2 + 1) e3 (row :: y2)) := Lib.hid (AL.new hal (fun k hk => by rcases List.mem_append.1 hk with hk | hk <;> first | (have := HBS.out k hk; omega) | (have := HBS.out k hk; simp [World.setCell]; omega) | (simp at hk; omega) | (simp at hk; simp [World.setCell]; omega))); clear hal
      have CC6 : Chg (· ∈ [w.heap.size, w.heap.size + 1]) w5 w6 := (((Chg.refl _ _)).trans (Chg.of_below hb _))
      have HB6 := Lib.hid (HB5.out.trans (CC6.below (B := w.heap.size) (fun k _ hk => by simp at hk; omega) HB5.out.size))
      have BX6 : Hid (w6.heap[w.heap.size]? = some (.cells #[.int .i64 ro, .int .i64 go, .slice C1 m1 e1, .slice A1 n1 c1, .slice A2 n2 c2, .slice A3 n3 c3] 57 (0, 0))) := Lib.hid ((hb.block _ (by first | omega | (simp [World.setCell]; omega))).trans BX5.out)
      have RS6 : Hid (w6.heap[w.heap.size + 1]? = some (.cells #[.int .i64 0, .int .i64 0, .slice none 0 0, .slice none 0 0, .slice none 0 0, .slice none 0 0] 57 (0, 0))) := Lib.hid ((hb.block _ (by first | omega | (simp [World.setCell]; omega))).trans RS5.out)
      have F0_6 := Lib.hid (F0_5.out.chg CC6)
      have F1_6 := Lib.hid (F1_5.out.chg CC6)
      have F2_6 := Lib.hid (F2_5.out.chg CC6)
      have F3_6 := Lib.hid (F3_5.out.chg CC6)
      have G1_6 := Lib.hid (G1_5.out.chg CC6)
      have G2_6 := Lib.hid (G2_5.out.chg CC6)
      clear CC6 hb HB5 BX5 RS5 zz5 F0_5 F1_5 F2_5 F3_5 G1_5 G2_5 uc0 uf0 ud0 ug0 uc1 uf1 ud1 ug1 uc2 uf2 ud2 ug2 uc3 uf3 ud3 ug3 uc4 uf4 ud4 ug4 uc5 uf5 ud5 ug5 lb lr
      have zz6 : w.heap.size + 1 < w6.heap.size := (Array.getElem?_eq_some_iff.1 RS6.out).1
      have uc0 := cell_of_row _ _ 0 _ _ (0, 0) BX6.out; have uf0 := block_free BX6.out 0; have ud0 := cell_of_row _ _ 0 _ _ (0, 0) RS6.out; have ug0 := block_free RS6.out 0
      have uc1 := cell_of_row _ _ 1 _ _ (0, 0) BX6.out; have uf1 := block_free BX6.out 1; have ud1 := cell_of_row _ _ 1 _ _ (0, 0) RS6.out; have ug1 := block_free RS6.out 1
      have uc2 := cell_of_row _ _ 2 _ _ (0, 0) BX6.out; have uf2 := block_free BX6.out 2; have ud2 := cell_of_row _ _ 2 _ _ (0, 0) RS6.out; have ug2 := block_free RS6.out 2
      have uc3 := cell_of_row _ _ 3 _ _ (0, 0) BX6.out; have uf3 := block_free BX6.out 3; have ud3 := cell_of_row _ _ 3 _ _ (0, 0) RS6.out; have ug3 := block_free RS6.out 3
      have uc4 := cell_of_row _ _ 4 _ _ (0, 0) BX6.out; have uf4 := block_free BX6.out 4; have ud4 := cell_of_row _ _ 4 _ _ (0, 0) RS6.out; have ug4 := block_free RS6.out 4
      have uc5 := cell_of_row _ _ 5 _ _ (0, 0) BX6.out; have uf5 := block_free BX6.out 5; have ud5 := cell_of_row _ _ 5 _ _ (0, 0) RS6.out; have ug5 := block_free RS6.out 5
      have lb := (Array.getElem?_eq_some_iff.1 BX6.out).1; have lr := (Array.getElem?_eq_some_iff.1 RS6.out).1
      have HINV : Hid (InvC ro m1 (m2 + 1) n2 n3) := Lib.hid (by unfold InvC; refine ⟨?_, ?_, ?_⟩ <;> push_cast <;> omega)
      obtain ⟨wF, hwF⟩ : ∃ W, W = (World.setCell (World.setCell (World.setCell (World.setCell (World.setCell (World.setCell (World.setCell w6 ⟨w.heap.size, 3, none⟩ (.slice C3 (m2 + 1) e3)) ⟨w.heap.size + 1, 0, none⟩ (.int .i64 ro)) ⟨w.heap.size + 1, 1, none⟩ (.int .i64 go)) ⟨w.heap.size + 1, 2, none⟩ (.slice C1 m1 e1)) ⟨w.heap.size + 1, 3, none⟩ (.slice C3 (m2 + 1) e3)) ⟨w.heap.size + 1, 4, none⟩ (.slice A2 n2 c2)) ⟨w.heap.size + 1, 5, none⟩ (.slice A3 n3 c3)) := ⟨_, rfl⟩
      have CF : Chg (· ∈ [w.heap.size, w.heap.size + 1]) w6 wF := by rw [hwF]; exact (Chg.setCell (p := ⟨w.heap.size + 1, 5, none⟩) (Chg.setCell (p := ⟨w.heap.size + 1, 4, none⟩) (Chg.setCell (p := ⟨w.heap.size + 1, 3, none⟩) (Chg.setCell (p := ⟨w.heap.size + 1, 2, none⟩) (Chg.setCell (p := ⟨w.heap.size + 1, 1, none⟩) (Chg.setCell (p := ⟨w.heap.size + 1, 0, none⟩) (Chg.setCell (p := ⟨w.heap.size, 3, none⟩) (Chg.refl _ _) (.inl (by simp)) _) (.inl (by simp)) _) (.inl (by simp)) _) (.inl (by simp)) _) (.inl (by simp)) _) (.inl (by simp)) _) (.inl (by simp)) _)
      have HBF : Below w.heap.size w wF := HB6.out.trans (CF.below (B := w.heap.size) (fun k _ hk => by simp at hk; omega) HB6.out.size)
      have F0_F := (F0_6.out.chg CF).sub
      have F1_F := (F1_6.out.chg CF).sub
      have F2_F := (F2_6.out.chg CF).sub
      have F3_F := (F3_6.out.chg CF).sub
      have G1_F := (G1_6.out.chg CF).sub
      have G2_F := (G2_6.out.chg CF).sub
      have G3_F := (G3_6.out.chg CF).sub
      have RSF : wF.heap[w.heap.size + 1]? = some (.cells #[.int .i64 ro, .int .i64 go, .slice C1 m1 e1, .slice C3 (m2 + 1) e3, .slice A2 n2 c2, .slice A3 n3 c3] 57 (0, 0)) := by rw [hwF]; exact (block_set (o := 5) (v := .slice A3 n3 c3) (block_set (o := 4) (v := .slice A2 n2 c2) (block_set (o := 3) (v := .slice C3 (m2 + 1) e3) (block_set (o := 2) (v := .slice C1 m1 e1) (block_set (o := 1) (v := .int .i64 go) (block_set (o := 0) (v := .int .i64 ro) ((heap_far (p := ⟨w.heap.size, 3, none⟩) (by simp)).trans RS6.out)))))))
      have r0 := cell_of_row _ _ 0 _ _ (0, 0) RSF
      have r1 := cell_of_row _ _ 1 _ _ (0, 0) RSF
      have r2 := cell_of_row _ _ 2 _ _ (0, 0) RSF
      have r3 := cell_of_row _ _ 3 _ _ (0, 0) RSF
      have r4 := cell_of_row _ _ 4 _ _ (0, 0) RSF
      have r5 := cell_of_row _ _ 5 _ _ (0, 0) RSF
      have HP : Hid (AskP bs ro w (.returned (.tuple #[.agg #[.int .i64 ro, .int .i64 go, .slice C1 m1 e1, .slice C3 (m2 + 1) e3, .slice A2 n2 c2, .slice A3 n3 c3], .bool true])) wF) := Lib.hid (⟨go, C1, m1, e1, y1, C3, (m2 + 1), e3, (row :: y2), A2, n2, c2, x2, A3, n3, c3, x3, true, rfl, G1_F, G3_F, F2_F, F3_F, HINV.out, HBF⟩)
      have HWF := Lib.hid hwF
      clear hwF CF HBF F0_F F1_F F2_F F3_F G1_F G2_F G3_F
      go_wp2_with fail
      rw [← HWF.out]
      exact bodyPost_ret (v := .tuple #[.agg #[.int .i64 ro, .int .i64 go, .slice C1 m1 e1, .slice C3 (m2 + 1) e3, .slice A2 n2 c2, .slice A3 n3 c3], .bool true]) (by simp [results, Try.results117, go_sem, r0, r1, r2, r3, r4, r5]) rfl HP.out
    case false =>
      go_wp2_with fail
      refine (l5In_any A2 n2 c2 x2 row _ (F2_3.out.chg (cs := [w.heap.size, w.heap.size + 1]) (Chg.refl _ _)).il.ints).mono ?_
      rintro e w4 ⟨rfl, hq⟩
      have hb := hq.nil_below; clear hq
      have CC4 : Chg (· ∈ [w.heap.size, w.heap.size + 1]) w3 w4 := (((Chg.refl _ _)).trans (Chg.of_below hb _))
      have HB4 := Lib.hid (HB3.out.trans (CC4.below (B := w.heap.size) (fun k _ hk => by simp at hk; omega) HB3.out.size))
      have BX4 : Hid (w4.heap[w.heap.size]? = some (.cells #[.int .i64 ro, .int .i64 go, .slice A0 n0 c0, .slice A1 n1 c1, .slice A2 n2 c2, .slice A3 n3 c3] 57 (0, 0))) := Lib.hid ((hb.block _ (by first | omega | (simp [World.setCell]; omega))).trans BX3.out)
      have RS4 : Hid (w4.heap[w.heap.size + 1]? = some (.cells #[.int .i64 0, .int .i64 0, .slice none 0 0, .slice none 0 0, .slice none 0 0, .slice none 0 0] 57 (0, 0))) := Lib.hid ((hb.block _ (by first | omega | (simp [World.setCell]; omega))).trans RS3.out)
      have F0_4 := Lib.hid (F0_3.out.chg CC4)
      have F1_4 := Lib.hid (F1_3.out.chg CC4)
      have F2_4 := Lib.hid (F2_3.out.chg CC4)
      have F3_4 := Lib.hid (F3_3.out.chg CC4)
      clear CC4 hb HB3 BX3 RS3 zz3 F0_3 F1_3 F2_3 F3_3 uc0 uf0 ud0 ug0 uc1 uf1 ud1 ug1 uc2 uf2 ud2 ug2 uc3 uf3 ud3 ug3 uc4 uf4 ud4 ug4 uc5 uf5 ud5 ug5 lb lr
      have zz4 : w.heap.size + 1 < w4.heap.size := (Array.getElem?_eq_some_iff.1 RS4.out).1
      have uc0 := cell_of_row _ _ 0 _ _ (0, 0) BX4.out; have uf0 := block_free BX4.out 0; have ud0 := cell_of_row _ _ 0 _ _ (0, 0) RS4.out; have ug0 := block_free RS4.out 0
      have uc1 := cell_of_row _ _ 1 _ _ (0, 0) BX4.out; have uf1 := block_free BX4.out 1; have ud1 := cell_of_row _ _ 1 _ _ (0, 0) RS4.out; have ug1 := block_free RS4.out 1
      have uc2 := cell_of_row _ _ 2 _ _ (0, 0) BX4.out; have uf2 := block_free BX4.out 2; have ud2 := cell_of_row _ _ 2 _ _ (0, 0) RS4.out; have ug2 := block_free RS4.out 2
      have uc3 := cell_of_row _ _ 3 _ _ (0, 0) BX4.out; have uf3 := block_free BX4.out 3; have ud3 := cell_of_row _ _ 3 _ _ (0, 0) RS4.out; have ug3 := block_free RS4.out 3
      have uc4 := cell_of_row _ _ 4 _ _ (0, 0) BX4.out; have uf4 := block_free BX4.out 4; have ud4 := cell_of_row _ _ 4 _ _ (0, 0) RS4.out; have ug4 := block_free RS4.out 4
      have uc5 := cell_of_row _ _ 5 _ _ (0, 0) BX4.out; have uf5 := block_free BX4.out 5; have ud5 := cell_of_row _ _ 5 _ _ (0, 0) RS4.out; have ug5 := block_free RS4.out 5
      have lb := (Array.getElem?_eq_some_iff.1 BX4.out).1; have lr := (Array.getElem?_eq_some_iff.1 RS4.out).1
      cases a2 : hasI x2 row
      case true =>
        have hp_ : 0 < n2 := by have := hasI_pos a2; rw [q2.out] at this; exact this
        have hpz : ¬ (n2 : Int) = 0 := by omega
        have hpz3 : ¬ n2 = 0 := by omega
        have hpz2 : ((n2 : Int) == 0) = false := by simp; omega
        go_wp2_with fail
        clear uc0 uf0 ud0 ug0 uc1 uf1 ud1 ug1 uc2 uf2 ud2 ug2 uc3 uf3 ud3 ug3 uc4 uf4 ud4 ug4 uc5 uf5 ud5 ug5 lb lr
        apply wp_region_rgz (Chg (· ∈ [w.heap.size])) (Ext) (fun y w' k' => (k' < 1000 → w'.heap[w.heap.size]? = some (.cells #[.int .i64 ro, .int .i64 go, .slice A0 n0 c0, .slice A1 n1 c1, .slice A2 n2 c2, .slice A3 n3 c3] 57 (0, 0))) ∧ (1000 ≤ k' → ∃ z', w'.heap[w.heap.size]? = some (.cells #[.int .i64 ro, .int .i64 z', .slice A0 n0 c0, .slice A1 n1 c1, .slice A2 n2 c2, .slice A3 n3 c3] 57 (0, 0)))) (0 :: 0 :: 0 :: 0 :: 0 :: 0 :: 0 :: 0 :: 0 :: 0 :: 0 :: 0 :: 0 :: 0 :: 0 :: 1000 :: []) (1000 :: 1000 :: 1000 :: 1000 :: 1000 :: 1000 :: 1000 :: 1000 :: 1000 :: 1000 :: 1000 :: 1000 :: 1000 :: 1000 :: 1000 :: 1000 :: []) (by kernel_rfl) (false :: false :: false :: false :: false :: false :: false :: false :: false :: false :: false :: false :: false :: false :: false :: false :: false :: false :: false :: false :: false :: false :: false :: false :: false :: false :: false :: false :: false :: false :: false :: false :: false :: false :: false :: true :: true :: true :: true :: true :: true :: true :: true :: true :: true :: true :: true :: true :: true :: true :: false :: false :: false :: false :: false :: false :: false :: false :: false :: false :: false :: false :: false :: false :: false :: false :: false :: false :: false :: false :: false :: false :: false :: false :: false :: false :: false :: false :: false :: false :: false :: false :: false :: false :: false :: false :: false :: false :: false :: false :: false :: false :: false :: false :: false :: false :: false :: false :: false :: false :: false :: false :: false :: false :: false :: false :: false :: false :: false :: false :: false :: false :: false :: false :: false :: false :: false :: false :: false :: false :: false :: false :: false :: false :: false :: false :: false :: false :: false :: false :: false :: false :: false :: false :: false :: false :: false :: false :: false :: false :: false :: false :: false :: false :: false :: false :: false :: false :: false :: false :: false :: false :: false :: false :: false :: false :: false :: false :: false :: false :: false :: []) (some 35 :: some 36 :: some 37 :: some 38 :: some 39 :: some 40 :: some 41 :: some 42 :: some 43 :: some 44 :: some 45 :: some 46 :: some 47 :: some 48 :: some 49 :: none :: []) ([] :: [0] :: [] :: [2] :: [] :: [4] :: [5] :: [] :: [7] :: [8] :: [6, 9] :: [10] :: [3, 11] :: [1, 12] :: [] :: [13, 14] :: []) (false :: false :: false :: false :: false :: false :: false :: false :: false :: false :: false :: false :: false :: false :: false :: true :: []) (true :: true :: true :: true :: true :: true :: true :: true :: true :: true :: true :: true :: true :: true :: true :: true :: []) [] (MStP.is _ :: MStP.is _ :: MStP.is _ :: MStP.is _ :: MStP.is _ :: MStP.is _ :: MStP.is _ :: MStP.is _ :: MStP.is _ :: MStP.is _ :: ⟨fun v _ => ∃ z : Int, v = .int .i64 z, true, fun _ _ _ _ h => h, fun _ _ _ _ _ h => h⟩ :: ⟨fun v _ => ∃ z : Int, v = .int .i64 z, true, fun _ _ _ _ h => h, fun _ _ _ _ _ h => h⟩ :: ⟨fun v _ => ∃ z : Int, v = .int .i64 z, true, fun _ _ _ _ h => h, fun _ _ _ _ _ h => h⟩ :: ⟨fun v _ => ∃ z : Int, v = .int .i64 z, true, fun _ _ _ _ h => h, fun _ _ _ _ _ h => h⟩ :: MStP.is _ :: MStP.is _ :: []) (by kernel_rfl) (by kernel_rfl) (by kernel_rfl) (by kernel_rfl)
        case hobs =>
          refine ⟨fun y w' k hS hj hk hF K hK => ?_, ?_⟩
          · skip -- 0: fieldAddr
            simp only [fillL, cond_true, cond_false, List.getD_cons_zero, List.getD_cons_succ, StP.is, Act.put, List.setIfInBounds_toArray, List.set_cons_zero, List.set_cons_succ, Nat.reduceAdd, MStP.is, Option.isSome_some, Option.isSome_none] at hK ⊢
            simp only [List.sum_cons, List.sum_nil, List.getD_cons_zero, List.getD_cons_succ, Nat.reduceAdd, Nat.add_zero] at hk
            refine rg_yes (by kernel_rfl) ?_
            clear hF
            go_simp
            exact hK _ _ (Ext.refl _) ⟨fun h => hj.1 (by omega), fun h => absurd h (by omega)⟩ rfl
          refine ⟨fun y w' k hS hj hk hF K hK => ?_, ?_⟩
          · skip -- 1: load
            have e35 : y 35 = _ := hF.1
            have e35' := Lib.hid e35
            simp only [fillL, cond_true, cond_false, List.getD_cons_zero, List.getD_cons_succ, StP.is, Act.put, List.setIfInBounds_toArray, List.set_cons_zero, List.set_cons_succ, Nat.reduceAdd, e35, MStP.is, Option.isSome_some, Option.isSome_none] at hK ⊢
            simp only [List.sum_cons, List.sum_nil, List.getD_cons_zero, List.getD_cons_succ, Nat.reduceAdd, Nat.add_zero] at hk
            refine rg_yes (by kernel_rfl) ?_
            clear e35
            clear hF
            have hqb := hj.1 (by omega)
            have c0_ := cell_of_row _ _ 0 _ _ (0, 0) hqb
            have c1_ := cell_of_row _ _ 1 _ _ (0, 0) hqb
            have c2_ := cell_of_row _ _ 2 _ _ (0, 0) hqb
            have c3_ := cell_of_row _ _ 3 _ _ (0, 0) hqb
            have c4_ := cell_of_row _ _ 4 _ _ (0, 0) hqb
            have c5_ := cell_of_row _ _ 5 _ _ (0, 0) hqb
            have lqb := (Array.getElem?_eq_some_iff.1 hqb).1
            have HJ := Lib.hid hj; clear hj hqb
            go_simp
            have hj := HJ.out
            exact hK _ _ (Ext.refl _) ⟨fun h => hj.1 (by omega), fun h => absurd h (by omega)⟩ rfl
          refine ⟨fun y w' k hS hj hk hF K hK => ?_, ?_⟩
          · skip -- 2: fieldAddr
            simp only [fillL, cond_true, cond_false, List.getD_cons_zero, List.getD_cons_succ, StP.is, Act.put, List.setIfInBounds_toArray, List.set_cons_zero, List.set_cons_succ, Nat.reduceAdd, MStP.is, Option.isSome_some, Option.isSome_none] at hK ⊢
            simp only [List.sum_cons, List.sum_nil, List.getD_cons_zero, List.getD_cons_succ, Nat.reduceAdd, Nat.add_zero] at hk
            refine rg_yes (by kernel_rfl) ?_
            clear hF
            go_simp
            exact hK _ _ (Ext.refl _) ⟨fun h => hj.1 (by omega), fun h => absurd h (by omega)⟩ rfl
          refine ⟨fun y w' k hS hj hk hF K hK => ?_, ?_⟩
          · skip -- 3: load
            have e37 : y 37 = _ := hF.1
            have e37' := Lib.hid e37
            simp only [fillL, cond_true, cond_false, List.getD_cons_zero, List.getD_cons_succ, StP.is, Act.put, List.setIfInBounds_toArray, List.set_cons_zero, List.set_cons_succ, Nat.reduceAdd, e37, MStP.is, Option.isSome_some, Option.isSome_none] at hK ⊢
            simp only [List.sum_cons, List.sum_nil, List.getD_cons_zero, List.getD_cons_succ, Nat.reduceAdd, Nat.add_zero] at hk
            refine rg_yes (by kernel_rfl) ?_
            clear e37
            clear hF
            have hqb := hj.1 (by omega)
            have c0_ := cell_of_row _ _ 0 _ _ (0, 0) hqb
            have c1_ := cell_of_row _ _ 1 _ _ (0, 0) hqb
            have c2_ := cell_of_row _ _ 2 _ _ (0, 0) hqb
            have c3_ := cell_of_row _ _ 3 _ _ (0, 0) hqb
            have c4_ := cell_of_row _ _ 4 _ _ (0, 0) hqb
            have c5_ := cell_of_row _ _ 5 _ _ (0, 0) hqb
            have lqb := (Array.getElem?_eq_some_iff.1 hqb).1
            have HJ := Lib.hid hj; clear hj hqb
            go_simp
            have hj := HJ.out
            exact hK _ _ (Ext.refl _) ⟨fun h => hj.1 (by omega), fun h => absurd h (by omega)⟩ rfl
          refine ⟨fun y w' k hS hj hk hF K hK => ?_, ?_⟩
          · skip -- 4: fieldAddr
            simp only [fillL, cond_true, cond_false, List.getD_cons_zero, List.getD_cons_succ, StP.is, Act.put, List.setIfInBounds_toArray, List.set_cons_zero, List.set_cons_succ, Nat.reduceAdd, MStP.is, Option.isSome_some, Option.isSome_none] at hK ⊢
            simp only [List.sum_cons, List.sum_nil, List.getD_cons_zero, List.getD_cons_succ, Nat.reduceAdd, Nat.add_zero] at hk
            refine rg_yes (by kernel_rfl) ?_
            clear hF
            go_simp
            exact hK _ _ (Ext.refl _) ⟨fun h => hj.1 (by omega), fun h => absurd h (by omega)⟩ rfl
          refine ⟨fun y w' k hS hj hk hF K hK => ?_, ?_⟩
          · skip -- 5: load
            have e39 : y 39 = _ := hF.1
            have e39' := Lib.hid e39
            simp only [fillL, cond_true, cond_false, List.getD_cons_zero, List.getD_cons_succ, StP.is, Act.put, List.setIfInBounds_toArray, List.set_cons_zero, List.set_cons_succ, Nat.reduceAdd, e39, MStP.is, Option.isSome_some, Option.isSome_none] at hK ⊢
            simp only [List.sum_cons, List.sum_nil, List.getD_cons_zero, List.getD_cons_succ, Nat.reduceAdd, Nat.add_zero] at hk
            refine rg_yes (by kernel_rfl) ?_
            clear e39
            clear hF
            have hqb := hj.1 (by omega)
            have c0_ := cell_of_row _ _ 0 _ _ (0, 0) hqb
            have c1_ := cell_of_row _ _ 1 _ _ (0, 0) hqb
            have c2_ := cell_of_row _ _ 2 _ _ (0, 0) hqb
            have c3_ := cell_of_row _ _ 3 _ _ (0, 0) hqb
            have c4_ := cell_of_row _ _ 4 _ _ (0, 0) hqb
            have c5_ := cell_of_row _ _ 5 _ _ (0, 0) hqb
            have lqb := (Array.getElem?_eq_some_iff.1 hqb).1
            have HJ := Lib.hid hj; clear hj hqb
            go_simp
            have hj := HJ.out
            exact hK _ _ (Ext.refl _) ⟨fun h => hj.1 (by omega), fun h => absurd h (by omega)⟩ rfl
          refine ⟨fun y w' k hS hj hk hF K hK => ?_, ?_⟩
          · skip -- 6: call
            have e40 : y 40 = _ := hF.1
            have e40' := Lib.hid e40
            simp only [fillL, cond_true, cond_false, List.getD_cons_zero, List.getD_cons_succ, StP.is, Act.put, List.setIfInBounds_toArray, List.set_cons_zero, List.set_cons_succ, Nat.reduceAdd, e40, MStP.is, Option.isSome_some, Option.isSome_none] at hK ⊢
            simp only [List.sum_cons, List.sum_nil, List.getD_cons_zero, List.getD_cons_succ, Nat.reduceAdd, Nat.add_zero] at hk
            refine rg_yes (by kernel_rfl) ?_
            clear e40
            clear hF
            go_simp
            exact hK _ _ (Ext.refl _) ⟨fun h => hj.1 (by omega), fun h => absurd h (by omega)⟩ rfl
          refine ⟨fun y w' k hS hj hk hF K hK => ?_, ?_⟩
          · skip -- 7: fieldAddr
            simp only [fillL, cond_true, cond_false, List.getD_cons_zero, List.getD_cons_succ, StP.is, Act.put, List.setIfInBounds_toArray, List.set_cons_zero, List.set_cons_succ, Nat.reduceAdd, MStP.is, Option.isSome_some, Option.isSome_none] at hK ⊢
            simp only [List.sum_cons, List.sum_nil, List.getD_cons_zero, List.getD_cons_succ, Nat.reduceAdd, Nat.add_zero] at hk
            refine rg_yes (by kernel_rfl) ?_
            clear hF
            go_simp
            exact hK _ _ (Ext.refl _) ⟨fun h => hj.1 (by omega), fun h => absurd h (by omega)⟩ rfl
          refine ⟨fun y w' k hS hj hk hF K hK => ?_, ?_⟩
          · skip -- 8: load
            have e42 : y 42 = _ := hF.1
            have e42' := Lib.hid e42
            simp only [fillL, cond_true, cond_false, List.getD_cons_zero, List.getD_cons_succ, StP.is, Act.put, List.setIfInBounds_toArray, List.set_cons_zero, List.set_cons_succ, Nat.reduceAdd, e42, MStP.is, Option.isSome_some, Option.isSome_none] at hK ⊢
            simp only [List.sum_cons, List.sum_nil, List.getD_cons_zero, List.getD_cons_succ, Nat.reduceAdd, Nat.add_zero] at hk
            refine rg_yes (by kernel_rfl) ?_
            clear e42
            clear hF
            have hqb := hj.1 (by omega)
            have c0_ := cell_of_row _ _ 0 _ _ (0, 0) hqb
            have c1_ := cell_of_row _ _ 1 _ _ (0, 0) hqb
            have c2_ := cell_of_row _ _ 2 _ _ (0, 0) hqb
            have c3_ := cell_of_row _ _ 3 _ _ (0, 0) hqb
            have c4_ := cell_of_row _ _ 4 _ _ (0, 0) hqb
            have c5_ := cell_of_row _ _ 5 _ _ (0, 0) hqb
            have lqb := (Array.getElem?_eq_some_iff.1 hqb).1
            have HJ := Lib.hid hj; clear hj hqb
            go_simp
            have hj := HJ.out
            exact hK _ _ (Ext.refl _) ⟨fun h => hj.1 (by omega), fun h => absurd h (by omega)⟩ rfl
          refine ⟨fun y w' k hS hj hk hF K hK => ?_, ?_⟩
          · skip -- 9: call
            have e43 : y 43 = _ := hF.1
            have e43' := Lib.hid e43
            simp only [fillL, cond_true, cond_false, List.getD_cons_zero, List.getD_cons_succ, StP.is, Act.put, List.setIfInBounds_toArray, List.set_cons_zero, List.set_cons_succ, Nat.reduceAdd, e43, MStP.is, Option.isSome_some, Option.isSome_none] at hK ⊢
            simp only [List.sum_cons, List.sum_nil, List.getD_cons_zero, List.getD_cons_succ, Nat.reduceAdd, Nat.add_zero] at hk
            refine rg_yes (by kernel_rfl) ?_
            clear e43
            clear hF
            go_simp
            exact hK _ _ (Ext.refl _) ⟨fun h => hj.1 (by omega), fun h => absurd h (by omega)⟩ rfl
          refine ⟨fun y w' k hS hj hk hF K hK => ?_, ?_⟩
          · skip -- 10: binOp
            have e41 : y 41 = _ := hF.1
            have e44 : y 44 = _ := hF.2.1
            have e41' := Lib.hid e41
            have e44' := Lib.hid e44
            simp only [fillL, cond_true, cond_false, List.getD_cons_zero, List.getD_cons_succ, StP.is, Act.put, List.setIfInBounds_toArray, List.set_cons_zero, List.set_cons_succ, Nat.reduceAdd, e41, e44, MStP.is, Option.isSome_some, Option.isSome_none] at hK ⊢
            simp only [List.sum_cons, List.sum_nil, List.getD_cons_zero, List.getD_cons_succ, Nat.reduceAdd, Nat.add_zero] at hk
            refine rg_yes (by kernel_rfl) ?_
            clear e41 e44
            clear hF
            go_simp
            try rw [if_neg hpz3]
            try go_simp
            all_goals exact hK _ _ (Ext.refl _) ⟨fun h => hj.1 (by omega), fun h => absurd h (by omega)⟩ ⟨_, rfl⟩
          refine ⟨fun y w' k hS hj hk hF K hK => ?_, ?_⟩
          · skip -- 11: call
            obtain ⟨v10_, e45⟩ := hF.1
            have e45' := Lib.hid e45
            simp only [fillL, cond_true, cond_false, List.getD_cons_zero, List.getD_cons_succ, StP.is, Act.put, List.setIfInBounds_toArray, List.set_cons_zero, List.set_cons_succ, Nat.reduceAdd, e45, MStP.is, Option.isSome_some, Option.isSome_none] at hK ⊢
            simp only [List.sum_cons, List.sum_nil, List.getD_cons_zero, List.getD_cons_succ, Nat.reduceAdd, Nat.add_zero] at hk
            refine rg_yes (by kernel_rfl) ?_
            clear e45
            clear hF
            go_simp
            all_goals exact hK _ _ (Ext.refl _) ⟨fun h => hj.1 (by omega), fun h => absurd h (by omega)⟩ ⟨_, rfl⟩
          refine ⟨fun y w' k hS hj hk hF K hK => ?_, ?_⟩
          · skip -- 12: binOp
            have e38 : y 38 = _ := hF.1
            obtain ⟨v11_, e46⟩ := hF.2.1
            have e38' := Lib.hid e38
            have e46' := Lib.hid e46
            simp only [fillL, cond_true, cond_false, List.getD_cons_zero, List.getD_cons_succ, StP.is, Act.put, List.setIfInBounds_toArray, List.set_cons_zero, List.set_cons_succ, Nat.reduceAdd, e38, e46, MStP.is, Option.isSome_some, Option.isSome_none] at hK ⊢
            simp only [List.sum_cons, List.sum_nil, List.getD_cons_zero, List.getD_cons_succ, Nat.reduceAdd, Nat.add_zero] at hk
            refine rg_yes (by kernel_rfl) ?_
            clear e38 e46
            clear hF
            go_simp
            all_goals exact hK _ _ (Ext.refl _) ⟨fun h => hj.1 (by omega), fun h => absurd h (by omega)⟩ ⟨_, rfl⟩
          refine ⟨fun y w' k hS hj hk hF K hK => ?_, ?_⟩
          · skip -- 13: call
            have e36 : y 36 = _ := hF.1
            obtain ⟨v12_, e47⟩ := hF.2.1
            have e36' := Lib.hid e36
            have e47' := Lib.hid e47
            simp only [fillL, cond_true, cond_false, List.getD_cons_zero, List.getD_cons_succ, StP.is, Act.put, List.setIfInBounds_toArray, List.set_cons_zero, List.set_cons_succ, Nat.reduceAdd, e36, e47, MStP.is, Option.isSome_some, Option.isSome_none] at hK ⊢
            simp only [List.sum_cons, List.sum_nil, List.getD_cons_zero, List.getD_cons_succ, Nat.reduceAdd, Nat.add_zero] at hk
            refine rg_yes (by kernel_rfl) ?_
            clear e36 e47
            clear hF
            go_simp
            all_goals exact hK _ _ (Ext.refl _) ⟨fun h => hj.1 (by omega), fun h => absurd h (by omega)⟩ ⟨_, rfl⟩
          refine ⟨fun y w' k hS hj hk hF K hK => ?_, ?_⟩
          · skip -- 14: fieldAddr
            simp only [fillL, cond_true, cond_false, List.getD_cons_zero, List.getD_cons_succ, StP.is, Act.put, List.setIfInBounds_toArray, List.set_cons_zero, List.set_cons_succ, Nat.reduceAdd, MStP.is, Option.isSome_some, Option.isSome_none] at hK ⊢
            simp only [List.sum_cons, List.sum_nil, List.getD_cons_zero, List.getD_cons_succ, Nat.reduceAdd, Nat.add_zero] at hk
            refine rg_yes (by kernel_rfl) ?_
            clear hF
            go_simp
            exact hK _ _ (Ext.refl _) ⟨fun h => hj.1 (by omega), fun h => absurd h (by omega)⟩ rfl
          refine ⟨fun y w' k hS hj hk hF K hK => ?_, ?_⟩
          · skip -- 15: store
            obtain ⟨v13_, e48⟩ := hF.1
            have e49 : y 49 = _ := hF.2.1
            have e48' := Lib.hid e48
            have e49' := Lib.hid e49
            simp only [fillL, cond_true, cond_false, List.getD_cons_zero, List.getD_cons_succ, StP.is, Act.put, List.setIfInBounds_toArray, List.set_cons_zero, List.set_cons_succ, Nat.reduceAdd, e48, e49, MStP.is, Option.isSome_some, Option.isSome_none] at hK ⊢
            simp only [List.sum_cons, List.sum_nil, List.getD_cons_zero, List.getD_cons_succ, Nat.reduceAdd, Nat.add_zero] at hk
            refine rg_yes (by kernel_rfl) ?_
            clear e48 e49
            clear hF
            have hqb := hj.1 (by omega)
            have c0_ := cell_of_row _ _ 0 _ _ (0, 0) hqb; have f0_ := block_free hqb 0
            have c1_ := cell_of_row _ _ 1 _ _ (0, 0) hqb; have f1_ := block_free hqb 1
            have c2_ := cell_of_row _ _ 2 _ _ (0, 0) hqb; have f2_ := block_free hqb 2
            have c3_ := cell_of_row _ _ 3 _ _ (0, 0) hqb; have f3_ := block_free hqb 3
            have c4_ := cell_of_row _ _ 4 _ _ (0, 0) hqb; have f4_ := block_free hqb 4
            have c5_ := cell_of_row _ _ 5 _ _ (0, 0) hqb; have f5_ := block_free hqb 5
            have lqb := (Array.getElem?_eq_some_iff.1 hqb).1
            have HQB := Lib.hid hqb; clear hj hqb
            go_simp
            exact hK undef _ (Chg.setCell (p := ⟨w.heap.size, 1, none⟩) (Chg.refl _ _) (.inl (by simp)) _) ⟨fun h => absurd h (by omega), fun _ => ⟨_, block_set HQB.out⟩⟩ rfl
          trivial
        case hH => rfl
        case hNS => exact fun _ _ h => Chg.of_below h _
        case hSt => exact fun a b => Chg.trans a b
        case hb => rfl
        case hdrew => exact (Chg.refl _ _).drewN 1
        case hj0 => exact fun y => ⟨fun _ => BX4.out, fun h => absurd h (by omega)⟩
        case hend =>
          intro y_ w5 hS hJ hF
          obtain ⟨z', hbx⟩ := hJ.2 (by decide)
          have CC : Chg (· ∈ [w.heap.size, w.heap.size + 1]) w4 w5 := hS.mono (fun b _ hb => by simp at hb ⊢; exact .inl hb)
          have HB5 := Lib.hid (HB4.out.trans (CC.below (B := w.heap.size) (fun k _ hk => by simp at hk; omega) HB4.out.size))
          have BX5 := Lib.hid hbx
          have RS5 := Lib.hid ((hS.block (w.heap.size + 1) zz4 (by simp)).trans RS4.out)
          have F0_5 := Lib.hid (F0_4.out.chg CC)
          have F1_5 := Lib.hid (F1_4.out.chg CC)
          have F2_5 := Lib.hid (F2_4.out.chg CC)
          have F3_5 := Lib.hid (F3_4.out.chg CC)
          clear hF hJ hS hbx CC HB4 BX4 RS4 zz4 F0_4 F1_4 F2_4 F3_4
          simp only [fillL, cond_true, cond_false, Nat.reduceAdd]
          have zz5 : w.heap.size + 1 < w5.heap.size := (Array.getElem?_eq_some_iff.1 RS5.out).1
          have uc0 := cell_of_row _ _ 0 _ _ (0, 0) BX5.out; have uf0 := block_free BX5.out 0; have ud0 := cell_of_row _ _ 0 _ _ (0, 0) RS5.out; have ug0 := block_free RS5.out 0
          have uc1 := cell_of_row _ _ 1 _ _ (0, 0) BX5.out; have uf1 := block_free BX5.out 1; have ud1 := cell_of_row _ _ 1 _ _ (0, 0) RS5.out; have ug1 := block_free RS5.out 1
          have uc2 := cell_of_row _ _ 2 _ _ (0, 0) BX5.out; have uf2 := block_free BX5.out 2; have ud2 := cell_of_row _ _ 2 _ _ (0, 0) RS5.out; have ug2 := block_free RS5.out 2
          have uc3 := cell_of_row _ _ 3 _ _ (0, 0) BX5.out; have uf3 := block_free BX5.out 3; have ud3 := cell_of_row _ _ 3 _ _ (0, 0) RS5.out; have ug3 := block_free RS5.out 3
          have uc4 := cell_of_row _ _ 4 _ _ (0, 0) BX5.out; have uf4 := block_free BX5.out 4; have ud4 := cell_of_row _ _ 4 _ _ (0, 0) RS5.out; have ug4 := block_free RS5.out 4
          have uc5 := cell_of_row _ _ 5 _ _ (0, 0) BX5.out; have uf5 := block_free BX5.out 5; have ud5 := cell_of_row _ _ 5 _ _ (0, 0) RS5.out; have ug5 := block_free RS5.out 5
          have lb := (Array.getElem?_eq_some_iff.1 BX5.out).1; have lr := (Array.getElem?_eq_some_iff.1 RS5.out).1
          go_wp2_with fail
          refine (l27Way_any (bs ++ [w.heap.size, w.heap.size + 1]) ro z' false A0 n0 c0 x0 A1 n1 c1 x1 A2 n2 c2 x2 A3 n3 c3 x3 _ (fun k hk => by rcases List.mem_append.1 hk with hk | hk <;> first | (have := HBS.out k hk; omega) | (have := HBS.out k hk; simp [World.setCell]; omega) | (simp at hk; omega) | (simp at hk; simp [World.setCell]; omega)) (F0_5.out.chg (cs := [w.heap.size, w.heap.size + 1]) (Chg.refl _ _)) (F1_5.out.chg (cs := [w.heap.size, w.heap.size + 1]) (Chg.refl _ _)) (F2_5.out.chg (cs := [w.heap.size, w.heap.size + 1]) (Chg.refl _ _)) (F3_5.out.chg (cs := [w.heap.size, w.heap.size + 1]) (Chg.refl _ _)) hr (by omega) (by omega) (by omega) (by omega) (by omega)).mono ?_
          rintro e w6 ⟨C1a, m1a, e1a, y1a, C1b, m1b, e1b, y1b, C1c, m1c, e1c, y1c, C1d, m1d, e1d, y1d, rfl, ha_, hb_, hc_, hd_, hw1, hb⟩
          have G1a_6 := Lib.hid ha_
          have G1b_6 := Lib.hid hb_
          have G1c_6 := Lib.hid hc_
          have G1d_6 := Lib.hid hd_
          clear ha_ hb_ hc_ hd_
          have HW1 := Lib.hid hw1; clear hw1
          have CC6 : Chg (· ∈ [w.heap.size, w.heap.size + 1]) w5 w6 := (((Chg.refl _ _)).trans (Chg.of_below hb _))
          have HB6 := Lib.hid (HB5.out.trans (CC6.below (B := w.heap.size) (fun k _ hk => by simp at hk; omega) HB5.out.size))
          have BX6 : Hid (w6.heap[w.heap.size]? = some (.cells #[.int .i64 ro, .int .i64 z', .slice A0 n0 c0, .slice A1 n1 c1, .slice A2 n2 c2, .slice A3 n3 c3] 57 (0, 0))) := Lib.hid ((hb.block _ (by first | omega | (simp [World.setCell]; omega))).trans BX5.out)
          have RS6 : Hid (w6.heap[w.heap.size + 1]? = some (.cells #[.int .i64 0, .int .i64 0, .slice none 0 0, .slice none 0 0, .slice none 0 0, .slice none 0 0] 57 (0, 0))) := Lib.hid ((hb.block _ (by first | omega | (simp [World.setCell]; omega))).trans RS5.out)
          have F0_6 := Lib.hid (F0_5.out.chg CC6)
          have F1_6 := Lib.hid (F1_5.out.chg CC6)
          have F2_6 := Lib.hid (F2_5.out.chg CC6)
          have F3_6 := Lib.hid (F3_5.out.chg CC6)
          clear CC6 hb HB5 BX5 RS5 zz5 F0_5 F1_5 F2_5 F3_5 uc0 uf0 ud0 ug0 uc1 uf1 ud1 ug1 uc2 uf2 ud2 ug2 uc3 uf3 ud3 ug3 uc4 uf4 ud4 ug4 uc5 uf5 ud5 ug5 lb lr
          have zz6 : w.heap.size + 1 < w6.heap.size := (Array.getElem?_eq_some_iff.1 RS6.out).1
          have uc0 := cell_of_row _ _ 0 _ _ (0, 0) BX6.out; have uf0 := block_free BX6.out 0; have ud0 := cell_of_row _ _ 0 _ _ (0, 0) RS6.out; have ug0 := block_free RS6.out 0
          have uc1 := cell_of_row _ _ 1 _ _ (0, 0) BX6.out; have uf1 := block_free BX6.out 1; have ud1 := cell_of_row _ _ 1 _ _ (0, 0) RS6.out; have ug1 := block_free RS6.out 1
          have uc2 := cell_of_row _ _ 2 _ _ (0, 0) BX6.out; have uf2 := block_free BX6.out 2; have ud2 := cell_of_row _ _ 2 _ _ (0, 0) RS6.out; have ug2 := block_free RS6.out 2
          have uc3 := cell_of_row _ _ 3 _ _ (0, 0) BX6.out; have uf3 := block_free BX6.out 3; have ud3 := cell_of_row _ _ 3 _ _ (0, 0) RS6.out; have ug3 := block_free RS6.out 3
          have uc4 := cell_of_row _ _ 4 _ _ (0, 0) BX6.out; have uf4 := block_free BX6.out 4; have ud4 := cell_of_row _ _ 4 _ _ (0, 0) RS6.out; have ug4 := block_free RS6.out 4
          have uc5 := cell_of_row _ _ 5 _ _ (0, 0) BX6.out; have uf5 := block_free BX6.out 5; have ud5 := cell_of_row _ _ 5 _ _ (0, 0) RS6.out; have ug5 := block_free RS6.out 5
          have lb := (Array.getElem?_eq_some_iff.1 BX6.out).1; have lr := (Array.getElem?_eq_some_iff.1 RS6.out).1
          have HHS : hasI y1c row = true := by
            have hw_ := HW1.out
            unfold WayL at hw_
            rcases hw_ with ⟨_, _, _, _, _, e1, _⟩ | ⟨_, ⟨_, _, _, _, ⟨v, e1⟩, _⟩ | ⟨_, _, _, _, e1, _⟩⟩
            · rw [e1]; exact a2
            · rw [e1]; exact hasI_cons a2
            · rw [e1]; exact a2
          have hw_ : (((n0 : Int) + n1 < ro ∧ m1a = n0 ∧ m1b = n1 ∧ m1c = n2 ∧ m1d = n3) ∨ (ro ≤ (n0 : Int) + n1 ∧ ((m1a + 1 = n0 ∧ m1b = n1 ∧ m1c = n2 + 1 ∧ m1d = n3) ∨ (m1a = n0 ∧ m1b + 1 = n1 ∧ m1c = n2 ∧ m1d = n3 + 1)))) := by
            have hw_ := HW1.out
            unfold WayL at hw_
            rcases hw_ with ⟨a, b, c, d, e, _, _⟩ | ⟨a, ⟨b, c, d, e, _, _⟩ | ⟨b, c, d, e, _, _⟩⟩
            · exact .inl ⟨a, b, c, d, e⟩
            · exact .inr ⟨a, .inl ⟨b, c, d, e⟩⟩
            · exact .inr ⟨a, .inr ⟨b, c, d, e⟩⟩
          have HWN := Lib.hid hw_
          have hwb : m1a ≤ 100 ∧ m1b ≤ 100 ∧ m1c ≤ 100 ∧ m1d ≤ 100 := by omega
          obtain ⟨hwb1, hwb2, hwb3, hwb4⟩ := hwb
          clear hw_
          go_wp2_with fail
          refine (l27Less_any C1c m1c e1c y1c row _ (G1c_6.out.chg (cs := [w.heap.size, w.heap.size + 1]) (Chg.setCell (p := ⟨w.heap.size, 5, none⟩) (Chg.setCell (p := ⟨w.heap.size, 4, none⟩) (Chg.setCell (p := ⟨w.heap.size, 3, none⟩) (Chg.setCell (p := ⟨w.heap.size, 2, none⟩) (Chg.setCell (p := ⟨w.heap.size, 1, none⟩) (Chg.setCell (p := ⟨w.heap.size, 0, none⟩) (Chg.refl _ _) (.inl (by simp)) _) (.inl (by simp)) _) (.inl (by simp)) _) (.inl (by simp)) _) (.inl (by simp)) _) (.inl (by simp)) _)).il (by omega)).mono ?_
          rintro e w7 ⟨C2, m2, e2, y2, rfl, hal, hle2, hlt2, hb⟩
          have G2_7 : Hid (AL (bs ++ [w.heap.size, w.heap.size + 1]) w7 C2 m2 e2 y2) := Lib.hid (AL.new hal (fun k hk => by rcases List.mem_append.1 hk with hk | hk <;> first | (have := HBS.out k hk; omega) | (have := HBS.out k hk; simp [World.setCell]; omega) | (simp at hk; omega) | (simp at hk; simp [World.setCell]; omega))); clear hal
          have hlt2 := hlt2 HHS
          have CC7 : Chg (· ∈ [w.heap.size, w.heap.size + 1]) w6 w7 := (((Chg.setCell (p := ⟨w.heap.size, 5, none⟩) (Chg.setCell (p := ⟨w.heap.size, 4, none⟩) (Chg.setCell (p := ⟨w.heap.size, 3, none⟩) (Chg.setCell (p := ⟨w.heap.size, 2, none⟩) (Chg.setCell (p := ⟨w.heap.size, 1, none⟩) (Chg.setCell (p := ⟨w.heap.size, 0, none⟩) (Chg.refl _ _) (.inl (by simp)) _) (.inl (by simp)) _) (.inl (by simp)) _) (.inl (by simp)) _) (.inl (by simp)) _) (.inl (by simp)) _)).trans (Chg.of_below hb _))
          have HB7 := Lib.hid (HB6.out.trans (CC7.below (B := w.heap.size) (fun k _ hk => by simp at hk; omega) HB6.out.size))
          have BX7 : Hid (w7.heap[w.heap.size]? = some (.cells #[.int .i64 ro, .int .i64 z', .slice C1a m1a e1a, .slice C1b m1b e1b, .slice C1c m1c e1c, .slice C1d m1d e1d] 57 (0, 0))) := Lib.hid ((hb.block _ (by first | omega | (simp [World.setCell]; omega))).trans (block_set (o := 5) (v := .slice C1d m1d e1d) (block_set (o := 4) (v := .slice C1c m1c e1c) (block_set (o := 3) (v := .slice C1b m1b e1b) (block_set (o := 2) (v := .slice C1a m1a e1a) (block_set (o := 1) (v := .int .i64 z') (block_set (o := 0) (v := .int .i64 ro) BX6.out)))))))
          have RS7 : Hid (w7.heap[w.heap.size + 1]? = some (.cells #[.int .i64 0, .int .i64 0, .slice none 0 0, .slice none 0 0, .slice none 0 0, .slice none 0 0] 57 (0, 0))) := Lib.hid ((hb.block _ (by first | omega | (simp [World.setCell]; omega))).trans ((heap_far (p := ⟨w.heap.size, 5, none⟩) (by simp)).trans ((heap_far (p := ⟨w.heap.size, 4, none⟩) (by simp)).trans ((heap_far (p := ⟨w.heap.size, 3, none⟩) (by simp)).trans ((heap_far (p := ⟨w.heap.size, 2, none⟩) (by simp)).trans ((heap_far (p := ⟨w.heap.size, 1, none⟩) (by simp)).trans ((heap_far (p := ⟨w.heap.size, 0, none⟩) (by simp)).trans RS6.out)))))))
          have F0_7 := Lib.hid (F0_6.out.chg CC7)
          have F1_7 := Lib.hid (F1_6.out.chg CC7)
          have F2_7 := Lib.hid (F2_6.out.chg CC7)
          have F3_7 := Lib.hid (F3_6.out.chg CC7)
          have G1a_7 := Lib.hid (G1a_6.out.chg CC7)
          have G1b_7 := Lib.hid (G1b_6.out.chg CC7)
          have G1c_7 := Lib.hid (G1c_6.out.chg CC7)
          have G1d_7 := Lib.hid (G1d_6.out.chg CC7)
          clear CC7 hb HB6 BX6 RS6 zz6 F0_6 F1_6 F2_6 F3_6 G1a_6 G1b_6 G1c_6 G1d_6 uc0 uf0 ud0 ug0 uc1 uf1 ud1 ug1 uc2 uf2 ud2 ug2 uc3 uf3 ud3 ug3 uc4 uf4 ud4 ug4 uc5 uf5 ud5 ug5 lb lr
          have zz7 : w.heap.size + 1 < w7.heap.size := (Array.getElem?_eq_some_iff.1 RS7.out).1
          have uc0 := cell_of_row _ _ 0 _ _ (0, 0) BX7.out; have uf0 := block_free BX7.out 0; have ud0 := cell_of_row _ _ 0 _ _ (0, 0) RS7.out; have ug0 := block_free RS7.out 0
          have uc1 := cell_of_row _ _ 1 _ _ (0, 0) BX7.out; have uf1 := block_free BX7.out 1; have ud1 := cell_of_row _ _ 1 _ _ (0, 0) RS7.out; have ug1 := block_free RS7.out 1
          have uc2 := cell_of_row _ _ 2 _ _ (0, 0) BX7.out; have uf2 := block_free BX7.out 2; have ud2 := cell_of_row _ _ 2 _ _ (0, 0) RS7.out; have ug2 := block_free RS7.out 2
          have uc3 := cell_of_row _ _ 3 _ _ (0, 0) BX7.out; have uf3 := block_free BX7.out 3; have ud3 := cell_of_row _ _ 3 _ _ (0, 0) RS7.out; have ug3 := block_free RS7.out 3
          have uc4 := cell_of_row _ _ 4 _ _ (0, 0) BX7.out; have uf4 := block_free BX7.out 4; have ud4 := cell_of_row _ _ 4 _ _ (0, 0) RS7.out; have ug4 := block_free RS7.out 4
          have uc5 := cell_of_row _ _ 5 _ _ (0, 0) BX7.out; have uf5 := block_free BX7.out 5; have ud5 := cell_of_row _ _ 5 _ _ (0, 0) RS7.out; have ug5 := block_free RS7.out 5
          have lb := (Array.getElem?_eq_some_iff.1 BX7.out).1; have lr := (Array.getElem?_eq_some_iff.1 RS7.out).1
          go_wp2_with fail
          refine (l27Front_any C1b m1b e1b y1b row _ (G1b_7.out.chg (cs := [w.heap.size, w.heap.size + 1]) (Chg.setCell (p := ⟨w.heap.size, 4, none⟩) (Chg.refl _ _) (.inl (by simp)) _)).il (by omega)).mono ?_
          rintro e w8 ⟨C3, e3, rfl, hal, hb⟩
          have G3_8 : Hid (AL (bs ++ [w.heap.size, w.heap.size + 1]) w8 C3 (m1b + 1) e3 (row :: y1b)) := Lib.hid (AL.new hal (fun k hk => by rcases List.mem_append.1 hk with hk | hk <;> first | (have := HBS.out k hk; omega) | (have := HBS.out k hk; simp [World.setCell]; omega) | (simp at hk; omega) | (simp at hk; simp [World.setCell]; omega))); clear hal
          have CC8 : Chg (· ∈ [w.heap.size, w.heap.size + 1]) w7 w8 := (((Chg.setCell (p := ⟨w.heap.size, 4, none⟩) (Chg.refl _ _) (.inl (by simp)) _)).trans (Chg.of_below hb _))
          have HB8 := Lib.hid (HB7.out.trans (CC8.below (B := w.heap.size) (fun k _ hk => by simp at hk; omega) HB7.out.size))
          have BX8 : Hid (w8.heap[w.heap.size]? = some (.cells #[.int .i64 ro, .int .i64 z', .slice C1a m1a e1a, .slice C1b m1b e1b, .slice C2 m2 e2, .slice C1d m1d e1d] 57 (0, 0))) := Lib.hid ((hb.block _ (by first | omega | (simp [World.setCell]; omega))).trans (block_set (o := 4) (v := .slice C2 m2 e2) BX7.out))
          have RS8 : Hid (w8.heap[w.heap.size + 1]? = some (.cells #[.int .i64 0, .int .i64 0, .slice none 0 0, .slice none 0 0, .slice none 0 0, .slice none 0 0] 57 (0, 0))) := Lib.hid ((hb.block _ (by first | omega | (simp [World.setCell]; omega))).trans ((heap_far (p := ⟨w.heap.size, 4, none⟩) (by simp)).trans RS7.out))
          have F0_8 := Lib.hid (F0_7.out.chg CC8)
          have F1_8 := Lib.hid (F1_7.out.chg CC8)
          have F2_8 := Lib.hid (F2_7.out.chg CC8)
          have F3_8 := Lib.hid (F3_7.out.chg CC8)
          have G1a_8 := Lib.hid (G1a_7.out.chg CC8)
          have G1b_8 := Lib.hid (G1b_7.out.chg CC8)
          have G1c_8 := Lib.hid (G1c_7.out.chg CC8)
          have G1d_8 := Lib.hid (G1d_7.out.chg CC8)
          have G2_8 := Lib.hid (G2_7.out.chg CC8)
          clear CC8 hb HB7 BX7 RS7 zz7 F0_7 F1_7 F2_7 F3_7 G1a_7 G1b_7 G1c_7 G1d_7 G2_7 uc0 uf0 ud0 ug0 uc1 uf1 ud1 ug1 uc2 uf2 ud2 ug2 uc3 uf3 ud3 ug3 uc4 uf4 ud4 ug4 uc5 uf5 ud5 ug5 lb lr
          have zz8 : w.heap.size + 1 < w8.heap.size := (Array.getElem?_eq_some_iff.1 RS8.out).1
          have uc0 := cell_of_row _ _ 0 _ _ (0, 0) BX8.out; have uf0 := block_free BX8.out 0; have ud0 := cell_of_row _ _ 0 _ _ (0, 0) RS8.out; have ug0 := block_free RS8.out 0
          have uc1 := cell_of_row _ _ 1 _ _ (0, 0) BX8.out; have uf1 := block_free BX8.out 1; have ud1 := cell_of_row _ _ 1 _ _ (0, 0) RS8.out; have ug1 := block_free RS8.out 1
          have uc2 := cell_of_row _ _ 2 _ _ (0, 0) BX8.out; have uf2 := block_free BX8.out 2; have ud2 := cell_of_row _ _ 2 _ _ (0, 0) RS8.out; have ug2 := block_free RS8.out 2
          have uc3 := cell_of_row _ _ 3 _ _ (0, 0) BX8.out; have uf3 := block_free BX8.out 3; have ud3 := cell_of_row _ _ 3 _ _ (0, 0) RS8.out; have ug3 := block_free RS8.out 3
          have uc4 := cell_of_row _ _ 4 _ _ (0, 0) BX8.out; have uf4 := block_free BX8.out 4; have ud4 := cell_of_row _ _ 4 _ _ (0, 0) RS8.out; have ug4 := block_free RS8.out 4
          have uc5 := cell_of_row _ _ 5 _ _ (0, 0) BX8.out; have uf5 := block_free BX8.out 5; have ud5 := cell_of_row _ _ 5 _ _ (0, 0) RS8.out; have ug5 := block_free RS8.out 5
          have lb := (Array.getElem?_eq_some_iff.1 BX8.out).1; have lr := (Array.getElem?_eq_some_iff.1 RS8.out).1
          have HINV : Hid (InvC ro m1a (m1b + 1) m2 m1d) := Lib.hid (by have hw_ := HWN.out; unfold InvC; refine ⟨?_, ?_, ?_⟩ <;> push_cast <;> omega)
          obtain ⟨wF, hwF⟩ : ∃ W, W = (World.setCell (World.setCell (World.setCell (World.setCell (World.setCell (World.setCell (World.setCell w8 ⟨w.heap.size, 3, none⟩ (.slice C3 (m1b + 1) e3)) ⟨w.heap.size + 1, 0, none⟩ (.int .i64 ro)) ⟨w.heap.size + 1, 1, none⟩ (.int .i64 z')) ⟨w.heap.size + 1, 2, none⟩ (.slice C1a m1a e1a)) ⟨w.heap.size + 1, 3, none⟩ (.slice C3 (m1b + 1) e3)) ⟨w.heap.size + 1, 4, none⟩ (.slice C2 m2 e2)) ⟨w.heap.size + 1, 5, none⟩ (.slice C1d m1d e1d)) := ⟨_, rfl⟩
          have CF : Chg (· ∈ [w.heap.size, w.heap.size + 1]) w8 wF := by rw [hwF]; exact (Chg.setCell (p := ⟨w.heap.size + 1, 5, none⟩) (Chg.setCell (p := ⟨w.heap.size + 1, 4, none⟩) (Chg.setCell (p := ⟨w.heap.size + 1, 3, none⟩) (Chg.setCell (p := ⟨w.heap.size + 1, 2, none⟩) (Chg.setCell (p := ⟨w.heap.size + 1, 1, none⟩) (Chg.setCell (p := ⟨w.heap.size + 1, 0, none⟩) (Chg.setCell (p := ⟨w.heap.size, 3, none⟩) (Chg.refl _ _) (.inl (by simp)) _) (.inl (by simp)) _) (.inl (by simp)) _) (.inl (by simp)) _) (.inl (by simp)) _) (.inl (by simp)) _) (.inl (by simp)) _)
          have HBF : Below w.heap.size w wF := HB8.out.trans (CF.below (B := w.heap.size) (fun k _ hk => by simp at hk; omega) HB8.out.size)
          have F0_F := (F0_8.out.chg CF).sub
          have F1_F := (F1_8.out.chg CF).sub
          have F2_F := (F2_8.out.chg CF).sub
          have F3_F := (F3_8.out.chg CF).sub
          have G1a_F := (G1a_8.out.chg CF).sub
          have G1b_F := (G1b_8.out.chg CF).sub
          have G1c_F := (G1c_8.out.chg CF).sub
          have G1d_F := (G1d_8.out.chg CF).sub
          have G2_F := (G2_8.out.chg CF).sub
          have G3_F := (G3_8.out.chg CF).sub
          have RSF : wF.heap[w.heap.size + 1]? = some (.cells #[.int .i64 ro, .int .i64 z', .slice C1a m1a e1a, .slice C3 (m1b + 1) e3, .slice C2 m2 e2, .slice C1d m1d e1d] 57 (0, 0)) := by rw [hwF]; exact (block_set (o := 5) (v := .slice C1d m1d e1d) (block_set (o := 4) (v := .slice C2 m2 e2) (block_set (o := 3) (v := .slice C3 (m1b + 1) e3) (block_set (o := 2) (v := .slice C1a m1a e1a) (block_set (o := 1) (v := .int .i64 z') (block_set (o := 0) (v := .int .i64 ro) ((heap_far (p := ⟨w.heap.size, 3, none⟩) (by simp)).trans RS8.out)))))))
          have r0 := cell_of_row _ _ 0 _ _ (0, 0) RSF
          have r1 := cell_of_row _ _ 1 _ _ (0, 0) RSF
          have r2 := cell_of_row _ _ 2 _ _ (0, 0) RSF
          have r3 := cell_of_row _ _ 3 _ _ (0, 0) RSF
          have r4 := cell_of_row _ _ 4 _ _ (0, 0) RSF
          have r5 := cell_of_row _ _ 5 _ _ (0, 0) RSF
          have HP : Hid (AskP bs ro w (.returned (.tuple #[.agg #[.int .i64 ro, .int .i64 z', .slice C1a m1a e1a, .slice C3 (m1b + 1) e3, .slice C2 m2 e2, .slice C1d m1d e1d], .bool false])) wF) := Lib.hid (⟨z', C1a, m1a, e1a, y1a, C3, (m1b + 1), e3, (row :: y1b), C2, m2, e2, y2, C1d, m1d, e1d, y1d, false, rfl, G1a_F, G3_F, G2_F, G1d_F, HINV.out, HBF⟩)
          have HWF := Lib.hid hwF
          clear hwF CF HBF F0_F F1_F F2_F F3_F G1a_F G1b_F G1c_F G1d_F G2_F G3_F
          go_wp2_with fail
          rw [← HWF.out]
          exact bodyPost_ret (v := .tuple #[.agg #[.int .i64 ro, .int .i64 z', .slice C1a m1a e1a, .slice C3 (m1b + 1) e3, .slice C2 m2 e2, .slice C1d m1d e1d], .bool false]) (by simp [results, Try.results117, go_sem, r0, r1, r2, r3, r4, r5]) rfl HP.out
      case false =>
        go_wp2_with fail
        refine (l5In_any A3 n3 c3 x3 row _ (F3_4.out.chg (cs := [w.heap.size, w.heap.size + 1]) (Chg.refl _ _)).il.ints).mono ?_
        rintro e w5 ⟨rfl, hq⟩
        have hb := hq.nil_below; clear hq
        have CC5 : Chg (· ∈ [w.heap.size, w.heap.size + 1]) w4 w5 := (((Chg.refl _ _)).trans (Chg.of_below hb _))
        have HB5 := Lib.hid (HB4.out.trans (CC5.below (B := w.heap.size) (fun k _ hk => by simp at hk; omega) HB4.out.size))
        have BX5 : Hid (w5.heap[w.heap.size]? = some (.cells #[.int .i64 ro, .int .i64 go, .slice A0 n0 c0, .slice A1 n1 c1, .slice A2 n2 c2, .slice A3 n3 c3] 57 (0, 0))) := Lib.hid ((hb.block _ (by first | omega | (simp [World.setCell]; omega))).trans BX4.out)
        have RS5 : Hid (w5.heap[w.heap.size + 1]? = some (.cells #[.int .i64 0, .int .i64 0, .slice none 0 0, .slice none 0 0, .slice none 0 0, .slice none 0 0] 57 (0, 0))) := Lib.hid ((hb.block _ (by first | omega | (simp [World.setCell]; omega))).trans RS4.out)
        have F0_5 := Lib.hid (F0_4.out.chg CC5)
        have F1_5 := Lib.hid (F1_4.out.chg CC5)
        have F2_5 := Lib.hid (F2_4.out.chg CC5)
        have F3_5 := Lib.hid (F3_4.out.chg CC5)
        clear CC5 hb HB4 BX4 RS4 zz4 F0_4 F1_4 F2_4 F3_4 uc0 uf0 ud0 ug0 uc1 uf1 ud1 ug1 uc2 uf2 ud2 ug2 uc3 uf3 ud3 ug3 uc4 uf4 ud4 ug4 uc5 uf5 ud5 ug5 lb lr
        have zz5 : w.heap.size + 1 < w5.heap.size := (Array.getElem?_eq_some_iff.1 RS5.out).1
        have uc0 := cell_of_row _ _ 0 _ _ (0, 0) BX5.out; have uf0 := block_free BX5.out 0; have ud0 := cell_of_row _ _ 0 _ _ (0, 0) RS5.out; have ug0 := block_free RS5.out 0
        have uc1 := cell_of_row _ _ 1 _ _ (0, 0) BX5.out; have uf1 := block_free BX5.out 1; have ud1 := cell_of_row _ _ 1 _ _ (0, 0) RS5.out; have ug1 := block_free RS5.out 1
        have uc2 := cell_of_row _ _ 2 _ _ (0, 0) BX5.out; have uf2 := block_free BX5.out 2; have ud2 := cell_of_row _ _ 2 _ _ (0, 0) RS5.out; have ug2 := block_free RS5.out 2
        have uc3 := cell_of_row _ _ 3 _ _ (0, 0) BX5.out; have uf3 := block_free BX5.out 3; have ud3 := cell_of_row _ _ 3 _ _ (0, 0) RS5.out; have ug3 := block_free RS5.out 3
        have uc4 := cell_of_row _ _ 4 _ _ (0, 0) BX5.out; have uf4 := block_free BX5.out 4; have ud4 := cell_of_row _ _ 4 _ _ (0, 0) RS5.out; have ug4 := block_free RS5.out 4
        have uc5 := cell_of_row _ _ 5 _ _ (0, 0) BX5.out; have uf5 := block_free BX5.out 5; have ud5 := cell_of_row _ _ 5 _ _ (0, 0) RS5.out; have ug5 := block_free RS5.out 5
        have lb := (Array.getElem?_eq_some_iff.1 BX5.out).1; have lr := (Array.getElem?_eq_some_iff.1 RS5.out).1
        cases a3 : hasI x3 row
        case true =>
          have hp_ : 0 < n3 := by have := hasI_pos a3; rw [q3.out] at this; exact this
          have hpz : ¬ (n3 : Int) = 0 := by omega
          have hpz3 : ¬ n3 = 0 := by omega
          have hpz2 : ((n3 : Int) == 0) = false := by simp; omega
          go_wp2_with fail
          clear uc0 uf0 ud0 ug0 uc1 uf1 ud1 ug1 uc2 uf2 ud2 ug2 uc3 uf3 ud3 ug3 uc4 uf4 ud4 ug4 uc5 uf5 ud5 ug5 lb lr
          apply wp_region_rgz (Chg (· ∈ [w.heap.size])) (Ext) (fun y w' k' => (k' < 1000 → w'.heap[w.heap.size]? = some (.cells #[.int .i64 ro, .int .i64 go, .slice A0 n0 c0, .slice A1 n1 c1, .slice A2 n2 c2, .slice A3 n3 c3] 57 (0, 0))) ∧ (1000 ≤ k' → ∃ z', w'.heap[w.heap.size]? = some (.cells #[.int .i64 ro, .int .i64 z', .slice A0 n0 c0, .slice A1 n1 c1, .slice A2 n2 c2, .slice A3 n3 c3] 57 (0, 0)))) (0 :: 0 :: 0 :: 0 :: 0 :: 0 :: 0 :: 0 :: 0 :: 0 :: 0 :: 0 :: 0 :: 1000 :: []) (1000 :: 1000 :: 1000 :: 1000 :: 1000 :: 1000 :: 1000 :: 1000 :: 1000 :: 1000 :: 1000 :: 1000 :: 1000 :: 1000 :: []) (by kernel_rfl) (false :: false :: false :: false :: false :: false :: false :: false :: false :: false :: false :: false :: false :: false :: false :: false :: false :: false :: false :: false :: false :: false :: false :: false :: false :: false :: false :: false :: false :: false :: false :: false :: false :: false :: false :: false :: false :: false :: false :: false :: false :: false :: false :: false :: false :: false :: false :: false :: false :: false :: false :: false :: false :: false :: false :: false :: false :: false :: false :: false :: false :: false :: false :: false :: false :: false :: false :: false :: true :: true :: true :: true :: true :: true :: true :: true :: true :: true :: true :: true :: true :: false :: false :: false :: false :: false :: false :: false :: false :: false :: false :: false :: false :: false :: false :: false :: false :: false :: false :: false :: false :: false :: false :: false :: false :: false :: false :: false :: false :: false :: false :: false :: false :: false :: false :: false :: false :: false :: false :: false :: false :: false :: false :: false :: false :: false :: false :: false :: false :: false :: false :: false :: false :: false :: false :: false :: false :: false :: false :: false :: false :: false :: false :: false :: false :: false :: false :: false :: false :: false :: false :: false :: false :: false :: false :: false :: false :: false :: false :: false :: false :: []) (some 68 :: some 69 :: some 70 :: some 71 :: some 72 :: some 73 :: some 74 :: some 75 :: some 76 :: some 77 :: some 78 :: some 79 :: some 80 :: none :: []) ([] :: [0] :: [] :: [2] :: [3] :: [] :: [5] :: [6] :: [4, 7] :: [8] :: [1, 9] :: [10] :: [] :: [11, 12] :: []) (false :: false :: false :: false :: false :: false :: false :: false :: false :: false :: false :: false :: false :: true :: []) (true :: true :: true :: true :: true :: true :: true :: true :: true :: true :: true :: true :: true :: true :: []) [] (MStP.is _ :: MStP.is _ :: MStP.is _ :: MStP.is _ :: MStP.is _ :: MStP.is _ :: MStP.is _ :: MStP.is _ :: ⟨fun v _ => ∃ z : Int, v = .int .i64 z, true, fun _ _ _ _ h => h, fun _ _ _ _ _ h => h⟩ :: ⟨fun v _ => ∃ z : Int, v = .int .i64 z, true, fun _ _ _ _ h => h, fun _ _ _ _ _ h => h⟩ :: ⟨fun v _ => ∃ z : Int, v = .int .i64 z, true, fun _ _ _ _ h => h, fun _ _ _ _ _ h => h⟩ :: ⟨fun v _ => ∃ z : Int, v = .int .i64 z, true, fun _ _ _ _ h => h, fun _ _ _ _ _ h => h⟩ :: MStP.is _ :: MStP.is _ :: []) (by kernel_rfl) (by kernel_rfl) (by kernel_rfl) (by kernel_rfl)
          case hobs =>
            refine ⟨fun y w' k hS hj hk hF K hK => ?_, ?_⟩
            · skip -- 0: fieldAddr
              simp only [fillL, cond_true, cond_false, List.getD_cons_zero, List.getD_cons_succ, StP.is, Act.put, List.setIfInBounds_toArray, List.set_cons_zero, List.set_cons_succ, Nat.reduceAdd, MStP.is, Option.isSome_some, Option.isSome_none] at hK ⊢
              simp only [List.sum_cons, List.sum_nil, List.getD_cons_zero, List.getD_cons_succ, Nat.reduceAdd, Nat.add_zero] at hk
              refine rg_yes (by kernel_rfl) ?_
              clear hF
              go_simp
              exact hK _ _ (Ext.refl _) ⟨fun h => hj.1 (by omega), fun h => absurd h (by omega)⟩ rfl
            refine ⟨fun y w' k hS hj hk hF K hK => ?_, ?_⟩
            · skip -- 1: load
              have e68 : y 68 = _ := hF.1
              have e68' := Lib.hid e68
              simp only [fillL, cond_true, cond_false, List.getD_cons_zero, List.getD_cons_succ, StP.is, Act.put, List.setIfInBounds_toArray, List.set_cons_zero, List.set_cons_succ, Nat.reduceAdd, e68, MStP.is, Option.isSome_some, Option.isSome_none] at hK ⊢
              simp only [List.sum_cons, List.sum_nil, List.getD_cons_zero, List.getD_cons_succ, Nat.reduceAdd, Nat.add_zero] at hk
              refine rg_yes (by kernel_rfl) ?_
              clear e68
              clear hF
              have hqb := hj.1 (by omega)
              have c0_ := cell_of_row _ _ 0 _ _ (0, 0) hqb
              have c1_ := cell_of_row _ _ 1 _ _ (0, 0) hqb
              have c2_ := cell_of_row _ _ 2 _ _ (0, 0) hqb
              have c3_ := cell_of_row _ _ 3 _ _ (0, 0) hqb
              have c4_ := cell_of_row _ _ 4 _ _ (0, 0) hqb
              have c5_ := cell_of_row _ _ 5 _ _ (0, 0) hqb
              have lqb := (Array.getElem?_eq_some_iff.1 hqb).1
              have HJ := Lib.hid hj; clear hj hqb
              go_simp
              have hj := HJ.out
              exact hK _ _ (Ext.refl _) ⟨fun h => hj.1 (by omega), fun h => absurd h (by omega)⟩ rfl
            refine ⟨fun y w' k hS hj hk hF K hK => ?_, ?_⟩
            · skip -- 2: fieldAddr
              simp only [fillL, cond_true, cond_false, List.getD_cons_zero, List.getD_cons_succ, StP.is, Act.put, List.setIfInBounds_toArray, List.set_cons_zero, List.set_cons_succ, Nat.reduceAdd, MStP.is, Option.isSome_some, Option.isSome_none] at hK ⊢
              simp only [List.sum_cons, List.sum_nil, List.getD_cons_zero, List.getD_cons_succ, Nat.reduceAdd, Nat.add_zero] at hk
              refine rg_yes (by kernel_rfl) ?_
              clear hF
              go_simp
              exact hK _ _ (Ext.refl _) ⟨fun h => hj.1 (by omega), fun h => absurd h (by omega)⟩ rfl
            refine ⟨fun y w' k hS hj hk hF K hK => ?_, ?_⟩
            · skip -- 3: load
              have e70 : y 70 = _ := hF.1
              have e70' := Lib.hid e70
              simp only [fillL, cond_true, cond_false, List.getD_cons_zero, List.getD_cons_succ, StP.is, Act.put, List.setIfInBounds_toArray, List.set_cons_zero, List.set_cons_succ, Nat.reduceAdd, e70, MStP.is, Option.isSome_some, Option.isSome_none] at hK ⊢
              simp only [List.sum_cons, List.sum_nil, List.getD_cons_zero, List.getD_cons_succ, Nat.reduceAdd, Nat.add_zero] at hk
              refine rg_yes (by kernel_rfl) ?_
              clear e70
              clear hF
              have hqb := hj.1 (by omega)
              have c0_ := cell_of_row _ _ 0 _ _ (0, 0) hqb
              have c1_ := cell_of_row _ _ 1 _ _ (0, 0) hqb
              have c2_ := cell_of_row _ _ 2 _ _ (0, 0) hqb
              have c3_ := cell_of_row _ _ 3 _ _ (0, 0) hqb
              have c4_ := cell_of_row _ _ 4 _ _ (0, 0) hqb
              have c5_ := cell_of_row _ _ 5 _ _ (0, 0) hqb
              have lqb := (Array.getElem?_eq_some_iff.1 hqb).1
              have HJ := Lib.hid hj; clear hj hqb
              go_simp
              have hj := HJ.out
              exact hK _ _ (Ext.refl _) ⟨fun h => hj.1 (by omega), fun h => absurd h (by omega)⟩ rfl
            refine ⟨fun y w' k hS hj hk hF K hK => ?_, ?_⟩
            · skip -- 4: call
              have e71 : y 71 = _ := hF.1
              have e71' := Lib.hid e71
              simp only [fillL, cond_true, cond_false, List.getD_cons_zero, List.getD_cons_succ, StP.is, Act.put, List.setIfInBounds_toArray, List.set_cons_zero, List.set_cons_succ, Nat.reduceAdd, e71, MStP.is, Option.isSome_some, Option.isSome_none] at hK ⊢
              simp only [List.sum_cons, List.sum_nil, List.getD_cons_zero, List.getD_cons_succ, Nat.reduceAdd, Nat.add_zero] at hk
              refine rg_yes (by kernel_rfl) ?_
              clear e71
              clear hF
              go_simp
              exact hK _ _ (Ext.refl _) ⟨fun h => hj.1 (by omega), fun h => absurd h (by omega)⟩ rfl
            refine ⟨fun y w' k hS hj hk hF K hK => ?_, ?_⟩
            · skip -- 5: fieldAddr
              simp only [fillL, cond_true, cond_false, List.getD_cons_zero, List.getD_cons_succ, StP.is, Act.put, List.setIfInBounds_toArray, List.set_cons_zero, List.set_cons_succ, Nat.reduceAdd, MStP.is, Option.isSome_some, Option.isSome_none] at hK ⊢
              simp only [List.sum_cons, List.sum_nil, List.getD_cons_zero, List.getD_cons_succ, Nat.reduceAdd, Nat.add_zero] at hk
              refine rg_yes (by kernel_rfl) ?_
              clear hF
              go_simp
              exact hK _ _ (Ext.refl _) ⟨fun h => hj.1 (by omega), fun h => absurd h (by omega)⟩ rfl
            refine ⟨fun y w' k hS hj hk hF K hK => ?_, ?_⟩
            · skip -- 6: load
              have e73 : y 73 = _ := hF.1
              have e73' := Lib.hid e73
              simp only [fillL, cond_true, cond_false, List.getD_cons_zero, List.getD_cons_succ, StP.is, Act.put, List.setIfInBounds_toArray, List.set_cons_zero, List.set_cons_succ, Nat.reduceAdd, e73, MStP.is, Option.isSome_some, Option.isSome_none] at hK ⊢
              simp only [List.sum_cons, List.sum_nil, List.getD_cons_zero, List.getD_cons_succ, Nat.reduceAdd, Nat.add_zero] at hk
              refine rg_yes (by kernel_rfl) ?_
              clear e73
              clear hF
              have hqb := hj.1 (by omega)
              have c0_ := cell_of_row _ _ 0 _ _ (0, 0) hqb
              have c1_ := cell_of_row _ _ 1 _ _ (0, 0) hqb
              have c2_ := cell_of_row _ _ 2 _ _ (0, 0) hqb
              have c3_ := cell_of_row _ _ 3 _ _ (0, 0) hqb
              have c4_ := cell_of_row _ _ 4 _ _ (0, 0) hqb
              have c5_ := cell_of_row _ _ 5 _ _ (0, 0) hqb
              have lqb := (Array.getElem?_eq_some_iff.1 hqb).1
              have HJ := Lib.hid hj; clear hj hqb
              go_simp
              have hj := HJ.out
              exact hK _ _ (Ext.refl _) ⟨fun h => hj.1 (by omega), fun h => absurd h (by omega)⟩ rfl
            refine ⟨fun y w' k hS hj hk hF K hK => ?_, ?_⟩
            · skip -- 7: call
              have e74 : y 74 = _ := hF.1
              have e74' := Lib.hid e74
              simp only [fillL, cond_true, cond_false, List.getD_cons_zero, List.getD_cons_succ, StP.is, Act.put, List.setIfInBounds_toArray, List.set_cons_zero, List.set_cons_succ, Nat.reduceAdd, e74, MStP.is, Option.isSome_some, Option.isSome_none] at hK ⊢
              simp only [List.sum_cons, List.sum_nil, List.getD_cons_zero, List.getD_cons_succ, Nat.reduceAdd, Nat.add_zero] at hk
              refine rg_yes (by kernel_rfl) ?_
              clear e74
              clear hF
              go_simp
              exact hK _ _ (Ext.refl _) ⟨fun h => hj.1 (by omega), fun h => absurd h (by omega)⟩ rfl
            refine ⟨fun y w' k hS hj hk hF K hK => ?_, ?_⟩
            · skip -- 8: binOp
              have e72 : y 72 = _ := hF.1
              have e75 : y 75 = _ := hF.2.1
              have e72' := Lib.hid e72
              have e75' := Lib.hid e75
              simp only [fillL, cond_true, cond_false, List.getD_cons_zero, List.getD_cons_succ, StP.is, Act.put, List.setIfInBounds_toArray, List.set_cons_zero, List.set_cons_succ, Nat.reduceAdd, e72, e75, MStP.is, Option.isSome_some, Option.isSome_none] at hK ⊢
              simp only [List.sum_cons, List.sum_nil, List.getD_cons_zero, List.getD_cons_succ, Nat.reduceAdd, Nat.add_zero] at hk
              refine rg_yes (by kernel_rfl) ?_
              clear e72 e75
              clear hF
              go_simp
              try rw [if_neg hpz3]
              try go_simp
              all_goals exact hK _ _ (Ext.refl _) ⟨fun h => hj.1 (by omega), fun h => absurd h (by omega)⟩ ⟨_, rfl⟩
            refine ⟨fun y w' k hS hj hk hF K hK => ?_, ?_⟩
            · skip -- 9: call
              obtain ⟨v8_, e76⟩ := hF.1
              have e76' := Lib.hid e76
              simp only [fillL, cond_true, cond_false, List.getD_cons_zero, List.getD_cons_succ, StP.is, Act.put, List.setIfInBounds_toArray, List.set_cons_zero, List.set_cons_succ, Nat.reduceAdd, e76, MStP.is, Option.isSome_some, Option.isSome_none] at hK ⊢
              simp only [List.sum_cons, List.sum_nil, List.getD_cons_zero, List.getD_cons_succ, Nat.reduceAdd, Nat.add_zero] at hk
              refine rg_yes (by kernel_rfl) ?_
              clear e76
              clear hF
              go_simp
              all_goals exact hK _ _ (Ext.refl _) ⟨fun h => hj.1 (by omega), fun h => absurd h (by omega)⟩ ⟨_, rfl⟩
            refine ⟨fun y w' k hS hj hk hF K hK => ?_, ?_⟩
            · skip -- 10: binOp
              have e69 : y 69 = _ := hF.1
              obtain ⟨v9_, e77⟩ := hF.2.1
              have e69' := Lib.hid e69
              have e77' := Lib.hid e77
              simp only [fillL, cond_true, cond_false, List.getD_cons_zero, List.getD_cons_succ, StP.is, Act.put, List.setIfInBounds_toArray, List.set_cons_zero, List.set_cons_succ, Nat.reduceAdd, e69, e77, MStP.is, Option.isSome_some, Option.isSome_none] at hK ⊢
              simp only [List.sum_cons, List.sum_nil, List.getD_cons_zero, List.getD_cons_succ, Nat.reduceAdd, Nat.add_zero] at hk
              refine rg_yes (by kernel_rfl) ?_
              clear e69 e77
              clear hF
              go_simp
              all_goals exact hK _ _ (Ext.refl _) ⟨fun h => hj.1 (by omega), fun h => absurd h (by omega)⟩ ⟨_, rfl⟩
            refine ⟨fun y w' k hS hj hk hF K hK => ?_, ?_⟩
            · skip -- 11: call
              obtain ⟨v10_, e78⟩ := hF.1
              have e78' := Lib.hid e78
              simp only [fillL, cond_true, cond_false, List.getD_cons_zero, List.getD_cons_succ, StP.is, Act.put, List.setIfInBounds_toArray, List.set_cons_zero, List.set_cons_succ, Nat.reduceAdd, e78, MStP.is, Option.isSome_some, Option.isSome_none] at hK ⊢
              simp only [List.sum_cons, List.sum_nil, List.getD_cons_zero, List.getD_cons_succ, Nat.reduceAdd, Nat.add_zero] at hk
              refine rg_yes (by kernel_rfl) ?_
              clear e78
              clear hF
              go_simp
              all_goals exact hK _ _ (Ext.refl _) ⟨fun h => hj.1 (by omega), fun h => absurd h (by omega)⟩ ⟨_, rfl⟩
            refine ⟨fun y w' k hS hj hk hF K hK => ?_, ?_⟩
            · skip -- 12: fieldAddr
              simp only [fillL, cond_true, cond_false, List.getD_cons_zero, List.getD_cons_succ, StP.is, Act.put, List.setIfInBounds_toArray, List.set_cons_zero, List.set_cons_succ, Nat.reduceAdd, MStP.is, Option.isSome_some, Option.isSome_none] at hK ⊢
              simp only [List.sum_cons, List.sum_nil, List.getD_cons_zero, List.getD_cons_succ, Nat.reduceAdd, Nat.add_zero] at hk
              refine rg_yes (by kernel_rfl) ?_
              clear hF
              go_simp
              exact hK _ _ (Ext.refl _) ⟨fun h => hj.1 (by omega), fun h => absurd h (by omega)⟩ rfl
            refine ⟨fun y w' k hS hj hk hF K hK => ?_, ?_⟩
            · skip -- 13: store
              obtain ⟨v11_, e79⟩ := hF.1
              have e80 : y 80 = _ := hF.2.1
              have e79' := Lib.hid e79
              have e80' := Lib.hid e80
              simp only [fillL, cond_true, cond_false, List.getD_cons_zero, List.getD_cons_succ, StP.is, Act.put, List.setIfInBounds_toArray, List.set_cons_zero, List.set_cons_succ, Nat.reduceAdd, e79, e80, MStP.is, Option.isSome_some, Option.isSome_none] at hK ⊢
              simp only [List.sum_cons, List.sum_nil, List.getD_cons_zero, List.getD_cons_succ, Nat.reduceAdd, Nat.add_zero] at hk
              refine rg_yes (by kernel_rfl) ?_
              clear e79 e80
              clear hF
              have hqb := hj.1 (by omega)
              have c0_ := cell_of_row _ _ 0 _ _ (0, 0) hqb; have f0_ := block_free hqb 0
              have c1_ := cell_of_row _ _ 1 _ _ (0, 0) hqb; have f1_ := block_free hqb 1
              have c2_ := cell_of_row _ _ 2 _ _ (0, 0) hqb; have f2_ := block_free hqb 2
              have c3_ := cell_of_row _ _ 3 _ _ (0, 0) hqb; have f3_ := block_free hqb 3
              have c4_ := cell_of_row _ _ 4 _ _ (0, 0) hqb; have f4_ := block_free hqb 4
              have c5_ := cell_of_row _ _ 5 _ _ (0, 0) hqb; have f5_ := block_free hqb 5
              have lqb := (Array.getElem?_eq_some_iff.1 hqb).1
              have HQB := Lib.hid hqb; clear hj hqb
              go_simp
              exact hK undef _ (Chg.setCell (p := ⟨w.heap.size, 1, none⟩) (Chg.refl _ _) (.inl (by simp)) _) ⟨fun h => absurd h (by omega), fun _ => ⟨_, block_set HQB.out⟩⟩ rfl
            trivial
          case hH => rfl
          case hNS => exact fun _ _ h => Chg.of_below h _
          case hSt => exact fun a b => Chg.trans a b
          case hb => rfl
          case hdrew => exact (Chg.refl _ _).drewN 1
          case hj0 => exact fun y => ⟨fun _ => BX5.out, fun h => absurd h (by omega)⟩
          case hend =>
            intro y_ w6 hS hJ hF
            obtain ⟨z', hbx⟩ := hJ.2 (by decide)
            have CC : Chg (· ∈ [w.heap.size, w.heap.size + 1]) w5 w6 := hS.mono (fun b _ hb => by simp at hb ⊢; exact .inl hb)
            have HB6 := Lib.hid (HB5.out.trans (CC.below (B := w.heap.size) (fun k _ hk => by simp at hk; omega) HB5.out.size))
            have BX6 := Lib.hid hbx
            have RS6 := Lib.hid ((hS.block (w.heap.size + 1) zz5 (by simp)).trans RS5.out)
            have F0_6 := Lib.hid (F0_5.out.chg CC)
            have F1_6 := Lib.hid (F1_5.out.chg CC)
            have F2_6 := Lib.hid (F2_5.out.chg CC)
            have F3_6 := Lib.hid (F3_5.out.chg CC)
            clear hF hJ hS hbx CC HB5 BX5 RS5 zz5 F0_5 F1_5 F2_5 F3_5
            simp only [fillL, cond_true, cond_false, Nat.reduceAdd]
            have zz6 : w.heap.size + 1 < w6.heap.size := (Array.getElem?_eq_some_iff.1 RS6.out).1
            have uc0 := cell_of_row _ _ 0 _ _ (0, 0) BX6.out; have uf0 := block_free BX6.out 0; have ud0 := cell_of_row _ _ 0 _ _ (0, 0) RS6.out; have ug0 := block_free RS6.out 0
            have uc1 := cell_of_row _ _ 1 _ _ (0, 0) BX6.out; have uf1 := block_free BX6.out 1; have ud1 := cell_of_row _ _ 1 _ _ (0, 0) RS6.out; have ug1 := block_free RS6.out 1
            have uc2 := cell_of_row _ _ 2 _ _ (0, 0) BX6.out; have uf2 := block_free BX6.out 2; have ud2 := cell_of_row _ _ 2 _ _ (0, 0) RS6.out; have ug2 := block_free RS6.out 2
            have uc3 := cell_of_row _ _ 3 _ _ (0, 0) BX6.out; have uf3 := block_free BX6.out 3; have ud3 := cell_of_row _ _ 3 _ _ (0, 0) RS6.out; have ug3 := block_free RS6.out 3
            have uc4 := cell_of_row _ _ 4 _ _ (0, 0) BX6.out; have uf4 := block_free BX6.out 4; have ud4 := cell_of_row _ _ 4 _ _ (0, 0) RS6.out; have ug4 := block_free RS6.out 4
            have uc5 := cell_of_row _ _ 5 _ _ (0, 0) BX6.out; have uf5 := block_free BX6.out 5; have ud5 := cell_of_row _ _ 5 _ _ (0, 0) RS6.out; have ug5 := block_free RS6.out 5
            have lb := (Array.getElem?_eq_some_iff.1 BX6.out).1; have lr := (Array.getElem?_eq_some_iff.1 RS6.out).1
            go_wp2_with fail
            refine (l27Way_any (bs ++ [w.heap.size, w.heap.size + 1]) ro z' true A0 n0 c0 x0 A1 n1 c1 x1 A2 n2 c2 x2 A3 n3 c3 x3 _ (fun k hk => by rcases List.mem_append.1 hk with hk | hk <;> first | (have := HBS.out k hk; omega) | (have := HBS.out k hk; simp [World.setCell]; omega) | (simp at hk; omega) | (simp at hk; simp [World.setCell]; omega)) (F0_6.out.chg (cs := [w.heap.size, w.heap.size + 1]) (Chg.refl _ _)) (F1_6.out.chg (cs := [w.heap.size, w.heap.size + 1]) (Chg.refl _ _)) (F2_6.out.chg (cs := [w.heap.size, w.heap.size + 1]) (Chg.refl _ _)) (F3_6.out.chg (cs := [w.heap.size, w.heap.size + 1]) (Chg.refl _ _)) hr (by omega) (by omega) (by omega) (by omega) (by omega)).mono ?_
            rintro e w7 ⟨C1a, m1a, e1a, y1a, C1b, m1b, e1b, y1b, C1c, m1c, e1c, y1c, C1d, m1d, e1d, y1d, rfl, ha_, hb_, hc_, hd_, hw1, hb⟩
            have G1a_7 := Lib.hid ha_
            have G1b_7 := Lib.hid hb_
            have G1c_7 := Lib.hid hc_
            have G1d_7 := Lib.hid hd_
            clear ha_ hb_ hc_ hd_
            have HW1 := Lib.hid hw1; clear hw1
            have CC7 : Chg (· ∈ [w.heap.size, w.heap.size + 1]) w6 w7 := (((Chg.refl _ _)).trans (Chg.of_below hb _))
            have HB7 := Lib.hid (HB6.out.trans (CC7.below (B := w.heap.size) (fun k _ hk => by simp at hk; omega) HB6.out.size))
            have BX7 : Hid (w7.heap[w.heap.size]? = some (.cells #[.int .i64 ro, .int .i64 z', .slice A0 n0 c0, .slice A1 n1 c1, .slice A2 n2 c2, .slice A3 n3 c3] 57 (0, 0))) := Lib.hid ((hb.block _ (by first | omega | (simp [World.setCell]; omega))).trans BX6.out)
            have RS7 : Hid (w7.heap[w.heap.size + 1]? = some (.cells #[.int .i64 0, .int .i64 0, .slice none 0 0, .slice none 0 0, .slice none 0 0, .slice none 0 0] 57 (0, 0))) := Lib.hid ((hb.block _ (by first | omega | (simp [World.setCell]; omega))).trans RS6.out)
            have F0_7 := Lib.hid (F0_6.out.chg CC7)
            have F1_7 := Lib.hid (F1_6.out.chg CC7)
            have F2_7 := Lib.hid (F2_6.out.chg CC7)
            have F3_7 := Lib.hid (F3_6.out.chg CC7)
            clear CC7 hb HB6 BX6 RS6 zz6 F0_6 F1_6 F2_6 F3_6 uc0 uf0 ud0 ug0 uc1 uf1 ud1 ug1 uc2 uf2 ud2 ug2 uc3 uf3 ud3 ug3 uc4 uf4 ud4 ug4 uc5 uf5 ud5 ug5 lb lr
            have zz7 : w.heap.size + 1 < w7.heap.size := (Array.getElem?_eq_some_iff.1 RS7.out).1
            have uc0 := cell_of_row _ _ 0 _ _ (0, 0) BX7.out; have uf0 := block_free BX7.out 0; have ud0 := cell_of_row _ _ 0 _ _ (0, 0) RS7.out; have ug0 := block_free RS7.out 0
            have uc1 := cell_of_row _ _ 1 _ _ (0, 0) BX7.out; have uf1 := block_free BX7.out 1; have ud1 := cell_of_row _ _ 1 _ _ (0, 0) RS7.out; have ug1 := block_free RS7.out 1
            have uc2 := cell_of_row _ _ 2 _ _ (0, 0) BX7.out; have uf2 := block_free BX7.out 2; have ud2 := cell_of_row _ _ 2 _ _ (0, 0) RS7.out; have ug2 := block_free RS7.out 2
            have uc3 := cell_of_row _ _ 3 _ _ (0, 0) BX7.out; have uf3 := block_free BX7.out 3; have ud3 := cell_of_row _ _ 3 _ _ (0, 0) RS7.out; have ug3 := block_free RS7.out 3
            have uc4 := cell_of_row _ _ 4 _ _ (0, 0) BX7.out; have uf4 := block_free BX7.out 4; have ud4 := cell_of_row _ _ 4 _ _ (0, 0) RS7.out; have ug4 := block_free RS7.out 4
            have uc5 := cell_of_row _ _ 5 _ _ (0, 0) BX7.out; have uf5 := block_free BX7.out 5; have ud5 := cell_of_row _ _ 5 _ _ (0, 0) RS7.out; have ug5 := block_free RS7.out 5
            have lb := (Array.getElem?_eq_some_iff.1 BX7.out).1; have lr := (Array.getElem?_eq_some_iff.1 RS7.out).1
            have HHS : hasI y1d row = true := by
              have hw_ := HW1.out
              unfold WayL at hw_
              rcases hw_ with ⟨_, _, _, _, _, _, e1⟩ | ⟨_, ⟨_, _, _, _, _, e1⟩ | ⟨_, _, _, _, _, ⟨v, e1⟩⟩⟩
              · rw [e1]; exact a3
              · rw [e1]; exact a3
              · rw [e1]; exact hasI_cons a3
            have hw_ : (((n0 : Int) + n1 < ro ∧ m1a = n0 ∧ m1b = n1 ∧ m1c = n2 ∧ m1d = n3) ∨ (ro ≤ (n0 : Int) + n1 ∧ ((m1a + 1 = n0 ∧ m1b = n1 ∧ m1c = n2 + 1 ∧ m1d = n3) ∨ (m1a = n0 ∧ m1b + 1 = n1 ∧ m1c = n2 ∧ m1d = n3 + 1)))) := by
              have hw_ := HW1.out
              unfold WayL at hw_
              rcases hw_ with ⟨a, b, c, d, e, _, _⟩ | ⟨a, ⟨b, c, d, e, _, _⟩ | ⟨b, c, d, e, _, _⟩⟩
              · exact .inl ⟨a, b, c, d, e⟩
              · exact .inr ⟨a, .inl ⟨b, c, d, e⟩⟩
              · exact .inr ⟨a, .inr ⟨b, c, d, e⟩⟩
            have HWN := Lib.hid hw_
            have hwb : m1a ≤ 100 ∧ m1b ≤ 100 ∧ m1c ≤ 100 ∧ m1d ≤ 100 := by omega
            obtain ⟨hwb1, hwb2, hwb3, hwb4⟩ := hwb
            clear hw_
            go_wp2_with fail
            refine (l27Less_any C1d m1d e1d y1d row _ (G1d_7.out.chg (cs := [w.heap.size, w.heap.size + 1]) (Chg.setCell (p := ⟨w.heap.size, 5, none⟩) (Chg.setCell (p := ⟨w.heap.size, 4, none⟩) (Chg.setCell (p := ⟨w.heap.size, 3, none⟩) (Chg.setCell (p := ⟨w.heap.size, 2, none⟩) (Chg.setCell (p := ⟨w.heap.size, 1, none⟩) (Chg.setCell (p := ⟨w.heap.size, 0, none⟩) (Chg.refl _ _) (.inl (by simp)) _) (.inl (by simp)) _) (.inl (by simp)) _) (.inl (by simp)) _) (.inl (by simp)) _) (.inl (by simp)) _)).il (by omega)).mono ?_
            rintro e w8 ⟨C2, m2, e2, y2, rfl, hal, hle2, hlt2, hb⟩
            have G2_8 : Hid (AL (bs ++ [w.heap.size, w.heap.size + 1]) w8 C2 m2 e2 y2) := Lib.hid (AL.new hal (fun k hk => by rcases List.mem_append.1 hk with hk | hk <;> first | (have := HBS.out k hk; omega) | (have := HBS.out k hk; simp [World.setCell]; omega) | (simp at hk; omega) | (simp at hk; simp [World.setCell]; omega))); clear hal
            have hlt2 := hlt2 HHS
            have CC8 : Chg (· ∈ [w.heap.size, w.heap.size + 1]) w7 w8 := (((Chg.setCell (p := ⟨w.heap.size, 5, none⟩) (Chg.setCell (p := ⟨w.heap.size, 4, none⟩) (Chg.setCell (p := ⟨w.heap.size, 3, none⟩) (Chg.setCell (p := ⟨w.heap.size, 2, none⟩) (Chg.setCell (p := ⟨w.heap.size, 1, none⟩) (Chg.setCell (p := ⟨w.heap.size, 0, none⟩) (Chg.refl _ _) (.inl (by simp)) _) (.inl (by simp)) _) (.inl (by simp)) _) (.inl (by simp)) _) (.inl (by simp)) _) (.inl (by simp)) _)).trans (Chg.of_below hb _))
            have HB8 := Lib.hid (HB7.out.trans (CC8.below (B := w.heap.size) (fun k _ hk => by simp at hk; omega) HB7.out.size))
            have BX8 : Hid (w8.heap[w.heap.size]? = some (.cells #[.int .i64 ro, .int .i64 z', .slice C1a m1a e1a, .slice C1b m1b e1b, .slice C1c m1c e1c, .slice C1d m1d e1d] 57 (0, 0))) := Lib.hid ((hb.block _ (by first | omega | (simp [World.setCell]; omega))).trans (block_set (o := 5) (v := .slice C1d m1d e1d) (block_set (o := 4) (v := .slice C1c m1c e1c) (block_set (o := 3) (v := .slice C1b m1b e1b) (block_set (o := 2) (v := .slice C1a m1a e1a) (block_set (o := 1) (v := .int .i64 z') (block_set (o := 0) (v := .int .i64 ro) BX7.out)))))))
            have RS8 : Hid (w8.heap[w.heap.size + 1]? = some (.cells #[.int .i64 0, .int .i64 0, .slice none 0 0, .slice none 0 0, .slice none 0 0, .slice none 0 0] 57 (0, 0))) := Lib.hid ((hb.block _ (by first | omega | (simp [World.setCell]; omega))).trans ((heap_far (p := ⟨w.heap.size, 5, none⟩) (by simp)).trans ((heap_far (p := ⟨w.heap.size, 4, none⟩) (by simp)).trans ((heap_far (p := ⟨w.heap.size, 3, none⟩) (by simp)).trans ((heap_far (p := ⟨w.heap.size, 2, none⟩) (by simp)).trans ((heap_far (p := ⟨w.heap.size, 1, none⟩) (by simp)).trans ((heap_far (p := ⟨w.heap.size, 0, none⟩) (by simp)).trans RS7.out)))))))
            have F0_8 := Lib.hid (F0_7.out.chg CC8)
            have F1_8 := Lib.hid (F1_7.out.chg CC8)
            have F2_8 := Lib.hid (F2_7.out.chg CC8)
            have F3_8 := Lib.hid (F3_7.out.chg CC8)
            have G1a_8 := Lib.hid (G1a_7.out.chg CC8)
            have G1b_8 := Lib.hid (G1b_7.out.chg CC8)
            have G1c_8 := Lib.hid (G1c_7.out.chg CC8)
            have G1d_8 := Lib.hid (G1d_7.out.chg CC8)
            clear CC8 hb HB7 BX7 RS7 zz7 F0_7 F1_7 F2_7 F3_7 G1a_7 G1b_7 G1c_7 G1d_7 uc0 uf0 ud0 ug0 uc1 uf1 ud1 ug1 uc2 uf2 ud2 ug2 uc3 uf3 ud3 ug3 uc4 uf4 ud4 ug4 uc5 uf5 ud5 ug5 lb lr
            have zz8 : w.heap.size + 1 < w8.heap.size := (Array.getElem?_eq_some_iff.1 RS8.out).1
            have uc0 := cell_of_row _ _ 0 _ _ (0, 0) BX8.out; have uf0 := block_free BX8.out 0; have ud0 := cell_of_row _ _ 0 _ _ (0, 0) RS8.out; have ug0 := block_free RS8.out 0
            have uc1 := cell_of_row _ _ 1 _ _ (0, 0) BX8.out; have uf1 := block_free BX8.out 1; have ud1 := cell_of_row _ _ 1 _ _ (0, 0) RS8.out; have ug1 := block_free RS8.out 1
            have uc2 := cell_of_row _ _ 2 _ _ (0, 0) BX8.out; have uf2 := block_free BX8.out 2; have ud2 := cell_of_row _ _ 2 _ _ (0, 0) RS8.out; have ug2 := block_free RS8.out 2
            have uc3 := cell_of_row _ _ 3 _ _ (0, 0) BX8.out; have uf3 := block_free BX8.out 3; have ud3 := cell_of_row _ _ 3 _ _ (0, 0) RS8.out; have ug3 := block_free RS8.out 3
            have uc4 := cell_of_row _ _ 4 _ _ (0, 0) BX8.out; have uf4 := block_free BX8.out 4; have ud4 := cell_of_row _ _ 4 _ _ (0, 0) RS8.out; have ug4 := block_free RS8.out 4
            have uc5 := cell_of_row _ _ 5 _ _ (0, 0) BX8.out; have uf5 := block_free BX8.out 5; have ud5 := cell_of_row _ _ 5 _ _ (0, 0) RS8.out; have ug5 := block_free RS8.out 5
            have lb := (Array.getElem?_eq_some_iff.1 BX8.out).1; have lr := (Array.getElem?_eq_some_iff.1 RS8.out).1
            go_wp2_with fail
            refine (l27Front_any C1b m1b e1b y1b row _ (G1b_8.out.chg (cs := [w.heap.size, w.heap.size + 1]) (Chg.setCell (p := ⟨w.heap.size, 5, none⟩) (Chg.refl _ _) (.inl (by simp)) _)).il (by omega)).mono ?_
            rintro e w9 ⟨C3, e3, rfl, hal, hb⟩
            have G3_9 : Hid (AL (bs ++ [w.heap.size, w.heap.size + 1]) w9 C3 (m1b + 1) e3 (row :: y1b)) := Lib.hid (AL.new hal (fun k hk => by rcases List.mem_append.1 hk with hk | hk <;> first | (have := HBS.out k hk; omega) | (have := HBS.out k hk; simp [World.setCell]; omega) | (simp at hk; omega) | (simp at hk; simp [World.setCell]; omega))); clear hal
            have CC9 : Chg (· ∈ [w.heap.size, w.heap.size + 1]) w8 w9 := (((Chg.setCell (p := ⟨w.heap.size, 5, none⟩) (Chg.refl _ _) (.inl (by simp)) _)).trans (Chg.of_below hb _))
            have HB9 := Lib.hid (HB8.out.trans (CC9.below (B := w.heap.size) (fun k _ hk => by simp at hk; omega) HB8.out.size))
            have BX9 : Hid (w9.heap[w.heap.size]? = some (.cells #[.int .i64 ro, .int .i64 z', .slice C1a m1a e1a, .slice C1b m1b e1b, .slice C1c m1c e1c, .slice C2 m2 e2] 57 (0, 0))) := Lib.hid ((hb.block _ (by first | omega | (simp [World.setCell]; omega))).trans (block_set (o := 5) (v := .slice C2 m2 e2) BX8.out))
            have RS9 : Hid (w9.heap[w.heap.size + 1]? = some (.cells #[.int .i64 0, .int .i64 0, .slice none 0 0, .slice none 0 0, .slice none 0 0, .slice none 0 0] 57 (0, 0))) := Lib.hid ((hb.block _ (by first | omega | (simp [World.setCell]; omega))).trans ((heap_far (p := ⟨w.heap.size, 5, none⟩) (by simp)).trans RS8.out))
            have F0_9 := Lib.hid (F0_8.out.chg CC9)
            have F1_9 := Lib.hid (F1_8.out.chg CC9)
            have F2_9 := Lib.hid (F2_8.out.chg CC9)
            have F3_9 := Lib.hid (F3_8.out.chg CC9)
            have G1a_9 := Lib.hid (G1a_8.out.chg CC9)
            have G1b_9 := Lib.hid (G1b_8.out.chg CC9)
            have G1c_9 := Lib.hid (G1c_8.out.chg CC9)
            have G1d_9 := Lib.hid (G1d_8.out.chg CC9)
            have G2_9 := Lib.hid (G2_8.out.chg CC9)
            clear CC9 hb HB8 BX8 RS8 zz8 F0_8 F1_8 F2_8 F3_8 G1a_8 G1b_8 G1c_8 G1d_8 G2_8 uc0 uf0 ud0 ug0 uc1 uf1 ud1 ug1 uc2 uf2 ud2 ug2 uc3 uf3 ud3 ug3 uc4 uf4 ud4 ug4 uc5 uf5 ud5 ug5 lb lr
            have zz9 : w.heap.size + 1 < w9.heap.size := (Array.getElem?_eq_some_iff.1 RS9.out).1
            have uc0 := cell_of_row _ _ 0 _ _ (0, 0) BX9.out; have uf0 := block_free BX9.out 0; have ud0 := cell_of_row _ _ 0 _ _ (0, 0) RS9.out; have ug0 := block_free RS9.out 0
            have uc1 := cell_of_row _ _ 1 _ _ (0, 0) BX9.out; have uf1 := block_free BX9.out 1; have ud1 := cell_of_row _ _ 1 _ _ (0, 0) RS9.out; have ug1 := block_free RS9.out 1
            have uc2 := cell_of_row _ _ 2 _ _ (0, 0) BX9.out; have uf2 := block_free BX9.out 2; have ud2 := cell_of_row _ _ 2 _ _ (0, 0) RS9.out; have ug2 := block_free RS9.out 2
            have uc3 := cell_of_row _ _ 3 _ _ (0, 0) BX9.out; have uf3 := block_free BX9.out 3; have ud3 := cell_of_row _ _ 3 _ _ (0, 0) RS9.out; have ug3 := block_free RS9.out 3
            have uc4 := cell_of_row _ _ 4 _ _ (0, 0) BX9.out; have uf4 := block_free BX9.out 4; have ud4 := cell_of_row _ _ 4 _ _ (0, 0) RS9.out; have ug4 := block_free RS9.out 4
            have uc5 := cell_of_row _ _ 5 _ _ (0, 0) BX9.out; have uf5 := block_free BX9.out 5; have ud5 := cell_of_row _ _ 5 _ _ (0, 0) RS9.out; have ug5 := block_free RS9.out 5
            have lb := (Array.getElem?_eq_some_iff.1 BX9.out).1; have lr := (Array.getElem?_eq_some_iff.1 RS9.out).1
            have HINV : Hid (InvC ro m1a (m1b + 1) m1c m2) := Lib.hid (by have hw_ := HWN.out; unfold InvC; refine ⟨?_, ?_, ?_⟩ <;> push_cast <;> omega)
            obtain ⟨wF, hwF⟩ : ∃ W, W = (World.setCell (World.setCell (World.setCell (World.setCell (World.setCell (World.setCell (World.setCell w9 ⟨w.heap.size, 3, none⟩ (.slice C3 (m1b + 1) e3)) ⟨w.heap.size + 1, 0, none⟩ (.int .i64 ro)) ⟨w.heap.size + 1, 1, none⟩ (.int .i64 z')) ⟨w.heap.size + 1, 2, none⟩ (.slice C1a m1a e1a)) ⟨w.heap.size + 1, 3, none⟩ (.slice C3 (m1b + 1) e3)) ⟨w.heap.size + 1, 4, none⟩ (.slice C1c m1c e1c)) ⟨w.heap.size + 1, 5, none⟩ (.slice C2 m2 e2)) := ⟨_, rfl⟩
            have CF : Chg (· ∈ [w.heap.size, w.heap.size + 1]) w9 wF := by rw [hwF]; exact (Chg.setCell (p := ⟨w.heap.size + 1, 5, none⟩) (Chg.setCell (p := ⟨w.heap.size + 1, 4, none⟩) (Chg.setCell (p := ⟨w.heap.size + 1, 3, none⟩) (Chg.setCell (p := ⟨w.heap.size + 1, 2, none⟩) (Chg.setCell (p := ⟨w.heap.size + 1, 1, none⟩) (Chg.setCell (p := ⟨w.heap.size + 1, 0, none⟩) (Chg.setCell (p := ⟨w.heap.size, 3, none⟩) (Chg.refl _ _) (.inl (by simp)) _) (.inl (by simp)) _) (.inl (by simp)) _) (.inl (by simp)) _) (.inl (by simp)) _) (.inl (by simp)) _) (.inl (by simp)) _)
            have HBF : Below w.heap.size w wF := HB9.out.trans (CF.below (B := w.heap.size) (fun k _ hk => by simp at hk; omega) HB9.out.size)
            have F0_F := (F0_9.out.chg CF).sub
            have F1_F := (F1_9.out.chg CF).sub
            have F2_F := (F2_9.out.chg CF).sub
            have F3_F := (F3_9.out.chg CF).sub
            have G1a_F := (G1a_9.out.chg CF).sub
            have G1b_F := (G1b_9.out.chg CF).sub
            have G1c_F := (G1c_9.out.chg CF).sub
            have G1d_F := (G1d_9.out.chg CF).sub
            have G2_F := (G2_9.out.chg CF).sub
            have G3_F := (G3_9.out.chg CF).sub
            have RSF : wF.heap[w.heap.size + 1]? = some (.cells #[.int .i64 ro, .int .i64 z', .slice C1a m1a e1a, .slice C3 (m1b + 1) e3, .slice C1c m1c e1c, .slice C2 m2 e2] 57 (0, 0)) := by rw [hwF]; exact (block_set (o := 5) (v := .slice C2 m2 e2) (block_set (o := 4) (v := .slice C1c m1c e1c) (block_set (o := 3) (v := .slice C3 (m1b + 1) e3) (block_set (o := 2) (v := .slice C1a m1a e1a) (block_set (o := 1) (v := .int .i64 z') (block_set (o := 0) (v := .int .i64 ro) ((heap_far (p := ⟨w.heap.size, 3, none⟩) (by simp)).trans RS9.out)))))))
            have r0 := cell_of_row _ _ 0 _ _ (0, 0) RSF
            have r1 := cell_of_row _ _ 1 _ _ (0, 0) RSF
            have r2 := cell_of_row _ _ 2 _ _ (0, 0) RSF
            have r3 := cell_of_row _ _ 3 _ _ (0, 0) RSF
            have r4 := cell_of_row _ _ 4 _ _ (0, 0) RSF
            have r5 := cell_of_row _ _ 5 _ _ (0, 0) RSF
            have HP : Hid (AskP bs ro w (.returned (.tuple #[.agg #[.int .i64 ro, .int .i64 z', .slice C1a m1a e1a, .slice C3 (m1b + 1) e3, .slice C1c m1c e1c, .slice C2 m2 e2], .bool false])) wF) := Lib.hid (⟨z', C1a, m1a, e1a, y1a, C3, (m1b + 1), e3, (row :: y1b), C1c, m1c, e1c, y1c, C2, m2, e2, y2, false, rfl, G1a_F, G3_F, G1c_F, G2_F, HINV.out, HBF⟩)
            have HWF := Lib.hid hwF
            clear hwF CF HBF F0_F F1_F F2_F F3_F G1a_F G1b_F G1c_F G1d_F G2_F G3_F
            go_wp2_with fail
            rw [← HWF.out]
            exact bodyPost_ret (v := .tuple #[.agg #[.int .i64 ro, .int .i64 z', .slice C1a m1a e1a, .slice C3 (m1b + 1) e3, .slice C1c m1c e1c, .slice C2 m2 e2], .bool false]) (by simp [results, Try.results117, go_sem, r0, r1, r2, r3, r4, r5]) rfl HP.out
        case false =>
          have ns1 : IntKind.i64.wrap ((n0 : Int) + (n2 : Int)) = (n0 : Int) + (n2 : Int) := IntWalk.i64_in _ (by omega)
          have ns2 : IntKind.i64.wrap ((n0 : Int) + (n1 : Int)) = (n0 : Int) + (n1 : Int) := IntWalk.i64_in _ (by omega)
          have ns3 : IntKind.i64.wrap ((n0 : Int) + (n1 : Int) + (n2 : Int)) = (n0 : Int) + (n1 : Int) + (n2 : Int) := IntWalk.i64_in _ (by omega)
          have ns4 : IntKind.i64.wrap ((n0 : Int) + (n1 : Int) + (n2 : Int) + (n3 : Int)) = (n0 : Int) + (n1 : Int) + (n2 : Int) + (n3 : Int) := IntWalk.i64_in _ (by omega)
          have ns5 : IntKind.i64.wrap (2 * ro) = 2 * ro := IntWalk.i64_in _ (by omega)
          by_cases z1 : (n0 : Int) + (n2 : Int) = ro
          · skip
            have d1 : ((n0 : Int) + (n2 : Int) == ro) = true := by simp [z1]
            by_cases z2 : 0 < n2
            · have d2 : (0 : Int) < (n2 : Int) := by omega
              obtain ⟨nm, hnm⟩ : ∃ m, n2 = m + 1 := ⟨n2 - 1, by omega⟩
              have nn : IntKind.i64.wrap ((n2 : Int) - 1) = (nm : Int) := by rw [IntWalk.i64_in _ (by omega)]; omega
              have nm0 : (0 : Int) ≤ (nm : Int) := by omega
              have nmc : (nm : Int) ≤ (c2 : Int) := by omega
              have nmc2 : nm ≤ c2 := by omega
              have HT_5 := Lib.hid (F2_5.out.take (m := nm) (by omega))
              have nmb : nm ≤ 40 := by omega
              have HNM := Lib.hid hnm; clear hnm
              go_wp2_with fail
              refine (l27Way_any (bs ++ [w.heap.size, w.heap.size + 1]) ro go false A0 n0 c0 x0 A1 n1 c1 x1 A2 nm c2 (x2.take nm) A3 n3 c3 x3 _ (fun k hk => by rcases List.mem_append.1 hk with hk | hk <;> first | (have := HBS.out k hk; omega) | (have := HBS.out k hk; simp [World.setCell]; omega) | (simp at hk; omega) | (simp at hk; simp [World.setCell]; omega)) (F0_5.out.chg (cs := [w.heap.size, w.heap.size + 1]) (Chg.setCell (p := ⟨w.heap.size, 4, none⟩) (Chg.refl _ _) (.inl (by simp)) _)) (F1_5.out.chg (cs := [w.heap.size, w.heap.size + 1]) (Chg.setCell (p := ⟨w.heap.size, 4, none⟩) (Chg.refl _ _) (.inl (by simp)) _)) (HT_5.out.chg (cs := [w.heap.size, w.heap.size + 1]) (Chg.setCell (p := ⟨w.heap.size, 4, none⟩) (Chg.refl _ _) (.inl (by simp)) _)) (F3_5.out.chg (cs := [w.heap.size, w.heap.size + 1]) (Chg.setCell (p := ⟨w.heap.size, 4, none⟩) (Chg.refl _ _) (.inl (by simp)) _)) hr (by omega) (by omega) (by omega) (by omega) (by omega)).mono ?_
              rintro e w6 ⟨C1a, m1a, e1a, y1a, C1b, m1b, e1b, y1b, C1c, m1c, e1c, y1c, C1d, m1d, e1d, y1d, rfl, ha_, hb_, hc_, hd_, hw1, hb⟩
              have G1a_6 := Lib.hid ha_
              have G1b_6 := Lib.hid hb_
              have G1c_6 := Lib.hid hc_
              have G1d_6 := Lib.hid hd_
              clear ha_ hb_ hc_ hd_
              have HW1 := Lib.hid hw1; clear hw1
              have CC6 : Chg (· ∈ [w.heap.size, w.heap.size + 1]) w5 w6 := (((Chg.setCell (p := ⟨w.heap.size, 4, none⟩) (Chg.refl _ _) (.inl (by simp)) _)).trans (Chg.of_below hb _))
              have HB6 := Lib.hid (HB5.out.trans (CC6.below (B := w.heap.size) (fun k _ hk => by simp at hk; omega) HB5.out.size))
              have BX6 : Hid (w6.heap[w.heap.size]? = some (.cells #[.int .i64 ro, .int .i64 go, .slice A0 n0 c0, .slice A1 n1 c1, .slice A2 nm c2, .slice A3 n3 c3] 57 (0, 0))) := Lib.hid ((hb.block _ (by first | omega | (simp [World.setCell]; omega))).trans (block_set (o := 4) (v := .slice A2 nm c2) BX5.out))
              have RS6 : Hid (w6.heap[w.heap.size + 1]? = some (.cells #[.int .i64 0, .int .i64 0, .slice none 0 0, .slice none 0 0, .slice none 0 0, .slice none 0 0] 57 (0, 0))) := Lib.hid ((hb.block _ (by first | omega | (simp [World.setCell]; omega))).trans ((heap_far (p := ⟨w.heap.size, 4, none⟩) (by simp)).trans RS5.out))
              have F0_6 := Lib.hid (F0_5.out.chg CC6)
              have F1_6 := Lib.hid (F1_5.out.chg CC6)
              have F2_6 := Lib.hid (F2_5.out.chg CC6)
              have F3_6 := Lib.hid (F3_5.out.chg CC6)
              have HT_6 := Lib.hid (HT_5.out.chg CC6)
              clear CC6 hb HB5 BX5 RS5 zz5 F0_5 F1_5 F2_5 F3_5 HT_5 uc0 uf0 ud0 ug0 uc1 uf1 ud1 ug1 uc2 uf2 ud2 ug2 uc3 uf3 ud3 ug3 uc4 uf4 ud4 ug4 uc5 uf5 ud5 ug5 lb lr
              have zz6 : w.heap.size + 1 < w6.heap.size := (Array.getElem?_eq_some_iff.1 RS6.out).1
              have uc0 := cell_of_row _ _ 0 _ _ (0, 0) BX6.out; have uf0 := block_free BX6.out 0; have ud0 := cell_of_row _ _ 0 _ _ (0, 0) RS6.out; have ug0 := block_free RS6.out 0
              have uc1 := cell_of_row _ _ 1 _ _ (0, 0) BX6.out; have uf1 := block_free BX6.out 1; have ud1 := cell_of_row _ _ 1 _ _ (0, 0) RS6.out; have ug1 := block_free RS6.out 1
              have uc2 := cell_of_row _ _ 2 _ _ (0, 0) BX6.out; have uf2 := block_free BX6.out 2; have ud2 := cell_of_row _ _ 2 _ _ (0, 0) RS6.out; have ug2 := block_free RS6.out 2
              have uc3 := cell_of_row _ _ 3 _ _ (0, 0) BX6.out; have uf3 := block_free BX6.out 3; have ud3 := cell_of_row _ _ 3 _ _ (0, 0) RS6.out; have ug3 := block_free RS6.out 3
              have uc4 := cell_of_row _ _ 4 _ _ (0, 0) BX6.out; have uf4 := block_free BX6.out 4; have ud4 := cell_of_row _ _ 4 _ _ (0, 0) RS6.out; have ug4 := block_free RS6.out 4
              have uc5 := cell_of_row _ _ 5 _ _ (0, 0) BX6.out; have uf5 := block_free BX6.out 5; have ud5 := cell_of_row _ _ 5 _ _ (0, 0) RS6.out; have ug5 := block_free RS6.out 5
              have lb := (Array.getElem?_eq_some_iff.1 BX6.out).1; have lr := (Array.getElem?_eq_some_iff.1 RS6.out).1
              have hw_ : (((n0 : Int) + n1 < ro ∧ m1a = n0 ∧ m1b = n1 ∧ m1c = nm ∧ m1d = n3) ∨ (ro ≤ (n0 : Int) + n1 ∧ ((m1a + 1 = n0 ∧ m1b = n1 ∧ m1c = nm + 1 ∧ m1d = n3) ∨ (m1a = n0 ∧ m1b + 1 = n1 ∧ m1c = nm ∧ m1d = n3 + 1)))) := by
                have hw_ := HW1.out
                unfold WayL at hw_
                rcases hw_ with ⟨a, b, c, d, e, _, _⟩ | ⟨a, ⟨b, c, d, e, _, _⟩ | ⟨b, c, d, e, _, _⟩⟩
                · exact .inl ⟨a, b, c, d, e⟩
                · exact .inr ⟨a, .inl ⟨b, c, d, e⟩⟩
                · exact .inr ⟨a, .inr ⟨b, c, d, e⟩⟩
              have HWN := Lib.hid hw_
              have hwb : m1a ≤ 100 ∧ m1b ≤ 100 ∧ m1c ≤ 100 ∧ m1d ≤ 100 := by omega
              obtain ⟨hwb1, hwb2, hwb3, hwb4⟩ := hwb
              clear hw_
              go_wp2_with fail
              refine (l27Front_any C1a m1a e1a y1a row _ (G1a_6.out.chg (cs := [w.heap.size, w.heap.size + 1]) (Chg.setCell (p := ⟨w.heap.size, 5, none⟩) (Chg.setCell (p := ⟨w.heap.size, 4, none⟩) (Chg.setCell (p := ⟨w.heap.size, 3, none⟩) (Chg.setCell (p := ⟨w.heap.size, 2, none⟩) (Chg.setCell (p := ⟨w.heap.size, 1, none⟩) (Chg.setCell (p := ⟨w.heap.size, 0, none⟩) (Chg.refl _ _) (.inl (by simp)) _) (.inl (by simp)) _) (.inl (by simp)) _) (.inl (by simp)) _) (.inl (by simp)) _) (.inl (by simp)) _)).il (by omega)).mono ?_
              rintro e w7 ⟨C2, e2, rfl, hal, hb⟩
              have G2_7 : Hid (AL (bs ++ [w.heap.size, w.heap.size + 1]) w7 C2 (m1a + 1) e2 (row :: y1a)) := Lib.hid (AL.new hal (fun k hk => by rcases List.mem_append.1 hk with hk | hk <;> first | (have := HBS.out k hk; omega) | (have := HBS.out k hk; simp [World.setCell]; omega) | (simp at hk; omega) | (simp at hk; simp [World.setCell]; omega))); clear hal
              have CC7 : Chg (· ∈ [w.heap.size, w.heap.size + 1]) w6 w7 := (((Chg.setCell (p := ⟨w.heap.size, 5, none⟩) (Chg.setCell (p := ⟨w.heap.size, 4, none⟩) (Chg.setCell (p := ⟨w.heap.size, 3, none⟩) (Chg.setCell (p := ⟨w.heap.size, 2, none⟩) (Chg.setCell (p := ⟨w.heap.size, 1, none⟩) (Chg.setCell (p := ⟨w.heap.size, 0, none⟩) (Chg.refl _ _) (.inl (by simp)) _) (.inl (by simp)) _) (.inl (by simp)) _) (.inl (by simp)) _) (.inl (by simp)) _) (.inl (by simp)) _)).trans (Chg.of_below hb _))
              have HB7 := Lib.hid (HB6.out.trans (CC7.below (B := w.heap.size) (fun k _ hk => by simp at hk; omega) HB6.out.size))
              have BX7 : Hid (w7.heap[w.heap.size]? = some (.cells #[.int .i64 ro, .int .i64 go, .slice C1a m1a e1a, .slice C1b m1b e1b, .slice C1c m1c e1c, .slice C1d m1d e1d] 57 (0, 0))) := Lib.hid ((hb.block _ (by first | omega | (simp [World.setCell]; omega))).trans (block_set (o := 5) (v := .slice C1d m1d e1d) (block_set (o := 4) (v := .slice C1c m1c e1c) (block_set (o := 3) (v := .slice C1b m1b e1b) (block_set (o := 2) (v := .slice C1a m1a e1a) (block_set (o := 1) (v := .int .i64 go) (block_set (o := 0) (v := .int .i64 ro) BX6.out)))))))
              have RS7 : Hid (w7.heap[w.heap.size + 1]? = some (.cells #[.int .i64 0, .int .i64 0, .slice none 0 0, .slice none 0 0, .slice none 0 0, .slice none 0 0] 57 (0, 0))) := Lib.hid ((hb.block _ (by first | omega | (simp [World.setCell]; omega))).trans ((heap_far (p := ⟨w.heap.size, 5, none⟩) (by simp)).trans ((heap_far (p := ⟨w.heap.size, 4, none⟩) (by simp)).trans ((heap_far (p := ⟨w.heap.size, 3, none⟩) (by simp)).trans ((heap_far (p := ⟨w.heap.size, 2, none⟩) (by simp)).trans ((heap_far (p := ⟨w.heap.size, 1, none⟩) (by simp)).trans ((heap_far (p := ⟨w.heap.size, 0, none⟩) (by simp)).trans RS6.out)))))))
              have F0_7 := Lib.hid (F0_6.out.chg CC7)
              have F1_7 := Lib.hid (F1_6.out.chg CC7)
              have F2_7 := Lib.hid (F2_6.out.chg CC7)
              have F3_7 := Lib.hid (F3_6.out.chg CC7)
              have HT_7 := Lib.hid (HT_6.out.chg CC7)
              have G1a_7 := Lib.hid (G1a_6.out.chg CC7)
              have G1b_7 := Lib.hid (G1b_6.out.chg CC7)
              have G1c_7 := Lib.hid (G1c_6.out.chg CC7)
              have G1d_7 := Lib.hid (G1d_6.out.chg CC7)
              clear CC7 hb HB6 BX6 RS6 zz6 F0_6 F1_6 F2_6 F3_6 HT_6 G1a_6 G1b_6 G1c_6 G1d_6 uc0 uf0 ud0 ug0 uc1 uf1 ud1 ug1 uc2 uf2 ud2 ug2 uc3 uf3 ud3 ug3 uc4 uf4 ud4 ug4 uc5 uf5 ud5 ug5 lb lr
              have zz7 : w.heap.size + 1 < w7.heap.size := (Array.getElem?_eq_some_iff.1 RS7.out).1
              have uc0 := cell_of_row _ _ 0 _ _ (0, 0) BX7.out; have uf0 := block_free BX7.out 0; have ud0 := cell_of_row _ _ 0 _ _ (0, 0) RS7.out; have ug0 := block_free RS7.out 0
              have uc1 := cell_of_row _ _ 1 _ _ (0, 0) BX7.out; have uf1 := block_free BX7.out 1; have ud1 := cell_of_row _ _ 1 _ _ (0, 0) RS7.out; have ug1 := block_free RS7.out 1
              have uc2 := cell_of_row _ _ 2 _ _ (0, 0) BX7.out; have uf2 := block_free BX7.out 2; have ud2 := cell_of_row _ _ 2 _ _ (0, 0) RS7.out; have ug2 := block_free RS7.out 2
              have uc3 := cell_of_row _ _ 3 _ _ (0, 0) BX7.out; have uf3 := block_free BX7.out 3; have ud3 := cell_of_row _ _ 3 _ _ (0, 0) RS7.out; have ug3 := block_free RS7.out 3
              have uc4 := cell_of_row _ _ 4 _ _ (0, 0) BX7.out; have uf4 := block_free BX7.out 4; have ud4 := cell_of_row _ _ 4 _ _ (0, 0) RS7.out; have ug4 := block_free RS7.out 4
              have uc5 := cell_of_row _ _ 5 _ _ (0, 0) BX7.out; have uf5 := block_free BX7.out 5; have ud5 := cell_of_row _ _ 5 _ _ (0, 0) RS7.out; have ug5 := block_free RS7.out 5
              have lb := (Array.getElem?_eq_some_iff.1 BX7.out).1; have lr := (Array.getElem?_eq_some_iff.1 RS7.out).1
              have HINV : Hid (InvC ro (m1a + 1) m1b m1c m1d) := Lib.hid (by have hw_ := HWN.out; have hn_ := HNM.out; unfold InvC; refine ⟨?_, ?_, ?_⟩ <;> push_cast <;> omega)
              obtain ⟨wF, hwF⟩ : ∃ W, W = (World.setCell (World.setCell (World.setCell (World.setCell (World.setCell (World.setCell (World.setCell w7 ⟨w.heap.size, 2, none⟩ (.slice C2 (m1a + 1) e2)) ⟨w.heap.size + 1, 0, none⟩ (.int .i64 ro)) ⟨w.heap.size + 1, 1, none⟩ (.int .i64 go)) ⟨w.heap.size + 1, 2, none⟩ (.slice C2 (m1a + 1) e2)) ⟨w.heap.size + 1, 3, none⟩ (.slice C1b m1b e1b)) ⟨w.heap.size + 1, 4, none⟩ (.slice C1c m1c e1c)) ⟨w.heap.size + 1, 5, none⟩ (.slice C1d m1d e1d)) := ⟨_, rfl⟩
              have CF : Chg (· ∈ [w.heap.size, w.heap.size + 1]) w7 wF := by rw [hwF]; exact (Chg.setCell (p := ⟨w.heap.size + 1, 5, none⟩) (Chg.setCell (p := ⟨w.heap.size + 1, 4, none⟩) (Chg.setCell (p := ⟨w.heap.size + 1, 3, none⟩) (Chg.setCell (p := ⟨w.heap.size + 1, 2, none⟩) (Chg.setCell (p := ⟨w.heap.size + 1, 1, none⟩) (Chg.setCell (p := ⟨w.heap.size + 1, 0, none⟩) (Chg.setCell (p := ⟨w.heap.size, 2, none⟩) (Chg.refl _ _) (.inl (by simp)) _) (.inl (by simp)) _) (.inl (by simp)) _) (.inl (by simp)) _) (.inl (by simp)) _) (.inl (by simp)) _) (.inl (by simp)) _)
              have HBF : Below w.heap.size w wF := HB7.out.trans (CF.below (B := w.heap.size) (fun k _ hk => by simp at hk; omega) HB7.out.size)
              have F0_F := (F0_7.out.chg CF).sub
              have F1_F := (F1_7.out.chg CF).sub
              have F2_F := (F2_7.out.chg CF).sub
              have F3_F := (F3_7.out.chg CF).sub
              have HT_F := (HT_7.out.chg CF).sub
              have G1a_F := (G1a_7.out.chg CF).sub
              have G1b_F := (G1b_7.out.chg CF).sub
              have G1c_F := (G1c_7.out.chg CF).sub
              have G1d_F := (G1d_7.out.chg CF).sub
              have G2_F := (G2_7.out.chg CF).sub
              have RSF : wF.heap[w.heap.size + 1]? = some (.cells #[.int .i64 ro, .int .i64 go, .slice C2 (m1a + 1) e2, .slice C1b m1b e1b, .slice C1c m1c e1c, .slice C1d m1d e1d] 57 (0, 0)) := by rw [hwF]; exact (block_set (o := 5) (v := .slice C1d m1d e1d) (block_set (o := 4) (v := .slice C1c m1c e1c) (block_set (o := 3) (v := .slice C1b m1b e1b) (block_set (o := 2) (v := .slice C2 (m1a + 1) e2) (block_set (o := 1) (v := .int .i64 go) (block_set (o := 0) (v := .int .i64 ro) ((heap_far (p := ⟨w.heap.size, 2, none⟩) (by simp)).trans RS7.out)))))))
              have r0 := cell_of_row _ _ 0 _ _ (0, 0) RSF
              have r1 := cell_of_row _ _ 1 _ _ (0, 0) RSF
              have r2 := cell_of_row _ _ 2 _ _ (0, 0) RSF
              have r3 := cell_of_row _ _ 3 _ _ (0, 0) RSF
              have r4 := cell_of_row _ _ 4 _ _ (0, 0) RSF
              have r5 := cell_of_row _ _ 5 _ _ (0, 0) RSF
              have HP : Hid (AskP bs ro w (.returned (.tuple #[.agg #[.int .i64 ro, .int .i64 go, .slice C2 (m1a + 1) e2, .slice C1b m1b e1b, .slice C1c m1c e1c, .slice C1d m1d e1d], .bool false])) wF) := Lib.hid (⟨go, C2, (m1a + 1), e2, (row :: y1a), C1b, m1b, e1b, y1b, C1c, m1c, e1c, y1c, C1d, m1d, e1d, y1d, false, rfl, G2_F, G1b_F, G1c_F, G1d_F, HINV.out, HBF⟩)
              have HWF := Lib.hid hwF
              clear hwF CF HBF F0_F F1_F F2_F F3_F HT_F G1a_F G1b_F G1c_F G1d_F G2_F
              go_wp2_with fail
              rw [← HWF.out]
              exact bodyPost_ret (v := .tuple #[.agg #[.int .i64 ro, .int .i64 go, .slice C2 (m1a + 1) e2, .slice C1b m1b e1b, .slice C1c m1c e1c, .slice C1d m1d e1d], .bool false]) (by simp [results, Try.results117, go_sem, r0, r1, r2, r3, r4, r5]) rfl HP.out
            · have d2 : ¬ (0 : Int) < (n2 : Int) := by omega
              have d2n : ¬ 0 < n2 := by omega
              obtain ⟨nm, hnm⟩ : ∃ m, n0 = m + 1 := ⟨n0 - 1, by omega⟩
              have nn : IntKind.i64.wrap ((n0 : Int) - 1) = (nm : Int) := by rw [IntWalk.i64_in _ (by omega)]; omega
              have nm0 : (0 : Int) ≤ (nm : Int) := by omega
              have nmc : (nm : Int) ≤ (c0 : Int) := by omega
              have nmc2 : nm ≤ c0 := by omega
              have HT_5 := Lib.hid (F0_5.out.take (m := nm) (by omega))
              have nmb : nm ≤ 40 := by omega
              have HNM := Lib.hid hnm; clear hnm
              go_wp2_with fail
              refine (l27Front_any A0 nm c0 (x0.take nm) row _ (HT_5.out.chg (cs := [w.heap.size, w.heap.size + 1]) (Chg.setCell (p := ⟨w.heap.size, 2, none⟩) (Chg.refl _ _) (.inl (by simp)) _)).il (by omega)).mono ?_
              rintro e w6 ⟨C1, e1, rfl, hal, hb⟩
              have G1_6 : Hid (AL (bs ++ [w.heap.size, w.heap.size + 1]) w6 C1 (nm + 1) e1 (row :: (x0.take nm))) := Lib.hid (AL.new hal (fun k hk => by rcases List.mem_append.1 hk with hk | hk <;> first | (have := HBS.out k hk; omega) | (have := HBS.out k hk; simp [World.setCell]; omega) | (simp at hk; omega) | (simp at hk; simp [World.setCell]; omega))); clear hal
              have CC6 : Chg (· ∈ [w.heap.size, w.heap.size + 1]) w5 w6 := (((Chg.setCell (p := ⟨w.heap.size, 2, none⟩) (Chg.refl _ _) (.inl (by simp)) _)).trans (Chg.of_below hb _))
              have HB6 := Lib.hid (HB5.out.trans (CC6.below (B := w.heap.size) (fun k _ hk => by simp at hk; omega) HB5.out.size))
              have BX6 : Hid (w6.heap[w.heap.size]? = some (.cells #[.int .i64 ro, .int .i64 go, .slice A0 nm c0, .slice A1 n1 c1, .slice A2 n2 c2, .slice A3 n3 c3] 57 (0, 0))) := Lib.hid ((hb.block _ (by first | omega | (simp [World.setCell]; omega))).trans (block_set (o := 2) (v := .slice A0 nm c0) BX5.out))
              have RS6 : Hid (w6.heap[w.heap.size + 1]? = some (.cells #[.int .i64 0, .int .i64 0, .slice none 0 0, .slice none 0 0, .slice none 0 0, .slice none 0 0] 57 (0, 0))) := Lib.hid ((hb.block _ (by first | omega | (simp [World.setCell]; omega))).trans ((heap_far (p := ⟨w.heap.size, 2, none⟩) (by simp)).trans RS5.out))
              have F0_6 := Lib.hid (F0_5.out.chg CC6)
              have F1_6 := Lib.hid (F1_5.out.chg CC6)
              have F2_6 := Lib.hid (F2_5.out.chg CC6)
              have F3_6 := Lib.hid (F3_5.out.chg CC6)
              have HT_6 := Lib.hid (HT_5.out.chg CC6)
              clear CC6 hb HB5 BX5 RS5 zz5 F0_5 F1_5 F2_5 F3_5 HT_5 uc0 uf0 ud0 ug0 uc1 uf1 ud1 ug1 uc2 uf2 ud2 ug2 uc3 uf3 ud3 ug3 uc4 uf4 ud4 ug4 uc5 uf5 ud5 ug5 lb lr
              have zz6 : w.heap.size + 1 < w6.heap.size := (Array.getElem?_eq_some_iff.1 RS6.out).1
              have uc0 := cell_of_row _ _ 0 _ _ (0, 0) BX6.out; have uf0 := block_free BX6.out 0; have ud0 := cell_of_row _ _ 0 _ _ (0, 0) RS6.out; have ug0 := block_free RS6.out 0
              have uc1 := cell_of_row _ _ 1 _ _ (0, 0) BX6.out; have uf1 := block_free BX6.out 1; have ud1 := cell_of_row _ _ 1 _ _ (0, 0) RS6.out; have ug1 := block_free RS6.out 1
              have uc2 := cell_of_row _ _ 2 _ _ (0, 0) BX6.out; have uf2 := block_free BX6.out 2; have ud2 := cell_of_row _ _ 2 _ _ (0, 0) RS6.out; have ug2 := block_free RS6.out 2
              have uc3 := cell_of_row _ _ 3 _ _ (0, 0) BX6.out; have uf3 := block_free BX6.out 3; have ud3 := cell_of_row _ _ 3 _ _ (0, 0) RS6.out; have ug3 := block_free RS6.out 3
              have uc4 := cell_of_row _ _ 4 _ _ (0, 0) BX6.out; have uf4 := block_free BX6.out 4; have ud4 := cell_of_row _ _ 4 _ _ (0, 0) RS6.out; have ug4 := block_free RS6.out 4
              have uc5 := cell_of_row _ _ 5 _ _ (0, 0) BX6.out; have uf5 := block_free BX6.out 5; have ud5 := cell_of_row _ _ 5 _ _ (0, 0) RS6.out; have ug5 := block_free RS6.out 5
              have lb := (Array.getElem?_eq_some_iff.1 BX6.out).1; have lr := (Array.getElem?_eq_some_iff.1 RS6.out).1
              have HINV : Hid (InvC ro (nm + 1) n1 n2 n3) := Lib.hid (by have hn_ := HNM.out; unfold InvC; refine ⟨?_, ?_, ?_⟩ <;> push_cast <;> omega)
              obtain ⟨wF, hwF⟩ : ∃ W, W = (World.setCell (World.setCell (World.setCell (World.setCell (World.setCell (World.setCell (World.setCell w6 ⟨w.heap.size, 2, none⟩ (.slice C1 (nm + 1) e1)) ⟨w.heap.size + 1, 0, none⟩ (.int .i64 ro)) ⟨w.heap.size + 1, 1, none⟩ (.int .i64 go)) ⟨w.heap.size + 1, 2, none⟩ (.slice C1 (nm + 1) e1)) ⟨w.heap.size + 1, 3, none⟩ (.slice A1 n1 c1)) ⟨w.heap.size + 1, 4, none⟩ (.slice A2 n2 c2)) ⟨w.heap.size + 1, 5, none⟩ (.slice A3 n3 c3)) := ⟨_, rfl⟩
              have CF : Chg (· ∈ [w.heap.size, w.heap.size + 1]) w6 wF := by rw [hwF]; exact (Chg.setCell (p := ⟨w.heap.size + 1, 5, none⟩) (Chg.setCell (p := ⟨w.heap.size + 1, 4, none⟩) (Chg.setCell (p := ⟨w.heap.size + 1, 3, none⟩) (Chg.setCell (p := ⟨w.heap.size + 1, 2, none⟩) (Chg.setCell (p := ⟨w.heap.size + 1, 1, none⟩) (Chg.setCell (p := ⟨w.heap.size + 1, 0, none⟩) (Chg.setCell (p := ⟨w.heap.size, 2, none⟩) (Chg.refl _ _) (.inl (by simp)) _) (.inl (by simp)) _) (.inl (by simp)) _) (.inl (by simp)) _) (.inl (by simp)) _) (.inl (by simp)) _) (.inl (by simp)) _)
              have HBF : Below w.heap.size w wF := HB6.out.trans (CF.below (B := w.heap.size) (fun k _ hk => by simp at hk; omega) HB6.out.size)
              have F0_F := (F0_6.out.chg CF).sub
              have F1_F := (F1_6.out.chg CF).sub
              have F2_F := (F2_6.out.chg CF).sub
              have F3_F := (F3_6.out.chg CF).sub
              have HT_F := (HT_6.out.chg CF).sub
              have G1_F := (G1_6.out.chg CF).sub
              have RSF : wF.heap[w.heap.size + 1]? = some (.cells #[.int .i64 ro, .int .i64 go, .slice C1 (nm + 1) e1, .slice A1 n1 c1, .slice A2 n2 c2, .slice A3 n3 c3] 57 (0, 0)) := by rw [hwF]; exact (block_set (o := 5) (v := .slice A3 n3 c3) (block_set (o := 4) (v := .slice A2 n2 c2) (block_set (o := 3) (v := .slice A1 n1 c1) (block_set (o := 2) (v := .slice C1 (nm + 1) e1) (block_set (o := 1) (v := .int .i64 go) (block_set (o := 0) (v := .int .i64 ro) ((heap_far (p := ⟨w.heap.size, 2, none⟩) (by simp)).trans RS6.out)))))))
              have r0 := cell_of_row _ _ 0 _ _ (0, 0) RSF
              have r1 := cell_of_row _ _ 1 _ _ (0, 0) RSF
              have r2 := cell_of_row _ _ 2 _ _ (0, 0) RSF
              have r3 := cell_of_row _ _ 3 _ _ (0, 0) RSF
              have r4 := cell_of_row _ _ 4 _ _ (0, 0) RSF
              have r5 := cell_of_row _ _ 5 _ _ (0, 0) RSF
              have HP : Hid (AskP bs ro w (.returned (.tuple #[.agg #[.int .i64 ro, .int .i64 go, .slice C1 (nm + 1) e1, .slice A1 n1 c1, .slice A2 n2 c2, .slice A3 n3 c3], .bool false])) wF) := Lib.hid (⟨go, C1, (nm + 1), e1, (row :: (x0.take nm)), A1, n1, c1, x1, A2, n2, c2, x2, A3, n3, c3, x3, false, rfl, G1_F, F1_F, F2_F, F3_F, HINV.out, HBF⟩)
              have HWF := Lib.hid hwF
              clear hwF CF HBF F0_F F1_F F2_F F3_F HT_F G1_F
              go_wp2_with fail
              rw [← HWF.out]
              exact bodyPost_ret (v := .tuple #[.agg #[.int .i64 ro, .int .i64 go, .slice C1 (nm + 1) e1, .slice A1 n1 c1, .slice A2 n2 c2, .slice A3 n3 c3], .bool false]) (by simp [results, Try.results117, go_sem, r0, r1, r2, r3, r4, r5]) rfl HP.out
          have d1 : ((n0 : Int) + (n2 : Int) == ro) = false := by simpa using z1
          by_cases z3 : (n0 : Int) + (n1 : Int) + (n2 : Int) + (n3 : Int) = 2 * ro
          · have d3 : ((n0 : Int) + (n1 : Int) + (n2 : Int) + (n3 : Int) == 2 * ro) = true := by simp [z3]
            obtain ⟨nm, hnm⟩ : ∃ m, n3 = m + 1 := ⟨n3 - 1, by omega⟩
            have nn : IntKind.i64.wrap ((n3 : Int) - 1) = (nm : Int) := by rw [IntWalk.i64_in _ (by omega)]; omega
            have nm0 : (0 : Int) ≤ (nm : Int) := by omega
            have nmc : (nm : Int) ≤ (c3 : Int) := by omega
            have nmc2 : nm ≤ c3 := by omega
            have HT_5 := Lib.hid (F3_5.out.take (m := nm) (by omega))
            have nmb : nm ≤ 40 := by omega
            have HNM := Lib.hid hnm; clear hnm
            go_wp2_with fail
            refine (l27Way_any (bs ++ [w.heap.size, w.heap.size + 1]) ro go false A0 n0 c0 x0 A1 n1 c1 x1 A2 n2 c2 x2 A3 nm c3 (x3.take nm) _ (fun k hk => by rcases List.mem_append.1 hk with hk | hk <;> first | (have := HBS.out k hk; omega) | (have := HBS.out k hk; simp [World.setCell]; omega) | (simp at hk; omega) | (simp at hk; simp [World.setCell]; omega)) (F0_5.out.chg (cs := [w.heap.size, w.heap.size + 1]) (Chg.setCell (p := ⟨w.heap.size, 5, none⟩) (Chg.refl _ _) (.inl (by simp)) _)) (F1_5.out.chg (cs := [w.heap.size, w.heap.size + 1]) (Chg.setCell (p := ⟨w.heap.size, 5, none⟩) (Chg.refl _ _) (.inl (by simp)) _)) (F2_5.out.chg (cs := [w.heap.size, w.heap.size + 1]) (Chg.setCell (p := ⟨w.heap.size, 5, none⟩) (Chg.refl _ _) (.inl (by simp)) _)) (HT_5.out.chg (cs := [w.heap.size, w.heap.size + 1]) (Chg.setCell (p := ⟨w.heap.size, 5, none⟩) (Chg.refl _ _) (.inl (by simp)) _)) hr (by omega) (by omega) (by omega) (by omega) (by omega)).mono ?_
            rintro e w6 ⟨C1a, m1a, e1a, y1a, C1b, m1b, e1b, y1b, C1c, m1c, e1c, y1c, C1d, m1d, e1d, y1d, rfl, ha_, hb_, hc_, hd_, hw1, hb⟩
            have G1a_6 := Lib.hid ha_
            have G1b_6 := Lib.hid hb_
            have G1c_6 := Lib.hid hc_
            have G1d_6 := Lib.hid hd_
            clear ha_ hb_ hc_ hd_
            have HW1 := Lib.hid hw1; clear hw1
            have CC6 : Chg (· ∈ [w.heap.size, w.heap.size + 1]) w5 w6 := (((Chg.setCell (p := ⟨w.heap.size, 5, none⟩) (Chg.refl _ _) (.inl (by simp)) _)).trans (Chg.of_below hb _))
            have HB6 := Lib.hid (HB5.out.trans (CC6.below (B := w.heap.size) (fun k _ hk => by simp at hk; omega) HB5.out.size))
            have BX6 : Hid (w6.heap[w.heap.size]? = some (.cells #[.int .i64 ro, .int .i64 go, .slice A0 n0 c0, .slice A1 n1 c1, .slice A2 n2 c2, .slice A3 nm c3] 57 (0, 0))) := Lib.hid ((hb.block _ (by first | omega | (simp [World.setCell]; omega))).trans (block_set (o := 5) (v := .slice A3 nm c3) BX5.out))
            have RS6 : Hid (w6.heap[w.heap.size + 1]? = some (.cells #[.int .i64 0, .int .i64 0, .slice none 0 0, .slice none 0 0, .slice none 0 0, .slice none 0 0] 57 (0, 0))) := Lib.hid ((hb.block _ (by first | omega | (simp [World.setCell]; omega))).trans ((heap_far (p := ⟨w.heap.size, 5, none⟩) (by simp)).trans RS5.out))
            have F0_6 := Lib.hid (F0_5.out.chg CC6)
            have F1_6 := Lib.hid (F1_5.out.chg CC6)
            have F2_6 := Lib.hid (F2_5.out.chg CC6)
            have F3_6 := Lib.hid (F3_5.out.chg CC6)
            have HT_6 := Lib.hid (HT_5.out.chg CC6)
            clear CC6 hb HB5 BX5 RS5 zz5 F0_5 F1_5 F2_5 F3_5 HT_5 uc0 uf0 ud0 ug0 uc1 uf1 ud1 ug1 uc2 uf2 ud2 ug2 uc3 uf3 ud3 ug3 uc4 uf4 ud4 ug4 uc5 uf5 ud5 ug5 lb lr
            have zz6 : w.heap.size + 1 < w6.heap.size := (Array.getElem?_eq_some_iff.1 RS6.out).1
            have uc0 := cell_of_row _ _ 0 _ _ (0, 0) BX6.out; have uf0 := block_free BX6.out 0; have ud0 := cell_of_row _ _ 0 _ _ (0, 0) RS6.out; have ug0 := block_free RS6.out 0
            have uc1 := cell_of_row _ _ 1 _ _ (0, 0) BX6.out; have uf1 := block_free BX6.out 1; have ud1 := cell_of_row _ _ 1 _ _ (0, 0) RS6.out; have ug1 := block_free RS6.out 1
            have uc2 := cell_of_row _ _ 2 _ _ (0, 0) BX6.out; have uf2 := block_free BX6.out 2; have ud2 := cell_of_row _ _ 2 _ _ (0, 0) RS6.out; have ug2 := block_free RS6.out 2
            have uc3 := cell_of_row _ _ 3 _ _ (0, 0) BX6.out; have uf3 := block_free BX6.out 3; have ud3 := cell_of_row _ _ 3 _ _ (0, 0) RS6.out; have ug3 := block_free RS6.out 3
            have uc4 := cell_of_row _ _ 4 _ _ (0, 0) BX6.out; have uf4 := block_free BX6.out 4; have ud4 := cell_of_row _ _ 4 _ _ (0, 0) RS6.out; have ug4 := block_free RS6.out 4
            have uc5 := cell_of_row _ _ 5 _ _ (0, 0) BX6.out; have uf5 := block_free BX6.out 5; have ud5 := cell_of_row _ _ 5 _ _ (0, 0) RS6.out; have ug5 := block_free RS6.out 5
            have lb := (Array.getElem?_eq_some_iff.1 BX6.out).1; have lr := (Array.getElem?_eq_some_iff.1 RS6.out).1
            have hw_ : (((n0 : Int) + n1 < ro ∧ m1a = n0 ∧ m1b = n1 ∧ m1c = n2 ∧ m1d = nm) ∨ (ro ≤ (n0 : Int) + n1 ∧ ((m1a + 1 = n0 ∧ m1b = n1 ∧ m1c = n2 + 1 ∧ m1d = nm) ∨ (m1a = n0 ∧ m1b + 1 = n1 ∧ m1c = n2 ∧ m1d = nm + 1)))) := by
              have hw_ := HW1.out
              unfold WayL at hw_
              rcases hw_ with ⟨a, b, c, d, e, _, _⟩ | ⟨a, ⟨b, c, d, e, _, _⟩ | ⟨b, c, d, e, _, _⟩⟩
              · exact .inl ⟨a, b, c, d, e⟩
              · exact .inr ⟨a, .inl ⟨b, c, d, e⟩⟩
              · exact .inr ⟨a, .inr ⟨b, c, d, e⟩⟩
            have HWN := Lib.hid hw_
            have hwb : m1a ≤ 100 ∧ m1b ≤ 100 ∧ m1c ≤ 100 ∧ m1d ≤ 100 := by omega
            obtain ⟨hwb1, hwb2, hwb3, hwb4⟩ := hwb
            clear hw_
            go_wp2_with fail
            refine (l27Front_any C1a m1a e1a y1a row _ (G1a_6.out.chg (cs := [w.heap.size, w.heap.size + 1]) (Chg.setCell (p := ⟨w.heap.size, 5, none⟩) (Chg.setCell (p := ⟨w.heap.size, 4, none⟩) (Chg.setCell (p := ⟨w.heap.size, 3, none⟩) (Chg.setCell (p := ⟨w.heap.size, 2, none⟩) (Chg.setCell (p := ⟨w.heap.size, 1, none⟩) (Chg.setCell (p := ⟨w.heap.size, 0, none⟩) (Chg.refl _ _) (.inl (by simp)) _) (.inl (by simp)) _) (.inl (by simp)) _) (.inl (by simp)) _) (.inl (by simp)) _) (.inl (by simp)) _)).il (by omega)).mono ?_
            rintro e w7 ⟨C2, e2, rfl, hal, hb⟩
            have G2_7 : Hid (AL (bs ++ [w.heap.size, w.heap.size + 1]) w7 C2 (m1a + 1) e2 (row :: y1a)) := Lib.hid (AL.new hal (fun k hk => by rcases List.mem_append.1 hk with hk | hk <;> first | (have := HBS.out k hk; omega) | (have := HBS.out k hk; simp [World.setCell]; omega) | (simp at hk; omega) | (simp at hk; simp [World.setCell]; omega))); clear hal
            have CC7 : Chg (· ∈ [w.heap.size, w.heap.size + 1]) w6 w7 := (((Chg.setCell (p := ⟨w.heap.size, 5, none⟩) (Chg.setCell (p := ⟨w.heap.size, 4, none⟩) (Chg.setCell (p := ⟨w.heap.size, 3, none⟩) (Chg.setCell (p := ⟨w.heap.size, 2, none⟩) (Chg.setCell (p := ⟨w.heap.size, 1, none⟩) (Chg.setCell (p := ⟨w.heap.size, 0, none⟩) (Chg.refl _ _) (.inl (by simp)) _) (.inl (by simp)) _) (.inl (by simp)) _) (.inl (by simp)) _) (.inl (by simp)) _) (.inl (by simp)) _)).trans (Chg.of_below hb _))
            have HB7 := Lib.hid (HB6.out.trans (CC7.below (B := w.heap.size) (fun k _ hk => by simp at hk; omega) HB6.out.size))
            have BX7 : Hid (w7.heap[w.heap.size]? = some (.cells #[.int .i64 ro, .int .i64 go, .slice C1a m1a e1a, .slice C1b m1b e1b, .slice C1c m1c e1c, .slice C1d m1d e1d] 57 (0, 0))) := Lib.hid ((hb.block _ (by first | omega | (simp [World.setCell]; omega))).trans (block_set (o := 5) (v := .slice C1d m1d e1d) (block_set (o := 4) (v := .slice C1c m1c e1c) (block_set (o := 3) (v := .slice C1b m1b e1b) (block_set (o := 2) (v := .slice C1a m1a e1a) (block_set (o := 1) (v := .int .i64 go) (block_set (o := 0) (v := .int .i64 ro) BX6.out)))))))
            have RS7 : Hid (w7.heap[w.heap.size + 1]? = some (.cells #[.int .i64 0, .int .i64 0, .slice none 0 0, .slice none 0 0, .slice none 0 0, .slice none 0 0] 57 (0, 0))) := Lib.hid ((hb.block _ (by first | omega | (simp [World.setCell]; omega))).trans ((heap_far (p := ⟨w.heap.size, 5, none⟩) (by simp)).trans ((heap_far (p := ⟨w.heap.size, 4, none⟩) (by simp)).trans ((heap_far (p := ⟨w.heap.size, 3, none⟩) (by simp)).trans ((heap_far (p := ⟨w.heap.size, 2, none⟩) (by simp)).trans ((heap_far (p := ⟨w.heap.size, 1, none⟩) (by simp)).trans ((heap_far (p := ⟨w.heap.size, 0, none⟩) (by simp)).trans RS6.out)))))))
            have F0_7 := Lib.hid (F0_6.out.chg CC7)
            have F1_7 := Lib.hid (F1_6.out.chg CC7)
            have F2_7 := Lib.hid (F2_6.out.chg CC7)
            have F3_7 := Lib.hid (F3_6.out.chg CC7)
            have HT_7 := Lib.hid (HT_6.out.chg CC7)
            have G1a_7 := Lib.hid (G1a_6.out.chg CC7)
            have G1b_7 := Lib.hid (G1b_6.out.chg CC7)
            have G1c_7 := Lib.hid (G1c_6.out.chg CC7)
            have G1d_7 := Lib.hid (G1d_6.out.chg CC7)
            clear CC7 hb HB6 BX6 RS6 zz6 F0_6 F1_6 F2_6 F3_6 HT_6 G1a_6 G1b_6 G1c_6 G1d_6 uc0 uf0 ud0 ug0 uc1 uf1 ud1 ug1 uc2 uf2 ud2 ug2 uc3 uf3 ud3 ug3 uc4 uf4 ud4 ug4 uc5 uf5 ud5 ug5 lb lr
            have zz7 : w.heap.size + 1 < w7.heap.size := (Array.getElem?_eq_some_iff.1 RS7.out).1
            have uc0 := cell_of_row _ _ 0 _ _ (0, 0) BX7.out; have uf0 := block_free BX7.out 0; have ud0 := cell_of_row _ _ 0 _ _ (0, 0) RS7.out; have ug0 := block_free RS7.out 0
            have uc1 := cell_of_row _ _ 1 _ _ (0, 0) BX7.out; have uf1 := block_free BX7.out 1; have ud1 := cell_of_row _ _ 1 _ _ (0, 0) RS7.out; have ug1 := block_free RS7.out 1
            have uc2 := cell_of_row _ _ 2 _ _ (0, 0) BX7.out; have uf2 := block_free BX7.out 2; have ud2 := cell_of_row _ _ 2 _ _ (0, 0) RS7.out; have ug2 := block_free RS7.out 2
            have uc3 := cell_of_row _ _ 3 _ _ (0, 0) BX7.out; have uf3 := block_free BX7.out 3; have ud3 := cell_of_row _ _ 3 _ _ (0, 0) RS7.out; have ug3 := block_free RS7.out 3
            have uc4 := cell_of_row _ _ 4 _ _ (0, 0) BX7.out; have uf4 := block_free BX7.out 4; have ud4 := cell_of_row _ _ 4 _ _ (0, 0) RS7.out; have ug4 := block_free RS7.out 4
            have uc5 := cell_of_row _ _ 5 _ _ (0, 0) BX7.out; have uf5 := block_free BX7.out 5; have ud5 := cell_of_row _ _ 5 _ _ (0, 0) RS7.out; have ug5 := block_free RS7.out 5
            have lb := (Array.getElem?_eq_some_iff.1 BX7.out).1; have lr := (Array.getElem?_eq_some_iff.1 RS7.out).1
            have HINV : Hid (InvC ro (m1a + 1) m1b m1c m1d) := Lib.hid (by have hw_ := HWN.out; have hn_ := HNM.out; unfold InvC; refine ⟨?_, ?_, ?_⟩ <;> push_cast <;> omega)
            obtain ⟨wF, hwF⟩ : ∃ W, W = (World.setCell (World.setCell (World.setCell (World.setCell (World.setCell (World.setCell (World.setCell w7 ⟨w.heap.size, 2, none⟩ (.slice C2 (m1a + 1) e2)) ⟨w.heap.size + 1, 0, none⟩ (.int .i64 ro)) ⟨w.heap.size + 1, 1, none⟩ (.int .i64 go)) ⟨w.heap.size + 1, 2, none⟩ (.slice C2 (m1a + 1) e2)) ⟨w.heap.size + 1, 3, none⟩ (.slice C1b m1b e1b)) ⟨w.heap.size + 1, 4, none⟩ (.slice C1c m1c e1c)) ⟨w.heap.size + 1, 5, none⟩ (.slice C1d m1d e1d)) := ⟨_, rfl⟩
            have CF : Chg (· ∈ [w.heap.size, w.heap.size + 1]) w7 wF := by rw [hwF]; exact (Chg.setCell (p := ⟨w.heap.size + 1, 5, none⟩) (Chg.setCell (p := ⟨w.heap.size + 1, 4, none⟩) (Chg.setCell (p := ⟨w.heap.size + 1, 3, none⟩) (Chg.setCell (p := ⟨w.heap.size + 1, 2, none⟩) (Chg.setCell (p := ⟨w.heap.size + 1, 1, none⟩) (Chg.setCell (p := ⟨w.heap.size + 1, 0, none⟩) (Chg.setCell (p := ⟨w.heap.size, 2, none⟩) (Chg.refl _ _) (.inl (by simp)) _) (.inl (by simp)) _) (.inl (by simp)) _) (.inl (by simp)) _) (.inl (by simp)) _) (.inl (by simp)) _) (.inl (by simp)) _)
            have HBF : Below w.heap.size w wF := HB7.out.trans (CF.below (B := w.heap.size) (fun k _ hk => by simp at hk; omega) HB7.out.size)
            have F0_F := (F0_7.out.chg CF).sub
            have F1_F := (F1_7.out.chg CF).sub
            have F2_F := (F2_7.out.chg CF).sub
            have F3_F := (F3_7.out.chg CF).sub
            have HT_F := (HT_7.out.chg CF).sub
            have G1a_F := (G1a_7.out.chg CF).sub
            have G1b_F := (G1b_7.out.chg CF).sub
            have G1c_F := (G1c_7.out.chg CF).sub
            have G1d_F := (G1d_7.out.chg CF).sub
            have G2_F := (G2_7.out.chg CF).sub
            have RSF : wF.heap[w.heap.size + 1]? = some (.cells #[.int .i64 ro, .int .i64 go, .slice C2 (m1a + 1) e2, .slice C1b m1b e1b, .slice C1c m1c e1c, .slice C1d m1d e1d] 57 (0, 0)) := by rw [hwF]; exact (block_set (o := 5) (v := .slice C1d m1d e1d) (block_set (o := 4) (v := .slice C1c m1c e1c) (block_set (o := 3) (v := .slice C1b m1b e1b) (block_set (o := 2) (v := .slice C2 (m1a + 1) e2) (block_set (o := 1) (v := .int .i64 go) (block_set (o := 0) (v := .int .i64 ro) ((heap_far (p := ⟨w.heap.size, 2, none⟩) (by simp)).trans RS7.out)))))))
            have r0 := cell_of_row _ _ 0 _ _ (0, 0) RSF
            have r1 := cell_of_row _ _ 1 _ _ (0, 0) RSF
            have r2 := cell_of_row _ _ 2 _ _ (0, 0) RSF
            have r3 := cell_of_row _ _ 3 _ _ (0, 0) RSF
            have r4 := cell_of_row _ _ 4 _ _ (0, 0) RSF
            have r5 := cell_of_row _ _ 5 _ _ (0, 0) RSF
            have HP : Hid (AskP bs ro w (.returned (.tuple #[.agg #[.int .i64 ro, .int .i64 go, .slice C2 (m1a + 1) e2, .slice C1b m1b e1b, .slice C1c m1c e1c, .slice C1d m1d e1d], .bool false])) wF) := Lib.hid (⟨go, C2, (m1a + 1), e2, (row :: y1a), C1b, m1b, e1b, y1b, C1c, m1c, e1c, y1c, C1d, m1d, e1d, y1d, false, rfl, G2_F, G1b_F, G1c_F, G1d_F, HINV.out, HBF⟩)
            have HWF := Lib.hid hwF
            clear hwF CF HBF F0_F F1_F F2_F F3_F HT_F G1a_F G1b_F G1c_F G1d_F G2_F
            go_wp2_with fail
            rw [← HWF.out]
            exact bodyPost_ret (v := .tuple #[.agg #[.int .i64 ro, .int .i64 go, .slice C2 (m1a + 1) e2, .slice C1b m1b e1b, .slice C1c m1c e1c, .slice C1d m1d e1d], .bool false]) (by simp [results, Try.results117, go_sem, r0, r1, r2, r3, r4, r5]) rfl HP.out
          · have d3 : ((n0 : Int) + (n1 : Int) + (n2 : Int) + (n3 : Int) == 2 * ro) = false := by simpa using z3
            go_wp2_with fail
            refine (l27Way_any (bs ++ [w.heap.size, w.heap.size + 1]) ro go false A0 n0 c0 x0 A1 n1 c1 x1 A2 n2 c2 x2 A3 n3 c3 x3 _ (fun k hk => by rcases List.mem_append.1 hk with hk | hk <;> first | (have := HBS.out k hk; omega) | (have := HBS.out k hk; simp [World.setCell]; omega) | (simp at hk; omega) | (simp at hk; simp [World.setCell]; omega)) (F0_5.out.chg (cs := [w.heap.size, w.heap.size + 1]) (Chg.refl _ _)) (F1_5.out.chg (cs := [w.heap.size, w.heap.size + 1]) (Chg.refl _ _)) (F2_5.out.chg (cs := [w.heap.size, w.heap.size + 1]) (Chg.refl _ _)) (F3_5.out.chg (cs := [w.heap.size, w.heap.size + 1]) (Chg.refl _ _)) hr (by omega) (by omega) (by omega) (by omega) (by omega)).mono ?_
            rintro e w6 ⟨C1a, m1a, e1a, y1a, C1b, m1b, e1b, y1b, C1c, m1c, e1c, y1c, C1d, m1d, e1d, y1d, rfl, ha_, hb_, hc_, hd_, hw1, hb⟩
            have G1a_6 := Lib.hid ha_
            have G1b_6 := Lib.hid hb_
            have G1c_6 := Lib.hid hc_
            have G1d_6 := Lib.hid hd_
            clear ha_ hb_ hc_ hd_
            have HW1 := Lib.hid hw1; clear hw1
            have CC6 : Chg (· ∈ [w.heap.size, w.heap.size + 1]) w5 w6 := (((Chg.refl _ _)).trans (Chg.of_below hb _))
            have HB6 := Lib.hid (HB5.out.trans (CC6.below (B := w.heap.size) (fun k _ hk => by simp at hk; omega) HB5.out.size))
            have BX6 : Hid (w6.heap[w.heap.size]? = some (.cells #[.int .i64 ro, .int .i64 go, .slice A0 n0 c0, .slice A1 n1 c1, .slice A2 n2 c2, .slice A3 n3 c3] 57 (0, 0))) := Lib.hid ((hb.block _ (by first | omega | (simp [World.setCell]; omega))).trans BX5.out)
            have RS6 : Hid (w6.heap[w.heap.size + 1]? = some (.cells #[.int .i64 0, .int .i64 0, .slice none 0 0, .slice none 0 0, .slice none 0 0, .slice none 0 0] 57 (0, 0))) := Lib.hid ((hb.block _ (by first | omega | (simp [World.setCell]; omega))).trans RS5.out)
            have F0_6 := Lib.hid (F0_5.out.chg CC6)
            have F1_6 := Lib.hid (F1_5.out.chg CC6)
            have F2_6 := Lib.hid (F2_5.out.chg CC6)
            have F3_6 := Lib.hid (F3_5.out.chg CC6)
            clear CC6 hb HB5 BX5 RS5 zz5 F0_5 F1_5 F2_5 F3_5 uc0 uf0 ud0 ug0 uc1 uf1 ud1 ug1 uc2 uf2 ud2 ug2 uc3 uf3 ud3 ug3 uc4 uf4 ud4 ug4 uc5 uf5 ud5 ug5 lb lr
            have zz6 : w.heap.size + 1 < w6.heap.size := (Array.getElem?_eq_some_iff.1 RS6.out).1
            have uc0 := cell_of_row _ _ 0 _ _ (0, 0) BX6.out; have uf0 := block_free BX6.out 0; have ud0 := cell_of_row _ _ 0 _ _ (0, 0) RS6.out; have ug0 := block_free RS6.out 0
            have uc1 := cell_of_row _ _ 1 _ _ (0, 0) BX6.out; have uf1 := block_free BX6.out 1; have ud1 := cell_of_row _ _ 1 _ _ (0, 0) RS6.out; have ug1 := block_free RS6.out 1
            have uc2 := cell_of_row _ _ 2 _ _ (0, 0) BX6.out; have uf2 := block_free BX6.out 2; have ud2 := cell_of_row _ _ 2 _ _ (0, 0) RS6.out; have ug2 := block_free RS6.out 2
            have uc3 := cell_of_row _ _ 3 _ _ (0, 0) BX6.out; have uf3 := block_free BX6.out 3; have ud3 := cell_of_row _ _ 3 _ _ (0, 0) RS6.out; have ug3 := block_free RS6.out 3
            have uc4 := cell_of_row _ _ 4 _ _ (0, 0) BX6.out; have uf4 := block_free BX6.out 4; have ud4 := cell_of_row _ _ 4 _ _ (0, 0) RS6.out; have ug4 := block_free RS6.out 4
            have uc5 := cell_of_row _ _ 5 _ _ (0, 0) BX6.out; have uf5 := block_free BX6.out 5; have ud5 := cell_of_row _ _ 5 _ _ (0, 0) RS6.out; have ug5 := block_free RS6.out 5
            have lb := (Array.getElem?_eq_some_iff.1 BX6.out).1; have lr := (Array.getElem?_eq_some_iff.1 RS6.out).1
            have hw_ : (((n0 : Int) + n1 < ro ∧ m1a = n0 ∧ m1b = n1 ∧ m1c = n2 ∧ m1d = n3) ∨ (ro ≤ (n0 : Int) + n1 ∧ ((m1a + 1 = n0 ∧ m1b = n1 ∧ m1c = n2 + 1 ∧ m1d = n3) ∨ (m1a = n0 ∧ m1b + 1 = n1 ∧ m1c = n2 ∧ m1d = n3 + 1)))) := by
              have hw_ := HW1.out
              unfold WayL at hw_
              rcases hw_ with ⟨a, b, c, d, e, _, _⟩ | ⟨a, ⟨b, c, d, e, _, _⟩ | ⟨b, c, d, e, _, _⟩⟩
              · exact .inl ⟨a, b, c, d, e⟩
              · exact .inr ⟨a, .inl ⟨b, c, d, e⟩⟩
              · exact .inr ⟨a, .inr ⟨b, c, d, e⟩⟩
            have HWN := Lib.hid hw_
            have hwb : m1a ≤ 100 ∧ m1b ≤ 100 ∧ m1c ≤ 100 ∧ m1d ≤ 100 := by omega
            obtain ⟨hwb1, hwb2, hwb3, hwb4⟩ := hwb
            clear hw_
            go_wp2_with fail
            refine (l27Front_any C1a m1a e1a y1a row _ (G1a_6.out.chg (cs := [w.heap.size, w.heap.size + 1]) (Chg.setCell (p := ⟨w.heap.size, 5, none⟩) (Chg.setCell (p := ⟨w.heap.size, 4, none⟩) (Chg.setCell (p := ⟨w.heap.size, 3, none⟩) (Chg.setCell (p := ⟨w.heap.size, 2, none⟩) (Chg.setCell (p := ⟨w.heap.size, 1, none⟩) (Chg.setCell (p := ⟨w.heap.size, 0, none⟩) (Chg.refl _ _) (.inl (by simp)) _) (.inl (by simp)) _) (.inl (by simp)) _) (.inl (by simp)) _) (.inl (by simp)) _) (.inl (by simp)) _)).il (by omega)).mono ?_
            rintro e w7 ⟨C2, e2, rfl, hal, hb⟩
            have G2_7 : Hid (AL (bs ++ [w.heap.size, w.heap.size + 1]) w7 C2 (m1a + 1) e2 (row :: y1a)) := Lib.hid (AL.new hal (fun k hk => by rcases List.mem_append.1 hk with hk | hk <;> first | (have := HBS.out k hk; omega) | (have := HBS.out k hk; simp [World.setCell]; omega) | (simp at hk; omega) | (simp at hk; simp [World.setCell]; omega))); clear hal
            have CC7 : Chg (· ∈ [w.heap.size, w.heap.size + 1]) w6 w7 := (((Chg.setCell (p := ⟨w.heap.size, 5, none⟩) (Chg.setCell (p := ⟨w.heap.size, 4, none⟩) (Chg.setCell (p := ⟨w.heap.size, 3, none⟩) (Chg.setCell (p := ⟨w.heap.size, 2, none⟩) (Chg.setCell (p := ⟨w.heap.size, 1, none⟩) (Chg.setCell (p := ⟨w.heap.size, 0, none⟩) (Chg.refl _ _) (.inl (by simp)) _) (.inl (by simp)) _) (.inl (by simp)) _) (.inl (by simp)) _) (.inl (by simp)) _) (.inl (by simp)) _)).trans (Chg.of_below hb _))
            have HB7 := Lib.hid (HB6.out.trans (CC7.below (B := w.heap.size) (fun k _ hk => by simp at hk; omega) HB6.out.size))
            have BX7 : Hid (w7.heap[w.heap.size]? = some (.cells #[.int .i64 ro, .int .i64 go, .slice C1a m1a e1a, .slice C1b m1b e1b, .slice C1c m1c e1c, .slice C1d m1d e1d] 57 (0, 0))) := Lib.hid ((hb.block _ (by first | omega | (simp [World.setCell]; omega))).trans (block_set (o := 5) (v := .slice C1d m1d e1d) (block_set (o := 4) (v := .slice C1c m1c e1c) (block_set (o := 3) (v := .slice C1b m1b e1b) (block_set (o := 2) (v := .slice C1a m1a e1a) (block_set (o := 1) (v := .int .i64 go) (block_set (o := 0) (v := .int .i64 ro) BX6.out)))))))
            have RS7 : Hid (w7.heap[w.heap.size + 1]? = some (.cells #[.int .i64 0, .int .i64 0, .slice none 0 0, .slice none 0 0, .slice none 0 0, .slice none 0 0] 57 (0, 0))) := Lib.hid ((hb.block _ (by first | omega | (simp [World.setCell]; omega))).trans ((heap_far (p := ⟨w.heap.size, 5, none⟩) (by simp)).trans ((heap_far (p := ⟨w.heap.size, 4, none⟩) (by simp)).trans ((heap_far (p := ⟨w.heap.size, 3, none⟩) (by simp)).trans ((heap_far (p := ⟨w.heap.size, 2, none⟩) (by simp)).trans ((heap_far (p := ⟨w.heap.size, 1, none⟩) (by simp)).trans ((heap_far (p := ⟨w.heap.size, 0, none⟩) (by simp)).trans RS6.out)))))))
            have F0_7 := Lib.hid (F0_6.out.chg CC7)
            have F1_7 := Lib.hid (F1_6.out.chg CC7)
            have F2_7 := Lib.hid (F2_6.out.chg CC7)
            have F3_7 := Lib.hid (F3_6.out.chg CC7)
            have G1a_7 := Lib.hid (G1a_6.out.chg CC7)
            have G1b_7 := Lib.hid (G1b_6.out.chg CC7)
            have G1c_7 := Lib.hid (G1c_6.out.chg CC7)
            have G1d_7 := Lib.hid (G1d_6.out.chg CC7)
            clear CC7 hb HB6 BX6 RS6 zz6 F0_6 F1_6 F2_6 F3_6 G1a_6 G1b_6 G1c_6 G1d_6 uc0 uf0 ud0 ug0 uc1 uf1 ud1 ug1 uc2 uf2 ud2 ug2 uc3 uf3 ud3 ug3 uc4 uf4 ud4 ug4 uc5 uf5 ud5 ug5 lb lr
            have zz7 : w.heap.size + 1 < w7.heap.size := (Array.getElem?_eq_some_iff.1 RS7.out).1
            have uc0 := cell_of_row _ _ 0 _ _ (0, 0) BX7.out; have uf0 := block_free BX7.out 0; have ud0 := cell_of_row _ _ 0 _ _ (0, 0) RS7.out; have ug0 := block_free RS7.out 0
            have uc1 := cell_of_row _ _ 1 _ _ (0, 0) BX7.out; have uf1 := block_free BX7.out 1; have ud1 := cell_of_row _ _ 1 _ _ (0, 0) RS7.out; have ug1 := block_free RS7.out 1
            have uc2 := cell_of_row _ _ 2 _ _ (0, 0) BX7.out; have uf2 := block_free BX7.out 2; have ud2 := cell_of_row _ _ 2 _ _ (0, 0) RS7.out; have ug2 := block_free RS7.out 2
            have uc3 := cell_of_row _ _ 3 _ _ (0, 0) BX7.out; have uf3 := block_free BX7.out 3; have ud3 := cell_of_row _ _ 3 _ _ (0, 0) RS7.out; have ug3 := block_free RS7.out 3
            have uc4 := cell_of_row _ _ 4 _ _ (0, 0) BX7.out; have uf4 := block_free BX7.out 4; have ud4 := cell_of_row _ _ 4 _ _ (0, 0) RS7.out; have ug4 := block_free RS7.out 4
            have uc5 := cell_of_row _ _ 5 _ _ (0, 0) BX7.out; have uf5 := block_free BX7.out 5; have ud5 := cell_of_row _ _ 5 _ _ (0, 0) RS7.out; have ug5 := block_free RS7.out 5
            have lb := (Array.getElem?_eq_some_iff.1 BX7.out).1; have lr := (Array.getElem?_eq_some_iff.1 RS7.out).1
            have HINV : Hid (InvC ro (m1a + 1) m1b m1c m1d) := Lib.hid (by have hw_ := HWN.out; unfold InvC; refine ⟨?_, ?_, ?_⟩ <;> push_cast <;> omega)
            obtain ⟨wF, hwF⟩ : ∃ W, W = (World.setCell (World.setCell (World.setCell (World.setCell (World.setCell (World.setCell (World.setCell w7 ⟨w.heap.size, 2, none⟩ (.slice C2 (m1a + 1) e2)) ⟨w.heap.size + 1, 0, none⟩ (.int .i64 ro)) ⟨w.heap.size + 1, 1, none⟩ (.int .i64 go)) ⟨w.heap.size + 1, 2, none⟩ (.slice C2 (m1a + 1) e2)) ⟨w.heap.size + 1, 3, none⟩ (.slice C1b m1b e1b)) ⟨w.heap.size + 1, 4, none⟩ (.slice C1c m1c e1c)) ⟨w.heap.size + 1, 5, none⟩ (.slice C1d m1d e1d)) := ⟨_, rfl⟩
            have CF : Chg (· ∈ [w.heap.size, w.heap.size + 1]) w7 wF := by rw [hwF]; exact (Chg.setCell (p := ⟨w.heap.size + 1, 5, none⟩) (Chg.setCell (p := ⟨w.heap.size + 1, 4, none⟩) (Chg.setCell (p := ⟨w.heap.size + 1, 3, none⟩) (Chg.setCell (p := ⟨w.heap.size + 1, 2, none⟩) (Chg.setCell (p := ⟨w.heap.size + 1, 1, none⟩) (Chg.setCell (p := ⟨w.heap.size + 1, 0, none⟩) (Chg.setCell (p := ⟨w.heap.size, 2, none⟩) (Chg.refl _ _) (.inl (by simp)) _) (.inl (by simp)) _) (.inl (by simp)) _) (.inl (by simp)) _) (.inl (by simp)) _) (.inl (by simp)) _) (.inl (by simp)) _)
            have HBF : Below w.heap.size w wF := HB7.out.trans (CF.below (B := w.heap.size) (fun k _ hk => by simp at hk; omega) HB7.out.size)
            have F0_F := (F0_7.out.chg CF).sub
            have F1_F := (F1_7.out.chg CF).sub
            have F2_F := (F2_7.out.chg CF).sub
            have F3_F := (F3_7.out.chg CF).sub
            have G1a_F := (G1a_7.out.chg CF).sub
            have G1b_F := (G1b_7.out.chg CF).sub
            have G1c_F := (G1c_7.out.chg CF).sub
            have G1d_F := (G1d_7.out.chg CF).sub
            have G2_F := (G2_7.out.chg CF).sub
            have RSF : wF.heap[w.heap.size + 1]? = some (.cells #[.int .i64 ro, .int .i64 go, .slice C2 (m1a + 1) e2, .slice C1b m1b e1b, .slice C1c m1c e1c, .slice C1d m1d e1d] 57 (0, 0)) := by rw [hwF]; exact (block_set (o := 5) (v := .slice C1d m1d e1d) (block_set (o := 4) (v := .slice C1c m1c e1c) (block_set (o := 3) (v := .slice C1b m1b e1b) (block_set (o := 2) (v := .slice C2 (m1a + 1) e2) (block_set (o := 1) (v := .int .i64 go) (block_set (o := 0) (v := .int .i64 ro) ((heap_far (p := ⟨w.heap.size, 2, none⟩) (by simp)).trans RS7.out)))))))
            have r0 := cell_of_row _ _ 0 _ _ (0, 0) RSF
            have r1 := cell_of_row _ _ 1 _ _ (0, 0) RSF
            have r2 := cell_of_row _ _ 2 _ _ (0, 0) RSF
            have r3 := cell_of_row _ _ 3 _ _ (0, 0) RSF
            have r4 := cell_of_row _ _ 4 _ _ (0, 0) RSF
            have r5 := cell_of_row _ _ 5 _ _ (0, 0) RSF
            have HP : Hid (AskP bs ro w (.returned (.tuple #[.agg #[.int .i64 ro, .int .i64 go, .slice C2 (m1a + 1) e2, .slice C1b m1b e1b, .slice C1c m1c e1c, .slice C1d m1d e1d], .bool false])) wF) := Lib.hid (⟨go, C2, (m1a + 1), e2, (row :: y1a), C1b, m1b, e1b, y1b, C1c, m1c, e1c, y1c, C1d, m1d, e1d, y1d, false, rfl, G2_F, G1b_F, G1c_F, G1d_F, HINV.out, HBF⟩)
            have HWF := Lib.hid hwF
            clear hwF CF HBF F0_F F1_F F2_F F3_F G1a_F G1b_F G1c_F G1d_F G2_F
            go_wp2_with fail
            rw [← HWF.out]
            exact bodyPost_ret (v := .tuple #[.agg #[.int .i64 ro, .int .i64 go, .slice C2 (m1a + 1) e2, .slice C1b m1b e1b, .slice C1c m1c e1c, .slice C1d m1d e1d], .bool false]) (by simp [results, Try.results117, go_sem, r0, r1, r2, r3, r4, r5]) rfl HP.out
end Go.Proofs.Ytffieobjcipeoaa
