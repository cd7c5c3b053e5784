/- The reference's caches, asked: how long the lists become. No condition. -/
import Derived.Test.YtffieobjcipeoaaCacheAsk
namespace Go.Proofs.Ytffieobjcipeoaa
set_option linter.unnecessarySimpa false
open Go.RowKit
set_option linter.unusedVariables false
set_option linter.unusedSimpArgs false

/-- A list of ints that lies apart from some blocks. -/
def AL (bs : List Nat) (w : World) (A : Option Addr) (n c : Nat) (xs : List Int) : Prop := ∃ lo hi, (∀ k ∈ bs, k < lo ∨ hi ≤ k) ∧ SliceR IntR 1 w lo hi A n c xs
section
variable {bs ds : List Nat} {w w' : World} {A : Option Addr} {n c : Nat} {xs : List Int}
theorem AL.chg (h : AL bs w A n c xs) {cs : List Nat} (hc : Chg (· ∈ cs) w w') (hcs : ∀ k ∈ cs, k ∈ bs := by simp) : AL bs w' A n c xs := by
  obtain ⟨lo, hi, h1, h2⟩ := h
  refine ⟨lo, hi, h1, h2.keep (fun k k1 k2 => hc.block k (by have := h2.lo_le; omega) (fun hm => by have := h1 k (hcs k hm); omega)) hc.size (fun _ _ h => h)⟩
theorem AL.sub (h : AL (bs ++ ds) w A n c xs) : AL bs w A n c xs := by
  obtain ⟨lo, hi, h1, h2⟩ := h
  exact ⟨lo, hi, fun k hk => h1 k (List.mem_append_left _ hk), h2⟩
theorem AL.more (h : AL bs w A n c xs) : AL (bs ++ [w.heap.size, w.heap.size + 1]) w A n c xs := by
  obtain ⟨lo, hi, h1, h2⟩ := h
  refine ⟨lo, hi, fun k hk => ?_, h2⟩
  rcases List.mem_append.1 hk with hk | hk
  · exact h1 k hk
  · have := h2.lo_le
    simp at hk
    omega
theorem AL.il (h : AL bs w A n c xs) : IL w A n c xs := by
  obtain ⟨lo, hi, h1, h2⟩ := h
  exact h2.wide (Nat.zero_le _) h2.lo_le (Nat.le_refl _) (fun _ _ h => h)
theorem AL.new {lo : Nat} (h : SliceR IntR 1 w lo w.heap.size A n c xs) (hb : ∀ k ∈ bs, k < lo) : AL bs w A n c xs := ⟨lo, _, fun k hk => .inl (hb k hk), h⟩
theorem AL.take (h : AL bs w A n c xs) {m : Nat} (hm : m ≤ n) : AL bs w A m c (xs.take m) := by
  obtain ⟨lo, hi, h0, h1, h2, h3, h4, h5, h6⟩ := h
  refine ⟨lo, hi, h0, by rw [List.length_take]; omega, by omega, by omega, h4, h5, fun hp => ?_⟩
  obtain ⟨b, off, hA, b1, b2, hc⟩ := h6 (by omega)
  refine ⟨b, off, hA, b1, b2, fun j x hx => hc j x ?_⟩
  rw [List.getElem?_take] at hx
  split at hx
  · exact hx
  · cases hx
theorem AL.cell (h : AL bs w A n c xs) {k : Nat} (hk : k < n) : ∃ b off x, A = some ⟨b, off, none⟩ ∧ b < w.heap.size ∧ (∀ k ∈ bs, b ≠ k) ∧ w.cell? ⟨b, off + k, none⟩ = some (.int .i64 x) := by
  obtain ⟨lo, hi, h0, h2⟩ := h
  obtain ⟨b, off, hA, b1, b2, bl, hc⟩ := h2.at_ (by omega)
  obtain ⟨x, hx⟩ : ∃ x, xs[k]? = some x := ⟨xs[k]'(by rw [h2.len]; exact hk), List.getElem?_eq_getElem _⟩
  obtain ⟨cs, _, hcc, rfl⟩ := hc k x hx
  have := hcc 0 _ rfl
  exact ⟨b, off, x, hA, bl, fun k hk => by have := h0 k hk; omega, by simpa using this⟩
theorem AL.cap (h : AL bs w A n c xs) : n ≤ c := by obtain ⟨_, _, _, h⟩ := h; exact h.2.1
theorem AL.len (h : AL bs w A n c xs) : xs.length = n := by obtain ⟨_, _, _, h⟩ := h; exact h.1
end
def WayL (ro : Int) (n0 n1 n2 n3 m0 m1 m2 m3 : Nat) (x2 x3 y2 y3 : List Int) : Prop :=
  ((n0 : Int) + n1 < ro ∧ m0 = n0 ∧ m1 = n1 ∧ m2 = n2 ∧ m3 = n3 ∧ y2 = x2 ∧ y3 = x3) ∨ (ro ≤ (n0 : Int) + n1 ∧ ((m0 + 1 = n0 ∧ m1 = n1 ∧ m2 = n2 + 1 ∧ m3 = n3 ∧ (∃ v, y2 = v :: x2) ∧ y3 = x3) ∨ (m0 = n0 ∧ m1 + 1 = n1 ∧ m2 = n2 ∧ m3 = n3 + 1 ∧ y2 = x2 ∧ ∃ v, y3 = v :: x3)))
def WayP (bs : List Nat) (ro go : Int) (n0 n1 n2 n3 : Nat) (x2 x3 : List Int) (w : World) (e : Ending) (w' : World) : Prop :=
  ∃ (C0 : Option Addr) (m0 e0 : Nat) (y0 : List Int) (C1 : Option Addr) (m1 e1 : Nat) (y1 : List Int) (C2 : Option Addr) (m2 e2 : Nat) (y2 : List Int) (C3 : Option Addr) (m3 e3 : Nat) (y3 : List Int),
    e = .returned (.agg #[.int .i64 ro, .int .i64 go, .slice C0 m0 e0, .slice C1 m1 e1, .slice C2 m2 e2, .slice C3 m3 e3]) ∧ AL bs w' C0 m0 e0 y0 ∧ AL bs w' C1 m1 e1 y1 ∧ AL bs w' C2 m2 e2 y2 ∧ AL bs w' C3 m3 e3 y3 ∧ WayL ro n0 n1 n2 n3 m0 m1 m2 m3 x2 x3 y2 y3 ∧ Below w.heap.size w w'
set_option maxRecDepth 100000 in
set_option maxHeartbeats 8000000 in
theorem l27Way_any (bs : List Nat) (ro go : Int) (fl : Bool) (A0 : Option Addr) (n0 c0 : Nat) (x0 : List Int) (A1 : Option Addr) (n1 c1 : Nat) (x1 : List Int) (A2 : Option Addr) (n2 c2 : Nat) (x2 : List Int) (A3 : Option Addr) (n3 c3 : Nat) (x3 : List Int) (w : World)
    (hbs : ∀ k ∈ bs, k < w.heap.size) (h0 : AL bs w A0 n0 c0 x0) (h1 : AL bs w A1 n1 c1 x1) (h2 : AL bs w A2 n2 c2 x2) (h3 : AL bs w A3 n3 c3 x3) (hr : 1 ≤ ro) (hr9 : ro ≤ 100) (l0 : n0 ≤ 200) (l1 : n1 ≤ 200) (l2 : n2 ≤ 200) (l3 : n3 ≤ 200) :
    Calls Try.prog 137 #[.agg #[.int .i64 ro, .int .i64 go, .slice A0 n0 c0, .slice A1 n1 c1, .slice A2 n2 c2, .slice A3 n3 c3], .bool fl] w (WayP bs ro go n0 n1 n2 n3 x2 x3 w) := by
  have p0 := h0.cap; have p1 := h1.cap
  have h0 := Lib.hid h0; have h1 := Lib.hid h1; have h2 := Lib.hid h2; have h3 := Lib.hid h3
  have HBS := Lib.hid hbs; clear hbs
  have nsum : IntKind.i64.wrap ((n0 : Int) + (n1 : Int)) = (n0 : Int) + (n1 : Int) := IntWalk.i64_in _ (by omega)
  go_enter Try.func137, Try.ntmps137
  obtain ⟨w1, hw1⟩ : ∃ W, W = (w.alloc (.cells #[.int .i64 ro, .int .i64 go, .slice A0 n0 c0, .slice A1 n1 c1, .slice A2 n2 c2, .slice A3 n3 c3] 57)).alloc (.cells #[.int .i64 0, .int .i64 0, .slice none 0 0, .slice none 0 0, .slice none 0 0, .slice none 0 0] 57) := ⟨_, rfl⟩
  have HB1 : Hid (Below w.heap.size w w1) := Lib.hid (by rw [hw1]; exact bel2)
  have BX1 : Hid (w1.heap[w.heap.size]? = some (.cells #[.int .i64 ro, .int .i64 go, .slice A0 n0 c0, .slice A1 n1 c1, .slice A2 n2 c2, .slice A3 n3 c3] 57 (0, 0))) := Lib.hid (by rw [hw1]; exact (Below.heap_alloc _ _ _ (by simp)).trans (heap_alloc_new _ _))
  have RS1 : Hid (w1.heap[w.heap.size + 1]? = some (.cells #[.int .i64 0, .int .i64 0, .slice none 0 0, .slice none 0 0, .slice none 0 0, .slice none 0 0] 57 (0, 0))) := Lib.hid (by rw [hw1]; have := heap_alloc_new (w.alloc (.cells #[.int .i64 ro, .int .i64 go, .slice A0 n0 c0, .slice A1 n1 c1, .slice A2 n2 c2, .slice A3 n3 c3] 57)) (.cells #[.int .i64 0, .int .i64 0, .slice none 0 0, .slice none 0 0, .slice none 0 0, .slice none 0 0] 57); simpa using this)
  have F0_1 := Lib.hid ((h0.out.more).chg (cs := []) (Chg.of_below HB1.out _))
  have F1_1 := Lib.hid ((h1.out.more).chg (cs := []) (Chg.of_below HB1.out _))
  have F2_1 := Lib.hid ((h2.out.more).chg (cs := []) (Chg.of_below HB1.out _))
  have F3_1 := Lib.hid ((h3.out.more).chg (cs := []) (Chg.of_below HB1.out _))
  have zz1 : w.heap.size + 1 < w1.heap.size := (Array.getElem?_eq_some_iff.1 RS1.out).1
  by_cases c_ : (n0 : Int) + (n1 : Int) < ro
  · skip
    clear hw1 HB1 BX1 RS1 F0_1 F1_1 F2_1 F3_1 zz1
    obtain ⟨wF, hwF⟩ : ∃ W, W = (w.alloc (.cells #[.int .i64 ro, .int .i64 go, .slice A0 n0 c0, .slice A1 n1 c1, .slice A2 n2 c2, .slice A3 n3 c3] 57)).alloc (.cells #[.int .i64 ro, .int .i64 go, .slice A0 n0 c0, .slice A1 n1 c1, .slice A2 n2 c2, .slice A3 n3 c3] 57) := ⟨_, rfl⟩
    have HBF : Below w.heap.size w wF := by rw [hwF]; exact bel2
    have RSF : wF.heap[w.heap.size + 1]? = some (.cells #[.int .i64 ro, .int .i64 go, .slice A0 n0 c0, .slice A1 n1 c1, .slice A2 n2 c2, .slice A3 n3 c3] 57 (0, 0)) := by rw [hwF]; have := heap_alloc_new (w.alloc (.cells #[.int .i64 ro, .int .i64 go, .slice A0 n0 c0, .slice A1 n1 c1, .slice A2 n2 c2, .slice A3 n3 c3] 57)) (.cells #[.int .i64 ro, .int .i64 go, .slice A0 n0 c0, .slice A1 n1 c1, .slice A2 n2 c2, .slice A3 n3 c3] 57); simpa using this
    have r0 := cell_of_row _ _ 0 _ _ (0, 0) RSF
    have r1 := cell_of_row _ _ 1 _ _ (0, 0) RSF
    have r2 := cell_of_row _ _ 2 _ _ (0, 0) RSF
    have r3 := cell_of_row _ _ 3 _ _ (0, 0) RSF
    have r4 := cell_of_row _ _ 4 _ _ (0, 0) RSF
    have r5 := cell_of_row _ _ 5 _ _ (0, 0) RSF
    have F0_F := h0.out.chg (cs := []) (Chg.of_below HBF _)
    have F1_F := h1.out.chg (cs := []) (Chg.of_below HBF _)
    have F2_F := h2.out.chg (cs := []) (Chg.of_below HBF _)
    have F3_F := h3.out.chg (cs := []) (Chg.of_below HBF _)
    have HP : Hid (WayP bs ro go n0 n1 n2 n3 x2 x3 w (.returned (.agg #[.int .i64 ro, .int .i64 go, .slice A0 n0 c0, .slice A1 n1 c1, .slice A2 n2 c2, .slice A3 n3 c3])) wF) := Lib.hid (⟨A0, n0, c0, x0, A1, n1, c1, x1, A2, n2, c2, x2, A3, n3, c3, x3, rfl, F0_F, F1_F, F2_F, F3_F, .inl ⟨c_, rfl, rfl, rfl, rfl, rfl, rfl⟩, HBF⟩)
    have HWF := Lib.hid hwF
    clear hwF HBF F0_F F1_F F2_F F3_F
    go_wp2_with fail
    rw [← HWF.out]
    exact bodyPost_ret (v := .agg #[.int .i64 ro, .int .i64 go, .slice A0 n0 c0, .slice A1 n1 c1, .slice A2 n2 c2, .slice A3 n3 c3]) (by simp [results, Try.results137, go_sem, r0, r1, r2, r3, r4, r5]) rfl HP.out
  have cge : ro ≤ (n0 : Int) + (n1 : Int) := by omega
  by_cases z0 : n0 = 0
  · have z1 : ¬ n1 = 0 := by omega
    have d0 : ¬ (0 : Int) < (n0 : Int) := by omega
    have d0n : ¬ 0 < n0 := by omega
    have d1 : ((n1 : Int) == 0) = false := by simp; omega
    have Z0 := Lib.hid z0; clear z0
    have uc0 := cell_of_row _ _ 0 _ _ (0, 0) BX1.out; have uf0 := block_free BX1.out 0; have ud0 := cell_of_row _ _ 0 _ _ (0, 0) RS1.out; have ug0 := block_free RS1.out 0
    have uc1 := cell_of_row _ _ 1 _ _ (0, 0) BX1.out; have uf1 := block_free BX1.out 1; have ud1 := cell_of_row _ _ 1 _ _ (0, 0) RS1.out; have ug1 := block_free RS1.out 1
    have uc2 := cell_of_row _ _ 2 _ _ (0, 0) BX1.out; have uf2 := block_free BX1.out 2; have ud2 := cell_of_row _ _ 2 _ _ (0, 0) RS1.out; have ug2 := block_free RS1.out 2
    have uc3 := cell_of_row _ _ 3 _ _ (0, 0) BX1.out; have uf3 := block_free BX1.out 3; have ud3 := cell_of_row _ _ 3 _ _ (0, 0) RS1.out; have ug3 := block_free RS1.out 3
    have uc4 := cell_of_row _ _ 4 _ _ (0, 0) BX1.out; have uf4 := block_free BX1.out 4; have ud4 := cell_of_row _ _ 4 _ _ (0, 0) RS1.out; have ug4 := block_free RS1.out 4
    have uc5 := cell_of_row _ _ 5 _ _ (0, 0) BX1.out; have uf5 := block_free BX1.out 5; have ud5 := cell_of_row _ _ 5 _ _ (0, 0) RS1.out; have ug5 := block_free RS1.out 5
    have lb := (Array.getElem?_eq_some_iff.1 BX1.out).1; have lr := (Array.getElem?_eq_some_iff.1 RS1.out).1
    go_wp2_with fail
    rw [← hw1]
    clear hw1
    obtain ⟨sb, so, sv, hsA, sl, sne, sc⟩ := F1_1.out.cell (k := n1 - 1) (by omega)
    subst hsA
    have nn : IntKind.i64.wrap ((n1 : Int) - 1) = ((n1 - 1 : Nat) : Int) := by rw [IntWalk.i64_in _ (by omega)]; omega
    obtain ⟨nm, hnm⟩ : ∃ m, m = n1 - 1 := ⟨_, rfl⟩
    rw [← hnm] at nn sc
    have hnm1 : nm + 1 = n1 := by omega
    have nm0 : (0 : Int) ≤ (nm : Int) := by omega
    have nm1 : (nm : Int) < (n1 : Int) := by omega
    have HSC := Lib.hid sc; have HNM := Lib.hid hnm; have HN1 := Lib.hid hnm1
    have sne0 : sb ≠ w.heap.size := sne _ (by simp)
    have sne1 : sb ≠ w.heap.size + 1 := sne _ (by simp)
    clear sc hnm hnm1 uc0 uf0 ud0 ug0 uc1 uf1 ud1 ug1 uc2 uf2 ud2 ug2 uc3 uf3 ud3 ug3 uc4 uf4 ud4 ug4 uc5 uf5 ud5 ug5 lb lr
    apply wp_region_rgz (Chg (· ∈ [w.heap.size])) (Ext) (fun y w' k' => (k' < 1000 → w'.heap[w.heap.size]? = some (.cells #[.int .i64 ro, .int .i64 go, .slice A0 n0 c0, .slice (some ⟨sb, so, none⟩) n1 c1, .slice A2 n2 c2, .slice A3 n3 c3] 57 (0, 0))) ∧ (1000 ≤ k' → ∃ C' e' v, w'.heap[w.heap.size]? = some (.cells #[.int .i64 ro, .int .i64 go, .slice A0 n0 c0, .slice (some ⟨sb, so, none⟩) n1 c1, .slice A2 n2 c2, .slice C' (n3 + 1) e'] 57 (0, 0)) ∧ AL (bs ++ [w.heap.size, w.heap.size + 1]) w' C' (n3 + 1) e' (v :: x3))) [0, 0, 0, 0, 0, 0, 0, 0, 0, 0, 1000] [1000, 1000, 1000, 1000, 1000, 1000, 1000, 1000, 1000, 1000, 1000] (by kernel_rfl) (false :: false :: false :: false :: false :: false :: false :: false :: false :: false :: false :: false :: false :: false :: false :: false :: false :: false :: false :: false :: false :: false :: false :: false :: false :: false :: false :: false :: false :: false :: false :: false :: false :: false :: false :: false :: false :: false :: false :: false :: false :: false :: false :: false :: false :: false :: false :: false :: false :: false :: false :: false :: false :: false :: false :: false :: false :: false :: false :: false :: false :: false :: true :: true :: true :: true :: true :: true :: true :: true :: true :: true :: false :: false :: false :: false :: false :: false :: false :: []) [some 62, some 63, some 64, some 65, some 66, some 67, some 68, some 69, some 70, some 71, none] [[], [0], [], [2], [], [4], [3, 5], [6], [1, 7], [], [8, 9]] [false, false, false, false, false, false, false, false, false, false, true] [true, true, true, true, true, true, true, true, true, true, true] [] [MStP.is _, MStP.is _, MStP.is _, MStP.is _, MStP.is _, MStP.is _, MStP.is _, MStP.is _, (⟨fun v w' => ∃ C' e' z, v = .slice C' (n3 + 1) e' ∧ AL (bs ++ [w.heap.size, w.heap.size + 1]) w' C' (n3 + 1) e' (z :: x3), true, fun v w w' hs ⟨C', e', z, e, h⟩ => ⟨C', e', z, e, h.chg (Chg.of_below hs (· ∈ [])) (by simp)⟩, fun _ v w w' hs ⟨C', e', z, e, h⟩ => ⟨C', e', z, e, h.chg hs⟩⟩), MStP.is _, MStP.is _] (by kernel_rfl) (by kernel_rfl) (by kernel_rfl) (by kernel_rfl)
    case hobs =>
      refine ⟨fun y w' k hS hj hk hF K hK => ?_, ?_⟩
      · skip -- 0: fieldAddr
        simp only [fillL, cond_true, cond_false, List.getD_cons_zero, List.getD_cons_succ, StP.is, Act.put, List.setIfInBounds_toArray, List.set_cons_zero, List.set_cons_succ, Nat.reduceAdd, MStP.is, Option.isSome_some, Option.isSome_none] at hK ⊢
        simp only [List.sum_cons, List.sum_nil, List.getD_cons_zero, List.getD_cons_succ, Nat.reduceAdd, Nat.add_zero] at hk
        refine rg_yes (by kernel_rfl) ?_
        clear hF
        go_simp
        exact hK _ _ (Ext.refl _) ⟨fun h => hj.1 (by omega), fun h => absurd h (by omega)⟩ rfl
      refine ⟨fun y w' k hS hj hk hF K hK => ?_, ?_⟩
      · skip -- 1: load
        have e62 : y 62 = _ := hF.1
        have e62' := Lib.hid e62
        simp only [fillL, cond_true, cond_false, List.getD_cons_zero, List.getD_cons_succ, StP.is, Act.put, List.setIfInBounds_toArray, List.set_cons_zero, List.set_cons_succ, Nat.reduceAdd, e62, MStP.is, Option.isSome_some, Option.isSome_none] at hK ⊢
        simp only [List.sum_cons, List.sum_nil, List.getD_cons_zero, List.getD_cons_succ, Nat.reduceAdd, Nat.add_zero] at hk
        refine rg_yes (by kernel_rfl) ?_
        clear e62
        clear hF
        have hqb := hj.1 (by omega)
        have c0_ := cell_of_row _ _ 0 _ _ (0, 0) hqb
        have c1_ := cell_of_row _ _ 1 _ _ (0, 0) hqb
        have c2_ := cell_of_row _ _ 2 _ _ (0, 0) hqb
        have c3_ := cell_of_row _ _ 3 _ _ (0, 0) hqb
        have c4_ := cell_of_row _ _ 4 _ _ (0, 0) hqb
        have c5_ := cell_of_row _ _ 5 _ _ (0, 0) hqb
        have lqb := (Array.getElem?_eq_some_iff.1 hqb).1
        have HJ := Lib.hid hj; clear hj hqb
        go_simp
        have hj := HJ.out
        exact hK _ _ (Ext.refl _) ⟨fun h => hj.1 (by omega), fun h => absurd h (by omega)⟩ rfl
      refine ⟨fun y w' k hS hj hk hF K hK => ?_, ?_⟩
      · skip -- 2: fieldAddr
        simp only [fillL, cond_true, cond_false, List.getD_cons_zero, List.getD_cons_succ, StP.is, Act.put, List.setIfInBounds_toArray, List.set_cons_zero, List.set_cons_succ, Nat.reduceAdd, MStP.is, Option.isSome_some, Option.isSome_none] at hK ⊢
        simp only [List.sum_cons, List.sum_nil, List.getD_cons_zero, List.getD_cons_succ, Nat.reduceAdd, Nat.add_zero] at hk
        refine rg_yes (by kernel_rfl) ?_
        clear hF
        go_simp
        exact hK _ _ (Ext.refl _) ⟨fun h => hj.1 (by omega), fun h => absurd h (by omega)⟩ rfl
      refine ⟨fun y w' k hS hj hk hF K hK => ?_, ?_⟩
      · skip -- 3: load
        have e64 : y 64 = _ := hF.1
        have e64' := Lib.hid e64
        simp only [fillL, cond_true, cond_false, List.getD_cons_zero, List.getD_cons_succ, StP.is, Act.put, List.setIfInBounds_toArray, List.set_cons_zero, List.set_cons_succ, Nat.reduceAdd, e64, MStP.is, Option.isSome_some, Option.isSome_none] at hK ⊢
        simp only [List.sum_cons, List.sum_nil, List.getD_cons_zero, List.getD_cons_succ, Nat.reduceAdd, Nat.add_zero] at hk
        refine rg_yes (by kernel_rfl) ?_
        clear e64
        clear hF
        have hqb := hj.1 (by omega)
        have c0_ := cell_of_row _ _ 0 _ _ (0, 0) hqb
        have c1_ := cell_of_row _ _ 1 _ _ (0, 0) hqb
        have c2_ := cell_of_row _ _ 2 _ _ (0, 0) hqb
        have c3_ := cell_of_row _ _ 3 _ _ (0, 0) hqb
        have c4_ := cell_of_row _ _ 4 _ _ (0, 0) hqb
        have c5_ := cell_of_row _ _ 5 _ _ (0, 0) hqb
        have lqb := (Array.getElem?_eq_some_iff.1 hqb).1
        have HJ := Lib.hid hj; clear hj hqb
        go_simp
        have hj := HJ.out
        exact hK _ _ (Ext.refl _) ⟨fun h => hj.1 (by omega), fun h => absurd h (by omega)⟩ rfl
      refine ⟨fun y w' k hS hj hk hF K hK => ?_, ?_⟩
      · skip -- 4: move
        simp only [fillL, cond_true, cond_false, List.getD_cons_zero, List.getD_cons_succ, StP.is, Act.put, List.setIfInBounds_toArray, List.set_cons_zero, List.set_cons_succ, Nat.reduceAdd, MStP.is, Option.isSome_some, Option.isSome_none] at hK ⊢
        simp only [List.sum_cons, List.sum_nil, List.getD_cons_zero, List.getD_cons_succ, Nat.reduceAdd, Nat.add_zero] at hk
        refine rg_yes (by kernel_rfl) ?_
        clear hF
        go_simp
        exact hK _ _ (Ext.refl _) ⟨fun h => hj.1 (by omega), fun h => absurd h (by omega)⟩ rfl
      refine ⟨fun y w' k hS hj hk hF K hK => ?_, ?_⟩
      · skip -- 5: binOp
        have e66 : y 66 = _ := hF.1
        have e66' := Lib.hid e66
        simp only [fillL, cond_true, cond_false, List.getD_cons_zero, List.getD_cons_succ, StP.is, Act.put, List.setIfInBounds_toArray, List.set_cons_zero, List.set_cons_succ, Nat.reduceAdd, e66, MStP.is, Option.isSome_some, Option.isSome_none] at hK ⊢
        simp only [List.sum_cons, List.sum_nil, List.getD_cons_zero, List.getD_cons_succ, Nat.reduceAdd, Nat.add_zero] at hk
        refine rg_yes (by kernel_rfl) ?_
        clear e66
        clear hF
        go_simp
        exact hK _ _ (Ext.refl _) ⟨fun h => hj.1 (by omega), fun h => absurd h (by omega)⟩ rfl
      refine ⟨fun y w' k hS hj hk hF K hK => ?_, ?_⟩
      · skip -- 6: indexAddr
        have e65 : y 65 = _ := hF.1
        have e67 : y 67 = _ := hF.2.1
        have e65' := Lib.hid e65
        have e67' := Lib.hid e67
        simp only [fillL, cond_true, cond_false, List.getD_cons_zero, List.getD_cons_succ, StP.is, Act.put, List.setIfInBounds_toArray, List.set_cons_zero, List.set_cons_succ, Nat.reduceAdd, e65, e67, MStP.is, Option.isSome_some, Option.isSome_none] at hK ⊢
        simp only [List.sum_cons, List.sum_nil, List.getD_cons_zero, List.getD_cons_succ, Nat.reduceAdd, Nat.add_zero] at hk
        refine rg_yes (by kernel_rfl) ?_
        clear e65 e67
        clear hF
        go_simp
        exact hK _ _ (Ext.refl _) ⟨fun h => hj.1 (by omega), fun h => absurd h (by omega)⟩ rfl
      refine ⟨fun y w' k hS hj hk hF K hK => ?_, ?_⟩
      · skip -- 7: load
        have e68 : y 68 = _ := hF.1
        have e68' := Lib.hid e68
        simp only [fillL, cond_true, cond_false, List.getD_cons_zero, List.getD_cons_succ, StP.is, Act.put, List.setIfInBounds_toArray, List.set_cons_zero, List.set_cons_succ, Nat.reduceAdd, e68, MStP.is, Option.isSome_some, Option.isSome_none] at hK ⊢
        simp only [List.sum_cons, List.sum_nil, List.getD_cons_zero, List.getD_cons_succ, Nat.reduceAdd, Nat.add_zero] at hk
        refine rg_yes (by kernel_rfl) ?_
        clear e68
        clear hF
        have qc := (World.cell?_of_block (hS.block sb sl (by simp; exact sne0))).trans HSC.out
        have lqc : sb < w'.heap.size := Nat.lt_of_lt_of_le sl hS.size
        have HJ := Lib.hid hj; clear hj
        go_simp
        have hj := HJ.out
        exact hK _ _ (Ext.refl _) ⟨fun h => hj.1 (by omega), fun h => absurd h (by omega)⟩ rfl
      refine ⟨fun y w' k hS hj hk hF K hK => ?_, ?_⟩
      · skip -- 8: call
        have e63 : y 63 = _ := hF.1
        have e69 : y 69 = _ := hF.2.1
        have e63' := Lib.hid e63
        have e69' := Lib.hid e69
        simp only [fillL, cond_true, cond_false, List.getD_cons_zero, List.getD_cons_succ, StP.is, Act.put, List.setIfInBounds_toArray, List.set_cons_zero, List.set_cons_succ, Nat.reduceAdd, e63, e69, MStP.is, Option.isSome_some, Option.isSome_none] at hK ⊢
        simp only [List.sum_cons, List.sum_nil, List.getD_cons_zero, List.getD_cons_succ, Nat.reduceAdd, Nat.add_zero] at hk
        refine rg_yes (by kernel_rfl) ?_
        clear e63 e69
        clear hF
        have HJ := Lib.hid hj; clear hj
        have hIL : IL w' A3 n3 c3 x3 := (F3_1.out.chg hS).il
        have HIL := Lib.hid hIL; clear hIL
        go_simp
        go_at_call 136
        refine (l27Front_any _ _ _ x3 _ w' HIL.out (by omega)).mono ?_
        rintro e w'' ⟨C', e', rfl, hal, hb⟩
        have hsz := hS.size
        have hj := HJ.out
        exact hK _ _ hb ⟨fun h => (hb.block _ (by have := (Array.getElem?_eq_some_iff.1 (hj.1 (by omega))).1; exact this)).trans (hj.1 (by omega)), fun h => absurd h (by omega)⟩ ⟨C', e', _, rfl, AL.new hal (fun k hk => by rcases List.mem_append.1 hk with hk | hk <;> first | (have := HBS.out k hk; omega) | (simp at hk; omega))⟩
      refine ⟨fun y w' k hS hj hk hF K hK => ?_, ?_⟩
      · skip -- 9: fieldAddr
        simp only [fillL, cond_true, cond_false, List.getD_cons_zero, List.getD_cons_succ, StP.is, Act.put, List.setIfInBounds_toArray, List.set_cons_zero, List.set_cons_succ, Nat.reduceAdd, MStP.is, Option.isSome_some, Option.isSome_none] at hK ⊢
        simp only [List.sum_cons, List.sum_nil, List.getD_cons_zero, List.getD_cons_succ, Nat.reduceAdd, Nat.add_zero] at hk
        refine rg_yes (by kernel_rfl) ?_
        clear hF
        go_simp
        exact hK _ _ (Ext.refl _) ⟨fun h => hj.1 (by omega), fun h => absurd h (by omega)⟩ rfl
      refine ⟨fun y w' k hS hj hk hF K hK => ?_, ?_⟩
      · skip -- 10: store
        obtain ⟨C', e', z', e70, hal⟩ := hF.1
        have HAL := Lib.hid hal; clear hal
        have e71 : y 71 = _ := hF.2.1
        have e70' := Lib.hid e70
        have e71' := Lib.hid e71
        simp only [fillL, cond_true, cond_false, List.getD_cons_zero, List.getD_cons_succ, StP.is, Act.put, List.setIfInBounds_toArray, List.set_cons_zero, List.set_cons_succ, Nat.reduceAdd, e70, e71, MStP.is, Option.isSome_some, Option.isSome_none] at hK ⊢
        simp only [List.sum_cons, List.sum_nil, List.getD_cons_zero, List.getD_cons_succ, Nat.reduceAdd, Nat.add_zero] at hk
        refine rg_yes (by kernel_rfl) ?_
        clear e70 e71
        clear hF
        have hqb := hj.1 (by omega)
        have c0_ := cell_of_row _ _ 0 _ _ (0, 0) hqb; have f0_ := block_free hqb 0
        have c1_ := cell_of_row _ _ 1 _ _ (0, 0) hqb; have f1_ := block_free hqb 1
        have c2_ := cell_of_row _ _ 2 _ _ (0, 0) hqb; have f2_ := block_free hqb 2
        have c3_ := cell_of_row _ _ 3 _ _ (0, 0) hqb; have f3_ := block_free hqb 3
        have c4_ := cell_of_row _ _ 4 _ _ (0, 0) hqb; have f4_ := block_free hqb 4
        have c5_ := cell_of_row _ _ 5 _ _ (0, 0) hqb; have f5_ := block_free hqb 5
        have lqb := (Array.getElem?_eq_some_iff.1 hqb).1
        have HQB := Lib.hid hqb; clear hj hqb
        go_simp
        exact hK undef _ (Chg.setCell (p := ⟨w.heap.size, 5, none⟩) (Chg.refl _ _) (.inl (by simp)) _) ⟨fun h => absurd h (by omega), fun _ => ⟨C', e', z', block_set HQB.out, HAL.out.chg (Chg.setCell (p := ⟨w.heap.size, 5, none⟩) (Chg.refl (· ∈ [w.heap.size]) _) (.inl (by simp)) _)⟩⟩ rfl
      trivial
    case hH => rfl
    case hNS => exact fun _ _ h => Chg.of_below h _
    case hSt => exact fun a b => Chg.trans a b
    case hb => rfl
    case hdrew => exact (Chg.refl _ _).drewN 1
    case hj0 => exact fun y => ⟨fun _ => BX1.out, fun h => absurd h (by omega)⟩
    case hend =>
      intro y_ w2 hS hJ hF
      obtain ⟨C', e', v_, hbx, hal⟩ := hJ.2 (by decide)
      have CC : Chg (· ∈ [w.heap.size, w.heap.size + 1]) w1 w2 := hS.mono (fun b _ hb => by simp at hb ⊢; exact .inl hb)
      have HB2 := Lib.hid (HB1.out.trans (CC.below (B := w.heap.size) (fun k _ hk => by simp at hk; omega) HB1.out.size))
      have BX2 := Lib.hid hbx
      have RS2 := Lib.hid ((hS.block (w.heap.size + 1) zz1 (by simp)).trans RS1.out)
      have FN_2 := Lib.hid hal
      have F0_2 := Lib.hid (F0_1.out.chg CC)
      have F1_2 := Lib.hid (F1_1.out.chg CC)
      have F2_2 := Lib.hid (F2_1.out.chg CC)
      have F3_2 := Lib.hid (F3_1.out.chg CC)
      clear hF hJ hS hbx hal CC HB1 BX1 RS1 zz1 F0_1 F1_1 F2_1 F3_1
      simp only [fillL, cond_true, cond_false, Nat.reduceAdd]
      have zz2 : w.heap.size + 1 < w2.heap.size := (Array.getElem?_eq_some_iff.1 RS2.out).1
      have uc0 := cell_of_row _ _ 0 _ _ (0, 0) BX2.out; have uf0 := block_free BX2.out 0; have ud0 := cell_of_row _ _ 0 _ _ (0, 0) RS2.out; have ug0 := block_free RS2.out 0
      have uc1 := cell_of_row _ _ 1 _ _ (0, 0) BX2.out; have uf1 := block_free BX2.out 1; have ud1 := cell_of_row _ _ 1 _ _ (0, 0) RS2.out; have ug1 := block_free RS2.out 1
      have uc2 := cell_of_row _ _ 2 _ _ (0, 0) BX2.out; have uf2 := block_free BX2.out 2; have ud2 := cell_of_row _ _ 2 _ _ (0, 0) RS2.out; have ug2 := block_free RS2.out 2
      have uc3 := cell_of_row _ _ 3 _ _ (0, 0) BX2.out; have uf3 := block_free BX2.out 3; have ud3 := cell_of_row _ _ 3 _ _ (0, 0) RS2.out; have ug3 := block_free RS2.out 3
      have uc4 := cell_of_row _ _ 4 _ _ (0, 0) BX2.out; have uf4 := block_free BX2.out 4; have ud4 := cell_of_row _ _ 4 _ _ (0, 0) RS2.out; have ug4 := block_free RS2.out 4
      have uc5 := cell_of_row _ _ 5 _ _ (0, 0) BX2.out; have uf5 := block_free BX2.out 5; have ud5 := cell_of_row _ _ 5 _ _ (0, 0) RS2.out; have ug5 := block_free RS2.out 5
      have lb := (Array.getElem?_eq_some_iff.1 BX2.out).1; have lr := (Array.getElem?_eq_some_iff.1 RS2.out).1
      have HT_2 := Lib.hid (F1_2.out.take (m := nm) (by omega))
      obtain ⟨wF, hwF⟩ : ∃ W, W = (World.setCell (World.setCell (World.setCell (World.setCell (World.setCell (World.setCell (World.setCell w2 ⟨w.heap.size, 3, none⟩ (.slice (some ⟨sb, so, none⟩) nm c1)) ⟨w.heap.size + 1, 0, none⟩ (.int .i64 ro)) ⟨w.heap.size + 1, 1, none⟩ (.int .i64 go)) ⟨w.heap.size + 1, 2, none⟩ (.slice A0 n0 c0)) ⟨w.heap.size + 1, 3, none⟩ (.slice (some ⟨sb, so, none⟩) nm c1)) ⟨w.heap.size + 1, 4, none⟩ (.slice A2 n2 c2)) ⟨w.heap.size + 1, 5, none⟩ (.slice C' (n3 + 1) e')) := ⟨_, rfl⟩
      have CF : Chg (· ∈ [w.heap.size, w.heap.size + 1]) w2 wF := by rw [hwF]; exact (Chg.setCell (p := ⟨w.heap.size + 1, 5, none⟩) (Chg.setCell (p := ⟨w.heap.size + 1, 4, none⟩) (Chg.setCell (p := ⟨w.heap.size + 1, 3, none⟩) (Chg.setCell (p := ⟨w.heap.size + 1, 2, none⟩) (Chg.setCell (p := ⟨w.heap.size + 1, 1, none⟩) (Chg.setCell (p := ⟨w.heap.size + 1, 0, none⟩) (Chg.setCell (p := ⟨w.heap.size, 3, none⟩) (Chg.refl _ _) (.inl (by simp)) _) (.inl (by simp)) _) (.inl (by simp)) _) (.inl (by simp)) _) (.inl (by simp)) _) (.inl (by simp)) _) (.inl (by simp)) _)
      have HBF : Below w.heap.size w wF := HB2.out.trans (CF.below (B := w.heap.size) (fun k _ hk => by simp at hk; omega) HB2.out.size)
      have F0_F := (F0_2.out.chg CF).sub
      have F1_F := (F1_2.out.chg CF).sub
      have F2_F := (F2_2.out.chg CF).sub
      have F3_F := (F3_2.out.chg CF).sub
      have FN_F := (FN_2.out.chg CF).sub
      have HT_F := (HT_2.out.chg CF).sub
      have RSF : wF.heap[w.heap.size + 1]? = some (.cells #[.int .i64 ro, .int .i64 go, .slice A0 n0 c0, .slice (some ⟨sb, so, none⟩) nm c1, .slice A2 n2 c2, .slice C' (n3 + 1) e'] 57 (0, 0)) := by rw [hwF]; exact (block_set (o := 5) (v := .slice C' (n3 + 1) e') (block_set (o := 4) (v := .slice A2 n2 c2) (block_set (o := 3) (v := .slice (some ⟨sb, so, none⟩) nm c1) (block_set (o := 2) (v := .slice A0 n0 c0) (block_set (o := 1) (v := .int .i64 go) (block_set (o := 0) (v := .int .i64 ro) ((heap_far (p := ⟨w.heap.size, 3, none⟩) (by simp)).trans RS2.out)))))))
      have r0 := cell_of_row _ _ 0 _ _ (0, 0) RSF
      have r1 := cell_of_row _ _ 1 _ _ (0, 0) RSF
      have r2 := cell_of_row _ _ 2 _ _ (0, 0) RSF
      have r3 := cell_of_row _ _ 3 _ _ (0, 0) RSF
      have r4 := cell_of_row _ _ 4 _ _ (0, 0) RSF
      have r5 := cell_of_row _ _ 5 _ _ (0, 0) RSF
      have HP : Hid (WayP bs ro go n0 n1 n2 n3 x2 x3 w (.returned (.agg #[.int .i64 ro, .int .i64 go, .slice A0 n0 c0, .slice (some ⟨sb, so, none⟩) nm c1, .slice A2 n2 c2, .slice C' (n3 + 1) e'])) wF) := Lib.hid (⟨A0, n0, c0, x0, some ⟨sb, so, none⟩, nm, c1, _, A2, n2, c2, x2, C', n3 + 1, e', _, rfl, F0_F, HT_F, F2_F, FN_F, .inr ⟨cge, .inr ⟨rfl, HN1.out, rfl, rfl, rfl, ⟨_, rfl⟩⟩⟩, HBF⟩)
      have HWF := Lib.hid hwF
      clear hwF CF HBF F0_F F1_F F2_F F3_F FN_F HT_F
      go_wp2_with fail
      rw [← HWF.out]
      exact bodyPost_ret (v := .agg #[.int .i64 ro, .int .i64 go, .slice A0 n0 c0, .slice (some ⟨sb, so, none⟩) nm c1, .slice A2 n2 c2, .slice C' (n3 + 1) e']) (by simp [results, Try.results137, go_sem, r0, r1, r2, r3, r4, r5]) rfl HP.out
  have d0 : (0 : Int) < (n0 : Int) := by omega
  have d0n : 0 < n0 := by omega
  by_cases z2 : go < (n0 : Int)
  · skip
    have uc0 := cell_of_row _ _ 0 _ _ (0, 0) BX1.out; have uf0 := block_free BX1.out 0; have ud0 := cell_of_row _ _ 0 _ _ (0, 0) RS1.out; have ug0 := block_free RS1.out 0
    have uc1 := cell_of_row _ _ 1 _ _ (0, 0) BX1.out; have uf1 := block_free BX1.out 1; have ud1 := cell_of_row _ _ 1 _ _ (0, 0) RS1.out; have ug1 := block_free RS1.out 1
    have uc2 := cell_of_row _ _ 2 _ _ (0, 0) BX1.out; have uf2 := block_free BX1.out 2; have ud2 := cell_of_row _ _ 2 _ _ (0, 0) RS1.out; have ug2 := block_free RS1.out 2
    have uc3 := cell_of_row _ _ 3 _ _ (0, 0) BX1.out; have uf3 := block_free BX1.out 3; have ud3 := cell_of_row _ _ 3 _ _ (0, 0) RS1.out; have ug3 := block_free RS1.out 3
    have uc4 := cell_of_row _ _ 4 _ _ (0, 0) BX1.out; have uf4 := block_free BX1.out 4; have ud4 := cell_of_row _ _ 4 _ _ (0, 0) RS1.out; have ug4 := block_free RS1.out 4
    have uc5 := cell_of_row _ _ 5 _ _ (0, 0) BX1.out; have uf5 := block_free BX1.out 5; have ud5 := cell_of_row _ _ 5 _ _ (0, 0) RS1.out; have ug5 := block_free RS1.out 5
    have lb := (Array.getElem?_eq_some_iff.1 BX1.out).1; have lr := (Array.getElem?_eq_some_iff.1 RS1.out).1
    go_wp2_with fail
    rw [← hw1]
    clear hw1
    obtain ⟨sb, so, sv, hsA, sl, sne, sc⟩ := F0_1.out.cell (k := n0 - 1) (by omega)
    subst hsA
    have nn : IntKind.i64.wrap ((n0 : Int) - 1) = ((n0 - 1 : Nat) : Int) := by rw [IntWalk.i64_in _ (by omega)]; omega
    obtain ⟨nm, hnm⟩ : ∃ m, m = n0 - 1 := ⟨_, rfl⟩
    rw [← hnm] at nn sc
    have hnm1 : nm + 1 = n0 := by omega
    have nm0 : (0 : Int) ≤ (nm : Int) := by omega
    have nm1 : (nm : Int) < (n0 : Int) := by omega
    have HSC := Lib.hid sc; have HNM := Lib.hid hnm; have HN1 := Lib.hid hnm1
    have sne0 : sb ≠ w.heap.size := sne _ (by simp)
    have sne1 : sb ≠ w.heap.size + 1 := sne _ (by simp)
    clear sc hnm hnm1 uc0 uf0 ud0 ug0 uc1 uf1 ud1 ug1 uc2 uf2 ud2 ug2 uc3 uf3 ud3 ug3 uc4 uf4 ud4 ug4 uc5 uf5 ud5 ug5 lb lr
    apply wp_region_rgz (Chg (· ∈ [w.heap.size])) (Ext) (fun y w' k' => (k' < 1000 → w'.heap[w.heap.size]? = some (.cells #[.int .i64 ro, .int .i64 go, .slice (some ⟨sb, so, none⟩) n0 c0, .slice A1 n1 c1, .slice A2 n2 c2, .slice A3 n3 c3] 57 (0, 0))) ∧ (1000 ≤ k' → ∃ C' e' v, w'.heap[w.heap.size]? = some (.cells #[.int .i64 ro, .int .i64 go, .slice (some ⟨sb, so, none⟩) n0 c0, .slice A1 n1 c1, .slice C' (n2 + 1) e', .slice A3 n3 c3] 57 (0, 0)) ∧ AL (bs ++ [w.heap.size, w.heap.size + 1]) w' C' (n2 + 1) e' (v :: x2))) [0, 0, 0, 0, 0, 0, 0, 0, 0, 0, 1000] [1000, 1000, 1000, 1000, 1000, 1000, 1000, 1000, 1000, 1000, 1000] (by kernel_rfl) (false :: false :: false :: false :: false :: false :: false :: false :: false :: false :: false :: false :: false :: false :: false :: false :: false :: false :: false :: false :: false :: false :: false :: false :: false :: false :: false :: false :: false :: false :: false :: false :: false :: false :: false :: false :: false :: false :: false :: false :: false :: false :: false :: false :: false :: true :: true :: true :: true :: true :: true :: true :: true :: true :: true :: false :: false :: false :: false :: false :: false :: false :: false :: false :: false :: false :: false :: false :: false :: false :: false :: false :: false :: false :: false :: false :: false :: false :: false :: []) [some 45, some 46, some 47, some 48, some 49, some 50, some 51, some 52, some 53, some 54, none] [[], [0], [], [2], [], [4], [3, 5], [6], [1, 7], [], [8, 9]] [false, false, false, false, false, false, false, false, false, false, true] [true, true, true, true, true, true, true, true, true, true, true] [] [MStP.is _, MStP.is _, MStP.is _, MStP.is _, MStP.is _, MStP.is _, MStP.is _, MStP.is _, (⟨fun v w' => ∃ C' e' z, v = .slice C' (n2 + 1) e' ∧ AL (bs ++ [w.heap.size, w.heap.size + 1]) w' C' (n2 + 1) e' (z :: x2), true, fun v w w' hs ⟨C', e', z, e, h⟩ => ⟨C', e', z, e, h.chg (Chg.of_below hs (· ∈ [])) (by simp)⟩, fun _ v w w' hs ⟨C', e', z, e, h⟩ => ⟨C', e', z, e, h.chg hs⟩⟩), MStP.is _, MStP.is _] (by kernel_rfl) (by kernel_rfl) (by kernel_rfl) (by kernel_rfl)
    case hobs =>
      refine ⟨fun y w' k hS hj hk hF K hK => ?_, ?_⟩
      · skip -- 0: fieldAddr
        simp only [fillL, cond_true, cond_false, List.getD_cons_zero, List.getD_cons_succ, StP.is, Act.put, List.setIfInBounds_toArray, List.set_cons_zero, List.set_cons_succ, Nat.reduceAdd, MStP.is, Option.isSome_some, Option.isSome_none] at hK ⊢
        simp only [List.sum_cons, List.sum_nil, List.getD_cons_zero, List.getD_cons_succ, Nat.reduceAdd, Nat.add_zero] at hk
        refine rg_yes (by kernel_rfl) ?_
        clear hF
        go_simp
        exact hK _ _ (Ext.refl _) ⟨fun h => hj.1 (by omega), fun h => absurd h (by omega)⟩ rfl
      refine ⟨fun y w' k hS hj hk hF K hK => ?_, ?_⟩
      · skip -- 1: load
        have e45 : y 45 = _ := hF.1
        have e45' := Lib.hid e45
        simp only [fillL, cond_true, cond_false, List.getD_cons_zero, List.getD_cons_succ, StP.is, Act.put, List.setIfInBounds_toArray, List.set_cons_zero, List.set_cons_succ, Nat.reduceAdd, e45, MStP.is, Option.isSome_some, Option.isSome_none] at hK ⊢
        simp only [List.sum_cons, List.sum_nil, List.getD_cons_zero, List.getD_cons_succ, Nat.reduceAdd, Nat.add_zero] at hk
        refine rg_yes (by kernel_rfl) ?_
        clear e45
        clear hF
        have hqb := hj.1 (by omega)
        have c0_ := cell_of_row _ _ 0 _ _ (0, 0) hqb
        have c1_ := cell_of_row _ _ 1 _ _ (0, 0) hqb
        have c2_ := cell_of_row _ _ 2 _ _ (0, 0) hqb
        have c3_ := cell_of_row _ _ 3 _ _ (0, 0) hqb
        have c4_ := cell_of_row _ _ 4 _ _ (0, 0) hqb
        have c5_ := cell_of_row _ _ 5 _ _ (0, 0) hqb
        have lqb := (Array.getElem?_eq_some_iff.1 hqb).1
        have HJ := Lib.hid hj; clear hj hqb
        go_simp
        have hj := HJ.out
        exact hK _ _ (Ext.refl _) ⟨fun h => hj.1 (by omega), fun h => absurd h (by omega)⟩ rfl
      refine ⟨fun y w' k hS hj hk hF K hK => ?_, ?_⟩
      · skip -- 2: fieldAddr
        simp only [fillL, cond_true, cond_false, List.getD_cons_zero, List.getD_cons_succ, StP.is, Act.put, List.setIfInBounds_toArray, List.set_cons_zero, List.set_cons_succ, Nat.reduceAdd, MStP.is, Option.isSome_some, Option.isSome_none] at hK ⊢
        simp only [List.sum_cons, List.sum_nil, List.getD_cons_zero, List.getD_cons_succ, Nat.reduceAdd, Nat.add_zero] at hk
        refine rg_yes (by kernel_rfl) ?_
        clear hF
        go_simp
        exact hK _ _ (Ext.refl _) ⟨fun h => hj.1 (by omega), fun h => absurd h (by omega)⟩ rfl
      refine ⟨fun y w' k hS hj hk hF K hK => ?_, ?_⟩
      · skip -- 3: load
        have e47 : y 47 = _ := hF.1
        have e47' := Lib.hid e47
        simp only [fillL, cond_true, cond_false, List.getD_cons_zero, List.getD_cons_succ, StP.is, Act.put, List.setIfInBounds_toArray, List.set_cons_zero, List.set_cons_succ, Nat.reduceAdd, e47, MStP.is, Option.isSome_some, Option.isSome_none] at hK ⊢
        simp only [List.sum_cons, List.sum_nil, List.getD_cons_zero, List.getD_cons_succ, Nat.reduceAdd, Nat.add_zero] at hk
        refine rg_yes (by kernel_rfl) ?_
        clear e47
        clear hF
        have hqb := hj.1 (by omega)
        have c0_ := cell_of_row _ _ 0 _ _ (0, 0) hqb
        have c1_ := cell_of_row _ _ 1 _ _ (0, 0) hqb
        have c2_ := cell_of_row _ _ 2 _ _ (0, 0) hqb
        have c3_ := cell_of_row _ _ 3 _ _ (0, 0) hqb
        have c4_ := cell_of_row _ _ 4 _ _ (0, 0) hqb
        have c5_ := cell_of_row _ _ 5 _ _ (0, 0) hqb
        have lqb := (Array.getElem?_eq_some_iff.1 hqb).1
        have HJ := Lib.hid hj; clear hj hqb
        go_simp
        have hj := HJ.out
        exact hK _ _ (Ext.refl _) ⟨fun h => hj.1 (by omega), fun h => absurd h (by omega)⟩ rfl
      refine ⟨fun y w' k hS hj hk hF K hK => ?_, ?_⟩
      · skip -- 4: move
        simp only [fillL, cond_true, cond_false, List.getD_cons_zero, List.getD_cons_succ, StP.is, Act.put, List.setIfInBounds_toArray, List.set_cons_zero, List.set_cons_succ, Nat.reduceAdd, MStP.is, Option.isSome_some, Option.isSome_none] at hK ⊢
        simp only [List.sum_cons, List.sum_nil, List.getD_cons_zero, List.getD_cons_succ, Nat.reduceAdd, Nat.add_zero] at hk
        refine rg_yes (by kernel_rfl) ?_
        clear hF
        go_simp
        exact hK _ _ (Ext.refl _) ⟨fun h => hj.1 (by omega), fun h => absurd h (by omega)⟩ rfl
      refine ⟨fun y w' k hS hj hk hF K hK => ?_, ?_⟩
      · skip -- 5: binOp
        have e49 : y 49 = _ := hF.1
        have e49' := Lib.hid e49
        simp only [fillL, cond_true, cond_false, List.getD_cons_zero, List.getD_cons_succ, StP.is, Act.put, List.setIfInBounds_toArray, List.set_cons_zero, List.set_cons_succ, Nat.reduceAdd, e49, MStP.is, Option.isSome_some, Option.isSome_none] at hK ⊢
        simp only [List.sum_cons, List.sum_nil, List.getD_cons_zero, List.getD_cons_succ, Nat.reduceAdd, Nat.add_zero] at hk
        refine rg_yes (by kernel_rfl) ?_
        clear e49
        clear hF
        go_simp
        exact hK _ _ (Ext.refl _) ⟨fun h => hj.1 (by omega), fun h => absurd h (by omega)⟩ rfl
      refine ⟨fun y w' k hS hj hk hF K hK => ?_, ?_⟩
      · skip -- 6: indexAddr
        have e48 : y 48 = _ := hF.1
        have e50 : y 50 = _ := hF.2.1
        have e48' := Lib.hid e48
        have e50' := Lib.hid e50
        simp only [fillL, cond_true, cond_false, List.getD_cons_zero, List.getD_cons_succ, StP.is, Act.put, List.setIfInBounds_toArray, List.set_cons_zero, List.set_cons_succ, Nat.reduceAdd, e48, e50, MStP.is, Option.isSome_some, Option.isSome_none] at hK ⊢
        simp only [List.sum_cons, List.sum_nil, List.getD_cons_zero, List.getD_cons_succ, Nat.reduceAdd, Nat.add_zero] at hk
        refine rg_yes (by kernel_rfl) ?_
        clear e48 e50
        clear hF
        go_simp
        exact hK _ _ (Ext.refl _) ⟨fun h => hj.1 (by omega), fun h => absurd h (by omega)⟩ rfl
      refine ⟨fun y w' k hS hj hk hF K hK => ?_, ?_⟩
      · skip -- 7: load
        have e51 : y 51 = _ := hF.1
        have e51' := Lib.hid e51
        simp only [fillL, cond_true, cond_false, List.getD_cons_zero, List.getD_cons_succ, StP.is, Act.put, List.setIfInBounds_toArray, List.set_cons_zero, List.set_cons_succ, Nat.reduceAdd, e51, MStP.is, Option.isSome_some, Option.isSome_none] at hK ⊢
        simp only [List.sum_cons, List.sum_nil, List.getD_cons_zero, List.getD_cons_succ, Nat.reduceAdd, Nat.add_zero] at hk
        refine rg_yes (by kernel_rfl) ?_
        clear e51
        clear hF
        have qc := (World.cell?_of_block (hS.block sb sl (by simp; exact sne0))).trans HSC.out
        have lqc : sb < w'.heap.size := Nat.lt_of_lt_of_le sl hS.size
        have HJ := Lib.hid hj; clear hj
        go_simp
        have hj := HJ.out
        exact hK _ _ (Ext.refl _) ⟨fun h => hj.1 (by omega), fun h => absurd h (by omega)⟩ rfl
      refine ⟨fun y w' k hS hj hk hF K hK => ?_, ?_⟩
      · skip -- 8: call
        have e46 : y 46 = _ := hF.1
        have e52 : y 52 = _ := hF.2.1
        have e46' := Lib.hid e46
        have e52' := Lib.hid e52
        simp only [fillL, cond_true, cond_false, List.getD_cons_zero, List.getD_cons_succ, StP.is, Act.put, List.setIfInBounds_toArray, List.set_cons_zero, List.set_cons_succ, Nat.reduceAdd, e46, e52, MStP.is, Option.isSome_some, Option.isSome_none] at hK ⊢
        simp only [List.sum_cons, List.sum_nil, List.getD_cons_zero, List.getD_cons_succ, Nat.reduceAdd, Nat.add_zero] at hk
        refine rg_yes (by kernel_rfl) ?_
        clear e46 e52
        clear hF
        have HJ := Lib.hid hj; clear hj
        have hIL : IL w' A2 n2 c2 x2 := (F2_1.out.chg hS).il
        have HIL := Lib.hid hIL; clear hIL
        go_simp
        go_at_call 136
        refine (l27Front_any _ _ _ x2 _ w' HIL.out (by omega)).mono ?_
        rintro e w'' ⟨C', e', rfl, hal, hb⟩
        have hsz := hS.size
        have hj := HJ.out
        exact hK _ _ hb ⟨fun h => (hb.block _ (by have := (Array.getElem?_eq_some_iff.1 (hj.1 (by omega))).1; exact this)).trans (hj.1 (by omega)), fun h => absurd h (by omega)⟩ ⟨C', e', _, rfl, AL.new hal (fun k hk => by rcases List.mem_append.1 hk with hk | hk <;> first | (have := HBS.out k hk; omega) | (simp at hk; omega))⟩
      refine ⟨fun y w' k hS hj hk hF K hK => ?_, ?_⟩
      · skip -- 9: fieldAddr
        simp only [fillL, cond_true, cond_false, List.getD_cons_zero, List.getD_cons_succ, StP.is, Act.put, List.setIfInBounds_toArray, List.set_cons_zero, List.set_cons_succ, Nat.reduceAdd, MStP.is, Option.isSome_some, Option.isSome_none] at hK ⊢
        simp only [List.sum_cons, List.sum_nil, List.getD_cons_zero, List.getD_cons_succ, Nat.reduceAdd, Nat.add_zero] at hk
        refine rg_yes (by kernel_rfl) ?_
        clear hF
        go_simp
        exact hK _ _ (Ext.refl _) ⟨fun h => hj.1 (by omega), fun h => absurd h (by omega)⟩ rfl
      refine ⟨fun y w' k hS hj hk hF K hK => ?_, ?_⟩
      · skip -- 10: store
        obtain ⟨C', e', z', e53, hal⟩ := hF.1
        have HAL := Lib.hid hal; clear hal
        have e54 : y 54 = _ := hF.2.1
        have e53' := Lib.hid e53
        have e54' := Lib.hid e54
        simp only [fillL, cond_true, cond_false, List.getD_cons_zero, List.getD_cons_succ, StP.is, Act.put, List.setIfInBounds_toArray, List.set_cons_zero, List.set_cons_succ, Nat.reduceAdd, e53, e54, MStP.is, Option.isSome_some, Option.isSome_none] at hK ⊢
        simp only [List.sum_cons, List.sum_nil, List.getD_cons_zero, List.getD_cons_succ, Nat.reduceAdd, Nat.add_zero] at hk
        refine rg_yes (by kernel_rfl) ?_
        clear e53 e54
        clear hF
        have hqb := hj.1 (by omega)
        have c0_ := cell_of_row _ _ 0 _ _ (0, 0) hqb; have f0_ := block_free hqb 0
        have c1_ := cell_of_row _ _ 1 _ _ (0, 0) hqb; have f1_ := block_free hqb 1
        have c2_ := cell_of_row _ _ 2 _ _ (0, 0) hqb; have f2_ := block_free hqb 2
        have c3_ := cell_of_row _ _ 3 _ _ (0, 0) hqb; have f3_ := block_free hqb 3
        have c4_ := cell_of_row _ _ 4 _ _ (0, 0) hqb; have f4_ := block_free hqb 4
        have c5_ := cell_of_row _ _ 5 _ _ (0, 0) hqb; have f5_ := block_free hqb 5
        have lqb := (Array.getElem?_eq_some_iff.1 hqb).1
        have HQB := Lib.hid hqb; clear hj hqb
        go_simp
        exact hK undef _ (Chg.setCell (p := ⟨w.heap.size, 4, none⟩) (Chg.refl _ _) (.inl (by simp)) _) ⟨fun h => absurd h (by omega), fun _ => ⟨C', e', z', block_set HQB.out, HAL.out.chg (Chg.setCell (p := ⟨w.heap.size, 4, none⟩) (Chg.refl (· ∈ [w.heap.size]) _) (.inl (by simp)) _)⟩⟩ rfl
      trivial
    case hH => rfl
    case hNS => exact fun _ _ h => Chg.of_below h _
    case hSt => exact fun a b => Chg.trans a b
    case hb => rfl
    case hdrew => exact (Chg.refl _ _).drewN 1
    case hj0 => exact fun y => ⟨fun _ => BX1.out, fun h => absurd h (by omega)⟩
    case hend =>
      intro y_ w2 hS hJ hF
      obtain ⟨C', e', v_, hbx, hal⟩ := hJ.2 (by decide)
      have CC : Chg (· ∈ [w.heap.size, w.heap.size + 1]) w1 w2 := hS.mono (fun b _ hb => by simp at hb ⊢; exact .inl hb)
      have HB2 := Lib.hid (HB1.out.trans (CC.below (B := w.heap.size) (fun k _ hk => by simp at hk; omega) HB1.out.size))
      have BX2 := Lib.hid hbx
      have RS2 := Lib.hid ((hS.block (w.heap.size + 1) zz1 (by simp)).trans RS1.out)
      have FN_2 := Lib.hid hal
      have F0_2 := Lib.hid (F0_1.out.chg CC)
      have F1_2 := Lib.hid (F1_1.out.chg CC)
      have F2_2 := Lib.hid (F2_1.out.chg CC)
      have F3_2 := Lib.hid (F3_1.out.chg CC)
      clear hF hJ hS hbx hal CC HB1 BX1 RS1 zz1 F0_1 F1_1 F2_1 F3_1
      simp only [fillL, cond_true, cond_false, Nat.reduceAdd]
      have zz2 : w.heap.size + 1 < w2.heap.size := (Array.getElem?_eq_some_iff.1 RS2.out).1
      have uc0 := cell_of_row _ _ 0 _ _ (0, 0) BX2.out; have uf0 := block_free BX2.out 0; have ud0 := cell_of_row _ _ 0 _ _ (0, 0) RS2.out; have ug0 := block_free RS2.out 0
      have uc1 := cell_of_row _ _ 1 _ _ (0, 0) BX2.out; have uf1 := block_free BX2.out 1; have ud1 := cell_of_row _ _ 1 _ _ (0, 0) RS2.out; have ug1 := block_free RS2.out 1
      have uc2 := cell_of_row _ _ 2 _ _ (0, 0) BX2.out; have uf2 := block_free BX2.out 2; have ud2 := cell_of_row _ _ 2 _ _ (0, 0) RS2.out; have ug2 := block_free RS2.out 2
      have uc3 := cell_of_row _ _ 3 _ _ (0, 0) BX2.out; have uf3 := block_free BX2.out 3; have ud3 := cell_of_row _ _ 3 _ _ (0, 0) RS2.out; have ug3 := block_free RS2.out 3
      have uc4 := cell_of_row _ _ 4 _ _ (0, 0) BX2.out; have uf4 := block_free BX2.out 4; have ud4 := cell_of_row _ _ 4 _ _ (0, 0) RS2.out; have ug4 := block_free RS2.out 4
      have uc5 := cell_of_row _ _ 5 _ _ (0, 0) BX2.out; have uf5 := block_free BX2.out 5; have ud5 := cell_of_row _ _ 5 _ _ (0, 0) RS2.out; have ug5 := block_free RS2.out 5
      have lb := (Array.getElem?_eq_some_iff.1 BX2.out).1; have lr := (Array.getElem?_eq_some_iff.1 RS2.out).1
      have HT_2 := Lib.hid (F0_2.out.take (m := nm) (by omega))
      obtain ⟨wF, hwF⟩ : ∃ W, W = (World.setCell (World.setCell (World.setCell (World.setCell (World.setCell (World.setCell (World.setCell w2 ⟨w.heap.size, 2, none⟩ (.slice (some ⟨sb, so, none⟩) nm c0)) ⟨w.heap.size + 1, 0, none⟩ (.int .i64 ro)) ⟨w.heap.size + 1, 1, none⟩ (.int .i64 go)) ⟨w.heap.size + 1, 2, none⟩ (.slice (some ⟨sb, so, none⟩) nm c0)) ⟨w.heap.size + 1, 3, none⟩ (.slice A1 n1 c1)) ⟨w.heap.size + 1, 4, none⟩ (.slice C' (n2 + 1) e')) ⟨w.heap.size + 1, 5, none⟩ (.slice A3 n3 c3)) := ⟨_, rfl⟩
      have CF : Chg (· ∈ [w.heap.size, w.heap.size + 1]) w2 wF := by rw [hwF]; exact (Chg.setCell (p := ⟨w.heap.size + 1, 5, none⟩) (Chg.setCell (p := ⟨w.heap.size + 1, 4, none⟩) (Chg.setCell (p := ⟨w.heap.size + 1, 3, none⟩) (Chg.setCell (p := ⟨w.heap.size + 1, 2, none⟩) (Chg.setCell (p := ⟨w.heap.size + 1, 1, none⟩) (Chg.setCell (p := ⟨w.heap.size + 1, 0, none⟩) (Chg.setCell (p := ⟨w.heap.size, 2, none⟩) (Chg.refl _ _) (.inl (by simp)) _) (.inl (by simp)) _) (.inl (by simp)) _) (.inl (by simp)) _) (.inl (by simp)) _) (.inl (by simp)) _) (.inl (by simp)) _)
      have HBF : Below w.heap.size w wF := HB2.out.trans (CF.below (B := w.heap.size) (fun k _ hk => by simp at hk; omega) HB2.out.size)
      have F0_F := (F0_2.out.chg CF).sub
      have F1_F := (F1_2.out.chg CF).sub
      have F2_F := (F2_2.out.chg CF).sub
      have F3_F := (F3_2.out.chg CF).sub
      have FN_F := (FN_2.out.chg CF).sub
      have HT_F := (HT_2.out.chg CF).sub
      have RSF : wF.heap[w.heap.size + 1]? = some (.cells #[.int .i64 ro, .int .i64 go, .slice (some ⟨sb, so, none⟩) nm c0, .slice A1 n1 c1, .slice C' (n2 + 1) e', .slice A3 n3 c3] 57 (0, 0)) := by rw [hwF]; exact (block_set (o := 5) (v := .slice A3 n3 c3) (block_set (o := 4) (v := .slice C' (n2 + 1) e') (block_set (o := 3) (v := .slice A1 n1 c1) (block_set (o := 2) (v := .slice (some ⟨sb, so, none⟩) nm c0) (block_set (o := 1) (v := .int .i64 go) (block_set (o := 0) (v := .int .i64 ro) ((heap_far (p := ⟨w.heap.size, 2, none⟩) (by simp)).trans RS2.out)))))))
      have r0 := cell_of_row _ _ 0 _ _ (0, 0) RSF
      have r1 := cell_of_row _ _ 1 _ _ (0, 0) RSF
      have r2 := cell_of_row _ _ 2 _ _ (0, 0) RSF
      have r3 := cell_of_row _ _ 3 _ _ (0, 0) RSF
      have r4 := cell_of_row _ _ 4 _ _ (0, 0) RSF
      have r5 := cell_of_row _ _ 5 _ _ (0, 0) RSF
      have HP : Hid (WayP bs ro go n0 n1 n2 n3 x2 x3 w (.returned (.agg #[.int .i64 ro, .int .i64 go, .slice (some ⟨sb, so, none⟩) nm c0, .slice A1 n1 c1, .slice C' (n2 + 1) e', .slice A3 n3 c3])) wF) := Lib.hid (⟨some ⟨sb, so, none⟩, nm, c0, _, A1, n1, c1, x1, C', n2 + 1, e', _, A3, n3, c3, x3, rfl, HT_F, F1_F, FN_F, F3_F, .inr ⟨cge, .inl ⟨HN1.out, rfl, rfl, rfl, ⟨_, rfl⟩, rfl⟩⟩, HBF⟩)
      have HWF := Lib.hid hwF
      clear hwF CF HBF F0_F F1_F F2_F F3_F FN_F HT_F
      go_wp2_with fail
      rw [← HWF.out]
      exact bodyPost_ret (v := .agg #[.int .i64 ro, .int .i64 go, .slice (some ⟨sb, so, none⟩) nm c0, .slice A1 n1 c1, .slice C' (n2 + 1) e', .slice A3 n3 c3]) (by simp [results, Try.results137, go_sem, r0, r1, r2, r3, r4, r5]) rfl HP.out
  by_cases z3 : fl = true ∧ (n0 : Int) = go
  · obtain ⟨rfl, z4⟩ := z3
    have d2 : ((n0 : Int) == go) = true := by simp [z4]
    have Z4 := Lib.hid z4; clear z4
    have uc0 := cell_of_row _ _ 0 _ _ (0, 0) BX1.out; have uf0 := block_free BX1.out 0; have ud0 := cell_of_row _ _ 0 _ _ (0, 0) RS1.out; have ug0 := block_free RS1.out 0
    have uc1 := cell_of_row _ _ 1 _ _ (0, 0) BX1.out; have uf1 := block_free BX1.out 1; have ud1 := cell_of_row _ _ 1 _ _ (0, 0) RS1.out; have ug1 := block_free RS1.out 1
    have uc2 := cell_of_row _ _ 2 _ _ (0, 0) BX1.out; have uf2 := block_free BX1.out 2; have ud2 := cell_of_row _ _ 2 _ _ (0, 0) RS1.out; have ug2 := block_free RS1.out 2
    have uc3 := cell_of_row _ _ 3 _ _ (0, 0) BX1.out; have uf3 := block_free BX1.out 3; have ud3 := cell_of_row _ _ 3 _ _ (0, 0) RS1.out; have ug3 := block_free RS1.out 3
    have uc4 := cell_of_row _ _ 4 _ _ (0, 0) BX1.out; have uf4 := block_free BX1.out 4; have ud4 := cell_of_row _ _ 4 _ _ (0, 0) RS1.out; have ug4 := block_free RS1.out 4
    have uc5 := cell_of_row _ _ 5 _ _ (0, 0) BX1.out; have uf5 := block_free BX1.out 5; have ud5 := cell_of_row _ _ 5 _ _ (0, 0) RS1.out; have ug5 := block_free RS1.out 5
    have lb := (Array.getElem?_eq_some_iff.1 BX1.out).1; have lr := (Array.getElem?_eq_some_iff.1 RS1.out).1
    go_wp2_with fail
    rw [← hw1]
    clear hw1
    obtain ⟨sb, so, sv, hsA, sl, sne, sc⟩ := F0_1.out.cell (k := n0 - 1) (by omega)
    subst hsA
    have nn : IntKind.i64.wrap ((n0 : Int) - 1) = ((n0 - 1 : Nat) : Int) := by rw [IntWalk.i64_in _ (by omega)]; omega
    obtain ⟨nm, hnm⟩ : ∃ m, m = n0 - 1 := ⟨_, rfl⟩
    rw [← hnm] at nn sc
    have hnm1 : nm + 1 = n0 := by omega
    have nm0 : (0 : Int) ≤ (nm : Int) := by omega
    have nm1 : (nm : Int) < (n0 : Int) := by omega
    have HSC := Lib.hid sc; have HNM := Lib.hid hnm; have HN1 := Lib.hid hnm1
    have sne0 : sb ≠ w.heap.size := sne _ (by simp)
    have sne1 : sb ≠ w.heap.size + 1 := sne _ (by simp)
    clear sc hnm hnm1 uc0 uf0 ud0 ug0 uc1 uf1 ud1 ug1 uc2 uf2 ud2 ug2 uc3 uf3 ud3 ug3 uc4 uf4 ud4 ug4 uc5 uf5 ud5 ug5 lb lr
    apply wp_region_rgz (Chg (· ∈ [w.heap.size])) (Ext) (fun y w' k' => (k' < 1000 → w'.heap[w.heap.size]? = some (.cells #[.int .i64 ro, .int .i64 go, .slice (some ⟨sb, so, none⟩) n0 c0, .slice A1 n1 c1, .slice A2 n2 c2, .slice A3 n3 c3] 57 (0, 0))) ∧ (1000 ≤ k' → ∃ C' e' v, w'.heap[w.heap.size]? = some (.cells #[.int .i64 ro, .int .i64 go, .slice (some ⟨sb, so, none⟩) n0 c0, .slice A1 n1 c1, .slice C' (n2 + 1) e', .slice A3 n3 c3] 57 (0, 0)) ∧ AL (bs ++ [w.heap.size, w.heap.size + 1]) w' C' (n2 + 1) e' (v :: x2))) [0, 0, 0, 0, 0, 0, 0, 0, 0, 0, 1000] [1000, 1000, 1000, 1000, 1000, 1000, 1000, 1000, 1000, 1000, 1000] (by kernel_rfl) (false :: false :: false :: false :: false :: false :: false :: false :: false :: false :: false :: false :: false :: false :: false :: false :: false :: false :: false :: false :: false :: false :: false :: false :: false :: false :: false :: false :: false :: false :: false :: false :: false :: false :: false :: false :: false :: false :: false :: false :: false :: false :: false :: false :: false :: true :: true :: true :: true :: true :: true :: true :: true :: true :: true :: false :: false :: false :: false :: false :: false :: false :: false :: false :: false :: false :: false :: false :: false :: false :: false :: false :: false :: false :: false :: false :: false :: false :: false :: []) [some 45, some 46, some 47, some 48, some 49, some 50, some 51, some 52, some 53, some 54, none] [[], [0], [], [2], [], [4], [3, 5], [6], [1, 7], [], [8, 9]] [false, false, false, false, false, false, false, false, false, false, true] [true, true, true, true, true, true, true, true, true, true, true] [] [MStP.is _, MStP.is _, MStP.is _, MStP.is _, MStP.is _, MStP.is _, MStP.is _, MStP.is _, (⟨fun v w' => ∃ C' e' z, v = .slice C' (n2 + 1) e' ∧ AL (bs ++ [w.heap.size, w.heap.size + 1]) w' C' (n2 + 1) e' (z :: x2), true, fun v w w' hs ⟨C', e', z, e, h⟩ => ⟨C', e', z, e, h.chg (Chg.of_below hs (· ∈ [])) (by simp)⟩, fun _ v w w' hs ⟨C', e', z, e, h⟩ => ⟨C', e', z, e, h.chg hs⟩⟩), MStP.is _, MStP.is _] (by kernel_rfl) (by kernel_rfl) (by kernel_rfl) (by kernel_rfl)
    case hobs =>
      refine ⟨fun y w' k hS hj hk hF K hK => ?_, ?_⟩
      · skip -- 0: fieldAddr
        simp only [fillL, cond_true, cond_false, List.getD_cons_zero, List.getD_cons_succ, StP.is, Act.put, List.setIfInBounds_toArray, List.set_cons_zero, List.set_cons_succ, Nat.reduceAdd, MStP.is, Option.isSome_some, Option.isSome_none] at hK ⊢
        simp only [List.sum_cons, List.sum_nil, List.getD_cons_zero, List.getD_cons_succ, Nat.reduceAdd, Nat.add_zero] at hk
        refine rg_yes (by kernel_rfl) ?_
        clear hF
        go_simp
        exact hK _ _ (Ext.refl _) ⟨fun h => hj.1 (by omega), fun h => absurd h (by omega)⟩ rfl
      refine ⟨fun y w' k hS hj hk hF K hK => ?_, ?_⟩
      · skip -- 1: load
        have e45 : y 45 = _ := hF.1
        have e45' := Lib.hid e45
        simp only [fillL, cond_true, cond_false, List.getD_cons_zero, List.getD_cons_succ, StP.is, Act.put, List.setIfInBounds_toArray, List.set_cons_zero, List.set_cons_succ, Nat.reduceAdd, e45, MStP.is, Option.isSome_some, Option.isSome_none] at hK ⊢
        simp only [List.sum_cons, List.sum_nil, List.getD_cons_zero, List.getD_cons_succ, Nat.reduceAdd, Nat.add_zero] at hk
        refine rg_yes (by kernel_rfl) ?_
        clear e45
        clear hF
        have hqb := hj.1 (by omega)
        have c0_ := cell_of_row _ _ 0 _ _ (0, 0) hqb
        have c1_ := cell_of_row _ _ 1 _ _ (0, 0) hqb
        have c2_ := cell_of_row _ _ 2 _ _ (0, 0) hqb
        have c3_ := cell_of_row _ _ 3 _ _ (0, 0) hqb
        have c4_ := cell_of_row _ _ 4 _ _ (0, 0) hqb
        have c5_ := cell_of_row _ _ 5 _ _ (0, 0) hqb
        have lqb := (Array.getElem?_eq_some_iff.1 hqb).1
        have HJ := Lib.hid hj; clear hj hqb
        go_simp
        have hj := HJ.out
        exact hK _ _ (Ext.refl _) ⟨fun h => hj.1 (by omega), fun h => absurd h (by omega)⟩ rfl
      refine ⟨fun y w' k hS hj hk hF K hK => ?_, ?_⟩
      · skip -- 2: fieldAddr
        simp only [fillL, cond_true, cond_false, List.getD_cons_zero, List.getD_cons_succ, StP.is, Act.put, List.setIfInBounds_toArray, List.set_cons_zero, List.set_cons_succ, Nat.reduceAdd, MStP.is, Option.isSome_some, Option.isSome_none] at hK ⊢
        simp only [List.sum_cons, List.sum_nil, List.getD_cons_zero, List.getD_cons_succ, Nat.reduceAdd, Nat.add_zero] at hk
        refine rg_yes (by kernel_rfl) ?_
        clear hF
        go_simp
        exact hK _ _ (Ext.refl _) ⟨fun h => hj.1 (by omega), fun h => absurd h (by omega)⟩ rfl
      refine ⟨fun y w' k hS hj hk hF K hK => ?_, ?_⟩
      · skip -- 3: load
        have e47 : y 47 = _ := hF.1
        have e47' := Lib.hid e47
        simp only [fillL, cond_true, cond_false, List.getD_cons_zero, List.getD_cons_succ, StP.is, Act.put, List.setIfInBounds_toArray, List.set_cons_zero, List.set_cons_succ, Nat.reduceAdd, e47, MStP.is, Option.isSome_some, Option.isSome_none] at hK ⊢
        simp only [List.sum_cons, List.sum_nil, List.getD_cons_zero, List.getD_cons_succ, Nat.reduceAdd, Nat.add_zero] at hk
        refine rg_yes (by kernel_rfl) ?_
        clear e47
        clear hF
        have hqb := hj.1 (by omega)
        have c0_ := cell_of_row _ _ 0 _ _ (0, 0) hqb
        have c1_ := cell_of_row _ _ 1 _ _ (0, 0) hqb
        have c2_ := cell_of_row _ _ 2 _ _ (0, 0) hqb
        have c3_ := cell_of_row _ _ 3 _ _ (0, 0) hqb
        have c4_ := cell_of_row _ _ 4 _ _ (0, 0) hqb
        have c5_ := cell_of_row _ _ 5 _ _ (0, 0) hqb
        have lqb := (Array.getElem?_eq_some_iff.1 hqb).1
        have HJ := Lib.hid hj; clear hj hqb
        go_simp
        have hj := HJ.out
        exact hK _ _ (Ext.refl _) ⟨fun h => hj.1 (by omega), fun h => absurd h (by omega)⟩ rfl
      refine ⟨fun y w' k hS hj hk hF K hK => ?_, ?_⟩
      · skip -- 4: move
        simp only [fillL, cond_true, cond_false, List.getD_cons_zero, List.getD_cons_succ, StP.is, Act.put, List.setIfInBounds_toArray, List.set_cons_zero, List.set_cons_succ, Nat.reduceAdd, MStP.is, Option.isSome_some, Option.isSome_none] at hK ⊢
        simp only [List.sum_cons, List.sum_nil, List.getD_cons_zero, List.getD_cons_succ, Nat.reduceAdd, Nat.add_zero] at hk
        refine rg_yes (by kernel_rfl) ?_
        clear hF
        go_simp
        exact hK _ _ (Ext.refl _) ⟨fun h => hj.1 (by omega), fun h => absurd h (by omega)⟩ rfl
      refine ⟨fun y w' k hS hj hk hF K hK => ?_, ?_⟩
      · skip -- 5: binOp
        have e49 : y 49 = _ := hF.1
        have e49' := Lib.hid e49
        simp only [fillL, cond_true, cond_false, List.getD_cons_zero, List.getD_cons_succ, StP.is, Act.put, List.setIfInBounds_toArray, List.set_cons_zero, List.set_cons_succ, Nat.reduceAdd, e49, MStP.is, Option.isSome_some, Option.isSome_none] at hK ⊢
        simp only [List.sum_cons, List.sum_nil, List.getD_cons_zero, List.getD_cons_succ, Nat.reduceAdd, Nat.add_zero] at hk
        refine rg_yes (by kernel_rfl) ?_
        clear e49
        clear hF
        go_simp
        exact hK _ _ (Ext.refl _) ⟨fun h => hj.1 (by omega), fun h => absurd h (by omega)⟩ rfl
      refine ⟨fun y w' k hS hj hk hF K hK => ?_, ?_⟩
      · skip -- 6: indexAddr
        have e48 : y 48 = _ := hF.1
        have e50 : y 50 = _ := hF.2.1
        have e48' := Lib.hid e48
        have e50' := Lib.hid e50
        simp only [fillL, cond_true, cond_false, List.getD_cons_zero, List.getD_cons_succ, StP.is, Act.put, List.setIfInBounds_toArray, List.set_cons_zero, List.set_cons_succ, Nat.reduceAdd, e48, e50, MStP.is, Option.isSome_some, Option.isSome_none] at hK ⊢
        simp only [List.sum_cons, List.sum_nil, List.getD_cons_zero, List.getD_cons_succ, Nat.reduceAdd, Nat.add_zero] at hk
        refine rg_yes (by kernel_rfl) ?_
        clear e48 e50
        clear hF
        go_simp
        exact hK _ _ (Ext.refl _) ⟨fun h => hj.1 (by omega), fun h => absurd h (by omega)⟩ rfl
      refine ⟨fun y w' k hS hj hk hF K hK => ?_, ?_⟩
      · skip -- 7: load
        have e51 : y 51 = _ := hF.1
        have e51' := Lib.hid e51
        simp only [fillL, cond_true, cond_false, List.getD_cons_zero, List.getD_cons_succ, StP.is, Act.put, List.setIfInBounds_toArray, List.set_cons_zero, List.set_cons_succ, Nat.reduceAdd, e51, MStP.is, Option.isSome_some, Option.isSome_none] at hK ⊢
        simp only [List.sum_cons, List.sum_nil, List.getD_cons_zero, List.getD_cons_succ, Nat.reduceAdd, Nat.add_zero] at hk
        refine rg_yes (by kernel_rfl) ?_
        clear e51
        clear hF
        have qc := (World.cell?_of_block (hS.block sb sl (by simp; exact sne0))).trans HSC.out
        have lqc : sb < w'.heap.size := Nat.lt_of_lt_of_le sl hS.size
        have HJ := Lib.hid hj; clear hj
        go_simp
        have hj := HJ.out
        exact hK _ _ (Ext.refl _) ⟨fun h => hj.1 (by omega), fun h => absurd h (by omega)⟩ rfl
      refine ⟨fun y w' k hS hj hk hF K hK => ?_, ?_⟩
      · skip -- 8: call
        have e46 : y 46 = _ := hF.1
        have e52 : y 52 = _ := hF.2.1
        have e46' := Lib.hid e46
        have e52' := Lib.hid e52
        simp only [fillL, cond_true, cond_false, List.getD_cons_zero, List.getD_cons_succ, StP.is, Act.put, List.setIfInBounds_toArray, List.set_cons_zero, List.set_cons_succ, Nat.reduceAdd, e46, e52, MStP.is, Option.isSome_some, Option.isSome_none] at hK ⊢
        simp only [List.sum_cons, List.sum_nil, List.getD_cons_zero, List.getD_cons_succ, Nat.reduceAdd, Nat.add_zero] at hk
        refine rg_yes (by kernel_rfl) ?_
        clear e46 e52
        clear hF
        have HJ := Lib.hid hj; clear hj
        have hIL : IL w' A2 n2 c2 x2 := (F2_1.out.chg hS).il
        have HIL := Lib.hid hIL; clear hIL
        go_simp
        go_at_call 136
        refine (l27Front_any _ _ _ x2 _ w' HIL.out (by omega)).mono ?_
        rintro e w'' ⟨C', e', rfl, hal, hb⟩
        have hsz := hS.size
        have hj := HJ.out
        exact hK _ _ hb ⟨fun h => (hb.block _ (by have := (Array.getElem?_eq_some_iff.1 (hj.1 (by omega))).1; exact this)).trans (hj.1 (by omega)), fun h => absurd h (by omega)⟩ ⟨C', e', _, rfl, AL.new hal (fun k hk => by rcases List.mem_append.1 hk with hk | hk <;> first | (have := HBS.out k hk; omega) | (simp at hk; omega))⟩
      refine ⟨fun y w' k hS hj hk hF K hK => ?_, ?_⟩
      · skip -- 9: fieldAddr
        simp only [fillL, cond_true, cond_false, List.getD_cons_zero, List.getD_cons_succ, StP.is, Act.put, List.setIfInBounds_toArray, List.set_cons_zero, List.set_cons_succ, Nat.reduceAdd, MStP.is, Option.isSome_some, Option.isSome_none] at hK ⊢
        simp only [List.sum_cons, List.sum_nil, List.getD_cons_zero, List.getD_cons_succ, Nat.reduceAdd, Nat.add_zero] at hk
        refine rg_yes (by kernel_rfl) ?_
        clear hF
        go_simp
        exact hK _ _ (Ext.refl _) ⟨fun h => hj.1 (by omega), fun h => absurd h (by omega)⟩ rfl
      refine ⟨fun y w' k hS hj hk hF K hK => ?_, ?_⟩
      · skip -- 10: store
        obtain ⟨C', e', z', e53, hal⟩ := hF.1
        have HAL := Lib.hid hal; clear hal
        have e54 : y 54 = _ := hF.2.1
        have e53' := Lib.hid e53
        have e54' := Lib.hid e54
        simp only [fillL, cond_true, cond_false, List.getD_cons_zero, List.getD_cons_succ, StP.is, Act.put, List.setIfInBounds_toArray, List.set_cons_zero, List.set_cons_succ, Nat.reduceAdd, e53, e54, MStP.is, Option.isSome_some, Option.isSome_none] at hK ⊢
        simp only [List.sum_cons, List.sum_nil, List.getD_cons_zero, List.getD_cons_succ, Nat.reduceAdd, Nat.add_zero] at hk
        refine rg_yes (by kernel_rfl) ?_
        clear e53 e54
        clear hF
        have hqb := hj.1 (by omega)
        have c0_ := cell_of_row _ _ 0 _ _ (0, 0) hqb; have f0_ := block_free hqb 0
        have c1_ := cell_of_row _ _ 1 _ _ (0, 0) hqb; have f1_ := block_free hqb 1
        have c2_ := cell_of_row _ _ 2 _ _ (0, 0) hqb; have f2_ := block_free hqb 2
        have c3_ := cell_of_row _ _ 3 _ _ (0, 0) hqb; have f3_ := block_free hqb 3
        have c4_ := cell_of_row _ _ 4 _ _ (0, 0) hqb; have f4_ := block_free hqb 4
        have c5_ := cell_of_row _ _ 5 _ _ (0, 0) hqb; have f5_ := block_free hqb 5
        have lqb := (Array.getElem?_eq_some_iff.1 hqb).1
        have HQB := Lib.hid hqb; clear hj hqb
        go_simp
        exact hK undef _ (Chg.setCell (p := ⟨w.heap.size, 4, none⟩) (Chg.refl _ _) (.inl (by simp)) _) ⟨fun h => absurd h (by omega), fun _ => ⟨C', e', z', block_set HQB.out, HAL.out.chg (Chg.setCell (p := ⟨w.heap.size, 4, none⟩) (Chg.refl (· ∈ [w.heap.size]) _) (.inl (by simp)) _)⟩⟩ rfl
      trivial
    case hH => rfl
    case hNS => exact fun _ _ h => Chg.of_below h _
    case hSt => exact fun a b => Chg.trans a b
    case hb => rfl
    case hdrew => exact (Chg.refl _ _).drewN 1
    case hj0 => exact fun y => ⟨fun _ => BX1.out, fun h => absurd h (by omega)⟩
    case hend =>
      intro y_ w2 hS hJ hF
      obtain ⟨C', e', v_, hbx, hal⟩ := hJ.2 (by decide)
      have CC : Chg (· ∈ [w.heap.size, w.heap.size + 1]) w1 w2 := hS.mono (fun b _ hb => by simp at hb ⊢; exact .inl hb)
      have HB2 := Lib.hid (HB1.out.trans (CC.below (B := w.heap.size) (fun k _ hk => by simp at hk; omega) HB1.out.size))
      have BX2 := Lib.hid hbx
      have RS2 := Lib.hid ((hS.block (w.heap.size + 1) zz1 (by simp)).trans RS1.out)
      have FN_2 := Lib.hid hal
      have F0_2 := Lib.hid (F0_1.out.chg CC)
      have F1_2 := Lib.hid (F1_1.out.chg CC)
      have F2_2 := Lib.hid (F2_1.out.chg CC)
      have F3_2 := Lib.hid (F3_1.out.chg CC)
      clear hF hJ hS hbx hal CC HB1 BX1 RS1 zz1 F0_1 F1_1 F2_1 F3_1
      simp only [fillL, cond_true, cond_false, Nat.reduceAdd]
      have zz2 : w.heap.size + 1 < w2.heap.size := (Array.getElem?_eq_some_iff.1 RS2.out).1
      have uc0 := cell_of_row _ _ 0 _ _ (0, 0) BX2.out; have uf0 := block_free BX2.out 0; have ud0 := cell_of_row _ _ 0 _ _ (0, 0) RS2.out; have ug0 := block_free RS2.out 0
      have uc1 := cell_of_row _ _ 1 _ _ (0, 0) BX2.out; have uf1 := block_free BX2.out 1; have ud1 := cell_of_row _ _ 1 _ _ (0, 0) RS2.out; have ug1 := block_free RS2.out 1
      have uc2 := cell_of_row _ _ 2 _ _ (0, 0) BX2.out; have uf2 := block_free BX2.out 2; have ud2 := cell_of_row _ _ 2 _ _ (0, 0) RS2.out; have ug2 := block_free RS2.out 2
      have uc3 := cell_of_row _ _ 3 _ _ (0, 0) BX2.out; have uf3 := block_free BX2.out 3; have ud3 := cell_of_row _ _ 3 _ _ (0, 0) RS2.out; have ug3 := block_free RS2.out 3
      have uc4 := cell_of_row _ _ 4 _ _ (0, 0) BX2.out; have uf4 := block_free BX2.out 4; have ud4 := cell_of_row _ _ 4 _ _ (0, 0) RS2.out; have ug4 := block_free RS2.out 4
      have uc5 := cell_of_row _ _ 5 _ _ (0, 0) BX2.out; have uf5 := block_free BX2.out 5; have ud5 := cell_of_row _ _ 5 _ _ (0, 0) RS2.out; have ug5 := block_free RS2.out 5
      have lb := (Array.getElem?_eq_some_iff.1 BX2.out).1; have lr := (Array.getElem?_eq_some_iff.1 RS2.out).1
      have HT_2 := Lib.hid (F0_2.out.take (m := nm) (by omega))
      obtain ⟨wF, hwF⟩ : ∃ W, W = (World.setCell (World.setCell (World.setCell (World.setCell (World.setCell (World.setCell (World.setCell w2 ⟨w.heap.size, 2, none⟩ (.slice (some ⟨sb, so, none⟩) nm c0)) ⟨w.heap.size + 1, 0, none⟩ (.int .i64 ro)) ⟨w.heap.size + 1, 1, none⟩ (.int .i64 go)) ⟨w.heap.size + 1, 2, none⟩ (.slice (some ⟨sb, so, none⟩) nm c0)) ⟨w.heap.size + 1, 3, none⟩ (.slice A1 n1 c1)) ⟨w.heap.size + 1, 4, none⟩ (.slice C' (n2 + 1) e')) ⟨w.heap.size + 1, 5, none⟩ (.slice A3 n3 c3)) := ⟨_, rfl⟩
      have CF : Chg (· ∈ [w.heap.size, w.heap.size + 1]) w2 wF := by rw [hwF]; exact (Chg.setCell (p := ⟨w.heap.size + 1, 5, none⟩) (Chg.setCell (p := ⟨w.heap.size + 1, 4, none⟩) (Chg.setCell (p := ⟨w.heap.size + 1, 3, none⟩) (Chg.setCell (p := ⟨w.heap.size + 1, 2, none⟩) (Chg.setCell (p := ⟨w.heap.size + 1, 1, none⟩) (Chg.setCell (p := ⟨w.heap.size + 1, 0, none⟩) (Chg.setCell (p := ⟨w.heap.size, 2, none⟩) (Chg.refl _ _) (.inl (by simp)) _) (.inl (by simp)) _) (.inl (by simp)) _) (.inl (by simp)) _) (.inl (by simp)) _) (.inl (by simp)) _) (.inl (by simp)) _)
      have HBF : Below w.heap.size w wF := HB2.out.trans (CF.below (B := w.heap.size) (fun k _ hk => by simp at hk; omega) HB2.out.size)
      have F0_F := (F0_2.out.chg CF).sub
      have F1_F := (F1_2.out.chg CF).sub
      have F2_F := (F2_2.out.chg CF).sub
      have F3_F := (F3_2.out.chg CF).sub
      have FN_F := (FN_2.out.chg CF).sub
      have HT_F := (HT_2.out.chg CF).sub
      have RSF : wF.heap[w.heap.size + 1]? = some (.cells #[.int .i64 ro, .int .i64 go, .slice (some ⟨sb, so, none⟩) nm c0, .slice A1 n1 c1, .slice C' (n2 + 1) e', .slice A3 n3 c3] 57 (0, 0)) := by rw [hwF]; exact (block_set (o := 5) (v := .slice A3 n3 c3) (block_set (o := 4) (v := .slice C' (n2 + 1) e') (block_set (o := 3) (v := .slice A1 n1 c1) (block_set (o := 2) (v := .slice (some ⟨sb, so, none⟩) nm c0) (block_set (o := 1) (v := .int .i64 go) (block_set (o := 0) (v := .int .i64 ro) ((heap_far (p := ⟨w.heap.size, 2, none⟩) (by simp)).trans RS2.out)))))))
      have r0 := cell_of_row _ _ 0 _ _ (0, 0) RSF
      have r1 := cell_of_row _ _ 1 _ _ (0, 0) RSF
      have r2 := cell_of_row _ _ 2 _ _ (0, 0) RSF
      have r3 := cell_of_row _ _ 3 _ _ (0, 0) RSF
      have r4 := cell_of_row _ _ 4 _ _ (0, 0) RSF
      have r5 := cell_of_row _ _ 5 _ _ (0, 0) RSF
      have HP : Hid (WayP bs ro go n0 n1 n2 n3 x2 x3 w (.returned (.agg #[.int .i64 ro, .int .i64 go, .slice (some ⟨sb, so, none⟩) nm c0, .slice A1 n1 c1, .slice C' (n2 + 1) e', .slice A3 n3 c3])) wF) := Lib.hid (⟨some ⟨sb, so, none⟩, nm, c0, _, A1, n1, c1, x1, C', n2 + 1, e', _, A3, n3, c3, x3, rfl, HT_F, F1_F, FN_F, F3_F, .inr ⟨cge, .inl ⟨HN1.out, rfl, rfl, rfl, ⟨_, rfl⟩, rfl⟩⟩, HBF⟩)
      have HWF := Lib.hid hwF
      clear hwF CF HBF F0_F F1_F F2_F F3_F FN_F HT_F
      go_wp2_with fail
      rw [← HWF.out]
      exact bodyPost_ret (v := .agg #[.int .i64 ro, .int .i64 go, .slice (some ⟨sb, so, none⟩) nm c0, .slice A1 n1 c1, .slice C' (n2 + 1) e', .slice A3 n3 c3]) (by simp [results, Try.results137, go_sem, r0, r1, r2, r3, r4, r5]) rfl HP.out
  have HZ3 := Lib.hid z3; clear z3
  cases fl
  case false =>
    by_cases z5 : n1 = 0
    · have d1 : ((n1 : Int) == 0) = true := by simp; omega
      have Z5 := Lib.hid z5; clear z5
      have uc0 := cell_of_row _ _ 0 _ _ (0, 0) BX1.out; have uf0 := block_free BX1.out 0; have ud0 := cell_of_row _ _ 0 _ _ (0, 0) RS1.out; have ug0 := block_free RS1.out 0
      have uc1 := cell_of_row _ _ 1 _ _ (0, 0) BX1.out; have uf1 := block_free BX1.out 1; have ud1 := cell_of_row _ _ 1 _ _ (0, 0) RS1.out; have ug1 := block_free RS1.out 1
      have uc2 := cell_of_row _ _ 2 _ _ (0, 0) BX1.out; have uf2 := block_free BX1.out 2; have ud2 := cell_of_row _ _ 2 _ _ (0, 0) RS1.out; have ug2 := block_free RS1.out 2
      have uc3 := cell_of_row _ _ 3 _ _ (0, 0) BX1.out; have uf3 := block_free BX1.out 3; have ud3 := cell_of_row _ _ 3 _ _ (0, 0) RS1.out; have ug3 := block_free RS1.out 3
      have uc4 := cell_of_row _ _ 4 _ _ (0, 0) BX1.out; have uf4 := block_free BX1.out 4; have ud4 := cell_of_row _ _ 4 _ _ (0, 0) RS1.out; have ug4 := block_free RS1.out 4
      have uc5 := cell_of_row _ _ 5 _ _ (0, 0) BX1.out; have uf5 := block_free BX1.out 5; have ud5 := cell_of_row _ _ 5 _ _ (0, 0) RS1.out; have ug5 := block_free RS1.out 5
      have lb := (Array.getElem?_eq_some_iff.1 BX1.out).1; have lr := (Array.getElem?_eq_some_iff.1 RS1.out).1
      go_wp2_with fail
      rw [← hw1]
      clear hw1
      obtain ⟨sb, so, sv, hsA, sl, sne, sc⟩ := F0_1.out.cell (k := n0 - 1) (by omega)
      subst hsA
      have nn : IntKind.i64.wrap ((n0 : Int) - 1) = ((n0 - 1 : Nat) : Int) := by rw [IntWalk.i64_in _ (by omega)]; omega
      obtain ⟨nm, hnm⟩ : ∃ m, m = n0 - 1 := ⟨_, rfl⟩
      rw [← hnm] at nn sc
      have hnm1 : nm + 1 = n0 := by omega
      have nm0 : (0 : Int) ≤ (nm : Int) := by omega
      have nm1 : (nm : Int) < (n0 : Int) := by omega
      have HSC := Lib.hid sc; have HNM := Lib.hid hnm; have HN1 := Lib.hid hnm1
      have sne0 : sb ≠ w.heap.size := sne _ (by simp)
      have sne1 : sb ≠ w.heap.size + 1 := sne _ (by simp)
      clear sc hnm hnm1 uc0 uf0 ud0 ug0 uc1 uf1 ud1 ug1 uc2 uf2 ud2 ug2 uc3 uf3 ud3 ug3 uc4 uf4 ud4 ug4 uc5 uf5 ud5 ug5 lb lr
      apply wp_region_rgz (Chg (· ∈ [w.heap.size])) (Ext) (fun y w' k' => (k' < 1000 → w'.heap[w.heap.size]? = some (.cells #[.int .i64 ro, .int .i64 go, .slice (some ⟨sb, so, none⟩) n0 c0, .slice A1 n1 c1, .slice A2 n2 c2, .slice A3 n3 c3] 57 (0, 0))) ∧ (1000 ≤ k' → ∃ C' e' v, w'.heap[w.heap.size]? = some (.cells #[.int .i64 ro, .int .i64 go, .slice (some ⟨sb, so, none⟩) n0 c0, .slice A1 n1 c1, .slice C' (n2 + 1) e', .slice A3 n3 c3] 57 (0, 0)) ∧ AL (bs ++ [w.heap.size, w.heap.size + 1]) w' C' (n2 + 1) e' (v :: x2))) [0, 0, 0, 0, 0, 0, 0, 0, 0, 0, 1000] [1000, 1000, 1000, 1000, 1000, 1000, 1000, 1000, 1000, 1000, 1000] (by kernel_rfl) (false :: false :: false :: false :: false :: false :: false :: false :: false :: false :: false :: false :: false :: false :: false :: false :: false :: false :: false :: false :: false :: false :: false :: false :: false :: false :: false :: false :: false :: false :: false :: false :: false :: false :: false :: false :: false :: false :: false :: false :: false :: false :: false :: false :: false :: true :: true :: true :: true :: true :: true :: true :: true :: true :: true :: false :: false :: false :: false :: false :: false :: false :: false :: false :: false :: false :: false :: false :: false :: false :: false :: false :: false :: false :: false :: false :: false :: false :: false :: []) [some 45, some 46, some 47, some 48, some 49, some 50, some 51, some 52, some 53, some 54, none] [[], [0], [], [2], [], [4], [3, 5], [6], [1, 7], [], [8, 9]] [false, false, false, false, false, false, false, false, false, false, true] [true, true, true, true, true, true, true, true, true, true, true] [] [MStP.is _, MStP.is _, MStP.is _, MStP.is _, MStP.is _, MStP.is _, MStP.is _, MStP.is _, (⟨fun v w' => ∃ C' e' z, v = .slice C' (n2 + 1) e' ∧ AL (bs ++ [w.heap.size, w.heap.size + 1]) w' C' (n2 + 1) e' (z :: x2), true, fun v w w' hs ⟨C', e', z, e, h⟩ => ⟨C', e', z, e, h.chg (Chg.of_below hs (· ∈ [])) (by simp)⟩, fun _ v w w' hs ⟨C', e', z, e, h⟩ => ⟨C', e', z, e, h.chg hs⟩⟩), MStP.is _, MStP.is _] (by kernel_rfl) (by kernel_rfl) (by kernel_rfl) (by kernel_rfl)
      case hobs =>
        refine ⟨fun y w' k hS hj hk hF K hK => ?_, ?_⟩
        · skip -- 0: fieldAddr
          simp only [fillL, cond_true, cond_false, List.getD_cons_zero, List.getD_cons_succ, StP.is, Act.put, List.setIfInBounds_toArray, List.set_cons_zero, List.set_cons_succ, Nat.reduceAdd, MStP.is, Option.isSome_some, Option.isSome_none] at hK ⊢
          simp only [List.sum_cons, List.sum_nil, List.getD_cons_zero, List.getD_cons_succ, Nat.reduceAdd, Nat.add_zero] at hk
          refine rg_yes (by kernel_rfl) ?_
          clear hF
          go_simp
          exact hK _ _ (Ext.refl _) ⟨fun h => hj.1 (by omega), fun h => absurd h (by omega)⟩ rfl
        refine ⟨fun y w' k hS hj hk hF K hK => ?_, ?_⟩
        · skip -- 1: load
          have e45 : y 45 = _ := hF.1
          have e45' := Lib.hid e45
          simp only [fillL, cond_true, cond_false, List.getD_cons_zero, List.getD_cons_succ, StP.is, Act.put, List.setIfInBounds_toArray, List.set_cons_zero, List.set_cons_succ, Nat.reduceAdd, e45, MStP.is, Option.isSome_some, Option.isSome_none] at hK ⊢
          simp only [List.sum_cons, List.sum_nil, List.getD_cons_zero, List.getD_cons_succ, Nat.reduceAdd, Nat.add_zero] at hk
          refine rg_yes (by kernel_rfl) ?_
          clear e45
          clear hF
          have hqb := hj.1 (by omega)
          have c0_ := cell_of_row _ _ 0 _ _ (0, 0) hqb
          have c1_ := cell_of_row _ _ 1 _ _ (0, 0) hqb
          have c2_ := cell_of_row _ _ 2 _ _ (0, 0) hqb
          have c3_ := cell_of_row _ _ 3 _ _ (0, 0) hqb
          have c4_ := cell_of_row _ _ 4 _ _ (0, 0) hqb
          have c5_ := cell_of_row _ _ 5 _ _ (0, 0) hqb
          have lqb := (Array.getElem?_eq_some_iff.1 hqb).1
          have HJ := Lib.hid hj; clear hj hqb
          go_simp
          have hj := HJ.out
          exact hK _ _ (Ext.refl _) ⟨fun h => hj.1 (by omega), fun h => absurd h (by omega)⟩ rfl
        refine ⟨fun y w' k hS hj hk hF K hK => ?_, ?_⟩
        · skip -- 2: fieldAddr
          simp only [fillL, cond_true, cond_false, List.getD_cons_zero, List.getD_cons_succ, StP.is, Act.put, List.setIfInBounds_toArray, List.set_cons_zero, List.set_cons_succ, Nat.reduceAdd, MStP.is, Option.isSome_some, Option.isSome_none] at hK ⊢
          simp only [List.sum_cons, List.sum_nil, List.getD_cons_zero, List.getD_cons_succ, Nat.reduceAdd, Nat.add_zero] at hk
          refine rg_yes (by kernel_rfl) ?_
          clear hF
          go_simp
          exact hK _ _ (Ext.refl _) ⟨fun h => hj.1 (by omega), fun h => absurd h (by omega)⟩ rfl
        refine ⟨fun y w' k hS hj hk hF K hK => ?_, ?_⟩
        · skip -- 3: load
          have e47 : y 47 = _ := hF.1
          have e47' := Lib.hid e47
          simp only [fillL, cond_true, cond_false, List.getD_cons_zero, List.getD_cons_succ, StP.is, Act.put, List.setIfInBounds_toArray, List.set_cons_zero, List.set_cons_succ, Nat.reduceAdd, e47, MStP.is, Option.isSome_some, Option.isSome_none] at hK ⊢
          simp only [List.sum_cons, List.sum_nil, List.getD_cons_zero, List.getD_cons_succ, Nat.reduceAdd, Nat.add_zero] at hk
          refine rg_yes (by kernel_rfl) ?_
          clear e47
          clear hF
          have hqb := hj.1 (by omega)
          have c0_ := cell_of_row _ _ 0 _ _ (0, 0) hqb
          have c1_ := cell_of_row _ _ 1 _ _ (0, 0) hqb
          have c2_ := cell_of_row _ _ 2 _ _ (0, 0) hqb
          have c3_ := cell_of_row _ _ 3 _ _ (0, 0) hqb
          have c4_ := cell_of_row _ _ 4 _ _ (0, 0) hqb
          have c5_ := cell_of_row _ _ 5 _ _ (0, 0) hqb
          have lqb := (Array.getElem?_eq_some_iff.1 hqb).1
          have HJ := Lib.hid hj; clear hj hqb
          go_simp
          have hj := HJ.out
          exact hK _ _ (Ext.refl _) ⟨fun h => hj.1 (by omega), fun h => absurd h (by omega)⟩ rfl
        refine ⟨fun y w' k hS hj hk hF K hK => ?_, ?_⟩
        · skip -- 4: move
          simp only [fillL, cond_true, cond_false, List.getD_cons_zero, List.getD_cons_succ, StP.is, Act.put, List.setIfInBounds_toArray, List.set_cons_zero, List.set_cons_succ, Nat.reduceAdd, MStP.is, Option.isSome_some, Option.isSome_none] at hK ⊢
          simp only [List.sum_cons, List.sum_nil, List.getD_cons_zero, List.getD_cons_succ, Nat.reduceAdd, Nat.add_zero] at hk
          refine rg_yes (by kernel_rfl) ?_
          clear hF
          go_simp
          exact hK _ _ (Ext.refl _) ⟨fun h => hj.1 (by omega), fun h => absurd h (by omega)⟩ rfl
        refine ⟨fun y w' k hS hj hk hF K hK => ?_, ?_⟩
        · skip -- 5: binOp
          have e49 : y 49 = _ := hF.1
          have e49' := Lib.hid e49
          simp only [fillL, cond_true, cond_false, List.getD_cons_zero, List.getD_cons_succ, StP.is, Act.put, List.setIfInBounds_toArray, List.set_cons_zero, List.set_cons_succ, Nat.reduceAdd, e49, MStP.is, Option.isSome_some, Option.isSome_none] at hK ⊢
          simp only [List.sum_cons, List.sum_nil, List.getD_cons_zero, List.getD_cons_succ, Nat.reduceAdd, Nat.add_zero] at hk
          refine rg_yes (by kernel_rfl) ?_
          clear e49
          clear hF
          go_simp
          exact hK _ _ (Ext.refl _) ⟨fun h => hj.1 (by omega), fun h => absurd h (by omega)⟩ rfl
        refine ⟨fun y w' k hS hj hk hF K hK => ?_, ?_⟩
        · skip -- 6: indexAddr
          have e48 : y 48 = _ := hF.1
          have e50 : y 50 = _ := hF.2.1
          have e48' := Lib.hid e48
          have e50' := Lib.hid e50
          simp only [fillL, cond_true, cond_false, List.getD_cons_zero, List.getD_cons_succ, StP.is, Act.put, List.setIfInBounds_toArray, List.set_cons_zero, List.set_cons_succ, Nat.reduceAdd, e48, e50, MStP.is, Option.isSome_some, Option.isSome_none] at hK ⊢
          simp only [List.sum_cons, List.sum_nil, List.getD_cons_zero, List.getD_cons_succ, Nat.reduceAdd, Nat.add_zero] at hk
          refine rg_yes (by kernel_rfl) ?_
          clear e48 e50
          clear hF
          go_simp
          exact hK _ _ (Ext.refl _) ⟨fun h => hj.1 (by omega), fun h => absurd h (by omega)⟩ rfl
        refine ⟨fun y w' k hS hj hk hF K hK => ?_, ?_⟩
        · skip -- 7: load
          have e51 : y 51 = _ := hF.1
          have e51' := Lib.hid e51
          simp only [fillL, cond_true, cond_false, List.getD_cons_zero, List.getD_cons_succ, StP.is, Act.put, List.setIfInBounds_toArray, List.set_cons_zero, List.set_cons_succ, Nat.reduceAdd, e51, MStP.is, Option.isSome_some, Option.isSome_none] at hK ⊢
          simp only [List.sum_cons, List.sum_nil, List.getD_cons_zero, List.getD_cons_succ, Nat.reduceAdd, Nat.add_zero] at hk
          refine rg_yes (by kernel_rfl) ?_
          clear e51
          clear hF
          have qc := (World.cell?_of_block (hS.block sb sl (by simp; exact sne0))).trans HSC.out
          have lqc : sb < w'.heap.size := Nat.lt_of_lt_of_le sl hS.size
          have HJ := Lib.hid hj; clear hj
          go_simp
          have hj := HJ.out
          exact hK _ _ (Ext.refl _) ⟨fun h => hj.1 (by omega), fun h => absurd h (by omega)⟩ rfl
        refine ⟨fun y w' k hS hj hk hF K hK => ?_, ?_⟩
        · skip -- 8: call
          have e46 : y 46 = _ := hF.1
          have e52 : y 52 = _ := hF.2.1
          have e46' := Lib.hid e46
          have e52' := Lib.hid e52
          simp only [fillL, cond_true, cond_false, List.getD_cons_zero, List.getD_cons_succ, StP.is, Act.put, List.setIfInBounds_toArray, List.set_cons_zero, List.set_cons_succ, Nat.reduceAdd, e46, e52, MStP.is, Option.isSome_some, Option.isSome_none] at hK ⊢
          simp only [List.sum_cons, List.sum_nil, List.getD_cons_zero, List.getD_cons_succ, Nat.reduceAdd, Nat.add_zero] at hk
          refine rg_yes (by kernel_rfl) ?_
          clear e46 e52
          clear hF
          have HJ := Lib.hid hj; clear hj
          have hIL : IL w' A2 n2 c2 x2 := (F2_1.out.chg hS).il
          have HIL := Lib.hid hIL; clear hIL
          go_simp
          go_at_call 136
          refine (l27Front_any _ _ _ x2 _ w' HIL.out (by omega)).mono ?_
          rintro e w'' ⟨C', e', rfl, hal, hb⟩
          have hsz := hS.size
          have hj := HJ.out
          exact hK _ _ hb ⟨fun h => (hb.block _ (by have := (Array.getElem?_eq_some_iff.1 (hj.1 (by omega))).1; exact this)).trans (hj.1 (by omega)), fun h => absurd h (by omega)⟩ ⟨C', e', _, rfl, AL.new hal (fun k hk => by rcases List.mem_append.1 hk with hk | hk <;> first | (have := HBS.out k hk; omega) | (simp at hk; omega))⟩
        refine ⟨fun y w' k hS hj hk hF K hK => ?_, ?_⟩
        · skip -- 9: fieldAddr
          simp only [fillL, cond_true, cond_false, List.getD_cons_zero, List.getD_cons_succ, StP.is, Act.put, List.setIfInBounds_toArray, List.set_cons_zero, List.set_cons_succ, Nat.reduceAdd, MStP.is, Option.isSome_some, Option.isSome_none] at hK ⊢
          simp only [List.sum_cons, List.sum_nil, List.getD_cons_zero, List.getD_cons_succ, Nat.reduceAdd, Nat.add_zero] at hk
          refine rg_yes (by kernel_rfl) ?_
          clear hF
          go_simp
          exact hK _ _ (Ext.refl _) ⟨fun h => hj.1 (by omega), fun h => absurd h (by omega)⟩ rfl
        refine ⟨fun y w' k hS hj hk hF K hK => ?_, ?_⟩
        · skip -- 10: store
          obtain ⟨C', e', z', e53, hal⟩ := hF.1
          have HAL := Lib.hid hal; clear hal
          have e54 : y 54 = _ := hF.2.1
          have e53' := Lib.hid e53
          have e54' := Lib.hid e54
          simp only [fillL, cond_true, cond_false, List.getD_cons_zero, List.getD_cons_succ, StP.is, Act.put, List.setIfInBounds_toArray, List.set_cons_zero, List.set_cons_succ, Nat.reduceAdd, e53, e54, MStP.is, Option.isSome_some, Option.isSome_none] at hK ⊢
          simp only [List.sum_cons, List.sum_nil, List.getD_cons_zero, List.getD_cons_succ, Nat.reduceAdd, Nat.add_zero] at hk
          refine rg_yes (by kernel_rfl) ?_
          clear e53 e54
          clear hF
          have hqb := hj.1 (by omega)
          have c0_ := cell_of_row _ _ 0 _ _ (0, 0) hqb; have f0_ := block_free hqb 0
          have c1_ := cell_of_row _ _ 1 _ _ (0, 0) hqb; have f1_ := block_free hqb 1
          have c2_ := cell_of_row _ _ 2 _ _ (0, 0) hqb; have f2_ := block_free hqb 2
          have c3_ := cell_of_row _ _ 3 _ _ (0, 0) hqb; have f3_ := block_free hqb 3
          have c4_ := cell_of_row _ _ 4 _ _ (0, 0) hqb; have f4_ := block_free hqb 4
          have c5_ := cell_of_row _ _ 5 _ _ (0, 0) hqb; have f5_ := block_free hqb 5
          have lqb := (Array.getElem?_eq_some_iff.1 hqb).1
          have HQB := Lib.hid hqb; clear hj hqb
          go_simp
          exact hK undef _ (Chg.setCell (p := ⟨w.heap.size, 4, none⟩) (Chg.refl _ _) (.inl (by simp)) _) ⟨fun h => absurd h (by omega), fun _ => ⟨C', e', z', block_set HQB.out, HAL.out.chg (Chg.setCell (p := ⟨w.heap.size, 4, none⟩) (Chg.refl (· ∈ [w.heap.size]) _) (.inl (by simp)) _)⟩⟩ rfl
        trivial
      case hH => rfl
      case hNS => exact fun _ _ h => Chg.of_below h _
      case hSt => exact fun a b => Chg.trans a b
      case hb => rfl
      case hdrew => exact (Chg.refl _ _).drewN 1
      case hj0 => exact fun y => ⟨fun _ => BX1.out, fun h => absurd h (by omega)⟩
      case hend =>
        intro y_ w2 hS hJ hF
        obtain ⟨C', e', v_, hbx, hal⟩ := hJ.2 (by decide)
        have CC : Chg (· ∈ [w.heap.size, w.heap.size + 1]) w1 w2 := hS.mono (fun b _ hb => by simp at hb ⊢; exact .inl hb)
        have HB2 := Lib.hid (HB1.out.trans (CC.below (B := w.heap.size) (fun k _ hk => by simp at hk; omega) HB1.out.size))
        have BX2 := Lib.hid hbx
        have RS2 := Lib.hid ((hS.block (w.heap.size + 1) zz1 (by simp)).trans RS1.out)
        have FN_2 := Lib.hid hal
        have F0_2 := Lib.hid (F0_1.out.chg CC)
        have F1_2 := Lib.hid (F1_1.out.chg CC)
        have F2_2 := Lib.hid (F2_1.out.chg CC)
        have F3_2 := Lib.hid (F3_1.out.chg CC)
        clear hF hJ hS hbx hal CC HB1 BX1 RS1 zz1 F0_1 F1_1 F2_1 F3_1
        simp only [fillL, cond_true, cond_false, Nat.reduceAdd]
        have zz2 : w.heap.size + 1 < w2.heap.size := (Array.getElem?_eq_some_iff.1 RS2.out).1
        have uc0 := cell_of_row _ _ 0 _ _ (0, 0) BX2.out; have uf0 := block_free BX2.out 0; have ud0 := cell_of_row _ _ 0 _ _ (0, 0) RS2.out; have ug0 := block_free RS2.out 0
        have uc1 := cell_of_row _ _ 1 _ _ (0, 0) BX2.out; have uf1 := block_free BX2.out 1; have ud1 := cell_of_row _ _ 1 _ _ (0, 0) RS2.out; have ug1 := block_free RS2.out 1
        have uc2 := cell_of_row _ _ 2 _ _ (0, 0) BX2.out; have uf2 := block_free BX2.out 2; have ud2 := cell_of_row _ _ 2 _ _ (0, 0) RS2.out; have ug2 := block_free RS2.out 2
        have uc3 := cell_of_row _ _ 3 _ _ (0, 0) BX2.out; have uf3 := block_free BX2.out 3; have ud3 := cell_of_row _ _ 3 _ _ (0, 0) RS2.out; have ug3 := block_free RS2.out 3
        have uc4 := cell_of_row _ _ 4 _ _ (0, 0) BX2.out; have uf4 := block_free BX2.out 4; have ud4 := cell_of_row _ _ 4 _ _ (0, 0) RS2.out; have ug4 := block_free RS2.out 4
        have uc5 := cell_of_row _ _ 5 _ _ (0, 0) BX2.out; have uf5 := block_free BX2.out 5; have ud5 := cell_of_row _ _ 5 _ _ (0, 0) RS2.out; have ug5 := block_free RS2.out 5
        have lb := (Array.getElem?_eq_some_iff.1 BX2.out).1; have lr := (Array.getElem?_eq_some_iff.1 RS2.out).1
        have HT_2 := Lib.hid (F0_2.out.take (m := nm) (by omega))
        obtain ⟨wF, hwF⟩ : ∃ W, W = (World.setCell (World.setCell (World.setCell (World.setCell (World.setCell (World.setCell (World.setCell w2 ⟨w.heap.size, 2, none⟩ (.slice (some ⟨sb, so, none⟩) nm c0)) ⟨w.heap.size + 1, 0, none⟩ (.int .i64 ro)) ⟨w.heap.size + 1, 1, none⟩ (.int .i64 go)) ⟨w.heap.size + 1, 2, none⟩ (.slice (some ⟨sb, so, none⟩) nm c0)) ⟨w.heap.size + 1, 3, none⟩ (.slice A1 n1 c1)) ⟨w.heap.size + 1, 4, none⟩ (.slice C' (n2 + 1) e')) ⟨w.heap.size + 1, 5, none⟩ (.slice A3 n3 c3)) := ⟨_, rfl⟩
        have CF : Chg (· ∈ [w.heap.size, w.heap.size + 1]) w2 wF := by rw [hwF]; exact (Chg.setCell (p := ⟨w.heap.size + 1, 5, none⟩) (Chg.setCell (p := ⟨w.heap.size + 1, 4, none⟩) (Chg.setCell (p := ⟨w.heap.size + 1, 3, none⟩) (Chg.setCell (p := ⟨w.heap.size + 1, 2, none⟩) (Chg.setCell (p := ⟨w.heap.size + 1, 1, none⟩) (Chg.setCell (p := ⟨w.heap.size + 1, 0, none⟩) (Chg.setCell (p := ⟨w.heap.size, 2, none⟩) (Chg.refl _ _) (.inl (by simp)) _) (.inl (by simp)) _) (.inl (by simp)) _) (.inl (by simp)) _) (.inl (by simp)) _) (.inl (by simp)) _) (.inl (by simp)) _)
        have HBF : Below w.heap.size w wF := HB2.out.trans (CF.below (B := w.heap.size) (fun k _ hk => by simp at hk; omega) HB2.out.size)
        have F0_F := (F0_2.out.chg CF).sub
        have F1_F := (F1_2.out.chg CF).sub
        have F2_F := (F2_2.out.chg CF).sub
        have F3_F := (F3_2.out.chg CF).sub
        have FN_F := (FN_2.out.chg CF).sub
        have HT_F := (HT_2.out.chg CF).sub
        have RSF : wF.heap[w.heap.size + 1]? = some (.cells #[.int .i64 ro, .int .i64 go, .slice (some ⟨sb, so, none⟩) nm c0, .slice A1 n1 c1, .slice C' (n2 + 1) e', .slice A3 n3 c3] 57 (0, 0)) := by rw [hwF]; exact (block_set (o := 5) (v := .slice A3 n3 c3) (block_set (o := 4) (v := .slice C' (n2 + 1) e') (block_set (o := 3) (v := .slice A1 n1 c1) (block_set (o := 2) (v := .slice (some ⟨sb, so, none⟩) nm c0) (block_set (o := 1) (v := .int .i64 go) (block_set (o := 0) (v := .int .i64 ro) ((heap_far (p := ⟨w.heap.size, 2, none⟩) (by simp)).trans RS2.out)))))))
        have r0 := cell_of_row _ _ 0 _ _ (0, 0) RSF
        have r1 := cell_of_row _ _ 1 _ _ (0, 0) RSF
        have r2 := cell_of_row _ _ 2 _ _ (0, 0) RSF
        have r3 := cell_of_row _ _ 3 _ _ (0, 0) RSF
        have r4 := cell_of_row _ _ 4 _ _ (0, 0) RSF
        have r5 := cell_of_row _ _ 5 _ _ (0, 0) RSF
        have HP : Hid (WayP bs ro go n0 n1 n2 n3 x2 x3 w (.returned (.agg #[.int .i64 ro, .int .i64 go, .slice (some ⟨sb, so, none⟩) nm c0, .slice A1 n1 c1, .slice C' (n2 + 1) e', .slice A3 n3 c3])) wF) := Lib.hid (⟨some ⟨sb, so, none⟩, nm, c0, _, A1, n1, c1, x1, C', n2 + 1, e', _, A3, n3, c3, x3, rfl, HT_F, F1_F, FN_F, F3_F, .inr ⟨cge, .inl ⟨HN1.out, rfl, rfl, rfl, ⟨_, rfl⟩, rfl⟩⟩, HBF⟩)
        have HWF := Lib.hid hwF
        clear hwF CF HBF F0_F F1_F F2_F F3_F FN_F HT_F
        go_wp2_with fail
        rw [← HWF.out]
        exact bodyPost_ret (v := .agg #[.int .i64 ro, .int .i64 go, .slice (some ⟨sb, so, none⟩) nm c0, .slice A1 n1 c1, .slice C' (n2 + 1) e', .slice A3 n3 c3]) (by simp [results, Try.results137, go_sem, r0, r1, r2, r3, r4, r5]) rfl HP.out
    · have d1 : ((n1 : Int) == 0) = false := by simp; omega
      have uc0 := cell_of_row _ _ 0 _ _ (0, 0) BX1.out; have uf0 := block_free BX1.out 0; have ud0 := cell_of_row _ _ 0 _ _ (0, 0) RS1.out; have ug0 := block_free RS1.out 0
      have uc1 := cell_of_row _ _ 1 _ _ (0, 0) BX1.out; have uf1 := block_free BX1.out 1; have ud1 := cell_of_row _ _ 1 _ _ (0, 0) RS1.out; have ug1 := block_free RS1.out 1
      have uc2 := cell_of_row _ _ 2 _ _ (0, 0) BX1.out; have uf2 := block_free BX1.out 2; have ud2 := cell_of_row _ _ 2 _ _ (0, 0) RS1.out; have ug2 := block_free RS1.out 2
      have uc3 := cell_of_row _ _ 3 _ _ (0, 0) BX1.out; have uf3 := block_free BX1.out 3; have ud3 := cell_of_row _ _ 3 _ _ (0, 0) RS1.out; have ug3 := block_free RS1.out 3
      have uc4 := cell_of_row _ _ 4 _ _ (0, 0) BX1.out; have uf4 := block_free BX1.out 4; have ud4 := cell_of_row _ _ 4 _ _ (0, 0) RS1.out; have ug4 := block_free RS1.out 4
      have uc5 := cell_of_row _ _ 5 _ _ (0, 0) BX1.out; have uf5 := block_free BX1.out 5; have ud5 := cell_of_row _ _ 5 _ _ (0, 0) RS1.out; have ug5 := block_free RS1.out 5
      have lb := (Array.getElem?_eq_some_iff.1 BX1.out).1; have lr := (Array.getElem?_eq_some_iff.1 RS1.out).1
      go_wp2_with fail
      rw [← hw1]
      clear hw1
      obtain ⟨sb, so, sv, hsA, sl, sne, sc⟩ := F1_1.out.cell (k := n1 - 1) (by omega)
      subst hsA
      have nn : IntKind.i64.wrap ((n1 : Int) - 1) = ((n1 - 1 : Nat) : Int) := by rw [IntWalk.i64_in _ (by omega)]; omega
      obtain ⟨nm, hnm⟩ : ∃ m, m = n1 - 1 := ⟨_, rfl⟩
      rw [← hnm] at nn sc
      have hnm1 : nm + 1 = n1 := by omega
      have nm0 : (0 : Int) ≤ (nm : Int) := by omega
      have nm1 : (nm : Int) < (n1 : Int) := by omega
      have HSC := Lib.hid sc; have HNM := Lib.hid hnm; have HN1 := Lib.hid hnm1
      have sne0 : sb ≠ w.heap.size := sne _ (by simp)
      have sne1 : sb ≠ w.heap.size + 1 := sne _ (by simp)
      clear sc hnm hnm1 uc0 uf0 ud0 ug0 uc1 uf1 ud1 ug1 uc2 uf2 ud2 ug2 uc3 uf3 ud3 ug3 uc4 uf4 ud4 ug4 uc5 uf5 ud5 ug5 lb lr
      apply wp_region_rgz (Chg (· ∈ [w.heap.size])) (Ext) (fun y w' k' => (k' < 1000 → w'.heap[w.heap.size]? = some (.cells #[.int .i64 ro, .int .i64 go, .slice A0 n0 c0, .slice (some ⟨sb, so, none⟩) n1 c1, .slice A2 n2 c2, .slice A3 n3 c3] 57 (0, 0))) ∧ (1000 ≤ k' → ∃ C' e' v, w'.heap[w.heap.size]? = some (.cells #[.int .i64 ro, .int .i64 go, .slice A0 n0 c0, .slice (some ⟨sb, so, none⟩) n1 c1, .slice A2 n2 c2, .slice C' (n3 + 1) e'] 57 (0, 0)) ∧ AL (bs ++ [w.heap.size, w.heap.size + 1]) w' C' (n3 + 1) e' (v :: x3))) [0, 0, 0, 0, 0, 0, 0, 0, 0, 0, 1000] [1000, 1000, 1000, 1000, 1000, 1000, 1000, 1000, 1000, 1000, 1000] (by kernel_rfl) (false :: false :: false :: false :: false :: false :: false :: false :: false :: false :: false :: false :: false :: false :: false :: false :: false :: false :: false :: false :: false :: false :: false :: false :: false :: false :: false :: false :: false :: false :: false :: false :: false :: false :: false :: false :: false :: false :: false :: false :: false :: false :: false :: false :: false :: false :: false :: false :: false :: false :: false :: false :: false :: false :: false :: false :: false :: false :: false :: false :: false :: false :: true :: true :: true :: true :: true :: true :: true :: true :: true :: true :: false :: false :: false :: false :: false :: false :: false :: []) [some 62, some 63, some 64, some 65, some 66, some 67, some 68, some 69, some 70, some 71, none] [[], [0], [], [2], [], [4], [3, 5], [6], [1, 7], [], [8, 9]] [false, false, false, false, false, false, false, false, false, false, true] [true, true, true, true, true, true, true, true, true, true, true] [] [MStP.is _, MStP.is _, MStP.is _, MStP.is _, MStP.is _, MStP.is _, MStP.is _, MStP.is _, (⟨fun v w' => ∃ C' e' z, v = .slice C' (n3 + 1) e' ∧ AL (bs ++ [w.heap.size, w.heap.size + 1]) w' C' (n3 + 1) e' (z :: x3), true, fun v w w' hs ⟨C', e', z, e, h⟩ => ⟨C', e', z, e, h.chg (Chg.of_below hs (· ∈ [])) (by simp)⟩, fun _ v w w' hs ⟨C', e', z, e, h⟩ => ⟨C', e', z, e, h.chg hs⟩⟩), MStP.is _, MStP.is _] (by kernel_rfl) (by kernel_rfl) (by kernel_rfl) (by kernel_rfl)
      case hobs =>
        refine ⟨fun y w' k hS hj hk hF K hK => ?_, ?_⟩
        · skip -- 0: fieldAddr
          simp only [fillL, cond_true, cond_false, List.getD_cons_zero, List.getD_cons_succ, StP.is, Act.put, List.setIfInBounds_toArray, List.set_cons_zero, List.set_cons_succ, Nat.reduceAdd, MStP.is, Option.isSome_some, Option.isSome_none] at hK ⊢
          simp only [List.sum_cons, List.sum_nil, List.getD_cons_zero, List.getD_cons_succ, Nat.reduceAdd, Nat.add_zero] at hk
          refine rg_yes (by kernel_rfl) ?_
          clear hF
          go_simp
          exact hK _ _ (Ext.refl _) ⟨fun h => hj.1 (by omega), fun h => absurd h (by omega)⟩ rfl
        refine ⟨fun y w' k hS hj hk hF K hK => ?_, ?_⟩
        · skip -- 1: load
          have e62 : y 62 = _ := hF.1
          have e62' := Lib.hid e62
          simp only [fillL, cond_true, cond_false, List.getD_cons_zero, List.getD_cons_succ, StP.is, Act.put, List.setIfInBounds_toArray, List.set_cons_zero, List.set_cons_succ, Nat.reduceAdd, e62, MStP.is, Option.isSome_some, Option.isSome_none] at hK ⊢
          simp only [List.sum_cons, List.sum_nil, List.getD_cons_zero, List.getD_cons_succ, Nat.reduceAdd, Nat.add_zero] at hk
          refine rg_yes (by kernel_rfl) ?_
          clear e62
          clear hF
          have hqb := hj.1 (by omega)
          have c0_ := cell_of_row _ _ 0 _ _ (0, 0) hqb
          have c1_ := cell_of_row _ _ 1 _ _ (0, 0) hqb
          have c2_ := cell_of_row _ _ 2 _ _ (0, 0) hqb
          have c3_ := cell_of_row _ _ 3 _ _ (0, 0) hqb
          have c4_ := cell_of_row _ _ 4 _ _ (0, 0) hqb
          have c5_ := cell_of_row _ _ 5 _ _ (0, 0) hqb
          have lqb := (Array.getElem?_eq_some_iff.1 hqb).1
          have HJ := Lib.hid hj; clear hj hqb
          go_simp
          have hj := HJ.out
          exact hK _ _ (Ext.refl _) ⟨fun h => hj.1 (by omega), fun h => absurd h (by omega)⟩ rfl
        refine ⟨fun y w' k hS hj hk hF K hK => ?_, ?_⟩
        · skip -- 2: fieldAddr
          simp only [fillL, cond_true, cond_false, List.getD_cons_zero, List.getD_cons_succ, StP.is, Act.put, List.setIfInBounds_toArray, List.set_cons_zero, List.set_cons_succ, Nat.reduceAdd, MStP.is, Option.isSome_some, Option.isSome_none] at hK ⊢
          simp only [List.sum_cons, List.sum_nil, List.getD_cons_zero, List.getD_cons_succ, Nat.reduceAdd, Nat.add_zero] at hk
          refine rg_yes (by kernel_rfl) ?_
          clear hF
          go_simp
          exact hK _ _ (Ext.refl _) ⟨fun h => hj.1 (by omega), fun h => absurd h (by omega)⟩ rfl
        refine ⟨fun y w' k hS hj hk hF K hK => ?_, ?_⟩
        · skip -- 3: load
          have e64 : y 64 = _ := hF.1
          have e64' := Lib.hid e64
          simp only [fillL, cond_true, cond_false, List.getD_cons_zero, List.getD_cons_succ, StP.is, Act.put, List.setIfInBounds_toArray, List.set_cons_zero, List.set_cons_succ, Nat.reduceAdd, e64, MStP.is, Option.isSome_some, Option.isSome_none] at hK ⊢
          simp only [List.sum_cons, List.sum_nil, List.getD_cons_zero, List.getD_cons_succ, Nat.reduceAdd, Nat.add_zero] at hk
          refine rg_yes (by kernel_rfl) ?_
          clear e64
          clear hF
          have hqb := hj.1 (by omega)
          have c0_ := cell_of_row _ _ 0 _ _ (0, 0) hqb
          have c1_ := cell_of_row _ _ 1 _ _ (0, 0) hqb
          have c2_ := cell_of_row _ _ 2 _ _ (0, 0) hqb
          have c3_ := cell_of_row _ _ 3 _ _ (0, 0) hqb
          have c4_ := cell_of_row _ _ 4 _ _ (0, 0) hqb
          have c5_ := cell_of_row _ _ 5 _ _ (0, 0) hqb
          have lqb := (Array.getElem?_eq_some_iff.1 hqb).1
          have HJ := Lib.hid hj; clear hj hqb
          go_simp
          have hj := HJ.out
          exact hK _ _ (Ext.refl _) ⟨fun h => hj.1 (by omega), fun h => absurd h (by omega)⟩ rfl
        refine ⟨fun y w' k hS hj hk hF K hK => ?_, ?_⟩
        · skip -- 4: move
          simp only [fillL, cond_true, cond_false, List.getD_cons_zero, List.getD_cons_succ, StP.is, Act.put, List.setIfInBounds_toArray, List.set_cons_zero, List.set_cons_succ, Nat.reduceAdd, MStP.is, Option.isSome_some, Option.isSome_none] at hK ⊢
          simp only [List.sum_cons, List.sum_nil, List.getD_cons_zero, List.getD_cons_succ, Nat.reduceAdd, Nat.add_zero] at hk
          refine rg_yes (by kernel_rfl) ?_
          clear hF
          go_simp
          exact hK _ _ (Ext.refl _) ⟨fun h => hj.1 (by omega), fun h => absurd h (by omega)⟩ rfl
        refine ⟨fun y w' k hS hj hk hF K hK => ?_, ?_⟩
        · skip -- 5: binOp
          have e66 : y 66 = _ := hF.1
          have e66' := Lib.hid e66
          simp only [fillL, cond_true, cond_false, List.getD_cons_zero, List.getD_cons_succ, StP.is, Act.put, List.setIfInBounds_toArray, List.set_cons_zero, List.set_cons_succ, Nat.reduceAdd, e66, MStP.is, Option.isSome_some, Option.isSome_none] at hK ⊢
          simp only [List.sum_cons, List.sum_nil, List.getD_cons_zero, List.getD_cons_succ, Nat.reduceAdd, Nat.add_zero] at hk
          refine rg_yes (by kernel_rfl) ?_
          clear e66
          clear hF
          go_simp
          exact hK _ _ (Ext.refl _) ⟨fun h => hj.1 (by omega), fun h => absurd h (by omega)⟩ rfl
        refine ⟨fun y w' k hS hj hk hF K hK => ?_, ?_⟩
        · skip -- 6: indexAddr
          have e65 : y 65 = _ := hF.1
          have e67 : y 67 = _ := hF.2.1
          have e65' := Lib.hid e65
          have e67' := Lib.hid e67
          simp only [fillL, cond_true, cond_false, List.getD_cons_zero, List.getD_cons_succ, StP.is, Act.put, List.setIfInBounds_toArray, List.set_cons_zero, List.set_cons_succ, Nat.reduceAdd, e65, e67, MStP.is, Option.isSome_some, Option.isSome_none] at hK ⊢
          simp only [List.sum_cons, List.sum_nil, List.getD_cons_zero, List.getD_cons_succ, Nat.reduceAdd, Nat.add_zero] at hk
          refine rg_yes (by kernel_rfl) ?_
          clear e65 e67
          clear hF
          go_simp
          exact hK _ _ (Ext.refl _) ⟨fun h => hj.1 (by omega), fun h => absurd h (by omega)⟩ rfl
        refine ⟨fun y w' k hS hj hk hF K hK => ?_, ?_⟩
        · skip -- 7: load
          have e68 : y 68 = _ := hF.1
          have e68' := Lib.hid e68
          simp only [fillL, cond_true, cond_false, List.getD_cons_zero, List.getD_cons_succ, StP.is, Act.put, List.setIfInBounds_toArray, List.set_cons_zero, List.set_cons_succ, Nat.reduceAdd, e68, MStP.is, Option.isSome_some, Option.isSome_none] at hK ⊢
          simp only [List.sum_cons, List.sum_nil, List.getD_cons_zero, List.getD_cons_succ, Nat.reduceAdd, Nat.add_zero] at hk
          refine rg_yes (by kernel_rfl) ?_
          clear e68
          clear hF
          have qc := (World.cell?_of_block (hS.block sb sl (by simp; exact sne0))).trans HSC.out
          have lqc : sb < w'.heap.size := Nat.lt_of_lt_of_le sl hS.size
          have HJ := Lib.hid hj; clear hj
          go_simp
          have hj := HJ.out
          exact hK _ _ (Ext.refl _) ⟨fun h => hj.1 (by omega), fun h => absurd h (by omega)⟩ rfl
        refine ⟨fun y w' k hS hj hk hF K hK => ?_, ?_⟩
        · skip -- 8: call
          have e63 : y 63 = _ := hF.1
          have e69 : y 69 = _ := hF.2.1
          have e63' := Lib.hid e63
          have e69' := Lib.hid e69
          simp only [fillL, cond_true, cond_false, List.getD_cons_zero, List.getD_cons_succ, StP.is, Act.put, List.setIfInBounds_toArray, List.set_cons_zero, List.set_cons_succ, Nat.reduceAdd, e63, e69, MStP.is, Option.isSome_some, Option.isSome_none] at hK ⊢
          simp only [List.sum_cons, List.sum_nil, List.getD_cons_zero, List.getD_cons_succ, Nat.reduceAdd, Nat.add_zero] at hk
          refine rg_yes (by kernel_rfl) ?_
          clear e63 e69
          clear hF
          have HJ := Lib.hid hj; clear hj
          have hIL : IL w' A3 n3 c3 x3 := (F3_1.out.chg hS).il
          have HIL := Lib.hid hIL; clear hIL
          go_simp
          go_at_call 136
          refine (l27Front_any _ _ _ x3 _ w' HIL.out (by omega)).mono ?_
          rintro e w'' ⟨C', e', rfl, hal, hb⟩
          have hsz := hS.size
          have hj := HJ.out
          exact hK _ _ hb ⟨fun h => (hb.block _ (by have := (Array.getElem?_eq_some_iff.1 (hj.1 (by omega))).1; exact this)).trans (hj.1 (by omega)), fun h => absurd h (by omega)⟩ ⟨C', e', _, rfl, AL.new hal (fun k hk => by rcases List.mem_append.1 hk with hk | hk <;> first | (have := HBS.out k hk; omega) | (simp at hk; omega))⟩
        refine ⟨fun y w' k hS hj hk hF K hK => ?_, ?_⟩
        · skip -- 9: fieldAddr
          simp only [fillL, cond_true, cond_false, List.getD_cons_zero, List.getD_cons_succ, StP.is, Act.put, List.setIfInBounds_toArray, List.set_cons_zero, List.set_cons_succ, Nat.reduceAdd, MStP.is, Option.isSome_some, Option.isSome_none] at hK ⊢
          simp only [List.sum_cons, List.sum_nil, List.getD_cons_zero, List.getD_cons_succ, Nat.reduceAdd, Nat.add_zero] at hk
          refine rg_yes (by kernel_rfl) ?_
          clear hF
          go_simp
          exact hK _ _ (Ext.refl _) ⟨fun h => hj.1 (by omega), fun h => absurd h (by omega)⟩ rfl
        refine ⟨fun y w' k hS hj hk hF K hK => ?_, ?_⟩
        · skip -- 10: store
          obtain ⟨C', e', z', e70, hal⟩ := hF.1
          have HAL := Lib.hid hal; clear hal
          have e71 : y 71 = _ := hF.2.1
          have e70' := Lib.hid e70
          have e71' := Lib.hid e71
          simp only [fillL, cond_true, cond_false, List.getD_cons_zero, List.getD_cons_succ, StP.is, Act.put, List.setIfInBounds_toArray, List.set_cons_zero, List.set_cons_succ, Nat.reduceAdd, e70, e71, MStP.is, Option.isSome_some, Option.isSome_none] at hK ⊢
          simp only [List.sum_cons, List.sum_nil, List.getD_cons_zero, List.getD_cons_succ, Nat.reduceAdd, Nat.add_zero] at hk
          refine rg_yes (by kernel_rfl) ?_
          clear e70 e71
          clear hF
          have hqb := hj.1 (by omega)
          have c0_ := cell_of_row _ _ 0 _ _ (0, 0) hqb; have f0_ := block_free hqb 0
          have c1_ := cell_of_row _ _ 1 _ _ (0, 0) hqb; have f1_ := block_free hqb 1
          have c2_ := cell_of_row _ _ 2 _ _ (0, 0) hqb; have f2_ := block_free hqb 2
          have c3_ := cell_of_row _ _ 3 _ _ (0, 0) hqb; have f3_ := block_free hqb 3
          have c4_ := cell_of_row _ _ 4 _ _ (0, 0) hqb; have f4_ := block_free hqb 4
          have c5_ := cell_of_row _ _ 5 _ _ (0, 0) hqb; have f5_ := block_free hqb 5
          have lqb := (Array.getElem?_eq_some_iff.1 hqb).1
          have HQB := Lib.hid hqb; clear hj hqb
          go_simp
          exact hK undef _ (Chg.setCell (p := ⟨w.heap.size, 5, none⟩) (Chg.refl _ _) (.inl (by simp)) _) ⟨fun h => absurd h (by omega), fun _ => ⟨C', e', z', block_set HQB.out, HAL.out.chg (Chg.setCell (p := ⟨w.heap.size, 5, none⟩) (Chg.refl (· ∈ [w.heap.size]) _) (.inl (by simp)) _)⟩⟩ rfl
        trivial
      case hH => rfl
      case hNS => exact fun _ _ h => Chg.of_below h _
      case hSt => exact fun a b => Chg.trans a b
      case hb => rfl
      case hdrew => exact (Chg.refl _ _).drewN 1
      case hj0 => exact fun y => ⟨fun _ => BX1.out, fun h => absurd h (by omega)⟩
      case hend =>
        intro y_ w2 hS hJ hF
        obtain ⟨C', e', v_, hbx, hal⟩ := hJ.2 (by decide)
        have CC : Chg (· ∈ [w.heap.size, w.heap.size + 1]) w1 w2 := hS.mono (fun b _ hb => by simp at hb ⊢; exact .inl hb)
        have HB2 := Lib.hid (HB1.out.trans (CC.below (B := w.heap.size) (fun k _ hk => by simp at hk; omega) HB1.out.size))
        have BX2 := Lib.hid hbx
        have RS2 := Lib.hid ((hS.block (w.heap.size + 1) zz1 (by simp)).trans RS1.out)
        have FN_2 := Lib.hid hal
        have F0_2 := Lib.hid (F0_1.out.chg CC)
        have F1_2 := Lib.hid (F1_1.out.chg CC)
        have F2_2 := Lib.hid (F2_1.out.chg CC)
        have F3_2 := Lib.hid (F3_1.out.chg CC)
        clear hF hJ hS hbx hal CC HB1 BX1 RS1 zz1 F0_1 F1_1 F2_1 F3_1
        simp only [fillL, cond_true, cond_false, Nat.reduceAdd]
        have zz2 : w.heap.size + 1 < w2.heap.size := (Array.getElem?_eq_some_iff.1 RS2.out).1
        have uc0 := cell_of_row _ _ 0 _ _ (0, 0) BX2.out; have uf0 := block_free BX2.out 0; have ud0 := cell_of_row _ _ 0 _ _ (0, 0) RS2.out; have ug0 := block_free RS2.out 0
        have uc1 := cell_of_row _ _ 1 _ _ (0, 0) BX2.out; have uf1 := block_free BX2.out 1; have ud1 := cell_of_row _ _ 1 _ _ (0, 0) RS2.out; have ug1 := block_free RS2.out 1
        have uc2 := cell_of_row _ _ 2 _ _ (0, 0) BX2.out; have uf2 := block_free BX2.out 2; have ud2 := cell_of_row _ _ 2 _ _ (0, 0) RS2.out; have ug2 := block_free RS2.out 2
        have uc3 := cell_of_row _ _ 3 _ _ (0, 0) BX2.out; have uf3 := block_free BX2.out 3; have ud3 := cell_of_row _ _ 3 _ _ (0, 0) RS2.out; have ug3 := block_free RS2.out 3
        have uc4 := cell_of_row _ _ 4 _ _ (0, 0) BX2.out; have uf4 := block_free BX2.out 4; have ud4 := cell_of_row _ _ 4 _ _ (0, 0) RS2.out; have ug4 := block_free RS2.out 4
        have uc5 := cell_of_row _ _ 5 _ _ (0, 0) BX2.out; have uf5 := block_free BX2.out 5; have ud5 := cell_of_row _ _ 5 _ _ (0, 0) RS2.out; have ug5 := block_free RS2.out 5
        have lb := (Array.getElem?_eq_some_iff.1 BX2.out).1; have lr := (Array.getElem?_eq_some_iff.1 RS2.out).1
        have HT_2 := Lib.hid (F1_2.out.take (m := nm) (by omega))
        obtain ⟨wF, hwF⟩ : ∃ W, W = (World.setCell (World.setCell (World.setCell (World.setCell (World.setCell (World.setCell (World.setCell w2 ⟨w.heap.size, 3, none⟩ (.slice (some ⟨sb, so, none⟩) nm c1)) ⟨w.heap.size + 1, 0, none⟩ (.int .i64 ro)) ⟨w.heap.size + 1, 1, none⟩ (.int .i64 go)) ⟨w.heap.size + 1, 2, none⟩ (.slice A0 n0 c0)) ⟨w.heap.size + 1, 3, none⟩ (.slice (some ⟨sb, so, none⟩) nm c1)) ⟨w.heap.size + 1, 4, none⟩ (.slice A2 n2 c2)) ⟨w.heap.size + 1, 5, none⟩ (.slice C' (n3 + 1) e')) := ⟨_, rfl⟩
        have CF : Chg (· ∈ [w.heap.size, w.heap.size + 1]) w2 wF := by rw [hwF]; exact (Chg.setCell (p := ⟨w.heap.size + 1, 5, none⟩) (Chg.setCell (p := ⟨w.heap.size + 1, 4, none⟩) (Chg.setCell (p := ⟨w.heap.size + 1, 3, none⟩) (Chg.setCell (p := ⟨w.heap.size + 1, 2, none⟩) (Chg.setCell (p := ⟨w.heap.size + 1, 1, none⟩) (Chg.setCell (p := ⟨w.heap.size + 1, 0, none⟩) (Chg.setCell (p := ⟨w.heap.size, 3, none⟩) (Chg.refl _ _) (.inl (by simp)) _) (.inl (by simp)) _) (.inl (by simp)) _) (.inl (by simp)) _) (.inl (by simp)) _) (.inl (by simp)) _) (.inl (by simp)) _)
        have HBF : Below w.heap.size w wF := HB2.out.trans (CF.below (B := w.heap.size) (fun k _ hk => by simp at hk; omega) HB2.out.size)
        have F0_F := (F0_2.out.chg CF).sub
        have F1_F := (F1_2.out.chg CF).sub
        have F2_F := (F2_2.out.chg CF).sub
        have F3_F := (F3_2.out.chg CF).sub
        have FN_F := (FN_2.out.chg CF).sub
        have HT_F := (HT_2.out.chg CF).sub
        have RSF : wF.heap[w.heap.size + 1]? = some (.cells #[.int .i64 ro, .int .i64 go, .slice A0 n0 c0, .slice (some ⟨sb, so, none⟩) nm c1, .slice A2 n2 c2, .slice C' (n3 + 1) e'] 57 (0, 0)) := by rw [hwF]; exact (block_set (o := 5) (v := .slice C' (n3 + 1) e') (block_set (o := 4) (v := .slice A2 n2 c2) (block_set (o := 3) (v := .slice (some ⟨sb, so, none⟩) nm c1) (block_set (o := 2) (v := .slice A0 n0 c0) (block_set (o := 1) (v := .int .i64 go) (block_set (o := 0) (v := .int .i64 ro) ((heap_far (p := ⟨w.heap.size, 3, none⟩) (by simp)).trans RS2.out)))))))
        have r0 := cell_of_row _ _ 0 _ _ (0, 0) RSF
        have r1 := cell_of_row _ _ 1 _ _ (0, 0) RSF
        have r2 := cell_of_row _ _ 2 _ _ (0, 0) RSF
        have r3 := cell_of_row _ _ 3 _ _ (0, 0) RSF
        have r4 := cell_of_row _ _ 4 _ _ (0, 0) RSF
        have r5 := cell_of_row _ _ 5 _ _ (0, 0) RSF
        have HP : Hid (WayP bs ro go n0 n1 n2 n3 x2 x3 w (.returned (.agg #[.int .i64 ro, .int .i64 go, .slice A0 n0 c0, .slice (some ⟨sb, so, none⟩) nm c1, .slice A2 n2 c2, .slice C' (n3 + 1) e'])) wF) := Lib.hid (⟨A0, n0, c0, x0, some ⟨sb, so, none⟩, nm, c1, _, A2, n2, c2, x2, C', n3 + 1, e', _, rfl, F0_F, HT_F, F2_F, FN_F, .inr ⟨cge, .inr ⟨rfl, HN1.out, rfl, rfl, rfl, ⟨_, rfl⟩⟩⟩, HBF⟩)
        have HWF := Lib.hid hwF
        clear hwF CF HBF F0_F F1_F F2_F F3_F FN_F HT_F
        go_wp2_with fail
        rw [← HWF.out]
        exact bodyPost_ret (v := .agg #[.int .i64 ro, .int .i64 go, .slice A0 n0 c0, .slice (some ⟨sb, so, none⟩) nm c1, .slice A2 n2 c2, .slice C' (n3 + 1) e']) (by simp [results, Try.results137, go_sem, r0, r1, r2, r3, r4, r5]) rfl HP.out
  case true =>
    have d2 : ((n0 : Int) == go) = false := by have := HZ3.out; simp at this; simpa using this
    by_cases z5 : n1 = 0
    · have d1 : ((n1 : Int) == 0) = true := by simp; omega
      have Z5 := Lib.hid z5; clear z5
      have uc0 := cell_of_row _ _ 0 _ _ (0, 0) BX1.out; have uf0 := block_free BX1.out 0; have ud0 := cell_of_row _ _ 0 _ _ (0, 0) RS1.out; have ug0 := block_free RS1.out 0
      have uc1 := cell_of_row _ _ 1 _ _ (0, 0) BX1.out; have uf1 := block_free BX1.out 1; have ud1 := cell_of_row _ _ 1 _ _ (0, 0) RS1.out; have ug1 := block_free RS1.out 1
      have uc2 := cell_of_row _ _ 2 _ _ (0, 0) BX1.out; have uf2 := block_free BX1.out 2; have ud2 := cell_of_row _ _ 2 _ _ (0, 0) RS1.out; have ug2 := block_free RS1.out 2
      have uc3 := cell_of_row _ _ 3 _ _ (0, 0) BX1.out; have uf3 := block_free BX1.out 3; have ud3 := cell_of_row _ _ 3 _ _ (0, 0) RS1.out; have ug3 := block_free RS1.out 3
      have uc4 := cell_of_row _ _ 4 _ _ (0, 0) BX1.out; have uf4 := block_free BX1.out 4; have ud4 := cell_of_row _ _ 4 _ _ (0, 0) RS1.out; have ug4 := block_free RS1.out 4
      have uc5 := cell_of_row _ _ 5 _ _ (0, 0) BX1.out; have uf5 := block_free BX1.out 5; have ud5 := cell_of_row _ _ 5 _ _ (0, 0) RS1.out; have ug5 := block_free RS1.out 5
      have lb := (Array.getElem?_eq_some_iff.1 BX1.out).1; have lr := (Array.getElem?_eq_some_iff.1 RS1.out).1
      go_wp2_with fail
      rw [← hw1]
      clear hw1
      obtain ⟨sb, so, sv, hsA, sl, sne, sc⟩ := F0_1.out.cell (k := n0 - 1) (by omega)
      subst hsA
      have nn : IntKind.i64.wrap ((n0 : Int) - 1) = ((n0 - 1 : Nat) : Int) := by rw [IntWalk.i64_in _ (by omega)]; omega
      obtain ⟨nm, hnm⟩ : ∃ m, m = n0 - 1 := ⟨_, rfl⟩
      rw [← hnm] at nn sc
      have hnm1 : nm + 1 = n0 := by omega
      have nm0 : (0 : Int) ≤ (nm : Int) := by omega
      have nm1 : (nm : Int) < (n0 : Int) := by omega
      have HSC := Lib.hid sc; have HNM := Lib.hid hnm; have HN1 := Lib.hid hnm1
      have sne0 : sb ≠ w.heap.size := sne _ (by simp)
      have sne1 : sb ≠ w.heap.size + 1 := sne _ (by simp)
      clear sc hnm hnm1 uc0 uf0 ud0 ug0 uc1 uf1 ud1 ug1 uc2 uf2 ud2 ug2 uc3 uf3 ud3 ug3 uc4 uf4 ud4 ug4 uc5 uf5 ud5 ug5 lb lr
      apply wp_region_rgz (Chg (· ∈ [w.heap.size])) (Ext) (fun y w' k' => (k' < 1000 → w'.heap[w.heap.size]? = some (.cells #[.int .i64 ro, .int .i64 go, .slice (some ⟨sb, so, none⟩) n0 c0, .slice A1 n1 c1, .slice A2 n2 c2, .slice A3 n3 c3] 57 (0, 0))) ∧ (1000 ≤ k' → ∃ C' e' v, w'.heap[w.heap.size]? = some (.cells #[.int .i64 ro, .int .i64 go, .slice (some ⟨sb, so, none⟩) n0 c0, .slice A1 n1 c1, .slice C' (n2 + 1) e', .slice A3 n3 c3] 57 (0, 0)) ∧ AL (bs ++ [w.heap.size, w.heap.size + 1]) w' C' (n2 + 1) e' (v :: x2))) [0, 0, 0, 0, 0, 0, 0, 0, 0, 0, 1000] [1000, 1000, 1000, 1000, 1000, 1000, 1000, 1000, 1000, 1000, 1000] (by kernel_rfl) (false :: false :: false :: false :: false :: false :: false :: false :: false :: false :: false :: false :: false :: false :: false :: false :: false :: false :: false :: false :: false :: false :: false :: false :: false :: false :: false :: false :: false :: false :: false :: false :: false :: false :: false :: false :: false :: false :: false :: false :: false :: false :: false :: false :: false :: true :: true :: true :: true :: true :: true :: true :: true :: true :: true :: false :: false :: false :: false :: false :: false :: false :: false :: false :: false :: false :: false :: false :: false :: false :: false :: false :: false :: false :: false :: false :: false :: false :: false :: []) [some 45, some 46, some 47, some 48, some 49, some 50, some 51, some 52, some 53, some 54, none] [[], [0], [], [2], [], [4], [3, 5], [6], [1, 7], [], [8, 9]] [false, false, false, false, false, false, false, false, false, false, true] [true, true, true, true, true, true, true, true, true, true, true] [] [MStP.is _, MStP.is _, MStP.is _, MStP.is _, MStP.is _, MStP.is _, MStP.is _, MStP.is _, (⟨fun v w' => ∃ C' e' z, v = .slice C' (n2 + 1) e' ∧ AL (bs ++ [w.heap.size, w.heap.size + 1]) w' C' (n2 + 1) e' (z :: x2), true, fun v w w' hs ⟨C', e', z, e, h⟩ => ⟨C', e', z, e, h.chg (Chg.of_below hs (· ∈ [])) (by simp)⟩, fun _ v w w' hs ⟨C', e', z, e, h⟩ => ⟨C', e', z, e, h.chg hs⟩⟩), MStP.is _, MStP.is _] (by kernel_rfl) (by kernel_rfl) (by kernel_rfl) (by kernel_rfl)
      case hobs =>
        refine ⟨fun y w' k hS hj hk hF K hK => ?_, ?_⟩
        · skip -- 0: fieldAddr
          simp only [fillL, cond_true, cond_false, List.getD_cons_zero, List.getD_cons_succ, StP.is, Act.put, List.setIfInBounds_toArray, List.set_cons_zero, List.set_cons_succ, Nat.reduceAdd, MStP.is, Option.isSome_some, Option.isSome_none] at hK ⊢
          simp only [List.sum_cons, List.sum_nil, List.getD_cons_zero, List.getD_cons_succ, Nat.reduceAdd, Nat.add_zero] at hk
          refine rg_yes (by kernel_rfl) ?_
          clear hF
          go_simp
          exact hK _ _ (Ext.refl _) ⟨fun h => hj.1 (by omega), fun h => absurd h (by omega)⟩ rfl
        refine ⟨fun y w' k hS hj hk hF K hK => ?_, ?_⟩
        · skip -- 1: load
          have e45 : y 45 = _ := hF.1
          have e45' := Lib.hid e45
          simp only [fillL, cond_true, cond_false, List.getD_cons_zero, List.getD_cons_succ, StP.is, Act.put, List.setIfInBounds_toArray, List.set_cons_zero, List.set_cons_succ, Nat.reduceAdd, e45, MStP.is, Option.isSome_some, Option.isSome_none] at hK ⊢
          simp only [List.sum_cons, List.sum_nil, List.getD_cons_zero, List.getD_cons_succ, Nat.reduceAdd, Nat.add_zero] at hk
          refine rg_yes (by kernel_rfl) ?_
          clear e45
          clear hF
          have hqb := hj.1 (by omega)
          have c0_ := cell_of_row _ _ 0 _ _ (0, 0) hqb
          have c1_ := cell_of_row _ _ 1 _ _ (0, 0) hqb
          have c2_ := cell_of_row _ _ 2 _ _ (0, 0) hqb
          have c3_ := cell_of_row _ _ 3 _ _ (0, 0) hqb
          have c4_ := cell_of_row _ _ 4 _ _ (0, 0) hqb
          have c5_ := cell_of_row _ _ 5 _ _ (0, 0) hqb
          have lqb := (Array.getElem?_eq_some_iff.1 hqb).1
          have HJ := Lib.hid hj; clear hj hqb
          go_simp
          have hj := HJ.out
          exact hK _ _ (Ext.refl _) ⟨fun h => hj.1 (by omega), fun h => absurd h (by omega)⟩ rfl
        refine ⟨fun y w' k hS hj hk hF K hK => ?_, ?_⟩
        · skip -- 2: fieldAddr
          simp only [fillL, cond_true, cond_false, List.getD_cons_zero, List.getD_cons_succ, StP.is, Act.put, List.setIfInBounds_toArray, List.set_cons_zero, List.set_cons_succ, Nat.reduceAdd, MStP.is, Option.isSome_some, Option.isSome_none] at hK ⊢
          simp only [List.sum_cons, List.sum_nil, List.getD_cons_zero, List.getD_cons_succ, Nat.reduceAdd, Nat.add_zero] at hk
          refine rg_yes (by kernel_rfl) ?_
          clear hF
          go_simp
          exact hK _ _ (Ext.refl _) ⟨fun h => hj.1 (by omega), fun h => absurd h (by omega)⟩ rfl
        refine ⟨fun y w' k hS hj hk hF K hK => ?_, ?_⟩
        · skip -- 3: load
          have e47 : y 47 = _ := hF.1
          have e47' := Lib.hid e47
          simp only [fillL, cond_true, cond_false, List.getD_cons_zero, List.getD_cons_succ, StP.is, Act.put, List.setIfInBounds_toArray, List.set_cons_zero, List.set_cons_succ, Nat.reduceAdd, e47, MStP.is, Option.isSome_some, Option.isSome_none] at hK ⊢
          simp only [List.sum_cons, List.sum_nil, List.getD_cons_zero, List.getD_cons_succ, Nat.reduceAdd, Nat.add_zero] at hk
          refine rg_yes (by kernel_rfl) ?_
          clear e47
          clear hF
          have hqb := hj.1 (by omega)
          have c0_ := cell_of_row _ _ 0 _ _ (0, 0) hqb
          have c1_ := cell_of_row _ _ 1 _ _ (0, 0) hqb
          have c2_ := cell_of_row _ _ 2 _ _ (0, 0) hqb
          have c3_ := cell_of_row _ _ 3 _ _ (0, 0) hqb
          have c4_ := cell_of_row _ _ 4 _ _ (0, 0) hqb
          have c5_ := cell_of_row _ _ 5 _ _ (0, 0) hqb
          have lqb := (Array.getElem?_eq_some_iff.1 hqb).1
          have HJ := Lib.hid hj; clear hj hqb
          go_simp
          have hj := HJ.out
          exact hK _ _ (Ext.refl _) ⟨fun h => hj.1 (by omega), fun h => absurd h (by omega)⟩ rfl
        refine ⟨fun y w' k hS hj hk hF K hK => ?_, ?_⟩
        · skip -- 4: move
          simp only [fillL, cond_true, cond_false, List.getD_cons_zero, List.getD_cons_succ, StP.is, Act.put, List.setIfInBounds_toArray, List.set_cons_zero, List.set_cons_succ, Nat.reduceAdd, MStP.is, Option.isSome_some, Option.isSome_none] at hK ⊢
          simp only [List.sum_cons, List.sum_nil, List.getD_cons_zero, List.getD_cons_succ, Nat.reduceAdd, Nat.add_zero] at hk
          refine rg_yes (by kernel_rfl) ?_
          clear hF
          go_simp
          exact hK _ _ (Ext.refl _) ⟨fun h => hj.1 (by omega), fun h => absurd h (by omega)⟩ rfl
        refine ⟨fun y w' k hS hj hk hF K hK => ?_, ?_⟩
        · skip -- 5: binOp
          have e49 : y 49 = _ := hF.1
          have e49' := Lib.hid e49
          simp only [fillL, cond_true, cond_false, List.getD_cons_zero, List.getD_cons_succ, StP.is, Act.put, List.setIfInBounds_toArray, List.set_cons_zero, List.set_cons_succ, Nat.reduceAdd, e49, MStP.is, Option.isSome_some, Option.isSome_none] at hK ⊢
          simp only [List.sum_cons, List.sum_nil, List.getD_cons_zero, List.getD_cons_succ, Nat.reduceAdd, Nat.add_zero] at hk
          refine rg_yes (by kernel_rfl) ?_
          clear e49
          clear hF
          go_simp
          exact hK _ _ (Ext.refl _) ⟨fun h => hj.1 (by omega), fun h => absurd h (by omega)⟩ rfl
        refine ⟨fun y w' k hS hj hk hF K hK => ?_, ?_⟩
        · skip -- 6: indexAddr
          have e48 : y 48 = _ := hF.1
          have e50 : y 50 = _ := hF.2.1
          have e48' := Lib.hid e48
          have e50' := Lib.hid e50
          simp only [fillL, cond_true, cond_false, List.getD_cons_zero, List.getD_cons_succ, StP.is, Act.put, List.setIfInBounds_toArray, List.set_cons_zero, List.set_cons_succ, Nat.reduceAdd, e48, e50, MStP.is, Option.isSome_some, Option.isSome_none] at hK ⊢
          simp only [List.sum_cons, List.sum_nil, List.getD_cons_zero, List.getD_cons_succ, Nat.reduceAdd, Nat.add_zero] at hk
          refine rg_yes (by kernel_rfl) ?_
          clear e48 e50
          clear hF
          go_simp
          exact hK _ _ (Ext.refl _) ⟨fun h => hj.1 (by omega), fun h => absurd h (by omega)⟩ rfl
        refine ⟨fun y w' k hS hj hk hF K hK => ?_, ?_⟩
        · skip -- 7: load
          have e51 : y 51 = _ := hF.1
          have e51' := Lib.hid e51
          simp only [fillL, cond_true, cond_false, List.getD_cons_zero, List.getD_cons_succ, StP.is, Act.put, List.setIfInBounds_toArray, List.set_cons_zero, List.set_cons_succ, Nat.reduceAdd, e51, MStP.is, Option.isSome_some, Option.isSome_none] at hK ⊢
          simp only [List.sum_cons, List.sum_nil, List.getD_cons_zero, List.getD_cons_succ, Nat.reduceAdd, Nat.add_zero] at hk
          refine rg_yes (by kernel_rfl) ?_
          clear e51
          clear hF
          have qc := (World.cell?_of_block (hS.block sb sl (by simp; exact sne0))).trans HSC.out
          have lqc : sb < w'.heap.size := Nat.lt_of_lt_of_le sl hS.size
          have HJ := Lib.hid hj; clear hj
          go_simp
          have hj := HJ.out
          exact hK _ _ (Ext.refl _) ⟨fun h => hj.1 (by omega), fun h => absurd h (by omega)⟩ rfl
        refine ⟨fun y w' k hS hj hk hF K hK => ?_, ?_⟩
        · skip -- 8: call
          have e46 : y 46 = _ := hF.1
          have e52 : y 52 = _ := hF.2.1
          have e46' := Lib.hid e46
          have e52' := Lib.hid e52
          simp only [fillL, cond_true, cond_false, List.getD_cons_zero, List.getD_cons_succ, StP.is, Act.put, List.setIfInBounds_toArray, List.set_cons_zero, List.set_cons_succ, Nat.reduceAdd, e46, e52, MStP.is, Option.isSome_some, Option.isSome_none] at hK ⊢
          simp only [List.sum_cons, List.sum_nil, List.getD_cons_zero, List.getD_cons_succ, Nat.reduceAdd, Nat.add_zero] at hk
          refine rg_yes (by kernel_rfl) ?_
          clear e46 e52
          clear hF
          have HJ := Lib.hid hj; clear hj
          have hIL : IL w' A2 n2 c2 x2 := (F2_1.out.chg hS).il
          have HIL := Lib.hid hIL; clear hIL
          go_simp
          go_at_call 136
          refine (l27Front_any _ _ _ x2 _ w' HIL.out (by omega)).mono ?_
          rintro e w'' ⟨C', e', rfl, hal, hb⟩
          have hsz := hS.size
          have hj := HJ.out
          exact hK _ _ hb ⟨fun h => (hb.block _ (by have := (Array.getElem?_eq_some_iff.1 (hj.1 (by omega))).1; exact this)).trans (hj.1 (by omega)), fun h => absurd h (by omega)⟩ ⟨C', e', _, rfl, AL.new hal (fun k hk => by rcases List.mem_append.1 hk with hk | hk <;> first | (have := HBS.out k hk; omega) | (simp at hk; omega))⟩
        refine ⟨fun y w' k hS hj hk hF K hK => ?_, ?_⟩
        · skip -- 9: fieldAddr
          simp only [fillL, cond_true, cond_false, List.getD_cons_zero, List.getD_cons_succ, StP.is, Act.put, List.setIfInBounds_toArray, List.set_cons_zero, List.set_cons_succ, Nat.reduceAdd, MStP.is, Option.isSome_some, Option.isSome_none] at hK ⊢
          simp only [List.sum_cons, List.sum_nil, List.getD_cons_zero, List.getD_cons_succ, Nat.reduceAdd, Nat.add_zero] at hk
          refine rg_yes (by kernel_rfl) ?_
          clear hF
          go_simp
          exact hK _ _ (Ext.refl _) ⟨fun h => hj.1 (by omega), fun h => absurd h (by omega)⟩ rfl
        refine ⟨fun y w' k hS hj hk hF K hK => ?_, ?_⟩
        · skip -- 10: store
          obtain ⟨C', e', z', e53, hal⟩ := hF.1
          have HAL := Lib.hid hal; clear hal
          have e54 : y 54 = _ := hF.2.1
          have e53' := Lib.hid e53
          have e54' := Lib.hid e54
          simp only [fillL, cond_true, cond_false, List.getD_cons_zero, List.getD_cons_succ, StP.is, Act.put, List.setIfInBounds_toArray, List.set_cons_zero, List.set_cons_succ, Nat.reduceAdd, e53, e54, MStP.is, Option.isSome_some, Option.isSome_none] at hK ⊢
          simp only [List.sum_cons, List.sum_nil, List.getD_cons_zero, List.getD_cons_succ, Nat.reduceAdd, Nat.add_zero] at hk
          refine rg_yes (by kernel_rfl) ?_
          clear e53 e54
          clear hF
          have hqb := hj.1 (by omega)
          have c0_ := cell_of_row _ _ 0 _ _ (0, 0) hqb; have f0_ := block_free hqb 0
          have c1_ := cell_of_row _ _ 1 _ _ (0, 0) hqb; have f1_ := block_free hqb 1
          have c2_ := cell_of_row _ _ 2 _ _ (0, 0) hqb; have f2_ := block_free hqb 2
          have c3_ := cell_of_row _ _ 3 _ _ (0, 0) hqb; have f3_ := block_free hqb 3
          have c4_ := cell_of_row _ _ 4 _ _ (0, 0) hqb; have f4_ := block_free hqb 4
          have c5_ := cell_of_row _ _ 5 _ _ (0, 0) hqb; have f5_ := block_free hqb 5
          have lqb := (Array.getElem?_eq_some_iff.1 hqb).1
          have HQB := Lib.hid hqb; clear hj hqb
          go_simp
          exact hK undef _ (Chg.setCell (p := ⟨w.heap.size, 4, none⟩) (Chg.refl _ _) (.inl (by simp)) _) ⟨fun h => absurd h (by omega), fun _ => ⟨C', e', z', block_set HQB.out, HAL.out.chg (Chg.setCell (p := ⟨w.heap.size, 4, none⟩) (Chg.refl (· ∈ [w.heap.size]) _) (.inl (by simp)) _)⟩⟩ rfl
        trivial
      case hH => rfl
      case hNS => exact fun _ _ h => Chg.of_below h _
      case hSt => exact fun a b => Chg.trans a b
      case hb => rfl
      case hdrew => exact (Chg.refl _ _).drewN 1
      case hj0 => exact fun y => ⟨fun _ => BX1.out, fun h => absurd h (by omega)⟩
      case hend =>
        intro y_ w2 hS hJ hF
        obtain ⟨C', e', v_, hbx, hal⟩ := hJ.2 (by decide)
        have CC : Chg (· ∈ [w.heap.size, w.heap.size + 1]) w1 w2 := hS.mono (fun b _ hb => by simp at hb ⊢; exact .inl hb)
        have HB2 := Lib.hid (HB1.out.trans (CC.below (B := w.heap.size) (fun k _ hk => by simp at hk; omega) HB1.out.size))
        have BX2 := Lib.hid hbx
        have RS2 := Lib.hid ((hS.block (w.heap.size + 1) zz1 (by simp)).trans RS1.out)
        have FN_2 := Lib.hid hal
        have F0_2 := Lib.hid (F0_1.out.chg CC)
        have F1_2 := Lib.hid (F1_1.out.chg CC)
        have F2_2 := Lib.hid (F2_1.out.chg CC)
        have F3_2 := Lib.hid (F3_1.out.chg CC)
        clear hF hJ hS hbx hal CC HB1 BX1 RS1 zz1 F0_1 F1_1 F2_1 F3_1
        simp only [fillL, cond_true, cond_false, Nat.reduceAdd]
        have zz2 : w.heap.size + 1 < w2.heap.size := (Array.getElem?_eq_some_iff.1 RS2.out).1
        have uc0 := cell_of_row _ _ 0 _ _ (0, 0) BX2.out; have uf0 := block_free BX2.out 0; have ud0 := cell_of_row _ _ 0 _ _ (0, 0) RS2.out; have ug0 := block_free RS2.out 0
        have uc1 := cell_of_row _ _ 1 _ _ (0, 0) BX2.out; have uf1 := block_free BX2.out 1; have ud1 := cell_of_row _ _ 1 _ _ (0, 0) RS2.out; have ug1 := block_free RS2.out 1
        have uc2 := cell_of_row _ _ 2 _ _ (0, 0) BX2.out; have uf2 := block_free BX2.out 2; have ud2 := cell_of_row _ _ 2 _ _ (0, 0) RS2.out; have ug2 := block_free RS2.out 2
        have uc3 := cell_of_row _ _ 3 _ _ (0, 0) BX2.out; have uf3 := block_free BX2.out 3; have ud3 := cell_of_row _ _ 3 _ _ (0, 0) RS2.out; have ug3 := block_free RS2.out 3
        have uc4 := cell_of_row _ _ 4 _ _ (0, 0) BX2.out; have uf4 := block_free BX2.out 4; have ud4 := cell_of_row _ _ 4 _ _ (0, 0) RS2.out; have ug4 := block_free RS2.out 4
        have uc5 := cell_of_row _ _ 5 _ _ (0, 0) BX2.out; have uf5 := block_free BX2.out 5; have ud5 := cell_of_row _ _ 5 _ _ (0, 0) RS2.out; have ug5 := block_free RS2.out 5
        have lb := (Array.getElem?_eq_some_iff.1 BX2.out).1; have lr := (Array.getElem?_eq_some_iff.1 RS2.out).1
        have HT_2 := Lib.hid (F0_2.out.take (m := nm) (by omega))
        obtain ⟨wF, hwF⟩ : ∃ W, W = (World.setCell (World.setCell (World.setCell (World.setCell (World.setCell (World.setCell (World.setCell w2 ⟨w.heap.size, 2, none⟩ (.slice (some ⟨sb, so, none⟩) nm c0)) ⟨w.heap.size + 1, 0, none⟩ (.int .i64 ro)) ⟨w.heap.size + 1, 1, none⟩ (.int .i64 go)) ⟨w.heap.size + 1, 2, none⟩ (.slice (some ⟨sb, so, none⟩) nm c0)) ⟨w.heap.size + 1, 3, none⟩ (.slice A1 n1 c1)) ⟨w.heap.size + 1, 4, none⟩ (.slice C' (n2 + 1) e')) ⟨w.heap.size + 1, 5, none⟩ (.slice A3 n3 c3)) := ⟨_, rfl⟩
        have CF : Chg (· ∈ [w.heap.size, w.heap.size + 1]) w2 wF := by rw [hwF]; exact (Chg.setCell (p := ⟨w.heap.size + 1, 5, none⟩) (Chg.setCell (p := ⟨w.heap.size + 1, 4, none⟩) (Chg.setCell (p := ⟨w.heap.size + 1, 3, none⟩) (Chg.setCell (p := ⟨w.heap.size + 1, 2, none⟩) (Chg.setCell (p := ⟨w.heap.size + 1, 1, none⟩) (Chg.setCell (p := ⟨w.heap.size + 1, 0, none⟩) (Chg.setCell (p := ⟨w.heap.size, 2, none⟩) (Chg.refl _ _) (.inl (by simp)) _) (.inl (by simp)) _) (.inl (by simp)) _) (.inl (by simp)) _) (.inl (by simp)) _) (.inl (by simp)) _) (.inl (by simp)) _)
        have HBF : Below w.heap.size w wF := HB2.out.trans (CF.below (B := w.heap.size) (fun k _ hk => by simp at hk; omega) HB2.out.size)
        have F0_F := (F0_2.out.chg CF).sub
        have F1_F := (F1_2.out.chg CF).sub
        have F2_F := (F2_2.out.chg CF).sub
        have F3_F := (F3_2.out.chg CF).sub
        have FN_F := (FN_2.out.chg CF).sub
        have HT_F := (HT_2.out.chg CF).sub
        have RSF : wF.heap[w.heap.size + 1]? = some (.cells #[.int .i64 ro, .int .i64 go, .slice (some ⟨sb, so, none⟩) nm c0, .slice A1 n1 c1, .slice C' (n2 + 1) e', .slice A3 n3 c3] 57 (0, 0)) := by rw [hwF]; exact (block_set (o := 5) (v := .slice A3 n3 c3) (block_set (o := 4) (v := .slice C' (n2 + 1) e') (block_set (o := 3) (v := .slice A1 n1 c1) (block_set (o := 2) (v := .slice (some ⟨sb, so, none⟩) nm c0) (block_set (o := 1) (v := .int .i64 go) (block_set (o := 0) (v := .int .i64 ro) ((heap_far (p := ⟨w.heap.size, 2, none⟩) (by simp)).trans RS2.out)))))))
        have r0 := cell_of_row _ _ 0 _ _ (0, 0) RSF
        have r1 := cell_of_row _ _ 1 _ _ (0, 0) RSF
        have r2 := cell_of_row _ _ 2 _ _ (0, 0) RSF
        have r3 := cell_of_row _ _ 3 _ _ (0, 0) RSF
        have r4 := cell_of_row _ _ 4 _ _ (0, 0) RSF
        have r5 := cell_of_row _ _ 5 _ _ (0, 0) RSF
        have HP : Hid (WayP bs ro go n0 n1 n2 n3 x2 x3 w (.returned (.agg #[.int .i64 ro, .int .i64 go, .slice (some ⟨sb, so, none⟩) nm c0, .slice A1 n1 c1, .slice C' (n2 + 1) e', .slice A3 n3 c3])) wF) := Lib.hid (⟨some ⟨sb, so, none⟩, nm, c0, _, A1, n1, c1, x1, C', n2 + 1, e', _, A3, n3, c3, x3, rfl, HT_F, F1_F, FN_F, F3_F, .inr ⟨cge, .inl ⟨HN1.out, rfl, rfl, rfl, ⟨_, rfl⟩, rfl⟩⟩, HBF⟩)
        have HWF := Lib.hid hwF
        clear hwF CF HBF F0_F F1_F F2_F F3_F FN_F HT_F
        go_wp2_with fail
        rw [← HWF.out]
        exact bodyPost_ret (v := .agg #[.int .i64 ro, .int .i64 go, .slice (some ⟨sb, so, none⟩) nm c0, .slice A1 n1 c1, .slice C' (n2 + 1) e', .slice A3 n3 c3]) (by simp [results, Try.results137, go_sem, r0, r1, r2, r3, r4, r5]) rfl HP.out
    · have d1 : ((n1 : Int) == 0) = false := by simp; omega
      have uc0 := cell_of_row _ _ 0 _ _ (0, 0) BX1.out; have uf0 := block_free BX1.out 0; have ud0 := cell_of_row _ _ 0 _ _ (0, 0) RS1.out; have ug0 := block_free RS1.out 0
      have uc1 := cell_of_row _ _ 1 _ _ (0, 0) BX1.out; have uf1 := block_free BX1.out 1; have ud1 := cell_of_row _ _ 1 _ _ (0, 0) RS1.out; have ug1 := block_free RS1.out 1
      have uc2 := cell_of_row _ _ 2 _ _ (0, 0) BX1.out; have uf2 := block_free BX1.out 2; have ud2 := cell_of_row _ _ 2 _ _ (0, 0) RS1.out; have ug2 := block_free RS1.out 2
      have uc3 := cell_of_row _ _ 3 _ _ (0, 0) BX1.out; have uf3 := block_free BX1.out 3; have ud3 := cell_of_row _ _ 3 _ _ (0, 0) RS1.out; have ug3 := block_free RS1.out 3
      have uc4 := cell_of_row _ _ 4 _ _ (0, 0) BX1.out; have uf4 := block_free BX1.out 4; have ud4 := cell_of_row _ _ 4 _ _ (0, 0) RS1.out; have ug4 := block_free RS1.out 4
      have uc5 := cell_of_row _ _ 5 _ _ (0, 0) BX1.out; have uf5 := block_free BX1.out 5; have ud5 := cell_of_row _ _ 5 _ _ (0, 0) RS1.out; have ug5 := block_free RS1.out 5
      have lb := (Array.getElem?_eq_some_iff.1 BX1.out).1; have lr := (Array.getElem?_eq_some_iff.1 RS1.out).1
      go_wp2_with fail
      rw [← hw1]
      clear hw1
      obtain ⟨sb, so, sv, hsA, sl, sne, sc⟩ := F1_1.out.cell (k := n1 - 1) (by omega)
      subst hsA
      have nn : IntKind.i64.wrap ((n1 : Int) - 1) = ((n1 - 1 : Nat) : Int) := by rw [IntWalk.i64_in _ (by omega)]; omega
      obtain ⟨nm, hnm⟩ : ∃ m, m = n1 - 1 := ⟨_, rfl⟩
      rw [← hnm] at nn sc
      have hnm1 : nm + 1 = n1 := by omega
      have nm0 : (0 : Int) ≤ (nm : Int) := by omega
      have nm1 : (nm : Int) < (n1 : Int) := by omega
      have HSC := Lib.hid sc; have HNM := Lib.hid hnm; have HN1 := Lib.hid hnm1
      have sne0 : sb ≠ w.heap.size := sne _ (by simp)
      have sne1 : sb ≠ w.heap.size + 1 := sne _ (by simp)
      clear sc hnm hnm1 uc0 uf0 ud0 ug0 uc1 uf1 ud1 ug1 uc2 uf2 ud2 ug2 uc3 uf3 ud3 ug3 uc4 uf4 ud4 ug4 uc5 uf5 ud5 ug5 lb lr
      apply wp_region_rgz (Chg (· ∈ [w.heap.size])) (Ext) (fun y w' k' => (k' < 1000 → w'.heap[w.heap.size]? = some (.cells #[.int .i64 ro, .int .i64 go, .slice A0 n0 c0, .slice (some ⟨sb, so, none⟩) n1 c1, .slice A2 n2 c2, .slice A3 n3 c3] 57 (0, 0))) ∧ (1000 ≤ k' → ∃ C' e' v, w'.heap[w.heap.size]? = some (.cells #[.int .i64 ro, .int .i64 go, .slice A0 n0 c0, .slice (some ⟨sb, so, none⟩) n1 c1, .slice A2 n2 c2, .slice C' (n3 + 1) e'] 57 (0, 0)) ∧ AL (bs ++ [w.heap.size, w.heap.size + 1]) w' C' (n3 + 1) e' (v :: x3))) [0, 0, 0, 0, 0, 0, 0, 0, 0, 0, 1000] [1000, 1000, 1000, 1000, 1000, 1000, 1000, 1000, 1000, 1000, 1000] (by kernel_rfl) (false :: false :: false :: false :: false :: false :: false :: false :: false :: false :: false :: false :: false :: false :: false :: false :: false :: false :: false :: false :: false :: false :: false :: false :: false :: false :: false :: false :: false :: false :: false :: false :: false :: false :: false :: false :: false :: false :: false :: false :: false :: false :: false :: false :: false :: false :: false :: false :: false :: false :: false :: false :: false :: false :: false :: false :: false :: false :: false :: false :: false :: false :: true :: true :: true :: true :: true :: true :: true :: true :: true :: true :: false :: false :: false :: false :: false :: false :: false :: []) [some 62, some 63, some 64, some 65, some 66, some 67, some 68, some 69, some 70, some 71, none] [[], [0], [], [2], [], [4], [3, 5], [6], [1, 7], [], [8, 9]] [false, false, false, false, false, false, false, false, false, false, true] [true, true, true, true, true, true, true, true, true, true, true] [] [MStP.is _, MStP.is _, MStP.is _, MStP.is _, MStP.is _, MStP.is _, MStP.is _, MStP.is _, (⟨fun v w' => ∃ C' e' z, v = .slice C' (n3 + 1) e' ∧ AL (bs ++ [w.heap.size, w.heap.size + 1]) w' C' (n3 + 1) e' (z :: x3), true, fun v w w' hs ⟨C', e', z, e, h⟩ => ⟨C', e', z, e, h.chg (Chg.of_below hs (· ∈ [])) (by simp)⟩, fun _ v w w' hs ⟨C', e', z, e, h⟩ => ⟨C', e', z, e, h.chg hs⟩⟩), MStP.is _, MStP.is _] (by kernel_rfl) (by kernel_rfl) (by kernel_rfl) (by kernel_rfl)
      case hobs =>
        refine ⟨fun y w' k hS hj hk hF K hK => ?_, ?_⟩
        · skip -- 0: fieldAddr
          simp only [fillL, cond_true, cond_false, List.getD_cons_zero, List.getD_cons_succ, StP.is, Act.put, List.setIfInBounds_toArray, List.set_cons_zero, List.set_cons_succ, Nat.reduceAdd, MStP.is, Option.isSome_some, Option.isSome_none] at hK ⊢
          simp only [List.sum_cons, List.sum_nil, List.getD_cons_zero, List.getD_cons_succ, Nat.reduceAdd, Nat.add_zero] at hk
          refine rg_yes (by kernel_rfl) ?_
          clear hF
          go_simp
          exact hK _ _ (Ext.refl _) ⟨fun h => hj.1 (by omega), fun h => absurd h (by omega)⟩ rfl
        refine ⟨fun y w' k hS hj hk hF K hK => ?_, ?_⟩
        · skip -- 1: load
          have e62 : y 62 = _ := hF.1
          have e62' := Lib.hid e62
          simp only [fillL, cond_true, cond_false, List.getD_cons_zero, List.getD_cons_succ, StP.is, Act.put, List.setIfInBounds_toArray, List.set_cons_zero, List.set_cons_succ, Nat.reduceAdd, e62, MStP.is, Option.isSome_some, Option.isSome_none] at hK ⊢
          simp only [List.sum_cons, List.sum_nil, List.getD_cons_zero, List.getD_cons_succ, Nat.reduceAdd, Nat.add_zero] at hk
          refine rg_yes (by kernel_rfl) ?_
          clear e62
          clear hF
          have hqb := hj.1 (by omega)
          have c0_ := cell_of_row _ _ 0 _ _ (0, 0) hqb
          have c1_ := cell_of_row _ _ 1 _ _ (0, 0) hqb
          have c2_ := cell_of_row _ _ 2 _ _ (0, 0) hqb
          have c3_ := cell_of_row _ _ 3 _ _ (0, 0) hqb
          have c4_ := cell_of_row _ _ 4 _ _ (0, 0) hqb
          have c5_ := cell_of_row _ _ 5 _ _ (0, 0) hqb
          have lqb := (Array.getElem?_eq_some_iff.1 hqb).1
          have HJ := Lib.hid hj; clear hj hqb
          go_simp
          have hj := HJ.out
          exact hK _ _ (Ext.refl _) ⟨fun h => hj.1 (by omega), fun h => absurd h (by omega)⟩ rfl
        refine ⟨fun y w' k hS hj hk hF K hK => ?_, ?_⟩
        · skip -- 2: fieldAddr
          simp only [fillL, cond_true, cond_false, List.getD_cons_zero, List.getD_cons_succ, StP.is, Act.put, List.setIfInBounds_toArray, List.set_cons_zero, List.set_cons_succ, Nat.reduceAdd, MStP.is, Option.isSome_some, Option.isSome_none] at hK ⊢
          simp only [List.sum_cons, List.sum_nil, List.getD_cons_zero, List.getD_cons_succ, Nat.reduceAdd, Nat.add_zero] at hk
          refine rg_yes (by kernel_rfl) ?_
          clear hF
          go_simp
          exact hK _ _ (Ext.refl _) ⟨fun h => hj.1 (by omega), fun h => absurd h (by omega)⟩ rfl
        refine ⟨fun y w' k hS hj hk hF K hK => ?_, ?_⟩
        · skip -- 3: load
          have e64 : y 64 = _ := hF.1
          have e64' := Lib.hid e64
          simp only [fillL, cond_true, cond_false, List.getD_cons_zero, List.getD_cons_succ, StP.is, Act.put, List.setIfInBounds_toArray, List.set_cons_zero, List.set_cons_succ, Nat.reduceAdd, e64, MStP.is, Option.isSome_some, Option.isSome_none] at hK ⊢
          simp only [List.sum_cons, List.sum_nil, List.getD_cons_zero, List.getD_cons_succ, Nat.reduceAdd, Nat.add_zero] at hk
          refine rg_yes (by kernel_rfl) ?_
          clear e64
          clear hF
          have hqb := hj.1 (by omega)
          have c0_ := cell_of_row _ _ 0 _ _ (0, 0) hqb
          have c1_ := cell_of_row _ _ 1 _ _ (0, 0) hqb
          have c2_ := cell_of_row _ _ 2 _ _ (0, 0) hqb
          have c3_ := cell_of_row _ _ 3 _ _ (0, 0) hqb
          have c4_ := cell_of_row _ _ 4 _ _ (0, 0) hqb
          have c5_ := cell_of_row _ _ 5 _ _ (0, 0) hqb
          have lqb := (Array.getElem?_eq_some_iff.1 hqb).1
          have HJ := Lib.hid hj; clear hj hqb
          go_simp
          have hj := HJ.out
          exact hK _ _ (Ext.refl _) ⟨fun h => hj.1 (by omega), fun h => absurd h (by omega)⟩ rfl
        refine ⟨fun y w' k hS hj hk hF K hK => ?_, ?_⟩
        · skip -- 4: move
          simp only [fillL, cond_true, cond_false, List.getD_cons_zero, List.getD_cons_succ, StP.is, Act.put, List.setIfInBounds_toArray, List.set_cons_zero, List.set_cons_succ, Nat.reduceAdd, MStP.is, Option.isSome_some, Option.isSome_none] at hK ⊢
          simp only [List.sum_cons, List.sum_nil, List.getD_cons_zero, List.getD_cons_succ, Nat.reduceAdd, Nat.add_zero] at hk
          refine rg_yes (by kernel_rfl) ?_
          clear hF
          go_simp
          exact hK _ _ (Ext.refl _) ⟨fun h => hj.1 (by omega), fun h => absurd h (by omega)⟩ rfl
        refine ⟨fun y w' k hS hj hk hF K hK => ?_, ?_⟩
        · skip -- 5: binOp
          have e66 : y 66 = _ := hF.1
          have e66' := Lib.hid e66
          simp only [fillL, cond_true, cond_false, List.getD_cons_zero, List.getD_cons_succ, StP.is, Act.put, List.setIfInBounds_toArray, List.set_cons_zero, List.set_cons_succ, Nat.reduceAdd, e66, MStP.is, Option.isSome_some, Option.isSome_none] at hK ⊢
          simp only [List.sum_cons, List.sum_nil, List.getD_cons_zero, List.getD_cons_succ, Nat.reduceAdd, Nat.add_zero] at hk
          refine rg_yes (by kernel_rfl) ?_
          clear e66
          clear hF
          go_simp
          exact hK _ _ (Ext.refl _) ⟨fun h => hj.1 (by omega), fun h => absurd h (by omega)⟩ rfl
        refine ⟨fun y w' k hS hj hk hF K hK => ?_, ?_⟩
        · skip -- 6: indexAddr
          have e65 : y 65 = _ := hF.1
          have e67 : y 67 = _ := hF.2.1
          have e65' := Lib.hid e65
          have e67' := Lib.hid e67
          simp only [fillL, cond_true, cond_false, List.getD_cons_zero, List.getD_cons_succ, StP.is, Act.put, List.setIfInBounds_toArray, List.set_cons_zero, List.set_cons_succ, Nat.reduceAdd, e65, e67, MStP.is, Option.isSome_some, Option.isSome_none] at hK ⊢
          simp only [List.sum_cons, List.sum_nil, List.getD_cons_zero, List.getD_cons_succ, Nat.reduceAdd, Nat.add_zero] at hk
          refine rg_yes (by kernel_rfl) ?_
          clear e65 e67
          clear hF
          go_simp
          exact hK _ _ (Ext.refl _) ⟨fun h => hj.1 (by omega), fun h => absurd h (by omega)⟩ rfl
        refine ⟨fun y w' k hS hj hk hF K hK => ?_, ?_⟩
        · skip -- 7: load
          have e68 : y 68 = _ := hF.1
          have e68' := Lib.hid e68
          simp only [fillL, cond_true, cond_false, List.getD_cons_zero, List.getD_cons_succ, StP.is, Act.put, List.setIfInBounds_toArray, List.set_cons_zero, List.set_cons_succ, Nat.reduceAdd, e68, MStP.is, Option.isSome_some, Option.isSome_none] at hK ⊢
          simp only [List.sum_cons, List.sum_nil, List.getD_cons_zero, List.getD_cons_succ, Nat.reduceAdd, Nat.add_zero] at hk
          refine rg_yes (by kernel_rfl) ?_
          clear e68
          clear hF
          have qc := (World.cell?_of_block (hS.block sb sl (by simp; exact sne0))).trans HSC.out
          have lqc : sb < w'.heap.size := Nat.lt_of_lt_of_le sl hS.size
          have HJ := Lib.hid hj; clear hj
          go_simp
          have hj := HJ.out
          exact hK _ _ (Ext.refl _) ⟨fun h => hj.1 (by omega), fun h => absurd h (by omega)⟩ rfl
        refine ⟨fun y w' k hS hj hk hF K hK => ?_, ?_⟩
        · skip -- 8: call
          have e63 : y 63 = _ := hF.1
          have e69 : y 69 = _ := hF.2.1
          have e63' := Lib.hid e63
          have e69' := Lib.hid e69
          simp only [fillL, cond_true, cond_false, List.getD_cons_zero, List.getD_cons_succ, StP.is, Act.put, List.setIfInBounds_toArray, List.set_cons_zero, List.set_cons_succ, Nat.reduceAdd, e63, e69, MStP.is, Option.isSome_some, Option.isSome_none] at hK ⊢
          simp only [List.sum_cons, List.sum_nil, List.getD_cons_zero, List.getD_cons_succ, Nat.reduceAdd, Nat.add_zero] at hk
          refine rg_yes (by kernel_rfl) ?_
          clear e63 e69
          clear hF
          have HJ := Lib.hid hj; clear hj
          have hIL : IL w' A3 n3 c3 x3 := (F3_1.out.chg hS).il
          have HIL := Lib.hid hIL; clear hIL
          go_simp
          go_at_call 136
          refine (l27Front_any _ _ _ x3 _ w' HIL.out (by omega)).mono ?_
          rintro e w'' ⟨C', e', rfl, hal, hb⟩
          have hsz := hS.size
          have hj := HJ.out
          exact hK _ _ hb ⟨fun h => (hb.block _ (by have := (Array.getElem?_eq_some_iff.1 (hj.1 (by omega))).1; exact this)).trans (hj.1 (by omega)), fun h => absurd h (by omega)⟩ ⟨C', e', _, rfl, AL.new hal (fun k hk => by rcases List.mem_append.1 hk with hk | hk <;> first | (have := HBS.out k hk; omega) | (simp at hk; omega))⟩
        refine ⟨fun y w' k hS hj hk hF K hK => ?_, ?_⟩
        · skip -- 9: fieldAddr
          simp only [fillL, cond_true, cond_false, List.getD_cons_zero, List.getD_cons_succ, StP.is, Act.put, List.setIfInBounds_toArray, List.set_cons_zero, List.set_cons_succ, Nat.reduceAdd, MStP.is, Option.isSome_some, Option.isSome_none] at hK ⊢
          simp only [List.sum_cons, List.sum_nil, List.getD_cons_zero, List.getD_cons_succ, Nat.reduceAdd, Nat.add_zero] at hk
          refine rg_yes (by kernel_rfl) ?_
          clear hF
          go_simp
          exact hK _ _ (Ext.refl _) ⟨fun h => hj.1 (by omega), fun h => absurd h (by omega)⟩ rfl
        refine ⟨fun y w' k hS hj hk hF K hK => ?_, ?_⟩
        · skip -- 10: store
          obtain ⟨C', e', z', e70, hal⟩ := hF.1
          have HAL := Lib.hid hal; clear hal
          have e71 : y 71 = _ := hF.2.1
          have e70' := Lib.hid e70
          have e71' := Lib.hid e71
          simp only [fillL, cond_true, cond_false, List.getD_cons_zero, List.getD_cons_succ, StP.is, Act.put, List.setIfInBounds_toArray, List.set_cons_zero, List.set_cons_succ, Nat.reduceAdd, e70, e71, MStP.is, Option.isSome_some, Option.isSome_none] at hK ⊢
          simp only [List.sum_cons, List.sum_nil, List.getD_cons_zero, List.getD_cons_succ, Nat.reduceAdd, Nat.add_zero] at hk
          refine rg_yes (by kernel_rfl) ?_
          clear e70 e71
          clear hF
          have hqb := hj.1 (by omega)
          have c0_ := cell_of_row _ _ 0 _ _ (0, 0) hqb; have f0_ := block_free hqb 0
          have c1_ := cell_of_row _ _ 1 _ _ (0, 0) hqb; have f1_ := block_free hqb 1
          have c2_ := cell_of_row _ _ 2 _ _ (0, 0) hqb; have f2_ := block_free hqb 2
          have c3_ := cell_of_row _ _ 3 _ _ (0, 0) hqb; have f3_ := block_free hqb 3
          have c4_ := cell_of_row _ _ 4 _ _ (0, 0) hqb; have f4_ := block_free hqb 4
          have c5_ := cell_of_row _ _ 5 _ _ (0, 0) hqb; have f5_ := block_free hqb 5
          have lqb := (Array.getElem?_eq_some_iff.1 hqb).1
          have HQB := Lib.hid hqb; clear hj hqb
          go_simp
          exact hK undef _ (Chg.setCell (p := ⟨w.heap.size, 5, none⟩) (Chg.refl _ _) (.inl (by simp)) _) ⟨fun h => absurd h (by omega), fun _ => ⟨C', e', z', block_set HQB.out, HAL.out.chg (Chg.setCell (p := ⟨w.heap.size, 5, none⟩) (Chg.refl (· ∈ [w.heap.size]) _) (.inl (by simp)) _)⟩⟩ rfl
        trivial
      case hH => rfl
      case hNS => exact fun _ _ h => Chg.of_below h _
      case hSt => exact fun a b => Chg.trans a b
      case hb => rfl
      case hdrew => exact (Chg.refl _ _).drewN 1
      case hj0 => exact fun y => ⟨fun _ => BX1.out, fun h => absurd h (by omega)⟩
      case hend =>
        intro y_ w2 hS hJ hF
        obtain ⟨C', e', v_, hbx, hal⟩ := hJ.2 (by decide)
        have CC : Chg (· ∈ [w.heap.size, w.heap.size + 1]) w1 w2 := hS.mono (fun b _ hb => by simp at hb ⊢; exact .inl hb)
        have HB2 := Lib.hid (HB1.out.trans (CC.below (B := w.heap.size) (fun k _ hk => by simp at hk; omega) HB1.out.size))
        have BX2 := Lib.hid hbx
        have RS2 := Lib.hid ((hS.block (w.heap.size + 1) zz1 (by simp)).trans RS1.out)
        have FN_2 := Lib.hid hal
        have F0_2 := Lib.hid (F0_1.out.chg CC)
        have F1_2 := Lib.hid (F1_1.out.chg CC)
        have F2_2 := Lib.hid (F2_1.out.chg CC)
        have F3_2 := Lib.hid (F3_1.out.chg CC)
        clear hF hJ hS hbx hal CC HB1 BX1 RS1 zz1 F0_1 F1_1 F2_1 F3_1
        simp only [fillL, cond_true, cond_false, Nat.reduceAdd]
        have zz2 : w.heap.size + 1 < w2.heap.size := (Array.getElem?_eq_some_iff.1 RS2.out).1
        have uc0 := cell_of_row _ _ 0 _ _ (0, 0) BX2.out; have uf0 := block_free BX2.out 0; have ud0 := cell_of_row _ _ 0 _ _ (0, 0) RS2.out; have ug0 := block_free RS2.out 0
        have uc1 := cell_of_row _ _ 1 _ _ (0, 0) BX2.out; have uf1 := block_free BX2.out 1; have ud1 := cell_of_row _ _ 1 _ _ (0, 0) RS2.out; have ug1 := block_free RS2.out 1
        have uc2 := cell_of_row _ _ 2 _ _ (0, 0) BX2.out; have uf2 := block_free BX2.out 2; have ud2 := cell_of_row _ _ 2 _ _ (0, 0) RS2.out; have ug2 := block_free RS2.out 2
        have uc3 := cell_of_row _ _ 3 _ _ (0, 0) BX2.out; have uf3 := block_free BX2.out 3; have ud3 := cell_of_row _ _ 3 _ _ (0, 0) RS2.out; have ug3 := block_free RS2.out 3
        have uc4 := cell_of_row _ _ 4 _ _ (0, 0) BX2.out; have uf4 := block_free BX2.out 4; have ud4 := cell_of_row _ _ 4 _ _ (0, 0) RS2.out; have ug4 := block_free RS2.out 4
        have uc5 := cell_of_row _ _ 5 _ _ (0, 0) BX2.out; have uf5 := block_free BX2.out 5; have ud5 := cell_of_row _ _ 5 _ _ (0, 0) RS2.out; have ug5 := block_free RS2.out 5
        have lb := (Array.getElem?_eq_some_iff.1 BX2.out).1; have lr := (Array.getElem?_eq_some_iff.1 RS2.out).1
        have HT_2 := Lib.hid (F1_2.out.take (m := nm) (by omega))
        obtain ⟨wF, hwF⟩ : ∃ W, W = (World.setCell (World.setCell (World.setCell (World.setCell (World.setCell (World.setCell (World.setCell w2 ⟨w.heap.size, 3, none⟩ (.slice (some ⟨sb, so, none⟩) nm c1)) ⟨w.heap.size + 1, 0, none⟩ (.int .i64 ro)) ⟨w.heap.size + 1, 1, none⟩ (.int .i64 go)) ⟨w.heap.size + 1, 2, none⟩ (.slice A0 n0 c0)) ⟨w.heap.size + 1, 3, none⟩ (.slice (some ⟨sb, so, none⟩) nm c1)) ⟨w.heap.size + 1, 4, none⟩ (.slice A2 n2 c2)) ⟨w.heap.size + 1, 5, none⟩ (.slice C' (n3 + 1) e')) := ⟨_, rfl⟩
        have CF : Chg (· ∈ [w.heap.size, w.heap.size + 1]) w2 wF := by rw [hwF]; exact (Chg.setCell (p := ⟨w.heap.size + 1, 5, none⟩) (Chg.setCell (p := ⟨w.heap.size + 1, 4, none⟩) (Chg.setCell (p := ⟨w.heap.size + 1, 3, none⟩) (Chg.setCell (p := ⟨w.heap.size + 1, 2, none⟩) (Chg.setCell (p := ⟨w.heap.size + 1, 1, none⟩) (Chg.setCell (p := ⟨w.heap.size + 1, 0, none⟩) (Chg.setCell (p := ⟨w.heap.size, 3, none⟩) (Chg.refl _ _) (.inl (by simp)) _) (.inl (by simp)) _) (.inl (by simp)) _) (.inl (by simp)) _) (.inl (by simp)) _) (.inl (by simp)) _) (.inl (by simp)) _)
        have HBF : Below w.heap.size w wF := HB2.out.trans (CF.below (B := w.heap.size) (fun k _ hk => by simp at hk; omega) HB2.out.size)
        have F0_F := (F0_2.out.chg CF).sub
        have F1_F := (F1_2.out.chg CF).sub
        have F2_F := (F2_2.out.chg CF).sub
        have F3_F := (F3_2.out.chg CF).sub
        have FN_F := (FN_2.out.chg CF).sub
        have HT_F := (HT_2.out.chg CF).sub
        have RSF : wF.heap[w.heap.size + 1]? = some (.cells #[.int .i64 ro, .int .i64 go, .slice A0 n0 c0, .slice (some ⟨sb, so, none⟩) nm c1, .slice A2 n2 c2, .slice C' (n3 + 1) e'] 57 (0, 0)) := by rw [hwF]; exact (block_set (o := 5) (v := .slice C' (n3 + 1) e') (block_set (o := 4) (v := .slice A2 n2 c2) (block_set (o := 3) (v := .slice (some ⟨sb, so, none⟩) nm c1) (block_set (o := 2) (v := .slice A0 n0 c0) (block_set (o := 1) (v := .int .i64 go) (block_set (o := 0) (v := .int .i64 ro) ((heap_far (p := ⟨w.heap.size, 3, none⟩) (by simp)).trans RS2.out)))))))
        have r0 := cell_of_row _ _ 0 _ _ (0, 0) RSF
        have r1 := cell_of_row _ _ 1 _ _ (0, 0) RSF
        have r2 := cell_of_row _ _ 2 _ _ (0, 0) RSF
        have r3 := cell_of_row _ _ 3 _ _ (0, 0) RSF
        have r4 := cell_of_row _ _ 4 _ _ (0, 0) RSF
        have r5 := cell_of_row _ _ 5 _ _ (0, 0) RSF
        have HP : Hid (WayP bs ro go n0 n1 n2 n3 x2 x3 w (.returned (.agg #[.int .i64 ro, .int .i64 go, .slice A0 n0 c0, .slice (some ⟨sb, so, none⟩) nm c1, .slice A2 n2 c2, .slice C' (n3 + 1) e'])) wF) := Lib.hid (⟨A0, n0, c0, x0, some ⟨sb, so, none⟩, nm, c1, _, A2, n2, c2, x2, C', n3 + 1, e', _, rfl, F0_F, HT_F, F2_F, FN_F, .inr ⟨cge, .inr ⟨rfl, HN1.out, rfl, rfl, rfl, ⟨_, rfl⟩⟩⟩, HBF⟩)
        have HWF := Lib.hid hwF
        clear hwF CF HBF F0_F F1_F F2_F F3_F FN_F HT_F
        go_wp2_with fail
        rw [← HWF.out]
        exact bodyPost_ret (v := .agg #[.int .i64 ro, .int .i64 go, .slice A0 n0 c0, .slice (some ⟨sb, so, none⟩) nm c1, .slice A2 n2 c2, .slice C' (n3 + 1) e']) (by simp [results, Try.results137, go_sem, r0, r1, r2, r3, r4, r5]) rfl HP.out
end Go.Proofs.Ytffieobjcipeoaa
