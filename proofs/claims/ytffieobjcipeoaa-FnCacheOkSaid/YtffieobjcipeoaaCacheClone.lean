/- (Cache).clone of the program. Condition: lists below 2^40. -/
import Derived.Test.YtffieobjcipeoaaCacheAsk2
import Derived.Test.YtffieobjcipeoaaClone
namespace Go.Proofs.Ytffieobjcipeoaa
set_option linter.unnecessarySimpa false
open Go.RowKit
set_option linter.unusedVariables false
set_option linter.unusedSimpArgs false

/-- The box of a cache whose lists are these, each apart from the box and the result cell. -/
def BoxL (bs : List Nat) (X : Nat) (ro go : Int) (n0 n1 n2 n3 : Nat) (x0 x1 x2 x3 : List Int) (W : World) : Prop :=
  ∃ (C0 : Option Addr) (e0 : Nat) (C1 : Option Addr) (e1 : Nat) (C2 : Option Addr) (e2 : Nat) (C3 : Option Addr) (e3 : Nat), W.heap[X]? = some (.cells #[.int .i64 ro, .int .i64 go, .slice C0 n0 e0, .slice C1 n1 e1, .slice C2 n2 e2, .slice C3 n3 e3] 57 (0, 0)) ∧ AL bs W C0 n0 e0 x0 ∧ AL bs W C1 n1 e1 x1 ∧ AL bs W C2 n2 e2 x2 ∧ AL bs W C3 n3 e3 x3
theorem AL.nil_cap {bs : List Nat} {w : World} {A : Option Addr} {n c : Nat} {xs : List Int} (h : AL bs w A n c xs) : A = none → n = 0 ∧ c = 0 := by
  obtain ⟨_, _, _, h⟩ := h
  intro e
  have a := h.2.2.2.2.1 e; have b := h.2.1
  omega
theorem BoxL.below {bs : List Nat} {X : Nat} {ro go : Int} {n0 n1 n2 n3 : Nat} {x0 x1 x2 x3 : List Int} {W W' : World} (h : BoxL bs X ro go n0 n1 n2 n3 x0 x1 x2 x3 W) (hb : Below W.heap.size W W') : BoxL bs X ro go n0 n1 n2 n3 x0 x1 x2 x3 W' := by
  obtain ⟨C0, e0, C1, e1, C2, e2, C3, e3, hq, a0, a1, a2, a3⟩ := h
  exact ⟨C0, e0, C1, e1, C2, e2, C3, e3, (hb.block X (Array.getElem?_eq_some_iff.1 hq).1).trans hq, a0.chg (cs := []) (Chg.of_below hb _), a1.chg (cs := []) (Chg.of_below hb _), a2.chg (cs := []) (Chg.of_below hb _), a3.chg (cs := []) (Chg.of_below hb _)⟩
def ClonedC (bs : List Nat) (ro go : Int) (x0 x1 x2 x3 : List Int) (w : World) (e : Ending) (w' : World) : Prop :=
  ∃ (C0 : Option Addr) (m0 e0 : Nat) (C1 : Option Addr) (m1 e1 : Nat) (C2 : Option Addr) (m2 e2 : Nat) (C3 : Option Addr) (m3 e3 : Nat), e = .returned (.agg #[.int .i64 ro, .int .i64 go, .slice C0 m0 e0, .slice C1 m1 e1, .slice C2 m2 e2, .slice C3 m3 e3]) ∧ AL bs w' C0 m0 e0 x0 ∧ AL bs w' C1 m1 e1 x1 ∧ AL bs w' C2 m2 e2 x2 ∧ AL bs w' C3 m3 e3 x3 ∧ Below w.heap.size w w'
set_option maxRecDepth 100000 in
set_option maxHeartbeats 4000000 in
theorem cloneC_any (bs : List Nat) (ro go : Int) (A0 : Option Addr) (n0 c0 : Nat) (x0 : List Int) (A1 : Option Addr) (n1 c1 : Nat) (x1 : List Int) (A2 : Option Addr) (n2 c2 : Nat) (x2 : List Int) (A3 : Option Addr) (n3 c3 : Nat) (x3 : List Int) (w : World)
    (hbs : ∀ k ∈ bs, k < w.heap.size) (h0 : AL bs w A0 n0 c0 x0) (h1 : AL bs w A1 n1 c1 x1) (h2 : AL bs w A2 n2 c2 x2) (h3 : AL bs w A3 n3 c3 x3) (l0 : n0 ≤ 1000000) (l1 : n1 ≤ 1000000) (l2 : n2 ≤ 1000000) (l3 : n3 ≤ 1000000) :
    Calls Try.prog 82 #[.agg #[.int .i64 ro, .int .i64 go, .slice A0 n0 c0, .slice A1 n1 c1, .slice A2 n2 c2, .slice A3 n3 c3]] w (ClonedC bs ro go x0 x1 x2 x3 w) := by
  have HBS := Lib.hid hbs; clear hbs
  have F0 := Lib.hid h0.more; have F1 := Lib.hid h1.more; have F2 := Lib.hid h2.more; have F3 := Lib.hid h3.more
  clear h0 h1 h2 h3
  go_enter Try.func82, Try.ntmps82
  go_wp2_with fail
  obtain ⟨w1, hw1⟩ : ∃ W, W = (w.alloc (.cells #[.int .i64 ro, .int .i64 go, .slice A0 n0 c0, .slice A1 n1 c1, .slice A2 n2 c2, .slice A3 n3 c3] 57)).alloc (.cells #[.int .i64 0, .int .i64 0, .slice none 0 0, .slice none 0 0, .slice none 0 0, .slice none 0 0] 57) := ⟨_, rfl⟩
  have HB1 : Hid (Below w.heap.size w w1) := Lib.hid (by rw [hw1]; exact bel2)
  have RS1 : Hid (w1.heap[w.heap.size + 1]? = some (.cells #[.int .i64 0, .int .i64 0, .slice none 0 0, .slice none 0 0, .slice none 0 0, .slice none 0 0] 57 (0, 0))) := Lib.hid (by rw [hw1]; have := heap_alloc_new (w.alloc (.cells #[.int .i64 ro, .int .i64 go, .slice A0 n0 c0, .slice A1 n1 c1, .slice A2 n2 c2, .slice A3 n3 c3] 57)) (.cells #[.int .i64 0, .int .i64 0, .slice none 0 0, .slice none 0 0, .slice none 0 0, .slice none 0 0] 57); simpa using this)
  have BX1 : Hid (BoxL (bs ++ [w.heap.size, w.heap.size + 1]) w.heap.size ro go n0 n1 n2 n3 x0 x1 x2 x3 w1) := Lib.hid ⟨A0, c0, A1, c1, A2, c2, A3, c3, by rw [hw1]; exact (Below.heap_alloc _ _ _ (by simp)).trans (heap_alloc_new _ _), F0.out.chg (cs := []) (Chg.of_below HB1.out _), F1.out.chg (cs := []) (Chg.of_below HB1.out _), F2.out.chg (cs := []) (Chg.of_below HB1.out _), F3.out.chg (cs := []) (Chg.of_below HB1.out _)⟩
  have hsz1 : w1.heap.size = w.heap.size + 2 := by rw [hw1]; simp
  rw [← hw1]
  clear hw1 F0 F1 F2 F3
  apply wp_region_rgz (Chg (· ∈ [w.heap.size])) (Ext) (fun y w' k' => BoxL (bs ++ [w.heap.size, w.heap.size + 1]) w.heap.size ro go n0 n1 n2 n3 x0 x1 x2 x3 w') (0 :: 0 :: 0 :: 0 :: 0 :: 0 :: 0 :: 0 :: 0 :: 0 :: 0 :: 0 :: 0 :: 0 :: 0 :: 0 :: 0 :: 0 :: 0 :: 0 :: []) (0 :: 0 :: 0 :: 0 :: 0 :: 0 :: 0 :: 0 :: 0 :: 0 :: 0 :: 0 :: 0 :: 0 :: 0 :: 0 :: 0 :: 0 :: 0 :: 0 :: []) (by kernel_rfl) (false :: false :: false :: true :: true :: true :: true :: true :: true :: true :: true :: true :: true :: true :: true :: true :: true :: true :: true :: false :: []) (some 3 :: some 4 :: some 5 :: some 6 :: some 7 :: some 8 :: some 9 :: some 10 :: some 11 :: some 12 :: some 13 :: some 14 :: some 15 :: none :: some 16 :: none :: some 17 :: none :: some 18 :: none :: []) ([] :: [0] :: [1] :: [] :: [3] :: [4] :: [] :: [6] :: [7] :: [] :: [9] :: [10] :: [] :: [2, 12] :: [] :: [5, 14] :: [] :: [8, 16] :: [] :: [11, 18] :: []) (false :: false :: false :: false :: false :: false :: false :: false :: false :: false :: false :: false :: false :: true :: false :: true :: false :: true :: false :: true :: []) (true :: true :: true :: true :: true :: true :: true :: true :: true :: true :: true :: true :: true :: true :: true :: true :: true :: true :: true :: true :: []) [] (MStP.is _ :: ⟨fun v w' => ∃ (C : Option Addr) (e : Nat), v = .slice C n0 e ∧ AL (bs ++ [w.heap.size, w.heap.size + 1]) w' C n0 e x0, true, fun v w' w'' hs h => by obtain ⟨C, e, a, b⟩ := h; exact ⟨C, e, a, b.chg (cs := []) (Chg.of_below hs _)⟩, fun _ v w' w'' hs h => by obtain ⟨C, e, a, b⟩ := h; exact ⟨C, e, a, b.chg (cs := [w.heap.size]) hs⟩⟩ :: ⟨fun v w' => ∃ (C : Option Addr) (e : Nat), v = .slice C n0 e ∧ AL (bs ++ [w.heap.size, w.heap.size + 1]) w' C n0 e x0, true, fun v w' w'' hs h => by obtain ⟨C, e, a, b⟩ := h; exact ⟨C, e, a, b.chg (cs := []) (Chg.of_below hs _)⟩, fun _ v w' w'' hs h => by obtain ⟨C, e, a, b⟩ := h; exact ⟨C, e, a, b.chg (cs := [w.heap.size]) hs⟩⟩ :: MStP.is _ :: ⟨fun v w' => ∃ (C : Option Addr) (e : Nat), v = .slice C n1 e ∧ AL (bs ++ [w.heap.size, w.heap.size + 1]) w' C n1 e x1, true, fun v w' w'' hs h => by obtain ⟨C, e, a, b⟩ := h; exact ⟨C, e, a, b.chg (cs := []) (Chg.of_below hs _)⟩, fun _ v w' w'' hs h => by obtain ⟨C, e, a, b⟩ := h; exact ⟨C, e, a, b.chg (cs := [w.heap.size]) hs⟩⟩ :: ⟨fun v w' => ∃ (C : Option Addr) (e : Nat), v = .slice C n1 e ∧ AL (bs ++ [w.heap.size, w.heap.size + 1]) w' C n1 e x1, true, fun v w' w'' hs h => by obtain ⟨C, e, a, b⟩ := h; exact ⟨C, e, a, b.chg (cs := []) (Chg.of_below hs _)⟩, fun _ v w' w'' hs h => by obtain ⟨C, e, a, b⟩ := h; exact ⟨C, e, a, b.chg (cs := [w.heap.size]) hs⟩⟩ :: MStP.is _ :: ⟨fun v w' => ∃ (C : Option Addr) (e : Nat), v = .slice C n2 e ∧ AL (bs ++ [w.heap.size, w.heap.size + 1]) w' C n2 e x2, true, fun v w' w'' hs h => by obtain ⟨C, e, a, b⟩ := h; exact ⟨C, e, a, b.chg (cs := []) (Chg.of_below hs _)⟩, fun _ v w' w'' hs h => by obtain ⟨C, e, a, b⟩ := h; exact ⟨C, e, a, b.chg (cs := [w.heap.size]) hs⟩⟩ :: ⟨fun v w' => ∃ (C : Option Addr) (e : Nat), v = .slice C n2 e ∧ AL (bs ++ [w.heap.size, w.heap.size + 1]) w' C n2 e x2, true, fun v w' w'' hs h => by obtain ⟨C, e, a, b⟩ := h; exact ⟨C, e, a, b.chg (cs := []) (Chg.of_below hs _)⟩, fun _ v w' w'' hs h => by obtain ⟨C, e, a, b⟩ := h; exact ⟨C, e, a, b.chg (cs := [w.heap.size]) hs⟩⟩ :: MStP.is _ :: ⟨fun v w' => ∃ (C : Option Addr) (e : Nat), v = .slice C n3 e ∧ AL (bs ++ [w.heap.size, w.heap.size + 1]) w' C n3 e x3, true, fun v w' w'' hs h => by obtain ⟨C, e, a, b⟩ := h; exact ⟨C, e, a, b.chg (cs := []) (Chg.of_below hs _)⟩, fun _ v w' w'' hs h => by obtain ⟨C, e, a, b⟩ := h; exact ⟨C, e, a, b.chg (cs := [w.heap.size]) hs⟩⟩ :: ⟨fun v w' => ∃ (C : Option Addr) (e : Nat), v = .slice C n3 e ∧ AL (bs ++ [w.heap.size, w.heap.size + 1]) w' C n3 e x3, true, fun v w' w'' hs h => by obtain ⟨C, e, a, b⟩ := h; exact ⟨C, e, a, b.chg (cs := []) (Chg.of_below hs _)⟩, fun _ v w' w'' hs h => by obtain ⟨C, e, a, b⟩ := h; exact ⟨C, e, a, b.chg (cs := [w.heap.size]) hs⟩⟩ :: MStP.is _ :: MStP.is _ :: MStP.is _ :: MStP.is _ :: MStP.is _ :: MStP.is _ :: MStP.is _ :: MStP.is _ :: []) (by kernel_rfl) (by kernel_rfl) (by kernel_rfl) (by kernel_rfl)
  case hobs =>
    refine ⟨fun y w' k hS hj hk hF K hK => ?_, ?_⟩
    · skip -- 0: fieldAddr
      simp only [fillL, cond_true, cond_false, List.getD_cons_zero, List.getD_cons_succ, StP.is, Act.put, List.setIfInBounds_toArray, List.set_cons_zero, List.set_cons_succ, Nat.reduceAdd, MStP.is, Option.isSome_some, Option.isSome_none] at hK ⊢
      simp only [List.sum_cons, List.sum_nil, List.getD_cons_zero, List.getD_cons_succ, Nat.reduceAdd, Nat.add_zero] at hk
      refine rg_yes (by kernel_rfl) ?_
      clear hF
      go_simp
      exact hK _ _ (Ext.refl _) hj rfl
    refine ⟨fun y w' k hS hj hk hF K hK => ?_, ?_⟩
    · skip -- 1: load
      have e3 : y 3 = _ := hF.1
      have e3' := Lib.hid e3
      simp only [fillL, cond_true, cond_false, List.getD_cons_zero, List.getD_cons_succ, StP.is, Act.put, List.setIfInBounds_toArray, List.set_cons_zero, List.set_cons_succ, Nat.reduceAdd, e3, MStP.is, Option.isSome_some, Option.isSome_none] at hK ⊢
      simp only [List.sum_cons, List.sum_nil, List.getD_cons_zero, List.getD_cons_succ, Nat.reduceAdd, Nat.add_zero] at hk
      refine rg_yes (by kernel_rfl) ?_
      clear e3
      clear hF
      have HJ := Lib.hid hj
      obtain ⟨C0, e0, C1, e1, C2, e2, C3, e3, hq, a0, a1, a2, a3⟩ := hj
      have u0_ := cell_of_row _ _ 0 _ _ (0, 0) hq
      have u1_ := cell_of_row _ _ 1 _ _ (0, 0) hq
      have u2_ := cell_of_row _ _ 2 _ _ (0, 0) hq
      have u3_ := cell_of_row _ _ 3 _ _ (0, 0) hq
      have u4_ := cell_of_row _ _ 4 _ _ (0, 0) hq
      have u5_ := cell_of_row _ _ 5 _ _ (0, 0) hq
      have lq := (Array.getElem?_eq_some_iff.1 hq).1
      have G0 := Lib.hid a0; have G1 := Lib.hid a1; have G2 := Lib.hid a2; have G3 := Lib.hid a3; clear a0 a1 a2 a3
      clear hq
      go_simp
      exact hK _ _ (Ext.refl _) HJ.out ⟨C0, e0, rfl, G0.out⟩
    refine ⟨fun y w' k hS hj hk hF K hK => ?_, ?_⟩
    · skip -- 2: call
      obtain ⟨Cx, ex, e4, hax⟩ := hF.1
      have e4' := Lib.hid e4
      simp only [fillL, cond_true, cond_false, List.getD_cons_zero, List.getD_cons_succ, StP.is, Act.put, List.setIfInBounds_toArray, List.set_cons_zero, List.set_cons_succ, Nat.reduceAdd, e4, MStP.is, Option.isSome_some, Option.isSome_none] at hK ⊢
      simp only [List.sum_cons, List.sum_nil, List.getD_cons_zero, List.getD_cons_succ, Nat.reduceAdd, Nat.add_zero] at hk
      refine rg_yes (by kernel_rfl) ?_
      clear e4
      clear hF
      have lq : w.heap.size < w'.heap.size := by obtain ⟨_, _, _, _, _, _, _, _, hq_, _⟩ := hj; exact (Array.getElem?_eq_some_iff.1 hq_).1
      have HJ := Lib.hid hj; have HA := Lib.hid hax; clear hj hax
      have hS9 : w1.heap.size ≤ w'.heap.size := Chg.size hS
      go_simp
      go_at_call 121
      refine (clone_any Cx n0 ex x0 w' HA.out.il.ints (by omega) HA.out.nil_cap).mono ?_
      rintro e w'' ⟨A', c', S_, rfl, hO, hSS, hb⟩
      exact hK _ _ hb (HJ.out.below hb) ⟨A', c', rfl, AL.new (lo := w'.heap.size) (hO.sliceR (fun g hg => ⟨hSS g hg, hO.lt g hg⟩) (Nat.le_refl _)) (by intro b hb_; rcases List.mem_append.1 hb_ with h_ | h_ <;> first | (have := HBS.out b h_; omega) | (simp at h_; omega))⟩
    refine ⟨fun y w' k hS hj hk hF K hK => ?_, ?_⟩
    · skip -- 3: fieldAddr
      simp only [fillL, cond_true, cond_false, List.getD_cons_zero, List.getD_cons_succ, StP.is, Act.put, List.setIfInBounds_toArray, List.set_cons_zero, List.set_cons_succ, Nat.reduceAdd, MStP.is, Option.isSome_some, Option.isSome_none] at hK ⊢
      simp only [List.sum_cons, List.sum_nil, List.getD_cons_zero, List.getD_cons_succ, Nat.reduceAdd, Nat.add_zero] at hk
      refine rg_yes (by kernel_rfl) ?_
      clear hF
      go_simp
      exact hK _ _ (Ext.refl _) hj rfl
    refine ⟨fun y w' k hS hj hk hF K hK => ?_, ?_⟩
    · skip -- 4: load
      have e6 : y 6 = _ := hF.1
      have e6' := Lib.hid e6
      simp only [fillL, cond_true, cond_false, List.getD_cons_zero, List.getD_cons_succ, StP.is, Act.put, List.setIfInBounds_toArray, List.set_cons_zero, List.set_cons_succ, Nat.reduceAdd, e6, MStP.is, Option.isSome_some, Option.isSome_none] at hK ⊢
      simp only [List.sum_cons, List.sum_nil, List.getD_cons_zero, List.getD_cons_succ, Nat.reduceAdd, Nat.add_zero] at hk
      refine rg_yes (by kernel_rfl) ?_
      clear e6
      clear hF
      have HJ := Lib.hid hj
      obtain ⟨C0, e0, C1, e1, C2, e2, C3, e3, hq, a0, a1, a2, a3⟩ := hj
      have u0_ := cell_of_row _ _ 0 _ _ (0, 0) hq
      have u1_ := cell_of_row _ _ 1 _ _ (0, 0) hq
      have u2_ := cell_of_row _ _ 2 _ _ (0, 0) hq
      have u3_ := cell_of_row _ _ 3 _ _ (0, 0) hq
      have u4_ := cell_of_row _ _ 4 _ _ (0, 0) hq
      have u5_ := cell_of_row _ _ 5 _ _ (0, 0) hq
      have lq := (Array.getElem?_eq_some_iff.1 hq).1
      have G0 := Lib.hid a0; have G1 := Lib.hid a1; have G2 := Lib.hid a2; have G3 := Lib.hid a3; clear a0 a1 a2 a3
      clear hq
      go_simp
      exact hK _ _ (Ext.refl _) HJ.out ⟨C1, e1, rfl, G1.out⟩
    refine ⟨fun y w' k hS hj hk hF K hK => ?_, ?_⟩
    · skip -- 5: call
      obtain ⟨Cx, ex, e7, hax⟩ := hF.1
      have e7' := Lib.hid e7
      simp only [fillL, cond_true, cond_false, List.getD_cons_zero, List.getD_cons_succ, StP.is, Act.put, List.setIfInBounds_toArray, List.set_cons_zero, List.set_cons_succ, Nat.reduceAdd, e7, MStP.is, Option.isSome_some, Option.isSome_none] at hK ⊢
      simp only [List.sum_cons, List.sum_nil, List.getD_cons_zero, List.getD_cons_succ, Nat.reduceAdd, Nat.add_zero] at hk
      refine rg_yes (by kernel_rfl) ?_
      clear e7
      clear hF
      have lq : w.heap.size < w'.heap.size := by obtain ⟨_, _, _, _, _, _, _, _, hq_, _⟩ := hj; exact (Array.getElem?_eq_some_iff.1 hq_).1
      have HJ := Lib.hid hj; have HA := Lib.hid hax; clear hj hax
      have hS9 : w1.heap.size ≤ w'.heap.size := Chg.size hS
      go_simp
      go_at_call 121
      refine (clone_any Cx n1 ex x1 w' HA.out.il.ints (by omega) HA.out.nil_cap).mono ?_
      rintro e w'' ⟨A', c', S_, rfl, hO, hSS, hb⟩
      exact hK _ _ hb (HJ.out.below hb) ⟨A', c', rfl, AL.new (lo := w'.heap.size) (hO.sliceR (fun g hg => ⟨hSS g hg, hO.lt g hg⟩) (Nat.le_refl _)) (by intro b hb_; rcases List.mem_append.1 hb_ with h_ | h_ <;> first | (have := HBS.out b h_; omega) | (simp at h_; omega))⟩
    refine ⟨fun y w' k hS hj hk hF K hK => ?_, ?_⟩
    · skip -- 6: fieldAddr
      simp only [fillL, cond_true, cond_false, List.getD_cons_zero, List.getD_cons_succ, StP.is, Act.put, List.setIfInBounds_toArray, List.set_cons_zero, List.set_cons_succ, Nat.reduceAdd, MStP.is, Option.isSome_some, Option.isSome_none] at hK ⊢
      simp only [List.sum_cons, List.sum_nil, List.getD_cons_zero, List.getD_cons_succ, Nat.reduceAdd, Nat.add_zero] at hk
      refine rg_yes (by kernel_rfl) ?_
      clear hF
      go_simp
      exact hK _ _ (Ext.refl _) hj rfl
    refine ⟨fun y w' k hS hj hk hF K hK => ?_, ?_⟩
    · skip -- 7: load
      have e9 : y 9 = _ := hF.1
      have e9' := Lib.hid e9
      simp only [fillL, cond_true, cond_false, List.getD_cons_zero, List.getD_cons_succ, StP.is, Act.put, List.setIfInBounds_toArray, List.set_cons_zero, List.set_cons_succ, Nat.reduceAdd, e9, MStP.is, Option.isSome_some, Option.isSome_none] at hK ⊢
      simp only [List.sum_cons, List.sum_nil, List.getD_cons_zero, List.getD_cons_succ, Nat.reduceAdd, Nat.add_zero] at hk
      refine rg_yes (by kernel_rfl) ?_
      clear e9
      clear hF
      have HJ := Lib.hid hj
      obtain ⟨C0, e0, C1, e1, C2, e2, C3, e3, hq, a0, a1, a2, a3⟩ := hj
      have u0_ := cell_of_row _ _ 0 _ _ (0, 0) hq
      have u1_ := cell_of_row _ _ 1 _ _ (0, 0) hq
      have u2_ := cell_of_row _ _ 2 _ _ (0, 0) hq
      have u3_ := cell_of_row _ _ 3 _ _ (0, 0) hq
      have u4_ := cell_of_row _ _ 4 _ _ (0, 0) hq
      have u5_ := cell_of_row _ _ 5 _ _ (0, 0) hq
      have lq := (Array.getElem?_eq_some_iff.1 hq).1
      have G0 := Lib.hid a0; have G1 := Lib.hid a1; have G2 := Lib.hid a2; have G3 := Lib.hid a3; clear a0 a1 a2 a3
      clear hq
      go_simp
      exact hK _ _ (Ext.refl _) HJ.out ⟨C2, e2, rfl, G2.out⟩
    refine ⟨fun y w' k hS hj hk hF K hK => ?_, ?_⟩
    · skip -- 8: call
      obtain ⟨Cx, ex, e10, hax⟩ := hF.1
      have e10' := Lib.hid e10
      simp only [fillL, cond_true, cond_false, List.getD_cons_zero, List.getD_cons_succ, StP.is, Act.put, List.setIfInBounds_toArray, List.set_cons_zero, List.set_cons_succ, Nat.reduceAdd, e10, MStP.is, Option.isSome_some, Option.isSome_none] at hK ⊢
      simp only [List.sum_cons, List.sum_nil, List.getD_cons_zero, List.getD_cons_succ, Nat.reduceAdd, Nat.add_zero] at hk
      refine rg_yes (by kernel_rfl) ?_
      clear e10
      clear hF
      have lq : w.heap.size < w'.heap.size := by obtain ⟨_, _, _, _, _, _, _, _, hq_, _⟩ := hj; exact (Array.getElem?_eq_some_iff.1 hq_).1
      have HJ := Lib.hid hj; have HA := Lib.hid hax; clear hj hax
      have hS9 : w1.heap.size ≤ w'.heap.size := Chg.size hS
      go_simp
      go_at_call 121
      refine (clone_any Cx n2 ex x2 w' HA.out.il.ints (by omega) HA.out.nil_cap).mono ?_
      rintro e w'' ⟨A', c', S_, rfl, hO, hSS, hb⟩
      exact hK _ _ hb (HJ.out.below hb) ⟨A', c', rfl, AL.new (lo := w'.heap.size) (hO.sliceR (fun g hg => ⟨hSS g hg, hO.lt g hg⟩) (Nat.le_refl _)) (by intro b hb_; rcases List.mem_append.1 hb_ with h_ | h_ <;> first | (have := HBS.out b h_; omega) | (simp at h_; omega))⟩
    refine ⟨fun y w' k hS hj hk hF K hK => ?_, ?_⟩
    · skip -- 9: fieldAddr
      simp only [fillL, cond_true, cond_false, List.getD_cons_zero, List.getD_cons_succ, StP.is, Act.put, List.setIfInBounds_toArray, List.set_cons_zero, List.set_cons_succ, Nat.reduceAdd, MStP.is, Option.isSome_some, Option.isSome_none] at hK ⊢
      simp only [List.sum_cons, List.sum_nil, List.getD_cons_zero, List.getD_cons_succ, Nat.reduceAdd, Nat.add_zero] at hk
      refine rg_yes (by kernel_rfl) ?_
      clear hF
      go_simp
      exact hK _ _ (Ext.refl _) hj rfl
    refine ⟨fun y w' k hS hj hk hF K hK => ?_, ?_⟩
    · skip -- 10: load
      have e12 : y 12 = _ := hF.1
      have e12' := Lib.hid e12
      simp only [fillL, cond_true, cond_false, List.getD_cons_zero, List.getD_cons_succ, StP.is, Act.put, List.setIfInBounds_toArray, List.set_cons_zero, List.set_cons_succ, Nat.reduceAdd, e12, MStP.is, Option.isSome_some, Option.isSome_none] at hK ⊢
      simp only [List.sum_cons, List.sum_nil, List.getD_cons_zero, List.getD_cons_succ, Nat.reduceAdd, Nat.add_zero] at hk
      refine rg_yes (by kernel_rfl) ?_
      clear e12
      clear hF
      have HJ := Lib.hid hj
      obtain ⟨C0, e0, C1, e1, C2, e2, C3, e3, hq, a0, a1, a2, a3⟩ := hj
      have u0_ := cell_of_row _ _ 0 _ _ (0, 0) hq
      have u1_ := cell_of_row _ _ 1 _ _ (0, 0) hq
      have u2_ := cell_of_row _ _ 2 _ _ (0, 0) hq
      have u3_ := cell_of_row _ _ 3 _ _ (0, 0) hq
      have u4_ := cell_of_row _ _ 4 _ _ (0, 0) hq
      have u5_ := cell_of_row _ _ 5 _ _ (0, 0) hq
      have lq := (Array.getElem?_eq_some_iff.1 hq).1
      have G0 := Lib.hid a0; have G1 := Lib.hid a1; have G2 := Lib.hid a2; have G3 := Lib.hid a3; clear a0 a1 a2 a3
      clear hq
      go_simp
      exact hK _ _ (Ext.refl _) HJ.out ⟨C3, e3, rfl, G3.out⟩
    refine ⟨fun y w' k hS hj hk hF K hK => ?_, ?_⟩
    · skip -- 11: call
      obtain ⟨Cx, ex, e13, hax⟩ := hF.1
      have e13' := Lib.hid e13
      simp only [fillL, cond_true, cond_false, List.getD_cons_zero, List.getD_cons_succ, StP.is, Act.put, List.setIfInBounds_toArray, List.set_cons_zero, List.set_cons_succ, Nat.reduceAdd, e13, MStP.is, Option.isSome_some, Option.isSome_none] at hK ⊢
      simp only [List.sum_cons, List.sum_nil, List.getD_cons_zero, List.getD_cons_succ, Nat.reduceAdd, Nat.add_zero] at hk
      refine rg_yes (by kernel_rfl) ?_
      clear e13
      clear hF
      have lq : w.heap.size < w'.heap.size := by obtain ⟨_, _, _, _, _, _, _, _, hq_, _⟩ := hj; exact (Array.getElem?_eq_some_iff.1 hq_).1
      have HJ := Lib.hid hj; have HA := Lib.hid hax; clear hj hax
      have hS9 : w1.heap.size ≤ w'.heap.size := Chg.size hS
      go_simp
      go_at_call 121
      refine (clone_any Cx n3 ex x3 w' HA.out.il.ints (by omega) HA.out.nil_cap).mono ?_
      rintro e w'' ⟨A', c', S_, rfl, hO, hSS, hb⟩
      exact hK _ _ hb (HJ.out.below hb) ⟨A', c', rfl, AL.new (lo := w'.heap.size) (hO.sliceR (fun g hg => ⟨hSS g hg, hO.lt g hg⟩) (Nat.le_refl _)) (by intro b hb_; rcases List.mem_append.1 hb_ with h_ | h_ <;> first | (have := HBS.out b h_; omega) | (simp at h_; omega))⟩
    refine ⟨fun y w' k hS hj hk hF K hK => ?_, ?_⟩
    · skip -- 12: fieldAddr
      simp only [fillL, cond_true, cond_false, List.getD_cons_zero, List.getD_cons_succ, StP.is, Act.put, List.setIfInBounds_toArray, List.set_cons_zero, List.set_cons_succ, Nat.reduceAdd, MStP.is, Option.isSome_some, Option.isSome_none] at hK ⊢
      simp only [List.sum_cons, List.sum_nil, List.getD_cons_zero, List.getD_cons_succ, Nat.reduceAdd, Nat.add_zero] at hk
      refine rg_yes (by kernel_rfl) ?_
      clear hF
      go_simp
      exact hK _ _ (Ext.refl _) hj rfl
    refine ⟨fun y w' k hS hj hk hF K hK => ?_, ?_⟩
    · skip -- 13: store
      obtain ⟨Cx, ex, e5, hax⟩ := hF.1
      have e15 : y 15 = _ := hF.2.1
      have e5' := Lib.hid e5
      have e15' := Lib.hid e15
      simp only [fillL, cond_true, cond_false, List.getD_cons_zero, List.getD_cons_succ, StP.is, Act.put, List.setIfInBounds_toArray, List.set_cons_zero, List.set_cons_succ, Nat.reduceAdd, e5, e15, MStP.is, Option.isSome_some, Option.isSome_none] at hK ⊢
      simp only [List.sum_cons, List.sum_nil, List.getD_cons_zero, List.getD_cons_succ, Nat.reduceAdd, Nat.add_zero] at hk
      refine rg_yes (by kernel_rfl) ?_
      clear e5 e15
      clear hF
      obtain ⟨C0, e0, C1, e1, C2, e2, C3, e3, hq, a0, a1, a2, a3⟩ := hj
      have u0_ := cell_of_row _ _ 0 _ _ (0, 0) hq
      have u1_ := cell_of_row _ _ 1 _ _ (0, 0) hq
      have u2_ := cell_of_row _ _ 2 _ _ (0, 0) hq
      have u3_ := cell_of_row _ _ 3 _ _ (0, 0) hq
      have u4_ := cell_of_row _ _ 4 _ _ (0, 0) hq
      have u5_ := cell_of_row _ _ 5 _ _ (0, 0) hq
      have z0_ := block_free hq 0
      have z1_ := block_free hq 1
      have z2_ := block_free hq 2
      have z3_ := block_free hq 3
      have z4_ := block_free hq 4
      have z5_ := block_free hq 5
      have lq := (Array.getElem?_eq_some_iff.1 hq).1
      have G0 := Lib.hid a0; have G1 := Lib.hid a1; have G2 := Lib.hid a2; have G3 := Lib.hid a3; clear a0 a1 a2 a3
      have HQ := Lib.hid hq; have HA := Lib.hid hax; clear hq hax
      go_simp
      exact hK undef _ (Chg.setCell (p := ⟨w.heap.size, 2, none⟩) (Chg.refl _ _) (.inl (by simp)) _) ⟨Cx, ex, C1, e1, C2, e2, C3, e3, block_set (o := 2) HQ.out, HA.out.chg (cs := [w.heap.size]) (Chg.setCell (p := ⟨w.heap.size, 2, none⟩) (Chg.refl _ _) (.inl (by simp)) _), G1.out.chg (cs := [w.heap.size]) (Chg.setCell (p := ⟨w.heap.size, 2, none⟩) (Chg.refl _ _) (.inl (by simp)) _), G2.out.chg (cs := [w.heap.size]) (Chg.setCell (p := ⟨w.heap.size, 2, none⟩) (Chg.refl _ _) (.inl (by simp)) _), G3.out.chg (cs := [w.heap.size]) (Chg.setCell (p := ⟨w.heap.size, 2, none⟩) (Chg.refl _ _) (.inl (by simp)) _)⟩ rfl
    refine ⟨fun y w' k hS hj hk hF K hK => ?_, ?_⟩
    · skip -- 14: fieldAddr
      simp only [fillL, cond_true, cond_false, List.getD_cons_zero, List.getD_cons_succ, StP.is, Act.put, List.setIfInBounds_toArray, List.set_cons_zero, List.set_cons_succ, Nat.reduceAdd, MStP.is, Option.isSome_some, Option.isSome_none] at hK ⊢
      simp only [List.sum_cons, List.sum_nil, List.getD_cons_zero, List.getD_cons_succ, Nat.reduceAdd, Nat.add_zero] at hk
      refine rg_yes (by kernel_rfl) ?_
      clear hF
      go_simp
      exact hK _ _ (Ext.refl _) hj rfl
    refine ⟨fun y w' k hS hj hk hF K hK => ?_, ?_⟩
    · skip -- 15: store
      obtain ⟨Cx, ex, e8, hax⟩ := hF.1
      have e16 : y 16 = _ := hF.2.1
      have e8' := Lib.hid e8
      have e16' := Lib.hid e16
      simp only [fillL, cond_true, cond_false, List.getD_cons_zero, List.getD_cons_succ, StP.is, Act.put, List.setIfInBounds_toArray, List.set_cons_zero, List.set_cons_succ, Nat.reduceAdd, e8, e16, MStP.is, Option.isSome_some, Option.isSome_none] at hK ⊢
      simp only [List.sum_cons, List.sum_nil, List.getD_cons_zero, List.getD_cons_succ, Nat.reduceAdd, Nat.add_zero] at hk
      refine rg_yes (by kernel_rfl) ?_
      clear e8 e16
      clear hF
      obtain ⟨C0, e0, C1, e1, C2, e2, C3, e3, hq, a0, a1, a2, a3⟩ := hj
      have u0_ := cell_of_row _ _ 0 _ _ (0, 0) hq
      have u1_ := cell_of_row _ _ 1 _ _ (0, 0) hq
      have u2_ := cell_of_row _ _ 2 _ _ (0, 0) hq
      have u3_ := cell_of_row _ _ 3 _ _ (0, 0) hq
      have u4_ := cell_of_row _ _ 4 _ _ (0, 0) hq
      have u5_ := cell_of_row _ _ 5 _ _ (0, 0) hq
      have z0_ := block_free hq 0
      have z1_ := block_free hq 1
      have z2_ := block_free hq 2
      have z3_ := block_free hq 3
      have z4_ := block_free hq 4
      have z5_ := block_free hq 5
      have lq := (Array.getElem?_eq_some_iff.1 hq).1
      have G0 := Lib.hid a0; have G1 := Lib.hid a1; have G2 := Lib.hid a2; have G3 := Lib.hid a3; clear a0 a1 a2 a3
      have HQ := Lib.hid hq; have HA := Lib.hid hax; clear hq hax
      go_simp
      exact hK undef _ (Chg.setCell (p := ⟨w.heap.size, 3, none⟩) (Chg.refl _ _) (.inl (by simp)) _) ⟨C0, e0, Cx, ex, C2, e2, C3, e3, block_set (o := 3) HQ.out, G0.out.chg (cs := [w.heap.size]) (Chg.setCell (p := ⟨w.heap.size, 3, none⟩) (Chg.refl _ _) (.inl (by simp)) _), HA.out.chg (cs := [w.heap.size]) (Chg.setCell (p := ⟨w.heap.size, 3, none⟩) (Chg.refl _ _) (.inl (by simp)) _), G2.out.chg (cs := [w.heap.size]) (Chg.setCell (p := ⟨w.heap.size, 3, none⟩) (Chg.refl _ _) (.inl (by simp)) _), G3.out.chg (cs := [w.heap.size]) (Chg.setCell (p := ⟨w.heap.size, 3, none⟩) (Chg.refl _ _) (.inl (by simp)) _)⟩ rfl
    refine ⟨fun y w' k hS hj hk hF K hK => ?_, ?_⟩
    · skip -- 16: fieldAddr
      simp only [fillL, cond_true, cond_false, List.getD_cons_zero, List.getD_cons_succ, StP.is, Act.put, List.setIfInBounds_toArray, List.set_cons_zero, List.set_cons_succ, Nat.reduceAdd, MStP.is, Option.isSome_some, Option.isSome_none] at hK ⊢
      simp only [List.sum_cons, List.sum_nil, List.getD_cons_zero, List.getD_cons_succ, Nat.reduceAdd, Nat.add_zero] at hk
      refine rg_yes (by kernel_rfl) ?_
      clear hF
      go_simp
      exact hK _ _ (Ext.refl _) hj rfl
    refine ⟨fun y w' k hS hj hk hF K hK => ?_, ?_⟩
    · skip -- 17: store
      obtain ⟨Cx, ex, e11, hax⟩ := hF.1
      have e17 : y 17 = _ := hF.2.1
      have e11' := Lib.hid e11
      have e17' := Lib.hid e17
      simp only [fillL, cond_true, cond_false, List.getD_cons_zero, List.getD_cons_succ, StP.is, Act.put, List.setIfInBounds_toArray, List.set_cons_zero, List.set_cons_succ, Nat.reduceAdd, e11, e17, MStP.is, Option.isSome_some, Option.isSome_none] at hK ⊢
      simp only [List.sum_cons, List.sum_nil, List.getD_cons_zero, List.getD_cons_succ, Nat.reduceAdd, Nat.add_zero] at hk
      refine rg_yes (by kernel_rfl) ?_
      clear e11 e17
      clear hF
      obtain ⟨C0, e0, C1, e1, C2, e2, C3, e3, hq, a0, a1, a2, a3⟩ := hj
      have u0_ := cell_of_row _ _ 0 _ _ (0, 0) hq
      have u1_ := cell_of_row _ _ 1 _ _ (0, 0) hq
      have u2_ := cell_of_row _ _ 2 _ _ (0, 0) hq
      have u3_ := cell_of_row _ _ 3 _ _ (0, 0) hq
      have u4_ := cell_of_row _ _ 4 _ _ (0, 0) hq
      have u5_ := cell_of_row _ _ 5 _ _ (0, 0) hq
      have z0_ := block_free hq 0
      have z1_ := block_free hq 1
      have z2_ := block_free hq 2
      have z3_ := block_free hq 3
      have z4_ := block_free hq 4
      have z5_ := block_free hq 5
      have lq := (Array.getElem?_eq_some_iff.1 hq).1
      have G0 := Lib.hid a0; have G1 := Lib.hid a1; have G2 := Lib.hid a2; have G3 := Lib.hid a3; clear a0 a1 a2 a3
      have HQ := Lib.hid hq; have HA := Lib.hid hax; clear hq hax
      go_simp
      exact hK undef _ (Chg.setCell (p := ⟨w.heap.size, 4, none⟩) (Chg.refl _ _) (.inl (by simp)) _) ⟨C0, e0, C1, e1, Cx, ex, C3, e3, block_set (o := 4) HQ.out, G0.out.chg (cs := [w.heap.size]) (Chg.setCell (p := ⟨w.heap.size, 4, none⟩) (Chg.refl _ _) (.inl (by simp)) _), G1.out.chg (cs := [w.heap.size]) (Chg.setCell (p := ⟨w.heap.size, 4, none⟩) (Chg.refl _ _) (.inl (by simp)) _), HA.out.chg (cs := [w.heap.size]) (Chg.setCell (p := ⟨w.heap.size, 4, none⟩) (Chg.refl _ _) (.inl (by simp)) _), G3.out.chg (cs := [w.heap.size]) (Chg.setCell (p := ⟨w.heap.size, 4, none⟩) (Chg.refl _ _) (.inl (by simp)) _)⟩ rfl
    refine ⟨fun y w' k hS hj hk hF K hK => ?_, ?_⟩
    · skip -- 18: fieldAddr
      simp only [fillL, cond_true, cond_false, List.getD_cons_zero, List.getD_cons_succ, StP.is, Act.put, List.setIfInBounds_toArray, List.set_cons_zero, List.set_cons_succ, Nat.reduceAdd, MStP.is, Option.isSome_some, Option.isSome_none] at hK ⊢
      simp only [List.sum_cons, List.sum_nil, List.getD_cons_zero, List.getD_cons_succ, Nat.reduceAdd, Nat.add_zero] at hk
      refine rg_yes (by kernel_rfl) ?_
      clear hF
      go_simp
      exact hK _ _ (Ext.refl _) hj rfl
    refine ⟨fun y w' k hS hj hk hF K hK => ?_, ?_⟩
    · skip -- 19: store
      obtain ⟨Cx, ex, e14, hax⟩ := hF.1
      have e18 : y 18 = _ := hF.2.1
      have e14' := Lib.hid e14
      have e18' := Lib.hid e18
      simp only [fillL, cond_true, cond_false, List.getD_cons_zero, List.getD_cons_succ, StP.is, Act.put, List.setIfInBounds_toArray, List.set_cons_zero, List.set_cons_succ, Nat.reduceAdd, e14, e18, MStP.is, Option.isSome_some, Option.isSome_none] at hK ⊢
      simp only [List.sum_cons, List.sum_nil, List.getD_cons_zero, List.getD_cons_succ, Nat.reduceAdd, Nat.add_zero] at hk
      refine rg_yes (by kernel_rfl) ?_
      clear e14 e18
      clear hF
      obtain ⟨C0, e0, C1, e1, C2, e2, C3, e3, hq, a0, a1, a2, a3⟩ := hj
      have u0_ := cell_of_row _ _ 0 _ _ (0, 0) hq
      have u1_ := cell_of_row _ _ 1 _ _ (0, 0) hq
      have u2_ := cell_of_row _ _ 2 _ _ (0, 0) hq
      have u3_ := cell_of_row _ _ 3 _ _ (0, 0) hq
      have u4_ := cell_of_row _ _ 4 _ _ (0, 0) hq
      have u5_ := cell_of_row _ _ 5 _ _ (0, 0) hq
      have z0_ := block_free hq 0
      have z1_ := block_free hq 1
      have z2_ := block_free hq 2
      have z3_ := block_free hq 3
      have z4_ := block_free hq 4
      have z5_ := block_free hq 5
      have lq := (Array.getElem?_eq_some_iff.1 hq).1
      have G0 := Lib.hid a0; have G1 := Lib.hid a1; have G2 := Lib.hid a2; have G3 := Lib.hid a3; clear a0 a1 a2 a3
      have HQ := Lib.hid hq; have HA := Lib.hid hax; clear hq hax
      go_simp
      exact hK undef _ (Chg.setCell (p := ⟨w.heap.size, 5, none⟩) (Chg.refl _ _) (.inl (by simp)) _) ⟨C0, e0, C1, e1, C2, e2, Cx, ex, block_set (o := 5) HQ.out, G0.out.chg (cs := [w.heap.size]) (Chg.setCell (p := ⟨w.heap.size, 5, none⟩) (Chg.refl _ _) (.inl (by simp)) _), G1.out.chg (cs := [w.heap.size]) (Chg.setCell (p := ⟨w.heap.size, 5, none⟩) (Chg.refl _ _) (.inl (by simp)) _), G2.out.chg (cs := [w.heap.size]) (Chg.setCell (p := ⟨w.heap.size, 5, none⟩) (Chg.refl _ _) (.inl (by simp)) _), HA.out.chg (cs := [w.heap.size]) (Chg.setCell (p := ⟨w.heap.size, 5, none⟩) (Chg.refl _ _) (.inl (by simp)) _)⟩ rfl
    trivial
  case hH => rfl
  case hNS => exact fun _ _ h => Chg.of_below h _
  case hSt => exact fun a b => Chg.trans a b
  case hb => rfl
  case hdrew => exact (Chg.refl _ _).drewN 1
  case hj0 => exact fun y => BX1.out.below (below_drewN (Below.refl _ _) 1)
  case hend =>
    intro y w9 hS hJ hF
    obtain ⟨C0, e0, C1, e1, C2, e2, C3, e3, hq, a0, a1, a2, a3⟩ := hJ
    have hB9 : Below w.heap.size w w9 := HB1.out.trans (hS.below (B := w.heap.size) (fun k _ hk => by simp at hk; omega) HB1.out.size)
    have RS9 := (hS.block (w.heap.size + 1) (Array.getElem?_eq_some_iff.1 RS1.out).1 (by simp)).trans RS1.out
    simp only [fillL, cond_true, cond_false, Nat.reduceAdd]
    clear hF hS BX1 RS1
    obtain ⟨wF, hwF⟩ : ∃ W, W = (World.setCell (World.setCell (World.setCell (World.setCell (World.setCell (World.setCell w9 ⟨w.heap.size + 1, 0, none⟩ (.int .i64 ro)) ⟨w.heap.size + 1, 1, none⟩ (.int .i64 go)) ⟨w.heap.size + 1, 2, none⟩ (.slice C0 n0 e0)) ⟨w.heap.size + 1, 3, none⟩ (.slice C1 n1 e1)) ⟨w.heap.size + 1, 4, none⟩ (.slice C2 n2 e2)) ⟨w.heap.size + 1, 5, none⟩ (.slice C3 n3 e3)) := ⟨_, rfl⟩
    have RSF : wF.heap[w.heap.size + 1]? = some (.cells #[.int .i64 ro, .int .i64 go, .slice C0 n0 e0, .slice C1 n1 e1, .slice C2 n2 e2, .slice C3 n3 e3] 57 (0, 0)) := by rw [hwF]; exact (block_set (o := 5) (v := .slice C3 n3 e3) (block_set (o := 4) (v := .slice C2 n2 e2) (block_set (o := 3) (v := .slice C1 n1 e1) (block_set (o := 2) (v := .slice C0 n0 e0) (block_set (o := 1) (v := .int .i64 go) (block_set (o := 0) (v := .int .i64 ro) RS9))))))
    have CF : Chg (· ∈ [w.heap.size + 1]) w9 wF := by rw [hwF]; exact (Chg.setCell (p := ⟨w.heap.size + 1, 5, none⟩) (Chg.setCell (p := ⟨w.heap.size + 1, 4, none⟩) (Chg.setCell (p := ⟨w.heap.size + 1, 3, none⟩) (Chg.setCell (p := ⟨w.heap.size + 1, 2, none⟩) (Chg.setCell (p := ⟨w.heap.size + 1, 1, none⟩) (Chg.setCell (p := ⟨w.heap.size + 1, 0, none⟩) (Chg.refl _ _) (.inl (by simp)) _) (.inl (by simp)) _) (.inl (by simp)) _) (.inl (by simp)) _) (.inl (by simp)) _) (.inl (by simp)) _)
    have hBF : Below w.heap.size w wF := by rw [hwF]; exact (Below.setCell (p := ⟨w.heap.size + 1, 5, none⟩) (Below.setCell (p := ⟨w.heap.size + 1, 4, none⟩) (Below.setCell (p := ⟨w.heap.size + 1, 3, none⟩) (Below.setCell (p := ⟨w.heap.size + 1, 2, none⟩) (Below.setCell (p := ⟨w.heap.size + 1, 1, none⟩) (Below.setCell (p := ⟨w.heap.size + 1, 0, none⟩) hB9 (Nat.le_succ _) _) (Nat.le_succ _) _) (Nat.le_succ _) _) (Nat.le_succ _) _) (Nat.le_succ _) _) (Nat.le_succ _) _)
    have HP : Hid (ClonedC bs ro go x0 x1 x2 x3 w (.returned (.agg #[.int .i64 ro, .int .i64 go, .slice C0 n0 e0, .slice C1 n1 e1, .slice C2 n2 e2, .slice C3 n3 e3])) wF) := Lib.hid ⟨_, _, _, _, _, _, _, _, _, _, _, _, rfl, (a0.chg CF).sub, (a1.chg CF).sub, (a2.chg CF).sub, (a3.chg CF).sub, hBF⟩
    have u0 := cell_of_row _ _ 0 _ _ (0, 0) hq; have v0 := cell_of_row _ _ 0 _ _ (0, 0) RS9; have z0 := block_free RS9 0; have r0 := cell_of_row _ _ 0 _ _ (0, 0) RSF
    have u1 := cell_of_row _ _ 1 _ _ (0, 0) hq; have v1 := cell_of_row _ _ 1 _ _ (0, 0) RS9; have z1 := block_free RS9 1; have r1 := cell_of_row _ _ 1 _ _ (0, 0) RSF
    have u2 := cell_of_row _ _ 2 _ _ (0, 0) hq; have v2 := cell_of_row _ _ 2 _ _ (0, 0) RS9; have z2 := block_free RS9 2; have r2 := cell_of_row _ _ 2 _ _ (0, 0) RSF
    have u3 := cell_of_row _ _ 3 _ _ (0, 0) hq; have v3 := cell_of_row _ _ 3 _ _ (0, 0) RS9; have z3 := block_free RS9 3; have r3 := cell_of_row _ _ 3 _ _ (0, 0) RSF
    have u4 := cell_of_row _ _ 4 _ _ (0, 0) hq; have v4 := cell_of_row _ _ 4 _ _ (0, 0) RS9; have z4 := block_free RS9 4; have r4 := cell_of_row _ _ 4 _ _ (0, 0) RSF
    have u5 := cell_of_row _ _ 5 _ _ (0, 0) hq; have v5 := cell_of_row _ _ 5 _ _ (0, 0) RS9; have z5 := block_free RS9 5; have r5 := cell_of_row _ _ 5 _ _ (0, 0) RSF
    have lq := (Array.getElem?_eq_some_iff.1 hq).1; have lr := (Array.getElem?_eq_some_iff.1 RS9).1
    have HWF := Lib.hid hwF
    clear hwF RSF CF hBF hq RS9 a0 a1 a2 a3
    go_wp2_with fail
    rw [← HWF.out]
    exact bodyPost_ret (v := .agg #[.int .i64 ro, .int .i64 go, .slice C0 n0 e0, .slice C1 n1 e1, .slice C2 n2 e2, .slice C3 n3 e3]) (by simp [results, Try.results82, go_sem, r0, r1, r2, r3, r4, r5]) rfl HP.out
end Go.Proofs.Ytffieobjcipeoaa
