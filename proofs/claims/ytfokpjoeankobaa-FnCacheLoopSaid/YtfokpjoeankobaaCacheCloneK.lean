/- slices.Clone and (Cache).clone of the program, each list in a block of its own. Condition: lists of at most a hundred. -/
import Derived.Test.YtfokpjoeankobaaCacheAskI
import Derived.Test.YtfokpjoeankobaaClone
import Derived.Test.YtfokpjoeankobaaCacheOk
namespace Go.Proofs.Ytfokpjoeankobaa
set_option linter.unnecessarySimpa false
open Go.RowKit
set_option linter.unusedVariables false
set_option linter.unusedSimpArgs false

/-- A list of ints: empty (with no room, where b says so), or whole in a block apart from those of bs. -/
def LK (bs : List Nat) (w : World) (b : Bool) (xs : List Int) (A : Option Addr) (c : Nat) : Prop :=
  (A = none → c = 0) ∧ (xs = [] → b = true → c = 0) ∧ (xs ≠ [] → ∃ S, OwnA w 3 1 S A xs.length c (xs.map (Value.int .i64)) ∧ ∀ g ∈ S, g ∉ bs)
section
variable {bs ds cs : List Nat} {w w' : World} {b : Bool} {xs : List Int} {A : Option Addr} {c : Nat}
theorem LK.chg (h : LK bs w b xs A c) (hc : Chg (· ∈ cs) w w') (hcs : ∀ k ∈ cs, k ∈ bs := by simp) : LK bs w' b xs A c :=
  ⟨h.1, h.2.1, fun hx => by
    obtain ⟨S, h1, h2⟩ := h.2.2 hx
    exact ⟨S, h1.keep (fun g hg => hc.block g (h1.lt g hg) (fun hk => h2 g hg (hcs g hk))), h2⟩⟩
theorem LK.below (h : LK bs w b xs A c) (hb : Below w.heap.size w w') : LK bs w' b xs A c := h.chg (cs := []) (Chg.of_below hb _) (by simp)
theorem LK.sub (h : LK (bs ++ ds) w b xs A c) : LK bs w b xs A c :=
  ⟨h.1, h.2.1, fun hx => by
    obtain ⟨S, h1, h2⟩ := h.2.2 hx
    exact ⟨S, h1, fun g hg hk => h2 g hg (by simp [hk])⟩⟩
theorem LK.more (h : LK bs w b xs A c) : LK (bs ++ [w.heap.size, w.heap.size + 1]) w b xs A c :=
  ⟨h.1, h.2.1, fun hx => by
    obtain ⟨S, h1, h2⟩ := h.2.2 hx
    refine ⟨S, h1, fun g hg hk => ?_⟩
    have := h1.lt g hg
    rcases List.mem_append.1 hk with hk | hk
    · exact h2 g hg hk
    · simp at hk; omega⟩
theorem LK.ints (h : LK bs w b xs A c) (hn : xs.length ≤ 100) : IntsAt w A xs.length xs := by
  by_cases hx : xs = []
  · subst hx
    exact ⟨rfl, by simp, fun h => absurd h (by simp)⟩
  · obtain ⟨S, h1, _⟩ := h.2.2 hx
    exact h1.ints (by omega)
end
section
variable {P : Program}
theorem wpList_append_nothing {ops : Array Oper} {rest : List Oper} {o : Oper} {a : Act} {w : World} {Q : Exit → Act → World → Prop} (hgd : o.guard = none) (s x : Operand) (t : TypeId)
    (ho : o.op = .call { callee := .builtin .append, args := #[s, x], argTypes := #[t, t] })
    (e : TypeId) (i : TypeInfo) (ht : P.underlying t = some (.slice e)) (hi : P.info? e = some i) (X A : Option Addr) (c : Nat) (hs : a.eval s = .slice X 0 0) (hx : a.eval x = .slice A 0 c)
    (h : wpList P ops Q rest (a.put o.dst (.slice X 0 0)) w) : wpList P ops Q (o :: rest) a w :=
  wpList_plain hgd fun _ hK => by
    have hr : (Builtin.append_ #[t, t] o.type #[.slice X 0 0, .slice A 0 c]).run P w = .ok (.slice X 0 0) w := by
      rcases X with _ | x <;> rcases A with _ | ad <;> simp [Builtin.append_, run_underlying ht, sizeOf, typeInfo, hi, Builtin.lenOf, Builtin.firstCells, loadCells, loadCellsFrom, storeCells]
    unfold Oper.wp execOp
    simp only [ho, resolve, invoke, builtin, Sem.run_bind, Sem.run_pure, Result.andThen_ok, List.map_toArray, List.map_cons, List.map_nil, hs, hx, hr]
    exact hK _ _ h
end
set_option maxRecDepth 100000 in
set_option maxHeartbeats 2000000 in
theorem cloneK0 (bs : List Nat) (b : Bool) (xs : List Int) (A : Option Addr) (n c : Nat) (w : World) (h : LK bs w b xs A c) (hl : xs.length = n) (hbs : ∀ k ∈ bs, k < w.heap.size) (hn : n ≤ 100) :
    Calls Try.prog 37 #[.slice A n c] w fun e w' => ∃ A' c', e = .returned (.slice A' n c') ∧ LK bs w' b xs A' c' ∧ Below w.heap.size w w' := by
  have hnil := Lib.run_eql_slice_nil (P := Try.prog) w 24 3 A n c 0 0 Try.underlying24
  obtain ⟨i0, hi, hz0, hz1, hz2⟩ := info_parts info_int
  rcases A with _ | ad
  · obtain rfl : c = 0 := h.1 rfl
    have hx : xs = [] := by
      apply Classical.byContradiction
      intro hx
      obtain ⟨S, h1, _⟩ := h.2.2 hx
      have := h1.none_ rfl
      exact hx (List.eq_nil_of_length_eq_zero this.1)
    subst hx
    obtain rfl : n = 0 := hl.symm
    go_enter Try.func37, Try.ntmps37
    go_wp2_with fail
    go_ret
    exact ⟨none, 0, rfl, ⟨fun _ => rfl, fun _ _ => rfl, fun hx => absurd rfl hx⟩, Below.refl _ _⟩
  · by_cases hx : xs = []
    · subst hx
      obtain rfl : n = 0 := hl.symm
      go_enter Try.func37, Try.ntmps37
      go_wp2_with (at_builtin; go_must (refine wpList_append_nothing rfl _ _ 24 rfl 3 i0 Try.underlying24 hi (some ⟨w.heap.size, 0, none⟩) (some ad) c rfl rfl ?_))
      go_ret
      exact ⟨_, 0, rfl, ⟨fun h => (by cases h), fun _ _ => rfl, fun hx => absurd rfl hx⟩, by exact bel1⟩
    · have HI := Lib.hid (h.ints (by omega))
      rw [hl] at HI
      have HX := Lib.hid hx; have HL := Lib.hid hl
      clear h hx
      go_enter Try.func37, Try.ntmps37
      go_wp2_with (at_builtin; go_must (refine wpList_append_fresh rfl _ _ 24 rfl 3 i0 (.int .i64 0) 1 8 Try.underlying24 hi hz0 hz1 hz2 rfl (by decide) (some ⟨w.heap.size, 0, none⟩) (some ad) n c (xs.map (Value.int .i64)) rfl rfl (IntsAt.row (HI.out.below bel1)) (one_ints xs) (by unfold maxLen; omega) (by omega) ?_))
      intro A' c' S w' hO hS hb hc
      have HO := Lib.hid hO; have HS := Lib.hid hS; have HB := Lib.hid ((bel1 (o := .cells #[] 3)).trans (hb.mono (by simp)))
      clear hO hS hb
      go_wp2_with fail
      go_ret
      refine ⟨A', c', rfl, ⟨fun hA => ?_, fun h => absurd h HX.out, fun _ => ⟨S, ⟨by rw [HL.out]; exact HO.out, fun h0 => ?_⟩, fun g hg hk => ?_⟩⟩, HB.out⟩
      · rcases HO.out with ⟨_, h1, _⟩ | ⟨g, _, _, h1, _⟩
        · exact absurd (List.eq_nil_of_length_eq_zero (by rw [HL.out]; exact h1)) HX.out
        · rw [hA] at h1; cases h1
      · rcases HO.out with ⟨_, h1, _⟩ | ⟨g, _, h1, _⟩
        · exact absurd (List.eq_nil_of_length_eq_zero (by rw [HL.out]; exact h1)) HX.out
        · rw [h0] at h1; cases h1
      · have h1 := HS.out g hg; have h2 := hbs g hk
        first | omega | (simp at h1; omega)
theorem cloneK_any (bs : List Nat) (b : Bool) (xs : List Int) (A : Option Addr) (c : Nat) (w : World) (h : LK bs w b xs A c) (hbs : ∀ k ∈ bs, k < w.heap.size) (hn : xs.length ≤ 100) :
    Calls Try.prog 37 #[.slice A xs.length c] w fun e w' => ∃ A' c', e = .returned (.slice A' xs.length c') ∧ LK bs w' b xs A' c' ∧ Below w.heap.size w w' := cloneK0 bs b xs A xs.length c w h rfl hbs hn
/-- The box of a cache with such lists. -/
def BoxK (bs : List Nat) (X : Nat) (ro go : Int) (b0 b1 b2 b3 : Bool) (x0 x1 x2 x3 : List Int) (W : World) : Prop :=
  ∃ (C0 : Option Addr) (e0 : Nat) (C1 : Option Addr) (e1 : Nat) (C2 : Option Addr) (e2 : Nat) (C3 : Option Addr) (e3 : Nat), W.heap[X]? = some (.cells #[.int .i64 ro, .int .i64 go, .slice C0 x0.length e0, .slice C1 x1.length e1, .slice C2 x2.length e2, .slice C3 x3.length e3] 26 (0, 0)) ∧ LK bs W b0 x0 C0 e0 ∧ LK bs W b1 x1 C1 e1 ∧ LK bs W b2 x2 C2 e2 ∧ LK bs W b3 x3 C3 e3
theorem BoxK.below {bs : List Nat} {X : Nat} {ro go : Int} {b0 b1 b2 b3 : Bool} {x0 x1 x2 x3 : List Int} {W W' : World} (h : BoxK bs X ro go b0 b1 b2 b3 x0 x1 x2 x3 W) (hb : Below W.heap.size W W') : BoxK bs X ro go b0 b1 b2 b3 x0 x1 x2 x3 W' := by
  obtain ⟨C0, e0, C1, e1, C2, e2, C3, e3, hq, a0, a1, a2, a3⟩ := h
  exact ⟨C0, e0, C1, e1, C2, e2, C3, e3, (hb.block X (Array.getElem?_eq_some_iff.1 hq).1).trans hq, a0.below hb, a1.below hb, a2.below hb, a3.below hb⟩
def ClonedK (bs : List Nat) (ro go : Int) (b0 b1 b2 b3 : Bool) (x0 x1 x2 x3 : List Int) (w : World) (e : Ending) (w' : World) : Prop :=
  ∃ (C0 : Option Addr) (e0 : Nat) (C1 : Option Addr) (e1 : Nat) (C2 : Option Addr) (e2 : Nat) (C3 : Option Addr) (e3 : Nat), e = .returned (.agg #[.int .i64 ro, .int .i64 go, .slice C0 x0.length e0, .slice C1 x1.length e1, .slice C2 x2.length e2, .slice C3 x3.length e3]) ∧ LK bs w' b0 x0 C0 e0 ∧ LK bs w' b1 x1 C1 e1 ∧ LK bs w' b2 x2 C2 e2 ∧ LK bs w' b3 x3 C3 e3 ∧ Below w.heap.size w w'
set_option maxRecDepth 100000 in
set_option maxHeartbeats 4000000 in
theorem cloneCK_any (bs : List Nat) (ro go : Int) (b0 b1 b2 b3 : Bool) (A0 : Option Addr) (c0 : Nat) (x0 : List Int) (A1 : Option Addr) (c1 : Nat) (x1 : List Int) (A2 : Option Addr) (c2 : Nat) (x2 : List Int) (A3 : Option Addr) (c3 : Nat) (x3 : List Int) (w : World)
    (hbs : ∀ k ∈ bs, k < w.heap.size) (h0 : LK bs w b0 x0 A0 c0) (h1 : LK bs w b1 x1 A1 c1) (h2 : LK bs w b2 x2 A2 c2) (h3 : LK bs w b3 x3 A3 c3) (l0 : x0.length ≤ 100) (l1 : x1.length ≤ 100) (l2 : x2.length ≤ 100) (l3 : x3.length ≤ 100) :
    Calls Try.prog 22 #[.agg #[.int .i64 ro, .int .i64 go, .slice A0 x0.length c0, .slice A1 x1.length c1, .slice A2 x2.length c2, .slice A3 x3.length c3]] w (ClonedK bs ro go b0 b1 b2 b3 x0 x1 x2 x3 w) := by
  have HBS := Lib.hid hbs; clear hbs
  have F0 := Lib.hid h0.more; have F1 := Lib.hid h1.more; have F2 := Lib.hid h2.more; have F3 := Lib.hid h3.more
  clear h0 h1 h2 h3
  go_enter Try.func22, Try.ntmps22
  go_wp2_with fail
  obtain ⟨w1, hw1⟩ : ∃ W, W = (w.alloc (.cells #[.int .i64 ro, .int .i64 go, .slice A0 x0.length c0, .slice A1 x1.length c1, .slice A2 x2.length c2, .slice A3 x3.length c3] 26)).alloc (.cells #[.int .i64 0, .int .i64 0, .slice none 0 0, .slice none 0 0, .slice none 0 0, .slice none 0 0] 26) := ⟨_, rfl⟩
  have HB1 : Hid (Below w.heap.size w w1) := Lib.hid (by rw [hw1]; exact bel2)
  have RS1 : Hid (w1.heap[w.heap.size + 1]? = some (.cells #[.int .i64 0, .int .i64 0, .slice none 0 0, .slice none 0 0, .slice none 0 0, .slice none 0 0] 26 (0, 0))) := Lib.hid (by rw [hw1]; have := heap_alloc_new (w.alloc (.cells #[.int .i64 ro, .int .i64 go, .slice A0 x0.length c0, .slice A1 x1.length c1, .slice A2 x2.length c2, .slice A3 x3.length c3] 26)) (.cells #[.int .i64 0, .int .i64 0, .slice none 0 0, .slice none 0 0, .slice none 0 0, .slice none 0 0] 26); simpa using this)
  have BX1 : Hid (BoxK (bs ++ [w.heap.size, w.heap.size + 1]) w.heap.size ro go b0 b1 b2 b3 x0 x1 x2 x3 w1) := Lib.hid ⟨A0, c0, A1, c1, A2, c2, A3, c3, by rw [hw1]; exact (Below.heap_alloc _ _ _ (by simp)).trans (heap_alloc_new _ _), F0.out.below HB1.out, F1.out.below HB1.out, F2.out.below HB1.out, F3.out.below HB1.out⟩
  have hsz1 : w1.heap.size = w.heap.size + 2 := by rw [hw1]; simp
  rw [← hw1]
  clear hw1 F0 F1 F2 F3
  apply wp_region_rgz (Chg (· ∈ [w.heap.size])) (Ext) (fun y w' k' => BoxK (bs ++ [w.heap.size, w.heap.size + 1]) w.heap.size ro go b0 b1 b2 b3 x0 x1 x2 x3 w') (0 :: 0 :: 0 :: 0 :: 0 :: 0 :: 0 :: 0 :: 0 :: 0 :: 0 :: 0 :: 0 :: 0 :: 0 :: 0 :: 0 :: 0 :: 0 :: 0 :: []) (0 :: 0 :: 0 :: 0 :: 0 :: 0 :: 0 :: 0 :: 0 :: 0 :: 0 :: 0 :: 0 :: 0 :: 0 :: 0 :: 0 :: 0 :: 0 :: 0 :: []) (by kernel_rfl) (false :: false :: false :: true :: true :: true :: true :: true :: true :: true :: true :: true :: true :: true :: true :: true :: true :: true :: true :: false :: []) (some 3 :: some 4 :: some 5 :: some 6 :: some 7 :: some 8 :: some 9 :: some 10 :: some 11 :: some 12 :: some 13 :: some 14 :: some 15 :: none :: some 16 :: none :: some 17 :: none :: some 18 :: none :: []) ([] :: [0] :: [1] :: [] :: [3] :: [4] :: [] :: [6] :: [7] :: [] :: [9] :: [10] :: [] :: [2, 12] :: [] :: [5, 14] :: [] :: [8, 16] :: [] :: [11, 18] :: []) (false :: false :: false :: false :: false :: false :: false :: false :: false :: false :: false :: false :: false :: true :: false :: true :: false :: true :: false :: true :: []) (true :: true :: true :: true :: true :: true :: true :: true :: true :: true :: true :: true :: true :: true :: true :: true :: true :: true :: true :: true :: []) [] (MStP.is _ :: ⟨fun v w' => ∃ (C : Option Addr) (e : Nat), v = .slice C x0.length e ∧ LK (bs ++ [w.heap.size, w.heap.size + 1]) w' b0 x0 C e, true, fun v w' w'' hs h => by obtain ⟨C, e, a, b⟩ := h; exact ⟨C, e, a, b.below hs⟩, fun _ v w' w'' hs h => by obtain ⟨C, e, a, b⟩ := h; exact ⟨C, e, a, b.chg (cs := [w.heap.size]) hs⟩⟩ :: ⟨fun v w' => ∃ (C : Option Addr) (e : Nat), v = .slice C x0.length e ∧ LK (bs ++ [w.heap.size, w.heap.size + 1]) w' b0 x0 C e, true, fun v w' w'' hs h => by obtain ⟨C, e, a, b⟩ := h; exact ⟨C, e, a, b.below hs⟩, fun _ v w' w'' hs h => by obtain ⟨C, e, a, b⟩ := h; exact ⟨C, e, a, b.chg (cs := [w.heap.size]) hs⟩⟩ :: MStP.is _ :: ⟨fun v w' => ∃ (C : Option Addr) (e : Nat), v = .slice C x1.length e ∧ LK (bs ++ [w.heap.size, w.heap.size + 1]) w' b1 x1 C e, true, fun v w' w'' hs h => by obtain ⟨C, e, a, b⟩ := h; exact ⟨C, e, a, b.below hs⟩, fun _ v w' w'' hs h => by obtain ⟨C, e, a, b⟩ := h; exact ⟨C, e, a, b.chg (cs := [w.heap.size]) hs⟩⟩ :: ⟨fun v w' => ∃ (C : Option Addr) (e : Nat), v = .slice C x1.length e ∧ LK (bs ++ [w.heap.size, w.heap.size + 1]) w' b1 x1 C e, true, fun v w' w'' hs h => by obtain ⟨C, e, a, b⟩ := h; exact ⟨C, e, a, b.below hs⟩, fun _ v w' w'' hs h => by obtain ⟨C, e, a, b⟩ := h; exact ⟨C, e, a, b.chg (cs := [w.heap.size]) hs⟩⟩ :: MStP.is _ :: ⟨fun v w' => ∃ (C : Option Addr) (e : Nat), v = .slice C x2.length e ∧ LK (bs ++ [w.heap.size, w.heap.size + 1]) w' b2 x2 C e, true, fun v w' w'' hs h => by obtain ⟨C, e, a, b⟩ := h; exact ⟨C, e, a, b.below hs⟩, fun _ v w' w'' hs h => by obtain ⟨C, e, a, b⟩ := h; exact ⟨C, e, a, b.chg (cs := [w.heap.size]) hs⟩⟩ :: ⟨fun v w' => ∃ (C : Option Addr) (e : Nat), v = .slice C x2.length e ∧ LK (bs ++ [w.heap.size, w.heap.size + 1]) w' b2 x2 C e, true, fun v w' w'' hs h => by obtain ⟨C, e, a, b⟩ := h; exact ⟨C, e, a, b.below hs⟩, fun _ v w' w'' hs h => by obtain ⟨C, e, a, b⟩ := h; exact ⟨C, e, a, b.chg (cs := [w.heap.size]) hs⟩⟩ :: MStP.is _ :: ⟨fun v w' => ∃ (C : Option Addr) (e : Nat), v = .slice C x3.length e ∧ LK (bs ++ [w.heap.size, w.heap.size + 1]) w' b3 x3 C e, true, fun v w' w'' hs h => by obtain ⟨C, e, a, b⟩ := h; exact ⟨C, e, a, b.below hs⟩, fun _ v w' w'' hs h => by obtain ⟨C, e, a, b⟩ := h; exact ⟨C, e, a, b.chg (cs := [w.heap.size]) hs⟩⟩ :: ⟨fun v w' => ∃ (C : Option Addr) (e : Nat), v = .slice C x3.length e ∧ LK (bs ++ [w.heap.size, w.heap.size + 1]) w' b3 x3 C e, true, fun v w' w'' hs h => by obtain ⟨C, e, a, b⟩ := h; exact ⟨C, e, a, b.below hs⟩, fun _ v w' w'' hs h => by obtain ⟨C, e, a, b⟩ := h; exact ⟨C, e, a, b.chg (cs := [w.heap.size]) hs⟩⟩ :: MStP.is _ :: MStP.is _ :: MStP.is _ :: MStP.is _ :: MStP.is _ :: MStP.is _ :: MStP.is _ :: MStP.is _ :: []) (by kernel_rfl) (by kernel_rfl) (by kernel_rfl) (by kernel_rfl)
  case hobs =>
    refine ⟨fun y w' k hS hj hk hF K hK => ?_, ?_⟩
    · skip -- 0: fieldAddr
      simp only [fillL, cond_true, cond_false, List.getD_cons_zero, List.getD_cons_succ, StP.is, Act.put, List.setIfInBounds_toArray, List.set_cons_zero, List.set_cons_succ, Nat.reduceAdd, MStP.is, Option.isSome_some, Option.isSome_none] at hK ⊢
      simp only [List.sum_cons, List.sum_nil, List.getD_cons_zero, List.getD_cons_succ, Nat.reduceAdd, Nat.add_zero] at hk
      refine rg_yes (by kernel_rfl) ?_
      clear hF
      go_simp
      exact hK _ _ (Ext.refl _) hj rfl
    refine ⟨fun y w' k hS hj hk hF K hK => ?_, ?_⟩
    · skip -- 1: load
      have e3 : y 3 = _ := hF.1
      have e3' := Lib.hid e3
      simp only [fillL, cond_true, cond_false, List.getD_cons_zero, List.getD_cons_succ, StP.is, Act.put, List.setIfInBounds_toArray, List.set_cons_zero, List.set_cons_succ, Nat.reduceAdd, e3, MStP.is, Option.isSome_some, Option.isSome_none] at hK ⊢
      simp only [List.sum_cons, List.sum_nil, List.getD_cons_zero, List.getD_cons_succ, Nat.reduceAdd, Nat.add_zero] at hk
      refine rg_yes (by kernel_rfl) ?_
      clear e3
      clear hF
      have HJ := Lib.hid hj
      obtain ⟨C0, e0, C1, e1, C2, e2, C3, e3, hq, a0, a1, a2, a3⟩ := hj
      have u0_ := cell_of_row _ _ 0 _ _ (0, 0) hq
      have u1_ := cell_of_row _ _ 1 _ _ (0, 0) hq
      have u2_ := cell_of_row _ _ 2 _ _ (0, 0) hq
      have u3_ := cell_of_row _ _ 3 _ _ (0, 0) hq
      have u4_ := cell_of_row _ _ 4 _ _ (0, 0) hq
      have u5_ := cell_of_row _ _ 5 _ _ (0, 0) hq
      have lq := (Array.getElem?_eq_some_iff.1 hq).1
      have G0 := Lib.hid a0; have G1 := Lib.hid a1; have G2 := Lib.hid a2; have G3 := Lib.hid a3; clear a0 a1 a2 a3
      clear hq
      go_simp
      exact hK _ _ (Ext.refl _) HJ.out ⟨C0, e0, rfl, G0.out⟩
    refine ⟨fun y w' k hS hj hk hF K hK => ?_, ?_⟩
    · skip -- 2: call
      obtain ⟨Cx, ex, e4, hax⟩ := hF.1
      have e4' := Lib.hid e4
      simp only [fillL, cond_true, cond_false, List.getD_cons_zero, List.getD_cons_succ, StP.is, Act.put, List.setIfInBounds_toArray, List.set_cons_zero, List.set_cons_succ, Nat.reduceAdd, e4, MStP.is, Option.isSome_some, Option.isSome_none] at hK ⊢
      simp only [List.sum_cons, List.sum_nil, List.getD_cons_zero, List.getD_cons_succ, Nat.reduceAdd, Nat.add_zero] at hk
      refine rg_yes (by kernel_rfl) ?_
      clear e4
      clear hF
      have lq : w.heap.size < w'.heap.size := by obtain ⟨_, _, _, _, _, _, _, _, hq_, _⟩ := hj; exact (Array.getElem?_eq_some_iff.1 hq_).1
      have HJ := Lib.hid hj; have HA := Lib.hid hax; clear hj hax
      have hS9 : w1.heap.size ≤ w'.heap.size := Chg.size hS
      go_simp
      go_at_call 37
      refine (cloneK_any (bs ++ [w.heap.size, w.heap.size + 1]) b0 x0 Cx ex w' HA.out (by intro b hb_; rcases List.mem_append.1 hb_ with h_ | h_ <;> first | (have := HBS.out b h_; omega) | (simp at h_; omega)) (by omega)).mono ?_
      rintro e w'' ⟨A', c', rfl, hL, hb⟩
      exact hK _ _ hb (HJ.out.below hb) ⟨A', c', rfl, hL⟩
    refine ⟨fun y w' k hS hj hk hF K hK => ?_, ?_⟩
    · skip -- 3: fieldAddr
      simp only [fillL, cond_true, cond_false, List.getD_cons_zero, List.getD_cons_succ, StP.is, Act.put, List.setIfInBounds_toArray, List.set_cons_zero, List.set_cons_succ, Nat.reduceAdd, MStP.is, Option.isSome_some, Option.isSome_none] at hK ⊢
      simp only [List.sum_cons, List.sum_nil, List.getD_cons_zero, List.getD_cons_succ, Nat.reduceAdd, Nat.add_zero] at hk
      refine rg_yes (by kernel_rfl) ?_
      clear hF
      go_simp
      exact hK _ _ (Ext.refl _) hj rfl
    refine ⟨fun y w' k hS hj hk hF K hK => ?_, ?_⟩
    · skip -- 4: load
      have e6 : y 6 = _ := hF.1
      have e6' := Lib.hid e6
      simp only [fillL, cond_true, cond_false, List.getD_cons_zero, List.getD_cons_succ, StP.is, Act.put, List.setIfInBounds_toArray, List.set_cons_zero, List.set_cons_succ, Nat.reduceAdd, e6, MStP.is, Option.isSome_some, Option.isSome_none] at hK ⊢
      simp only [List.sum_cons, List.sum_nil, List.getD_cons_zero, List.getD_cons_succ, Nat.reduceAdd, Nat.add_zero] at hk
      refine rg_yes (by kernel_rfl) ?_
      clear e6
      clear hF
      have HJ := Lib.hid hj
      obtain ⟨C0, e0, C1, e1, C2, e2, C3, e3, hq, a0, a1, a2, a3⟩ := hj
      have u0_ := cell_of_row _ _ 0 _ _ (0, 0) hq
      have u1_ := cell_of_row _ _ 1 _ _ (0, 0) hq
      have u2_ := cell_of_row _ _ 2 _ _ (0, 0) hq
      have u3_ := cell_of_row _ _ 3 _ _ (0, 0) hq
      have u4_ := cell_of_row _ _ 4 _ _ (0, 0) hq
      have u5_ := cell_of_row _ _ 5 _ _ (0, 0) hq
      have lq := (Array.getElem?_eq_some_iff.1 hq).1
      have G0 := Lib.hid a0; have G1 := Lib.hid a1; have G2 := Lib.hid a2; have G3 := Lib.hid a3; clear a0 a1 a2 a3
      clear hq
      go_simp
      exact hK _ _ (Ext.refl _) HJ.out ⟨C1, e1, rfl, G1.out⟩
    refine ⟨fun y w' k hS hj hk hF K hK => ?_, ?_⟩
    · skip -- 5: call
      obtain ⟨Cx, ex, e7, hax⟩ := hF.1
      have e7' := Lib.hid e7
      simp only [fillL, cond_true, cond_false, List.getD_cons_zero, List.getD_cons_succ, StP.is, Act.put, List.setIfInBounds_toArray, List.set_cons_zero, List.set_cons_succ, Nat.reduceAdd, e7, MStP.is, Option.isSome_some, Option.isSome_none] at hK ⊢
      simp only [List.sum_cons, List.sum_nil, List.getD_cons_zero, List.getD_cons_succ, Nat.reduceAdd, Nat.add_zero] at hk
      refine rg_yes (by kernel_rfl) ?_
      clear e7
      clear hF
      have lq : w.heap.size < w'.heap.size := by obtain ⟨_, _, _, _, _, _, _, _, hq_, _⟩ := hj; exact (Array.getElem?_eq_some_iff.1 hq_).1
      have HJ := Lib.hid hj; have HA := Lib.hid hax; clear hj hax
      have hS9 : w1.heap.size ≤ w'.heap.size := Chg.size hS
      go_simp
      go_at_call 37
      refine (cloneK_any (bs ++ [w.heap.size, w.heap.size + 1]) b1 x1 Cx ex w' HA.out (by intro b hb_; rcases List.mem_append.1 hb_ with h_ | h_ <;> first | (have := HBS.out b h_; omega) | (simp at h_; omega)) (by omega)).mono ?_
      rintro e w'' ⟨A', c', rfl, hL, hb⟩
      exact hK _ _ hb (HJ.out.below hb) ⟨A', c', rfl, hL⟩
    refine ⟨fun y w' k hS hj hk hF K hK => ?_, ?_⟩
    · skip -- 6: fieldAddr
      simp only [fillL, cond_true, cond_false, List.getD_cons_zero, List.getD_cons_succ, StP.is, Act.put, List.setIfInBounds_toArray, List.set_cons_zero, List.set_cons_succ, Nat.reduceAdd, MStP.is, Option.isSome_some, Option.isSome_none] at hK ⊢
      simp only [List.sum_cons, List.sum_nil, List.getD_cons_zero, List.getD_cons_succ, Nat.reduceAdd, Nat.add_zero] at hk
      refine rg_yes (by kernel_rfl) ?_
      clear hF
      go_simp
      exact hK _ _ (Ext.refl _) hj rfl
    refine ⟨fun y w' k hS hj hk hF K hK => ?_, ?_⟩
    · skip -- 7: load
      have e9 : y 9 = _ := hF.1
      have e9' := Lib.hid e9
      simp only [fillL, cond_true, cond_false, List.getD_cons_zero, List.getD_cons_succ, StP.is, Act.put, List.setIfInBounds_toArray, List.set_cons_zero, List.set_cons_succ, Nat.reduceAdd, e9, MStP.is, Option.isSome_some, Option.isSome_none] at hK ⊢
      simp only [List.sum_cons, List.sum_nil, List.getD_cons_zero, List.getD_cons_succ, Nat.reduceAdd, Nat.add_zero] at hk
      refine rg_yes (by kernel_rfl) ?_
      clear e9
      clear hF
      have HJ := Lib.hid hj
      obtain ⟨C0, e0, C1, e1, C2, e2, C3, e3, hq, a0, a1, a2, a3⟩ := hj
      have u0_ := cell_of_row _ _ 0 _ _ (0, 0) hq
      have u1_ := cell_of_row _ _ 1 _ _ (0, 0) hq
      have u2_ := cell_of_row _ _ 2 _ _ (0, 0) hq
      have u3_ := cell_of_row _ _ 3 _ _ (0, 0) hq
      have u4_ := cell_of_row _ _ 4 _ _ (0, 0) hq
      have u5_ := cell_of_row _ _ 5 _ _ (0, 0) hq
      have lq := (Array.getElem?_eq_some_iff.1 hq).1
      have G0 := Lib.hid a0; have G1 := Lib.hid a1; have G2 := Lib.hid a2; have G3 := Lib.hid a3; clear a0 a1 a2 a3
      clear hq
      go_simp
      exact hK _ _ (Ext.refl _) HJ.out ⟨C2, e2, rfl, G2.out⟩
    refine ⟨fun y w' k hS hj hk hF K hK => ?_, ?_⟩
    · skip -- 8: call
      obtain ⟨Cx, ex, e10, hax⟩ := hF.1
      have e10' := Lib.hid e10
      simp only [fillL, cond_true, cond_false, List.getD_cons_zero, List.getD_cons_succ, StP.is, Act.put, List.setIfInBounds_toArray, List.set_cons_zero, List.set_cons_succ, Nat.reduceAdd, e10, MStP.is, Option.isSome_some, Option.isSome_none] at hK ⊢
      simp only [List.sum_cons, List.sum_nil, List.getD_cons_zero, List.getD_cons_succ, Nat.reduceAdd, Nat.add_zero] at hk
      refine rg_yes (by kernel_rfl) ?_
      clear e10
      clear hF
      have lq : w.heap.size < w'.heap.size := by obtain ⟨_, _, _, _, _, _, _, _, hq_, _⟩ := hj; exact (Array.getElem?_eq_some_iff.1 hq_).1
      have HJ := Lib.hid hj; have HA := Lib.hid hax; clear hj hax
      have hS9 : w1.heap.size ≤ w'.heap.size := Chg.size hS
      go_simp
      go_at_call 37
      refine (cloneK_any (bs ++ [w.heap.size, w.heap.size + 1]) b2 x2 Cx ex w' HA.out (by intro b hb_; rcases List.mem_append.1 hb_ with h_ | h_ <;> first | (have := HBS.out b h_; omega) | (simp at h_; omega)) (by omega)).mono ?_
      rintro e w'' ⟨A', c', rfl, hL, hb⟩
      exact hK _ _ hb (HJ.out.below hb) ⟨A', c', rfl, hL⟩
    refine ⟨fun y w' k hS hj hk hF K hK => ?_, ?_⟩
    · skip -- 9: fieldAddr
      simp only [fillL, cond_true, cond_false, List.getD_cons_zero, List.getD_cons_succ, StP.is, Act.put, List.setIfInBounds_toArray, List.set_cons_zero, List.set_cons_succ, Nat.reduceAdd, MStP.is, Option.isSome_some, Option.isSome_none] at hK ⊢
      simp only [List.sum_cons, List.sum_nil, List.getD_cons_zero, List.getD_cons_succ, Nat.reduceAdd, Nat.add_zero] at hk
      refine rg_yes (by kernel_rfl) ?_
      clear hF
      go_simp
      exact hK _ _ (Ext.refl _) hj rfl
    refine ⟨fun y w' k hS hj hk hF K hK => ?_, ?_⟩
    · skip -- 10: load
      have e12 : y 12 = _ := hF.1
      have e12' := Lib.hid e12
      simp only [fillL, cond_true, cond_false, List.getD_cons_zero, List.getD_cons_succ, StP.is, Act.put, List.setIfInBounds_toArray, List.set_cons_zero, List.set_cons_succ, Nat.reduceAdd, e12, MStP.is, Option.isSome_some, Option.isSome_none] at hK ⊢
      simp only [List.sum_cons, List.sum_nil, List.getD_cons_zero, List.getD_cons_succ, Nat.reduceAdd, Nat.add_zero] at hk
      refine rg_yes (by kernel_rfl) ?_
      clear e12
      clear hF
      have HJ := Lib.hid hj
      obtain ⟨C0, e0, C1, e1, C2, e2, C3, e3, hq, a0, a1, a2, a3⟩ := hj
      have u0_ := cell_of_row _ _ 0 _ _ (0, 0) hq
      have u1_ := cell_of_row _ _ 1 _ _ (0, 0) hq
      have u2_ := cell_of_row _ _ 2 _ _ (0, 0) hq
      have u3_ := cell_of_row _ _ 3 _ _ (0, 0) hq
      have u4_ := cell_of_row _ _ 4 _ _ (0, 0) hq
      have u5_ := cell_of_row _ _ 5 _ _ (0, 0) hq
      have lq := (Array.getElem?_eq_some_iff.1 hq).1
      have G0 := Lib.hid a0; have G1 := Lib.hid a1; have G2 := Lib.hid a2; have G3 := Lib.hid a3; clear a0 a1 a2 a3
      clear hq
      go_simp
      exact hK _ _ (Ext.refl _) HJ.out ⟨C3, e3, rfl, G3.out⟩
    refine ⟨fun y w' k hS hj hk hF K hK => ?_, ?_⟩
    · skip -- 11: call
      obtain ⟨Cx, ex, e13, hax⟩ := hF.1
      have e13' := Lib.hid e13
      simp only [fillL, cond_true, cond_false, List.getD_cons_zero, List.getD_cons_succ, StP.is, Act.put, List.setIfInBounds_toArray, List.set_cons_zero, List.set_cons_succ, Nat.reduceAdd, e13, MStP.is, Option.isSome_some, Option.isSome_none] at hK ⊢
      simp only [List.sum_cons, List.sum_nil, List.getD_cons_zero, List.getD_cons_succ, Nat.reduceAdd, Nat.add_zero] at hk
      refine rg_yes (by kernel_rfl) ?_
      clear e13
      clear hF
      have lq : w.heap.size < w'.heap.size := by obtain ⟨_, _, _, _, _, _, _, _, hq_, _⟩ := hj; exact (Array.getElem?_eq_some_iff.1 hq_).1
      have HJ := Lib.hid hj; have HA := Lib.hid hax; clear hj hax
      have hS9 : w1.heap.size ≤ w'.heap.size := Chg.size hS
      go_simp
      go_at_call 37
      refine (cloneK_any (bs ++ [w.heap.size, w.heap.size + 1]) b3 x3 Cx ex w' HA.out (by intro b hb_; rcases List.mem_append.1 hb_ with h_ | h_ <;> first | (have := HBS.out b h_; omega) | (simp at h_; omega)) (by omega)).mono ?_
      rintro e w'' ⟨A', c', rfl, hL, hb⟩
      exact hK _ _ hb (HJ.out.below hb) ⟨A', c', rfl, hL⟩
    refine ⟨fun y w' k hS hj hk hF K hK => ?_, ?_⟩
    · skip -- 12: fieldAddr
      simp only [fillL, cond_true, cond_false, List.getD_cons_zero, List.getD_cons_succ, StP.is, Act.put, List.setIfInBounds_toArray, List.set_cons_zero, List.set_cons_succ, Nat.reduceAdd, MStP.is, Option.isSome_some, Option.isSome_none] at hK ⊢
      simp only [List.sum_cons, List.sum_nil, List.getD_cons_zero, List.getD_cons_succ, Nat.reduceAdd, Nat.add_zero] at hk
      refine rg_yes (by kernel_rfl) ?_
      clear hF
      go_simp
      exact hK _ _ (Ext.refl _) hj rfl
    refine ⟨fun y w' k hS hj hk hF K hK => ?_, ?_⟩
    · skip -- 13: store
      obtain ⟨Cx, ex, e5, hax⟩ := hF.1
      have e15 : y 15 = _ := hF.2.1
      have e5' := Lib.hid e5
      have e15' := Lib.hid e15
      simp only [fillL, cond_true, cond_false, List.getD_cons_zero, List.getD_cons_succ, StP.is, Act.put, List.setIfInBounds_toArray, List.set_cons_zero, List.set_cons_succ, Nat.reduceAdd, e5, e15, MStP.is, Option.isSome_some, Option.isSome_none] at hK ⊢
      simp only [List.sum_cons, List.sum_nil, List.getD_cons_zero, List.getD_cons_succ, Nat.reduceAdd, Nat.add_zero] at hk
      refine rg_yes (by kernel_rfl) ?_
      clear e5 e15
      clear hF
      obtain ⟨C0, e0, C1, e1, C2, e2, C3, e3, hq, a0, a1, a2, a3⟩ := hj
      have u0_ := cell_of_row _ _ 0 _ _ (0, 0) hq
      have u1_ := cell_of_row _ _ 1 _ _ (0, 0) hq
      have u2_ := cell_of_row _ _ 2 _ _ (0, 0) hq
      have u3_ := cell_of_row _ _ 3 _ _ (0, 0) hq
      have u4_ := cell_of_row _ _ 4 _ _ (0, 0) hq
      have u5_ := cell_of_row _ _ 5 _ _ (0, 0) hq
      have z0_ := block_free hq 0
      have z1_ := block_free hq 1
      have z2_ := block_free hq 2
      have z3_ := block_free hq 3
      have z4_ := block_free hq 4
      have z5_ := block_free hq 5
      have lq := (Array.getElem?_eq_some_iff.1 hq).1
      have G0 := Lib.hid a0; have G1 := Lib.hid a1; have G2 := Lib.hid a2; have G3 := Lib.hid a3; clear a0 a1 a2 a3
      have HQ := Lib.hid hq; have HA := Lib.hid hax; clear hq hax
      go_simp
      exact hK undef _ (Chg.setCell (p := ⟨w.heap.size, 2, none⟩) (Chg.refl _ _) (.inl (by simp)) _) ⟨Cx, ex, C1, e1, C2, e2, C3, e3, block_set (o := 2) HQ.out, HA.out.chg (cs := [w.heap.size]) (Chg.setCell (p := ⟨w.heap.size, 2, none⟩) (Chg.refl _ _) (.inl (by simp)) _), G1.out.chg (cs := [w.heap.size]) (Chg.setCell (p := ⟨w.heap.size, 2, none⟩) (Chg.refl _ _) (.inl (by simp)) _), G2.out.chg (cs := [w.heap.size]) (Chg.setCell (p := ⟨w.heap.size, 2, none⟩) (Chg.refl _ _) (.inl (by simp)) _), G3.out.chg (cs := [w.heap.size]) (Chg.setCell (p := ⟨w.heap.size, 2, none⟩) (Chg.refl _ _) (.inl (by simp)) _)⟩ rfl
    refine ⟨fun y w' k hS hj hk hF K hK => ?_, ?_⟩
    · skip -- 14: fieldAddr
      simp only [fillL, cond_true, cond_false, List.getD_cons_zero, List.getD_cons_succ, StP.is, Act.put, List.setIfInBounds_toArray, List.set_cons_zero, List.set_cons_succ, Nat.reduceAdd, MStP.is, Option.isSome_some, Option.isSome_none] at hK ⊢
      simp only [List.sum_cons, List.sum_nil, List.getD_cons_zero, List.getD_cons_succ, Nat.reduceAdd, Nat.add_zero] at hk
      refine rg_yes (by kernel_rfl) ?_
      clear hF
      go_simp
      exact hK _ _ (Ext.refl _) hj rfl
    refine ⟨fun y w' k hS hj hk hF K hK => ?_, ?_⟩
    · skip -- 15: store
      obtain ⟨Cx, ex, e8, hax⟩ := hF.1
      have e16 : y 16 = _ := hF.2.1
      have e8' := Lib.hid e8
      have e16' := Lib.hid e16
      simp only [fillL, cond_true, cond_false, List.getD_cons_zero, List.getD_cons_succ, StP.is, Act.put, List.setIfInBounds_toArray, List.set_cons_zero, List.set_cons_succ, Nat.reduceAdd, e8, e16, MStP.is, Option.isSome_some, Option.isSome_none] at hK ⊢
      simp only [List.sum_cons, List.sum_nil, List.getD_cons_zero, List.getD_cons_succ, Nat.reduceAdd, Nat.add_zero] at hk
      refine rg_yes (by kernel_rfl) ?_
      clear e8 e16
      clear hF
      obtain ⟨C0, e0, C1, e1, C2, e2, C3, e3, hq, a0, a1, a2, a3⟩ := hj
      have u0_ := cell_of_row _ _ 0 _ _ (0, 0) hq
      have u1_ := cell_of_row _ _ 1 _ _ (0, 0) hq
      have u2_ := cell_of_row _ _ 2 _ _ (0, 0) hq
      have u3_ := cell_of_row _ _ 3 _ _ (0, 0) hq
      have u4_ := cell_of_row _ _ 4 _ _ (0, 0) hq
      have u5_ := cell_of_row _ _ 5 _ _ (0, 0) hq
      have z0_ := block_free hq 0
      have z1_ := block_free hq 1
      have z2_ := block_free hq 2
      have z3_ := block_free hq 3
      have z4_ := block_free hq 4
      have z5_ := block_free hq 5
      have lq := (Array.getElem?_eq_some_iff.1 hq).1
      have G0 := Lib.hid a0; have G1 := Lib.hid a1; have G2 := Lib.hid a2; have G3 := Lib.hid a3; clear a0 a1 a2 a3
      have HQ := Lib.hid hq; have HA := Lib.hid hax; clear hq hax
      go_simp
      exact hK undef _ (Chg.setCell (p := ⟨w.heap.size, 3, none⟩) (Chg.refl _ _) (.inl (by simp)) _) ⟨C0, e0, Cx, ex, C2, e2, C3, e3, block_set (o := 3) HQ.out, G0.out.chg (cs := [w.heap.size]) (Chg.setCell (p := ⟨w.heap.size, 3, none⟩) (Chg.refl _ _) (.inl (by simp)) _), HA.out.chg (cs := [w.heap.size]) (Chg.setCell (p := ⟨w.heap.size, 3, none⟩) (Chg.refl _ _) (.inl (by simp)) _), G2.out.chg (cs := [w.heap.size]) (Chg.setCell (p := ⟨w.heap.size, 3, none⟩) (Chg.refl _ _) (.inl (by simp)) _), G3.out.chg (cs := [w.heap.size]) (Chg.setCell (p := ⟨w.heap.size, 3, none⟩) (Chg.refl _ _) (.inl (by simp)) _)⟩ rfl
    refine ⟨fun y w' k hS hj hk hF K hK => ?_, ?_⟩
    · skip -- 16: fieldAddr
      simp only [fillL, cond_true, cond_false, List.getD_cons_zero, List.getD_cons_succ, StP.is, Act.put, List.setIfInBounds_toArray, List.set_cons_zero, List.set_cons_succ, Nat.reduceAdd, MStP.is, Option.isSome_some, Option.isSome_none] at hK ⊢
      simp only [List.sum_cons, List.sum_nil, List.getD_cons_zero, List.getD_cons_succ, Nat.reduceAdd, Nat.add_zero] at hk
      refine rg_yes (by kernel_rfl) ?_
      clear hF
      go_simp
      exact hK _ _ (Ext.refl _) hj rfl
    refine ⟨fun y w' k hS hj hk hF K hK => ?_, ?_⟩
    · skip -- 17: store
      obtain ⟨Cx, ex, e11, hax⟩ := hF.1
      have e17 : y 17 = _ := hF.2.1
      have e11' := Lib.hid e11
      have e17' := Lib.hid e17
      simp only [fillL, cond_true, cond_false, List.getD_cons_zero, List.getD_cons_succ, StP.is, Act.put, List.setIfInBounds_toArray, List.set_cons_zero, List.set_cons_succ, Nat.reduceAdd, e11, e17, MStP.is, Option.isSome_some, Option.isSome_none] at hK ⊢
      simp only [List.sum_cons, List.sum_nil, List.getD_cons_zero, List.getD_cons_succ, Nat.reduceAdd, Nat.add_zero] at hk
      refine rg_yes (by kernel_rfl) ?_
      clear e11 e17
      clear hF
      obtain ⟨C0, e0, C1, e1, C2, e2, C3, e3, hq, a0, a1, a2, a3⟩ := hj
      have u0_ := cell_of_row _ _ 0 _ _ (0, 0) hq
      have u1_ := cell_of_row _ _ 1 _ _ (0, 0) hq
      have u2_ := cell_of_row _ _ 2 _ _ (0, 0) hq
      have u3_ := cell_of_row _ _ 3 _ _ (0, 0) hq
      have u4_ := cell_of_row _ _ 4 _ _ (0, 0) hq
      have u5_ := cell_of_row _ _ 5 _ _ (0, 0) hq
      have z0_ := block_free hq 0
      have z1_ := block_free hq 1
      have z2_ := block_free hq 2
      have z3_ := block_free hq 3
      have z4_ := block_free hq 4
      have z5_ := block_free hq 5
      have lq := (Array.getElem?_eq_some_iff.1 hq).1
      have G0 := Lib.hid a0; have G1 := Lib.hid a1; have G2 := Lib.hid a2; have G3 := Lib.hid a3; clear a0 a1 a2 a3
      have HQ := Lib.hid hq; have HA := Lib.hid hax; clear hq hax
      go_simp
      exact hK undef _ (Chg.setCell (p := ⟨w.heap.size, 4, none⟩) (Chg.refl _ _) (.inl (by simp)) _) ⟨C0, e0, C1, e1, Cx, ex, C3, e3, block_set (o := 4) HQ.out, G0.out.chg (cs := [w.heap.size]) (Chg.setCell (p := ⟨w.heap.size, 4, none⟩) (Chg.refl _ _) (.inl (by simp)) _), G1.out.chg (cs := [w.heap.size]) (Chg.setCell (p := ⟨w.heap.size, 4, none⟩) (Chg.refl _ _) (.inl (by simp)) _), HA.out.chg (cs := [w.heap.size]) (Chg.setCell (p := ⟨w.heap.size, 4, none⟩) (Chg.refl _ _) (.inl (by simp)) _), G3.out.chg (cs := [w.heap.size]) (Chg.setCell (p := ⟨w.heap.size, 4, none⟩) (Chg.refl _ _) (.inl (by simp)) _)⟩ rfl
    refine ⟨fun y w' k hS hj hk hF K hK => ?_, ?_⟩
    · skip -- 18: fieldAddr
      simp only [fillL, cond_true, cond_false, List.getD_cons_zero, List.getD_cons_succ, StP.is, Act.put, List.setIfInBounds_toArray, List.set_cons_zero, List.set_cons_succ, Nat.reduceAdd, MStP.is, Option.isSome_some, Option.isSome_none] at hK ⊢
      simp only [List.sum_cons, List.sum_nil, List.getD_cons_zero, List.getD_cons_succ, Nat.reduceAdd, Nat.add_zero] at hk
      refine rg_yes (by kernel_rfl) ?_
      clear hF
      go_simp
      exact hK _ _ (Ext.refl _) hj rfl
    refine ⟨fun y w' k hS hj hk hF K hK => ?_, ?_⟩
    · skip -- 19: store
      obtain ⟨Cx, ex, e14, hax⟩ := hF.1
      have e18 : y 18 = _ := hF.2.1
      have e14' := Lib.hid e14
      have e18' := Lib.hid e18
      simp only [fillL, cond_true, cond_false, List.getD_cons_zero, List.getD_cons_succ, StP.is, Act.put, List.setIfInBounds_toArray, List.set_cons_zero, List.set_cons_succ, Nat.reduceAdd, e14, e18, MStP.is, Option.isSome_some, Option.isSome_none] at hK ⊢
      simp only [List.sum_cons, List.sum_nil, List.getD_cons_zero, List.getD_cons_succ, Nat.reduceAdd, Nat.add_zero] at hk
      refine rg_yes (by kernel_rfl) ?_
      clear e14 e18
      clear hF
      obtain ⟨C0, e0, C1, e1, C2, e2, C3, e3, hq, a0, a1, a2, a3⟩ := hj
      have u0_ := cell_of_row _ _ 0 _ _ (0, 0) hq
      have u1_ := cell_of_row _ _ 1 _ _ (0, 0) hq
      have u2_ := cell_of_row _ _ 2 _ _ (0, 0) hq
      have u3_ := cell_of_row _ _ 3 _ _ (0, 0) hq
      have u4_ := cell_of_row _ _ 4 _ _ (0, 0) hq
      have u5_ := cell_of_row _ _ 5 _ _ (0, 0) hq
      have z0_ := block_free hq 0
      have z1_ := block_free hq 1
      have z2_ := block_free hq 2
      have z3_ := block_free hq 3
      have z4_ := block_free hq 4
      have z5_ := block_free hq 5
      have lq := (Array.getElem?_eq_some_iff.1 hq).1
      have G0 := Lib.hid a0; have G1 := Lib.hid a1; have G2 := Lib.hid a2; have G3 := Lib.hid a3; clear a0 a1 a2 a3
      have HQ := Lib.hid hq; have HA := Lib.hid hax; clear hq hax
      go_simp
      exact hK undef _ (Chg.setCell (p := ⟨w.heap.size, 5, none⟩) (Chg.refl _ _) (.inl (by simp)) _) ⟨C0, e0, C1, e1, C2, e2, Cx, ex, block_set (o := 5) HQ.out, G0.out.chg (cs := [w.heap.size]) (Chg.setCell (p := ⟨w.heap.size, 5, none⟩) (Chg.refl _ _) (.inl (by simp)) _), G1.out.chg (cs := [w.heap.size]) (Chg.setCell (p := ⟨w.heap.size, 5, none⟩) (Chg.refl _ _) (.inl (by simp)) _), G2.out.chg (cs := [w.heap.size]) (Chg.setCell (p := ⟨w.heap.size, 5, none⟩) (Chg.refl _ _) (.inl (by simp)) _), HA.out.chg (cs := [w.heap.size]) (Chg.setCell (p := ⟨w.heap.size, 5, none⟩) (Chg.refl _ _) (.inl (by simp)) _)⟩ rfl
    trivial
  case hH => rfl
  case hNS => exact fun _ _ h => Chg.of_below h _
  case hSt => exact fun a b => Chg.trans a b
  case hb => rfl
  case hdrew => exact (Chg.refl _ _).drewN 1
  case hj0 => exact fun y => BX1.out.below (below_drewN (Below.refl _ _) 1)
  case hend =>
    intro y w9 hS hJ hF
    obtain ⟨C0, e0, C1, e1, C2, e2, C3, e3, hq, a0, a1, a2, a3⟩ := hJ
    have hB9 : Below w.heap.size w w9 := HB1.out.trans (hS.below (B := w.heap.size) (fun k _ hk => by simp at hk; omega) HB1.out.size)
    have RS9 := (hS.block (w.heap.size + 1) (Array.getElem?_eq_some_iff.1 RS1.out).1 (by simp)).trans RS1.out
    simp only [fillL, cond_true, cond_false, Nat.reduceAdd]
    clear hF hS BX1 RS1
    obtain ⟨wF, hwF⟩ : ∃ W, W = (World.setCell (World.setCell (World.setCell (World.setCell (World.setCell (World.setCell w9 ⟨w.heap.size + 1, 0, none⟩ (.int .i64 ro)) ⟨w.heap.size + 1, 1, none⟩ (.int .i64 go)) ⟨w.heap.size + 1, 2, none⟩ (.slice C0 x0.length e0)) ⟨w.heap.size + 1, 3, none⟩ (.slice C1 x1.length e1)) ⟨w.heap.size + 1, 4, none⟩ (.slice C2 x2.length e2)) ⟨w.heap.size + 1, 5, none⟩ (.slice C3 x3.length e3)) := ⟨_, rfl⟩
    have RSF : wF.heap[w.heap.size + 1]? = some (.cells #[.int .i64 ro, .int .i64 go, .slice C0 x0.length e0, .slice C1 x1.length e1, .slice C2 x2.length e2, .slice C3 x3.length e3] 26 (0, 0)) := by rw [hwF]; exact (block_set (o := 5) (v := .slice C3 x3.length e3) (block_set (o := 4) (v := .slice C2 x2.length e2) (block_set (o := 3) (v := .slice C1 x1.length e1) (block_set (o := 2) (v := .slice C0 x0.length e0) (block_set (o := 1) (v := .int .i64 go) (block_set (o := 0) (v := .int .i64 ro) RS9))))))
    have CF : Chg (· ∈ [w.heap.size + 1]) w9 wF := by rw [hwF]; exact (Chg.setCell (p := ⟨w.heap.size + 1, 5, none⟩) (Chg.setCell (p := ⟨w.heap.size + 1, 4, none⟩) (Chg.setCell (p := ⟨w.heap.size + 1, 3, none⟩) (Chg.setCell (p := ⟨w.heap.size + 1, 2, none⟩) (Chg.setCell (p := ⟨w.heap.size + 1, 1, none⟩) (Chg.setCell (p := ⟨w.heap.size + 1, 0, none⟩) (Chg.refl _ _) (.inl (by simp)) _) (.inl (by simp)) _) (.inl (by simp)) _) (.inl (by simp)) _) (.inl (by simp)) _) (.inl (by simp)) _)
    have hBF : Below w.heap.size w wF := by rw [hwF]; exact (Below.setCell (p := ⟨w.heap.size + 1, 5, none⟩) (Below.setCell (p := ⟨w.heap.size + 1, 4, none⟩) (Below.setCell (p := ⟨w.heap.size + 1, 3, none⟩) (Below.setCell (p := ⟨w.heap.size + 1, 2, none⟩) (Below.setCell (p := ⟨w.heap.size + 1, 1, none⟩) (Below.setCell (p := ⟨w.heap.size + 1, 0, none⟩) hB9 (Nat.le_succ _) _) (Nat.le_succ _) _) (Nat.le_succ _) _) (Nat.le_succ _) _) (Nat.le_succ _) _) (Nat.le_succ _) _)
    have HP : Hid (ClonedK bs ro go b0 b1 b2 b3 x0 x1 x2 x3 w (.returned (.agg #[.int .i64 ro, .int .i64 go, .slice C0 x0.length e0, .slice C1 x1.length e1, .slice C2 x2.length e2, .slice C3 x3.length e3])) wF) := Lib.hid ⟨_, _, _, _, _, _, _, _, rfl, (a0.chg CF).sub, (a1.chg CF).sub, (a2.chg CF).sub, (a3.chg CF).sub, hBF⟩
    have u0 := cell_of_row _ _ 0 _ _ (0, 0) hq; have v0 := cell_of_row _ _ 0 _ _ (0, 0) RS9; have z0 := block_free RS9 0; have r0 := cell_of_row _ _ 0 _ _ (0, 0) RSF
    have u1 := cell_of_row _ _ 1 _ _ (0, 0) hq; have v1 := cell_of_row _ _ 1 _ _ (0, 0) RS9; have z1 := block_free RS9 1; have r1 := cell_of_row _ _ 1 _ _ (0, 0) RSF
    have u2 := cell_of_row _ _ 2 _ _ (0, 0) hq; have v2 := cell_of_row _ _ 2 _ _ (0, 0) RS9; have z2 := block_free RS9 2; have r2 := cell_of_row _ _ 2 _ _ (0, 0) RSF
    have u3 := cell_of_row _ _ 3 _ _ (0, 0) hq; have v3 := cell_of_row _ _ 3 _ _ (0, 0) RS9; have z3 := block_free RS9 3; have r3 := cell_of_row _ _ 3 _ _ (0, 0) RSF
    have u4 := cell_of_row _ _ 4 _ _ (0, 0) hq; have v4 := cell_of_row _ _ 4 _ _ (0, 0) RS9; have z4 := block_free RS9 4; have r4 := cell_of_row _ _ 4 _ _ (0, 0) RSF
    have u5 := cell_of_row _ _ 5 _ _ (0, 0) hq; have v5 := cell_of_row _ _ 5 _ _ (0, 0) RS9; have z5 := block_free RS9 5; have r5 := cell_of_row _ _ 5 _ _ (0, 0) RSF
    have lq := (Array.getElem?_eq_some_iff.1 hq).1; have lr := (Array.getElem?_eq_some_iff.1 RS9).1
    have HWF := Lib.hid hwF
    clear hwF RSF CF hBF hq RS9 a0 a1 a2 a3
    go_wp2_with fail
    rw [← HWF.out]
    exact bodyPost_ret (v := .agg #[.int .i64 ro, .int .i64 go, .slice C0 x0.length e0, .slice C1 x1.length e1, .slice C2 x2.length e2, .slice C3 x3.length e3]) (by simp [results, Try.results22, go_sem, r0, r1, r2, r3, r4, r5]) rfl HP.out
end Go.Proofs.Ytfokpjoeankobaa
