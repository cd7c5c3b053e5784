/- FnIntentList: the walk; DrawIntentList; pfIntents at equal lists. Condition: the tables that strconv's functions read lie as their initialisers lay them. -/
import Derived.Test.YtggdjiklgakfnaaGreatDoorDrawLogs
import Derived.Test.YtggdjiklgakfnaaGreatDoorIntList
namespace Go.Proofs.YtggdjiklgakfnaaGreatDoor
set_option linter.unnecessarySimpa false
open Go Go.Lib Go.RowKit
set_option linter.unusedVariables false
set_option linter.unusedSimpArgs false

def DrawnL (w : World) (e : Ending) (w' : World) : Prop := ∃ (g c3 : Nat) (x : RaidD) (t : Int), e = .returned (.tuple #[.agg #[.slice (some ⟨g, 0, none⟩) 3 c3], .int .i64 t]) ∧ RaidR w' w.heap.size w'.heap.size [.slice (some ⟨g, 0, none⟩) 3 c3] x ∧ Below w.heap.size w w'
def raidM {L M : List Nat} (B : Nat) (hL : ∀ b ∈ L, b < B) (hM : ∀ b ∈ M, b < B) : MStP (Chg (· ∈ L)) (Chg (· ∈ M)) := ⟨fun v w => ∃ g c3 x hi, v = .agg #[.slice (some ⟨g, 0, none⟩) 3 c3] ∧ hi ≤ w.heap.size ∧ RaidR w B hi [.slice (some ⟨g, 0, none⟩) 3 c3] x, true,
  fun v w w' hs ⟨g, c3, x, hi, e, h1, h2⟩ => ⟨g, c3, x, hi, e, Nat.le_trans h1 hs.size, RaidR.keep (fun b b1 b2 => hs.block b (by omega) (fun hm => by have := hM b hm; omega)) hs.size _ _ h2⟩,
  fun _ v w w' hs ⟨g, c3, x, hi, e, h1, h2⟩ => ⟨g, c3, x, hi, e, Nat.le_trans h1 hs.size, RaidR.keep (fun b b1 b2 => hs.block b (by omega) (fun hm => by have := hL b hm; omega)) hs.size _ _ h2⟩⟩
def lit6M {L M : List Nat} (B : Nat) (hL : ∀ b ∈ L, b < B) (hM : ∀ b ∈ M, b < B) : MStP (Chg (· ∈ L)) (Chg (· ∈ M)) := ⟨fun v w => ∃ b, v = .slice (some ⟨b, 0, none⟩) 6 6 ∧ B ≤ b ∧ w.heap[b]? = some (.cells #[.int .i64 1, .int .i64 1, .int .i64 1, .int .i64 2, .int .i64 3, .int .i64 6] 3 (0, 0)), true,
  fun v w w' hs ⟨b, e, h1, h2⟩ => ⟨b, e, h1, (hs.block b (Array.getElem?_eq_some_iff.1 h2).1 (fun hm => by have := hM b hm; omega)).trans h2⟩,
  fun _ v w w' hs ⟨b, e, h1, h2⟩ => ⟨b, e, h1, (hs.block b (Array.getElem?_eq_some_iff.1 h2).1 (fun hm => by have := hL b hm; omega)).trans h2⟩⟩
def atM {L M : List Nat} (B : Nat) (hL : ∀ b ∈ L, b < B) (hM : ∀ b ∈ M, b < B) : MStP (Chg (· ∈ L)) (Chg (· ∈ M)) := ⟨fun v w => ∃ b r z, v = .pointer (some ⟨b, r, none⟩) ∧ B ≤ b ∧ b < w.heap.size ∧ w.cell? ⟨b, r, none⟩ = some (.int .i64 z), true,
  fun v w w' hs ⟨b, r, z, e, h1, h2, h3⟩ => ⟨b, r, z, e, h1, Nat.lt_of_lt_of_le h2 hs.size, (World.cell?_of_block (hs.block b h2 (fun hm => by have := hM b hm; omega))).trans h3⟩,
  fun _ v w w' hs ⟨b, r, z, e, h1, h2, h3⟩ => ⟨b, r, z, e, h1, Nat.lt_of_lt_of_le h2 hs.size, (World.cell?_of_block (hs.block b h2 (fun hm => by have := hL b hm; omega))).trans h3⟩⟩
theorem lit6 {w : World} {b q : Nat} {v0 v1 v2 v3 v4 v5 : Int} (h : w.heap[b]? = some (.cells #[.int .i64 v0, .int .i64 v1, .int .i64 v2, .int .i64 v3, .int .i64 v4, .int .i64 v5] 3 (0, 0))) (hq : q < 6) : ∃ v : Int, w.cell? ⟨b, q, none⟩ = some (.int .i64 v) := by
  match q, hq with
  | 0, _ => exact ⟨v0, cell_of_row _ _ 0 _ _ (0, 0) h⟩
  | 1, _ => exact ⟨v1, cell_of_row _ _ 1 _ _ (0, 0) h⟩
  | 2, _ => exact ⟨v2, cell_of_row _ _ 2 _ _ (0, 0) h⟩
  | 3, _ => exact ⟨v3, cell_of_row _ _ 3 _ _ (0, 0) h⟩
  | 4, _ => exact ⟨v4, cell_of_row _ _ 4 _ _ (0, 0) h⟩
  | 5, _ => exact ⟨v5, cell_of_row _ _ 5 _ _ (0, 0) h⟩
theorem flat_at : ∀ (ys : List IntS) {j o : Nat} {y : IntS} {v : Value}, ys[j]? = some y → (ivL y)[o]? = some v → o < 8 → (ys.flatMap ivL)[j * 8 + o]? = some v
  | [], j, o, y, v, h, _, _ => by simp at h
  | x :: ys, 0, o, y, v, h, hv, ho => by
    obtain rfl : x = y := by simpa using h
    rw [List.flatMap_cons, Nat.zero_mul, Nat.zero_add, List.getElem?_append_left (by simpa [ivL] using ho)]
    exact hv
  | x :: ys, j + 1, o, y, v, h, hv, ho => by
    rw [List.flatMap_cons, List.getElem?_append_right (by simp [ivL]; omega)]
    have e : (j + 1) * 8 + o - (ivL x).length = j * 8 + o := by simp [ivL]; omega
    rw [e]
    exact flat_at ys (by simpa using h) hv ho
/-- The cells of one of the intents. -/
theorem IntsIn.at_ {B : Nat} {A : Option Addr} {c j : Nat} {S : List Nat} {ys : List IntS} {w : World} (h : IntsIn B A c S ys w) {y : IntS} (hy : ys[j]? = some y) : ∃ g, A = some ⟨g, 0, none⟩ ∧ g < w.heap.size ∧ ∀ o v, (ivL y)[o]? = some v → w.cell? ⟨g, j * 8 + o, none⟩ = some v := by
  have hj := (List.getElem?_eq_some_iff.1 hy).1
  have hO := h.1
  rcases h.1.1 with ⟨_, h0, _⟩ | ⟨g, cur, rfl, rfl, hl, hnc, hcm, hg, hcs, hcc⟩
  · omega
  · have hgl := (Array.getElem?_eq_some_iff.1 hg).1
    refine ⟨g, rfl, hgl, fun o v hv => ?_⟩
    have ho : o < 8 := by have := (List.getElem?_eq_some_iff.1 hv).1; simpa [ivL] using this
    rw [cell_of_row _ _ _ _ _ (0, 0) hg, hcc (j * 8 + o) (by omega)]
    exact flat_at ys hy hv ho
set_option maxRecDepth 100000 in
set_option maxHeartbeats 4000000 in
theorem drawIntentList_any (A : Option Addr) (n c : Nat) (zs : List Int) (w : World) (h : BytesIn w A n c zs) : Calls Tryz.prog 5 #[.slice A n c] w (DrawnL w) := by
  go_enter Tryz.func5, Tryz.ntmps5
  go_wp2_with fail
  refine (l6Open_any A n c zs _ ?_).mono ?_
  · exact BytesIn.deepI h ((Below.refl _ _).alloc (Nat.le_refl _) _)
  rintro e w1 ⟨m', c', ys', rfl, hr, hb1⟩
  have s1 := hb1.size
  have hp1 := hr.2.2.2.1
  have res1 : w1.heap[w.heap.size]? = some (.cells #[.slice none 0 0] 25 (0, 0)) := (hb1.block _ (by simp)).trans (heap_alloc_new _ _)
  simp at s1 hr hp1
  have hb2 : Below w.heap.size w w1 := ((Below.refl _ _).alloc (Nat.le_refl _) _).trans (hb1.mono (by simp))
  have HB2 := Lib.hid hb2; have HRES := Lib.hid res1; have rd1 := Lib.hid hr
  have hL : ∀ b ∈ [w.heap.size + 1, w.heap.size], b < w1.heap.size := by intro b hb; simp at hb; omega
  have hM : ∀ b ∈ [w.heap.size + 1], b < w1.heap.size := by intro b hb; simp at hb; omega
  clear hb1 hb2 res1 hr
  go_wp2_with fail
  apply wp_region_rgz (Chg (· ∈ [w.heap.size + 1, w.heap.size])) (Chg (· ∈ [w.heap.size + 1])) (fun y w' k' => (k' < 100000 → ∃ kq, kq ≤ k' ∧ Rd w' (w.heap.size + 1) A m' c' ys' kq) ∧ Below w.heap.size w w' ∧ w1.heap.size ≤ w'.heap.size ∧ (k' < 100000 → w'.heap[w.heap.size]? = some (.cells #[.slice none 0 0] 25 (0, 0))) ∧ (100000 ≤ k' → ∃ g c3 x hi, w'.heap[w.heap.size]? = some (.cells #[.slice (some ⟨g, 0, none⟩) 3 c3] 25 (0, 0)) ∧ hi ≤ w'.heap.size ∧ RaidR w' w1.heap.size hi [.slice (some ⟨g, 0, none⟩) 3 c3] x)) [0, 7000, 0, 0, 1, 0, 0, 100000, 0] [0, 100000, 0, 0, 100000, 0, 0, 100000, 0] (by kernel_rfl) (false :: false :: false :: true :: false :: false :: false :: true :: true :: true :: true :: true :: true :: true :: []) [some 7, some 8, some 9, some 10, some 11, some 12, some 13, none, some 3] [[], [0], [], [], [3], [2, 4], [5], [1], [6]] [false, false, false, false, false, false, false, true, false] [true, true, true, true, true, true, true, true, true] [8] [MStP.is _, raidM w1.heap.size hL hM, lit6M w1.heap.size hL hM, MStP.is _, ⟨fun v _ => ∃ r : Nat, v = .int .i64 (r : Int) ∧ r < 6, true, fun _ _ _ _ h => h, fun _ _ _ _ _ h => h⟩, atM w1.heap.size hL hM, ⟨fun v _ => ∃ z : Int, v = .int .i64 z, true, fun _ _ _ _ h => h, fun _ _ _ _ _ h => h⟩, MStP.is _, ⟨fun v _ => ∃ z : Int, v = .int .i64 z, true, fun _ _ _ _ h => h, fun _ _ _ _ _ h => h⟩] (by kernel_rfl) (by kernel_rfl) (by kernel_rfl) (by kernel_rfl)
  case hobs =>
    refine ⟨fun y w' k hS hj hk hF K hK => ?_, ?_⟩
    · skip -- 0: move
      simp only [fillL, cond_true, cond_false, List.getD_cons_zero, List.getD_cons_succ, StP.is, Act.put, List.setIfInBounds_toArray, List.set_cons_zero, List.set_cons_succ, Nat.reduceAdd, MStP.is, Option.isSome_some, Option.isSome_none] at hK ⊢
      simp only [List.sum_cons, List.sum_nil, List.getD_cons_zero, List.getD_cons_succ, Nat.reduceAdd, Nat.add_zero] at hk
      refine rg_yes (by kernel_rfl) ?_
      clear hF
      go_simp
      exact hK _ _ (Chg.refl _ _) ⟨fun h => hj.1 (by omega), hj.2.1, hj.2.2.1, fun h => hj.2.2.2.1 (by omega), fun h => hj.2.2.2.2 (by omega)⟩ rfl
    refine ⟨fun y w' k hS hj hk hF K hK => ?_, ?_⟩
    · skip -- 1: call
      have e7 : y 7 = _ := hF.1
      have e7' := Lib.hid e7
      simp only [fillL, cond_true, cond_false, List.getD_cons_zero, List.getD_cons_succ, StP.is, Act.put, List.setIfInBounds_toArray, List.set_cons_zero, List.set_cons_succ, Nat.reduceAdd, e7, MStP.is, Option.isSome_some, Option.isSome_none] at hK ⊢
      simp only [List.sum_cons, List.sum_nil, List.getD_cons_zero, List.getD_cons_succ, Nat.reduceAdd, Nat.add_zero] at hk
      refine rg_yes (by kernel_rfl) ?_
      clear e7
      clear hF
      obtain ⟨hrd0, hb0, hz0, hr0, -⟩ := hj
      obtain ⟨k1, hk1, hrd⟩ := hrd0 (by omega)
      have HB1 := Lib.hid hb0; have HR0 := Lib.hid hr0; clear hb0 hr0
      go_simp
      go_at_call 18
      refine (l93Logs_any w' (w.heap.size + 1) A m' c' ys' k1 hrd (by omega)).mono ?_
      rintro e w'' ⟨g, c3, x, k2, rfl, hx, hk2, rd1', hc1⟩
      have hxx := RaidR.wide hz0 (Nat.le_refl _) (Nat.le_refl _) _ _ hx
      exact hK _ _ hc1 ⟨fun h => ⟨_, by omega, rd1'⟩, HB1.out.trans (hc1.below (B := w.heap.size) (fun k _ hk => by simp at hk; omega) HB1.out.size), Nat.le_trans hz0 hc1.size, fun h => (hc1.block _ (Array.getElem?_eq_some_iff.1 (HR0.out (by omega))).1 (by simp)).trans (HR0.out (by omega)), fun h => absurd h (by omega)⟩ ⟨g, c3, x, _, rfl, Nat.le_refl _, hxx⟩
    refine ⟨fun y w' k hS hj hk hF K hK => ?_, ?_⟩
    · skip -- 2: buildSlice
      simp only [fillL, cond_true, cond_false, List.getD_cons_zero, List.getD_cons_succ, StP.is, Act.put, List.setIfInBounds_toArray, List.set_cons_zero, List.set_cons_succ, Nat.reduceAdd, MStP.is, Option.isSome_some, Option.isSome_none] at hK ⊢
      simp only [List.sum_cons, List.sum_nil, List.getD_cons_zero, List.getD_cons_succ, Nat.reduceAdd, Nat.add_zero] at hk
      refine rg_yes (by kernel_rfl) ?_
      clear hF
      obtain ⟨hrd0, hb0, hz0, hr0, hr1⟩ := hj
      have HB1 := Lib.hid hb0; have HR0 := Lib.hid hr0; have HR1 := Lib.hid hr1; have HD0 := Lib.hid hrd0; clear hb0 hr0 hr1 hrd0
      go_simp
      refine hK _ _ ((Chg.refl _ _).alloc _) ⟨fun h => ?_, HB1.out.alloc HB1.out.size _, by simp; omega, fun h => (Below.heap_alloc _ _ _ (Array.getElem?_eq_some_iff.1 (HR0.out (by omega))).1).trans (HR0.out (by omega)), fun h => ?_⟩ ⟨w'.heap.size, rfl, hz0, heap_alloc_new _ _⟩
      · obtain ⟨k1, hk1, hrd⟩ := HD0.out (by omega)
        exact ⟨k1, by omega, hrd.below bel1⟩
      · obtain ⟨g, c3, x, hi, h1, h2, h3⟩ := HR1.out (by omega)
        exact ⟨g, c3, x, hi, (Below.heap_alloc _ _ _ (Array.getElem?_eq_some_iff.1 h1).1).trans h1, by simp; omega, RaidR.below bel1 h2 _ _ h3⟩
    refine ⟨fun y w' k hS hj hk hF K hK => ?_, ?_⟩
    · skip -- 3: move
      simp only [fillL, cond_true, cond_false, List.getD_cons_zero, List.getD_cons_succ, StP.is, Act.put, List.setIfInBounds_toArray, List.set_cons_zero, List.set_cons_succ, Nat.reduceAdd, MStP.is, Option.isSome_some, Option.isSome_none] at hK ⊢
      simp only [List.sum_cons, List.sum_nil, List.getD_cons_zero, List.getD_cons_succ, Nat.reduceAdd, Nat.add_zero] at hk
      refine rg_yes (by kernel_rfl) ?_
      clear hF
      go_simp
      exact hK _ _ (Chg.refl _ _) ⟨fun h => hj.1 (by omega), hj.2.1, hj.2.2.1, fun h => hj.2.2.2.1 (by omega), fun h => hj.2.2.2.2 (by omega)⟩ rfl
    refine ⟨fun y w' k hS hj hk hF K hK => ?_, ?_⟩
    · skip -- 4: call
      have e10 : y 10 = _ := hF.1
      have e10' := Lib.hid e10
      simp only [fillL, cond_true, cond_false, List.getD_cons_zero, List.getD_cons_succ, StP.is, Act.put, List.setIfInBounds_toArray, List.set_cons_zero, List.set_cons_succ, Nat.reduceAdd, e10, MStP.is, Option.isSome_some, Option.isSome_none] at hK ⊢
      simp only [List.sum_cons, List.sum_nil, List.getD_cons_zero, List.getD_cons_succ, Nat.reduceAdd, Nat.add_zero] at hk
      refine rg_yes (by kernel_rfl) ?_
      clear e10
      clear hF
      obtain ⟨hrd0, hb0, hz0, hr0, -⟩ := hj
      obtain ⟨k1, hk1, hrd⟩ := hrd0 (by omega)
      have HB1 := Lib.hid hb0; have HR0 := Lib.hid hr0; clear hb0 hr0
      go_simp
      go_at_call 19
      refine (pick_any w' (w.heap.size + 1) A m' c' ys' k1 6 hrd (by omega) (by omega) (by omega)).mono ?_
      rintro e w'' ⟨r, rfl, hr1, rd1', hc1, hz1⟩
      exact hK _ _ hc1 ⟨fun h => ⟨_, by omega, rd1'⟩, HB1.out.trans (hc1.below (B := w.heap.size) (fun k _ hk => by simp at hk; omega) HB1.out.size), Nat.le_trans hz0 hc1.size, fun h => (hc1.block _ (Array.getElem?_eq_some_iff.1 (HR0.out (by omega))).1 (by simp)).trans (HR0.out (by omega)), fun h => absurd h (by omega)⟩ ⟨r, rfl, by have := hr1 (by omega); omega⟩
    refine ⟨fun y w' k hS hj hk hF K hK => ?_, ?_⟩
    · skip -- 5: indexAddr
      obtain ⟨bb, e9, hb1, hbb⟩ := hF.1
      obtain ⟨r, e11, hr3⟩ := hF.2.1
      have r30 : (0 : Int) ≤ (r : Int) := by omega
      have r31 : (r : Int) < 6 := by omega
      have e9' := Lib.hid e9
      have e11' := Lib.hid e11
      simp only [fillL, cond_true, cond_false, List.getD_cons_zero, List.getD_cons_succ, StP.is, Act.put, List.setIfInBounds_toArray, List.set_cons_zero, List.set_cons_succ, Nat.reduceAdd, e9, e11, MStP.is, Option.isSome_some, Option.isSome_none] at hK ⊢
      simp only [List.sum_cons, List.sum_nil, List.getD_cons_zero, List.getD_cons_succ, Nat.reduceAdd, Nat.add_zero] at hk
      refine rg_yes (by kernel_rfl) ?_
      clear e9 e11
      clear hF
      have HJ := Lib.hid hj; clear hj
      obtain ⟨z, hz⟩ := lit6 hbb hr3
      have lbb := (Array.getElem?_eq_some_iff.1 hbb).1
      go_simp
      have hj := HJ.out
      exact hK _ _ (Chg.refl _ _) ⟨fun h => hj.1 (by omega), hj.2.1, hj.2.2.1, fun h => hj.2.2.2.1 (by omega), fun h => hj.2.2.2.2 (by omega)⟩ ⟨bb, r, z, by simp, hb1, lbb, hz⟩
    refine ⟨fun y w' k hS hj hk hF K hK => ?_, ?_⟩
    · skip -- 6: load
      obtain ⟨ba, ra, za, e12, hba, lba, hza⟩ := hF.1
      have e12' := Lib.hid e12
      simp only [fillL, cond_true, cond_false, List.getD_cons_zero, List.getD_cons_succ, StP.is, Act.put, List.setIfInBounds_toArray, List.set_cons_zero, List.set_cons_succ, Nat.reduceAdd, e12, MStP.is, Option.isSome_some, Option.isSome_none] at hK ⊢
      simp only [List.sum_cons, List.sum_nil, List.getD_cons_zero, List.getD_cons_succ, Nat.reduceAdd, Nat.add_zero] at hk
      refine rg_yes (by kernel_rfl) ?_
      clear e12
      clear hF
      have HJ := Lib.hid hj; clear hj
      go_simp
      have hj := HJ.out
      exact hK _ _ (Chg.refl _ _) ⟨fun h => hj.1 (by omega), hj.2.1, hj.2.2.1, fun h => hj.2.2.2.1 (by omega), fun h => hj.2.2.2.2 (by omega)⟩ ⟨_, rfl⟩
    refine ⟨fun y w' k hS hj hk hF K hK => ?_, ?_⟩
    · skip -- 7: store
      obtain ⟨g, c3, x, hi, e8, hhi, hxr⟩ := hF.1
      have e8' := Lib.hid e8
      simp only [fillL, cond_true, cond_false, List.getD_cons_zero, List.getD_cons_succ, StP.is, Act.put, List.setIfInBounds_toArray, List.set_cons_zero, List.set_cons_succ, Nat.reduceAdd, e8, MStP.is, Option.isSome_some, Option.isSome_none] at hK ⊢
      simp only [List.sum_cons, List.sum_nil, List.getD_cons_zero, List.getD_cons_succ, Nat.reduceAdd, Nat.add_zero] at hk
      refine rg_yes (by kernel_rfl) ?_
      clear e8
      clear hF
      obtain ⟨-, hb0, hz0, hr0, -⟩ := hj
      have hq := hr0 (by omega)
      have s0 := cell_of_row _ _ 0 _ _ (0, 0) hq
      have f0 := block_free hq 0
      have lq := (Array.getElem?_eq_some_iff.1 hq).1
      have HQ := Lib.hid hq; have HB1 := Lib.hid hb0; have HX := Lib.hid hxr; clear hb0 hr0 hq hxr
      go_simp
      refine hK undef _ ((Chg.refl _ _).setCell (p := ⟨w.heap.size, 0, none⟩) (.inl (by simp)) _) ⟨fun h => absurd h (by omega), Below.setCell (p := ⟨w.heap.size, 0, none⟩) HB1.out (Nat.le_refl _) _, by simp [World.setCell]; omega, fun h => absurd h (by omega), fun _ => ⟨g, c3, x, hi, block_set (o := 0) HQ.out, by simp [World.setCell]; omega, ?_⟩⟩ rfl
      exact RaidR.keep (Same.setCell (p := ⟨w.heap.size, 0, none⟩) (Same.refl _ _ _) (.inl (by show w.heap.size < _; omega)) _) (by simp [World.setCell]) _ _ HX.out
    refine ⟨fun y w' k hS hj hk hF K hK => ?_, ?_⟩
    · skip -- 8: assign
      obtain ⟨zz, e13⟩ := hF.1
      have e13' := Lib.hid e13
      simp only [fillL, cond_true, cond_false, List.getD_cons_zero, List.getD_cons_succ, StP.is, Act.put, List.setIfInBounds_toArray, List.set_cons_zero, List.set_cons_succ, Nat.reduceAdd, e13, MStP.is, Option.isSome_some, Option.isSome_none] at hK ⊢
      simp only [List.sum_cons, List.sum_nil, List.getD_cons_zero, List.getD_cons_succ, Nat.reduceAdd, Nat.add_zero] at hk
      refine rg_yes (by kernel_rfl) ?_
      clear e13
      clear hF
      exact hK _ _ (Chg.refl _ _) ⟨fun h => hj.1 (by omega), hj.2.1, hj.2.2.1, fun h => hj.2.2.2.1 (by omega), fun h => hj.2.2.2.2 (by omega)⟩ ⟨_, rfl⟩
    trivial
  case hH => rfl
  case hNS => exact fun _ _ h => h.mono (fun b _ hb => by simp at hb ⊢; exact .inl hb)
  case hSt => exact fun a b => Chg.trans a b
  case hb => rfl
  case hdrew => exact (Chg.refl _ _).drewN 1
  case hj0 => exact fun y => ⟨fun _ => ⟨0, Nat.zero_le _, rd1.out.below (below_drewN (Below.refl _ _) 1)⟩, below_drewN HB2.out 1, Nat.le_refl _, fun _ => HRES.out, fun h => absurd h (by omega)⟩
  case hend =>
    intro y_ w9 hS hJ hF
    obtain ⟨z3_, e3⟩ := hF.1
    obtain ⟨-, hb, hz, -, hr1⟩ := hJ
    obtain ⟨g, c3, x, hi, hq, hhi, hx⟩ := hr1 (by decide)
    have t0 := cell_of_row _ _ 0 _ _ (0, 0) hq
    have HB9 := Lib.hid hb; have HX9 := Lib.hid hx
    clear hF hS hb hx hr1 hq
    simp only [fillL, cond_true, cond_false, Nat.reduceAdd, e3]
    clear e3
    go_wp2_with fail
    refine bodyPost_ret (v := .tuple #[.agg #[.slice (some ⟨g, 0, none⟩) 3 c3], .int .i64 z3_]) (by simp [results, Tryz.results5, go_sem, t0]) rfl ⟨g, c3, x, z3_, rfl, ?_, HB9.out⟩
    exact RaidR.wide (by omega) hhi (Nat.le_refl _) _ _ HX9.out
set_option maxRecDepth 100000 in
set_option maxHeartbeats 2000000 in
theorem pfIntents_yes (A B : Option Addr) (n c m d : Nat) (xs : List IntentD) (w : World) (lo hi lo' hi' : Nat) (h : SliceR IntentR 8 w lo hi A n c xs) (h' : SliceR IntentR 8 w lo' hi' B m d xs) :
    Calls Tryz.prog 8 #[.slice A n c, .slice B m d] w fun e w' => e = .returned (.bool true) ∧ Below w.heap.size w w' := by
  obtain rfl : m = n := by have := h.len; have := h'.len; omega
  have hn := h.max
  have hl := Lib.hid h.len
  have H := Lib.hid h; have H' := Lib.hid h'; clear h h'
  go_enter Tryz.func8, Tryz.ntmps8
  go_wp2_with fail
  go_loopw [5] (fun i wr => ∃ k : Nat, k ≤ m ∧ i = .int .i64 k ∧ Below w.heap.size w wr) (fun i _ => m - (RowKit.intOf i).toNat)
  case atStart => exact ⟨0, Nat.zero_le _, rfl, Below.refl _ _⟩
  case round =>
    obtain ⟨k, hk, rfl, hB⟩ := hrel
    by_cases hlt : k < m
    · obtain ⟨x, hx⟩ : ∃ x, xs[k]? = some x := ⟨xs[k]'(by rw [hl.out]; exact hlt), List.getElem?_eq_getElem _⟩
      obtain ⟨b0, o0, rfl, _, _, bl, hc⟩ := (SliceR.below H.out hB (fun _ _ h => h)).at_ (by omega)
      obtain ⟨b1, o1, rfl, _, _, bl', hc'⟩ := (SliceR.below H'.out hB (fun _ _ h => h)).at_ (by omega)
      obtain ⟨cs, hcl, hcc, hr⟩ := hc k x hx; obtain ⟨cs', hcl', hcc', hr'⟩ := hc' k x hx
      obtain ⟨t, s, h, ⟨kd, p_, o, a, x⟩⟩ := x
      obtain ⟨rfl, -, -, -, -⟩ := hr; obtain ⟨rfl, -, -, -, -⟩ := hr'
      have q0 := hcc 0 _ rfl; have r0 := hcc' 0 _ rfl; have q1 := hcc 1 _ rfl; have r1 := hcc' 1 _ rfl; have q2 := hcc 2 _ rfl; have r2 := hcc' 2 _ rfl; have q3 := hcc 3 _ rfl; have r3 := hcc' 3 _ rfl; have q4 := hcc 4 _ rfl; have r4 := hcc' 4 _ rfl; have q5 := hcc 5 _ rfl; have r5 := hcc' 5 _ rfl; have q6 := hcc 6 _ rfl; have r6 := hcc' 6 _ rfl; have q7 := hcc 7 _ rfl; have r7 := hcc' 7 _ rfl
      simp only [Nat.add_zero] at q0 r0
      clear hcc hcc' hcl hcl' hc hc' hx
      have hself : ∀ s : ByteArray, (s.toList == s.toList) = true := fun s => by simp
      have k0 : (0 : Int) ≤ (k : Int) := by omega
      have k1 : (k : Int) < (m : Int) := by omega
      go_wp2_with fail
      apply wp_region_rg (by kernel_rfl) (false :: false :: false :: false :: false :: false :: false :: false :: false :: false :: false :: false :: false :: false :: false :: false :: false :: true :: true :: true :: true :: true :: true :: true :: true :: true :: []) [some 17, some 18, some 19, some 20, some 21, some 22, some 23, some 24, some 25] [[], [], [0, 1], [2], [], [], [4, 5], [6], [3, 7]] [StP.is _, StP.is _, StP.is _, StP.is _, StP.is _, StP.is _, StP.is _, StP.is _, StP.is _] (by kernel_rfl)
      case hobs =>
        refine ⟨fun y w' hS hF K hK => ?_, ?_⟩
        · skip -- 0: move
          simp only [fillL, cond_true, cond_false, List.getD_cons_zero, List.getD_cons_succ, StP.is, Act.put, List.setIfInBounds_toArray, List.set_cons_zero, List.set_cons_succ, Nat.reduceAdd] at hK ⊢
          refine rg_yes (by kernel_rfl) ?_
          clear hF
          go_simp
          exact hK _ _ (Ext.refl _) rfl
        refine ⟨fun y w' hS hF K hK => ?_, ?_⟩
        · skip -- 1: move
          simp only [fillL, cond_true, cond_false, List.getD_cons_zero, List.getD_cons_succ, StP.is, Act.put, List.setIfInBounds_toArray, List.set_cons_zero, List.set_cons_succ, Nat.reduceAdd] at hK ⊢
          refine rg_yes (by kernel_rfl) ?_
          clear hF
          go_simp
          exact hK _ _ (Ext.refl _) rfl
        refine ⟨fun y w' hS hF K hK => ?_, ?_⟩
        · skip -- 2: indexAddr
          have e17 : y 17 = _ := hF.1
          have e18 : y 18 = _ := hF.2.1
          simp only [fillL, cond_true, cond_false, List.getD_cons_zero, List.getD_cons_succ, StP.is, Act.put, List.setIfInBounds_toArray, List.set_cons_zero, List.set_cons_succ, Nat.reduceAdd, e17, e18] at hK ⊢
          refine rg_yes (by kernel_rfl) ?_
          clear e17 e18
          clear hF
          go_simp
          exact hK _ _ (Ext.refl _) rfl
        refine ⟨fun y w' hS hF K hK => ?_, ?_⟩
        · skip -- 3: load
          have e19 : y 19 = _ := hF.1
          simp only [fillL, cond_true, cond_false, List.getD_cons_zero, List.getD_cons_succ, StP.is, Act.put, List.setIfInBounds_toArray, List.set_cons_zero, List.set_cons_succ, Nat.reduceAdd, e19] at hK ⊢
          refine rg_yes (by kernel_rfl) ?_
          have qx0_ := (Below.cell hS bl).trans q0
          have qx1_ := (Below.cell hS bl).trans q1
          have qx2_ := (Below.cell hS bl).trans q2
          have qx3_ := (Below.cell hS bl).trans q3
          have qx4_ := (Below.cell hS bl).trans q4
          have qx5_ := (Below.cell hS bl).trans q5
          have qx6_ := (Below.cell hS bl).trans q6
          have qx7_ := (Below.cell hS bl).trans q7
          have qx8_ := (Below.cell hS bl').trans r0
          have qx9_ := (Below.cell hS bl').trans r1
          have qx10_ := (Below.cell hS bl').trans r2
          have qx11_ := (Below.cell hS bl').trans r3
          have qx12_ := (Below.cell hS bl').trans r4
          have qx13_ := (Below.cell hS bl').trans r5
          have qx14_ := (Below.cell hS bl').trans r6
          have qx15_ := (Below.cell hS bl').trans r7
          clear e19
          clear hF
          go_simp
          exact hK _ _ (Ext.refl _) rfl
        refine ⟨fun y w' hS hF K hK => ?_, ?_⟩
        · skip -- 4: move
          simp only [fillL, cond_true, cond_false, List.getD_cons_zero, List.getD_cons_succ, StP.is, Act.put, List.setIfInBounds_toArray, List.set_cons_zero, List.set_cons_succ, Nat.reduceAdd] at hK ⊢
          refine rg_yes (by kernel_rfl) ?_
          clear hF
          go_simp
          exact hK _ _ (Ext.refl _) rfl
        refine ⟨fun y w' hS hF K hK => ?_, ?_⟩
        · skip -- 5: move
          simp only [fillL, cond_true, cond_false, List.getD_cons_zero, List.getD_cons_succ, StP.is, Act.put, List.setIfInBounds_toArray, List.set_cons_zero, List.set_cons_succ, Nat.reduceAdd] at hK ⊢
          refine rg_yes (by kernel_rfl) ?_
          clear hF
          go_simp
          exact hK _ _ (Ext.refl _) rfl
        refine ⟨fun y w' hS hF K hK => ?_, ?_⟩
        · skip -- 6: indexAddr
          have e21 : y 21 = _ := hF.1
          have e22 : y 22 = _ := hF.2.1
          simp only [fillL, cond_true, cond_false, List.getD_cons_zero, List.getD_cons_succ, StP.is, Act.put, List.setIfInBounds_toArray, List.set_cons_zero, List.set_cons_succ, Nat.reduceAdd, e21, e22] at hK ⊢
          refine rg_yes (by kernel_rfl) ?_
          clear e21 e22
          clear hF
          go_simp
          exact hK _ _ (Ext.refl _) rfl
        refine ⟨fun y w' hS hF K hK => ?_, ?_⟩
        · skip -- 7: load
          have e23 : y 23 = _ := hF.1
          simp only [fillL, cond_true, cond_false, List.getD_cons_zero, List.getD_cons_succ, StP.is, Act.put, List.setIfInBounds_toArray, List.set_cons_zero, List.set_cons_succ, Nat.reduceAdd, e23] at hK ⊢
          refine rg_yes (by kernel_rfl) ?_
          have qx0_ := (Below.cell hS bl).trans q0
          have qx1_ := (Below.cell hS bl).trans q1
          have qx2_ := (Below.cell hS bl).trans q2
          have qx3_ := (Below.cell hS bl).trans q3
          have qx4_ := (Below.cell hS bl).trans q4
          have qx5_ := (Below.cell hS bl).trans q5
          have qx6_ := (Below.cell hS bl).trans q6
          have qx7_ := (Below.cell hS bl).trans q7
          have qx8_ := (Below.cell hS bl').trans r0
          have qx9_ := (Below.cell hS bl').trans r1
          have qx10_ := (Below.cell hS bl').trans r2
          have qx11_ := (Below.cell hS bl').trans r3
          have qx12_ := (Below.cell hS bl').trans r4
          have qx13_ := (Below.cell hS bl').trans r5
          have qx14_ := (Below.cell hS bl').trans r6
          have qx15_ := (Below.cell hS bl').trans r7
          clear e23
          clear hF
          go_simp
          exact hK _ _ (Ext.refl _) rfl
        refine ⟨fun y w' hS hF K hK => ?_, ?_⟩
        · skip -- 8: binOp
          have e20 : y 20 = _ := hF.1
          have e24 : y 24 = _ := hF.2.1
          simp only [fillL, cond_true, cond_false, List.getD_cons_zero, List.getD_cons_succ, StP.is, Act.put, List.setIfInBounds_toArray, List.set_cons_zero, List.set_cons_succ, Nat.reduceAdd, e20, e24] at hK ⊢
          refine rg_yes (by kernel_rfl) ?_
          clear e20 e24
          clear hF
          go_simp
          exact hK _ _ (Ext.refl _) rfl
        trivial
      case hend =>
        intro z_ w3 hX hF
        have e25 : z_ 25 = _ := hF.2.2.2.2.2.2.2.2.1
        clear hF
        simp only [fillL, cond_true, cond_false, Nat.reduceAdd, e25]
        clear e25
        have HB3 : Hid (Below w.heap.size w w3) := Lib.hid (hB.trans (Below.mono hX hB.size))
        clear hX
        go_wp2_with fail
        go_roundw
        case rel => exact ⟨k + 1, by omega, by go_num, HB3.out⟩
        case measure => simp [RowKit.intOf]; omega
    · obtain rfl : k = m := by omega
      go_wp2_with fail
      go_ret
      exact ⟨rfl, hB⟩
set_option maxRecDepth 100000 in
set_option maxHeartbeats 8000000 in
theorem fnIntentList_walk (A : Option Addr) (n c : Nat) (zs : List Int) (w : World) (he : Env w) (h : BytesIn w A n c zs) :
    Calls Tryz.prog 3 #[.slice A n c] w fun e w' => e = .returned (.bool true) ∧ Below w.heap.size w w' := by
  go_enter Tryz.func3, Tryz.ntmps3
  by_cases hb : 1048576 < n
  · have h0 : (1048576 : Int) < (n : Int) := by omega
    go_wp2_with fail
    go_ret
    exact ⟨rfl, Below.refl _ _⟩
  have h0 : ¬ (1048576 : Int) < (n : Int) := by omega
  have h1 : (n : Int) ≤ 1048576 := by omega
  go_wp2_with fail
  refine (drawIntentList_any A n c zs _ h).mono ?_
  rintro e w1 ⟨g, c3, x, txg, rfl, hx, hb1⟩
  have HX := Lib.hid hx; have HB1 := Lib.hid hb1
  clear hx hb1
  go_wp2_with fail
  refine (intentList_any _ x txg _ w.heap.size w1.heap.size (he.below (Below.alloc HB1.out HB1.out.size _)) (RaidR.below bel1 (Nat.le_refl _) _ _ HX.out)).mono ?_
  rintro e w2 ⟨A1, c1, S1, ys, rfl, hRA, hRT, hb2⟩
  have c0 : w2.cell? ⟨w1.heap.size, 0, none⟩ = some (.slice (some ⟨g, 0, none⟩) 3 c3) := (hb2.cell (by simp)).trans (by simp [go_sem])
  have l1 : w1.heap.size < w2.heap.size := World.block_lt_of_cell? _ _ c0
  have HX2 := Lib.hid (RaidR.below (bel1.trans (hb2.mono (by simp))) (Nat.le_refl _) _ _ HX.out)
  have HB2 := Lib.hid ((Below.alloc HB1.out HB1.out.size _).trans (hb2.mono (by have := HB1.out.size; simp; omega)))
  have HRA := Lib.hid hRA; have HRT := Lib.hid hRT
  clear hb2 HX HB1 hRA hRT
  go_wp2_with fail
  refine (spIntentList_any _ x txg _ w.heap.size w1.heap.size HX2.out).mono ?_
  rintro e w3 ⟨A2, c2, S2, ys', rfl, hRA', hRT', hb3⟩
  obtain rfl := HRA.out.one hRA'
  have HRT3 := Lib.hid (HRT.out.below hb3)
  have HB3 := Lib.hid (HB2.out.trans (hb3.mono HB2.out.size))
  clear hb3 HX2 HRT HB2 c0 l1 hRA'
  go_wp2_with fail
  refine (pfIntents_yes A1 A2 ys.length c1 ys.length c2 (ys.map toD) _ _ _ _ _ HRT3.out.slice.1 hRT'.slice.1).mono ?_
  rintro e w4 ⟨rfl, hb4⟩
  have HRT4 := Lib.hid (HRT3.out.below hb4)
  have HB4 := Lib.hid (HB3.out.trans (hb4.mono HB3.out.size))
  clear hb4 HRT3 HB3 hRT'
  by_cases hy0 : ys.length = 0
  · have d0 : ¬ (0 : Int) < (ys.length : Int) := by omega
    have d1 : ¬ 0 < ys.length := by omega
    go_wp2_with fail
    go_ret
    exact ⟨rfl, HB4.out⟩
  have d0 : (0 : Int) < (ys.length : Int) := by omega
  have hy4 := HRA.out.len
  have hlo : w.heap.size ≤ w4.heap.size := HB4.out.size
  have d2 : 0 < ys.length := by omega
  go_wp2_with fail
  go_loopw [8] (fun i wr => ∃ k : Nat, k ≤ ys.length ∧ i = .int .i64 (k : Int) ∧ Hid (Below w4.heap.size w4 wr)) (fun i _ => ys.length - (RowKit.intOf i).toNat)
  case atStart => exact ⟨0, Nat.zero_le _, rfl, Lib.hid (Below.refl _ _)⟩
  case round =>
    obtain ⟨k, hk, rfl, HB⟩ := hrel
    have HBW := Lib.hid (HB4.out.trans (HB.out.mono hlo))
    by_cases hlt : k < ys.length
    · obtain ⟨y, hy⟩ : ∃ y, ys[k]? = some y := ⟨ys[k], List.getElem?_eq_getElem hlt⟩
      obtain ⟨hok, e0, e1⟩ := HRA.out.at_ hy
      obtain ⟨g1, hg1, lg1, hcv⟩ := (HRT4.out.below HB.out).at_ hy
      subst hg1
      obtain ⟨t, s, h, ⟨kd, p_, o, a, x⟩⟩ := y
      obtain rfl : t = txg := e0
      obtain rfl : s = ((k + 1 : Nat) : Int) := e1
      obtain ⟨-, -, h3, h4⟩ := intB_parts hok
      obtain ⟨-, -, h5, h6, -, h7⟩ := opB_parts h4
      have h3 := (namB_iff.1 h3).1.2
      have HOK := Lib.hid hok
      have lh : h.length ≤ 3000000000 := Nat.le_trans h3 (by decide)
      have lp : p_.length ≤ 3000000000 := Nat.le_trans h5 (by decide)
      have lo_ : o.length ≤ 3000000000 := Nat.le_trans h6 (by decide)
      have lx : x.length ≤ 3000000000 := Nat.le_trans h7 (by decide)
      have LH := Lib.hid lh; have LP := Lib.hid lp; have LO := Lib.hid lo_; have LX := Lib.hid lx
      clear lh lp lo_ lx h3 h4 h5 h6 h7 hok hy
      have v0 := hcv 0 _ rfl; have v1 := hcv 1 _ rfl; have v2 := hcv 2 _ rfl; have v3 := hcv 3 _ rfl; have v4 := hcv 4 _ rfl; have v5 := hcv 5 _ rfl; have v6 := hcv 6 _ rfl; have v7 := hcv 7 _ rfl
      simp only [Nat.add_zero] at v0
      clear hcv
      have k0 : (0 : Int) ≤ (k : Int) := by omega
      have k1 : (k : Int) < (ys.length : Int) := by omega
      have nk : IntKind.i64.wrap ((k : Int) + 1) = ((k + 1 : Nat) : Int) := by rw [IntWalk.i64_in _ (by omega)]; omega
      go_wp2_with fail
      refine (intOk_any t ((k + 1 : Nat) : Int) h kd p_ o a x _ (MLen.below he.2.2 HBW.out) LH.out LP.out LO.out LX.out).mono ?_
      rw [HOK.out]
      rintro e w5 ⟨rfl, hb5⟩
      have HB5 := Lib.hid (HB.out.trans (hb5.mono HB.out.size))
      clear hb5
      go_wp2_with fail
      go_roundw
      case rel => exact ⟨k + 1, by omega, by go_num, HB5⟩
      case measure => simp [RowKit.intOf]; omega
    · obtain rfl : k = ys.length := by omega
      have d3 : (ys.length : Int) ≤ 4 := by omega
      go_wp2_with fail
      go_ret
      exact ⟨ret_bool (by simp <;> omega), HBW.out⟩
end Go.Proofs.YtggdjiklgakfnaaGreatDoor
