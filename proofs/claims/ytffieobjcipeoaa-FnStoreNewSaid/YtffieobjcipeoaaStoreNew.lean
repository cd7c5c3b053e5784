/- StoreNew of the program and of the reference: a store without blocks. No condition. -/
import Derived.Test.YtffieobjcipeoaaSpaceNew
import Derived.Test.YtffieobjcipeoaaSpaceOk
import Derived.Test.YtffieobjcipeoaaDiskCopy
namespace Go.Proofs.Ytffieobjcipeoaa
set_option linter.unnecessarySimpa false
open Go.RowKit
set_option linter.unusedVariables false
set_option linter.unusedSimpArgs false

def e64 : List ByteArray := List.replicate 64 ByteArray.empty
/-- Block r holds 64 empty texts. -/
def EmptyS (r : Nat) (w : World) : Prop := w.heap[r]? = some (.cells (madeCells #[.string ⟨#[]⟩] 64) 9 (0, 0))
theorem EmptyS.lt {r : Nat} {w : World} (h : EmptyS r w) : r < w.heap.size := (Array.getElem?_eq_some_iff.1 h).1
theorem EmptyS.keep {r : Nat} {w w' : World} (h : EmptyS r w) (hk : w'.heap[r]? = w.heap[r]?) : EmptyS r w' := hk.trans h
theorem EmptyS.slice {r lo hi : Nat} {w : World} (h : EmptyS r w) (h1 : lo ≤ r) (h2 : r < hi) (h3 : hi ≤ w.heap.size) : SliceR StrR 1 w lo hi (some ⟨r, 0, none⟩) 64 64 e64 := by
  refine ⟨by simp [e64], Nat.le_refl _, by unfold maxLen; omega, h3, (fun h => by cases h), fun _ => ⟨r, 0, rfl, h1, h2, fun j x hj => ?_⟩⟩
  have hj64 : j < 64 := by have := (List.getElem?_eq_some_iff.1 hj).1; simpa [e64] using this
  have hx : x = ByteArray.empty := by
    unfold e64 at hj
    rw [List.getElem?_replicate, if_pos hj64] at hj
    exact (Option.some.inj hj).symm
  subst hx
  refine ⟨[.string ByteArray.empty], rfl, fun i v hv => ?_, rfl, by decide⟩
  match i, hv with
  | 0, hv =>
    simp at hv; subst hv
    rw [Nat.mul_one, Nat.add_zero, Nat.zero_add, cell_of_row _ _ _ _ _ (0, 0) h]
    have : (madeCells #[.string ⟨#[]⟩] 64)[j]? = some (.string ⟨#[]⟩) := by
      have h64 : (madeCells #[.string ⟨#[]⟩] 64).toList = List.replicate 64 (.string ⟨#[]⟩) := by rw [toList_madeCells_one]
      rw [← Array.getElem?_toList, h64, List.getElem?_replicate, if_pos hj64]
    rw [this]
    rfl
  | i + 1, hv => simp at hv
/-- A new store, in memory of the call's own. -/
def NewSt (same : Bool) (w : World) (e : Ending) (w' : World) : Prop :=
  ∃ (r g h c d : Nat) (X Y : Option Addr), e = .returned (.agg #[.slice (some ⟨r, 0, none⟩) 64 64, .slice (some ⟨g, 0, none⟩) 64 c, .slice (some ⟨h, 0, none⟩) 64 d, .int .i64 1, .slice X 0 0, .int .i64 0, .slice Y 0 0, .bool same]) ∧ w.heap.size ≤ r ∧ w.heap.size ≤ g ∧ w.heap.size ≤ h ∧ EmptyS r w' ∧ OwnI w' g 64 c z64 ∧ OwnI w' h 64 d z64 ∧ Below w.heap.size w w'
def rowsM {L : List Nat} (B : Nat) (hL : ∀ b ∈ L, b < B) : MStP (Chg (· ∈ L)) Ext := ⟨fun v w => ∃ r, v = .slice (some ⟨r, 0, none⟩) 64 64 ∧ B ≤ r ∧ EmptyS r w, true, fun v w w' hs ⟨r, e, h1, h2⟩ => ⟨r, e, h1, h2.keep (Below.block hs r h2.lt)⟩, fun _ v w w' hs ⟨r, e, h1, h2⟩ => ⟨r, e, h1, h2.keep (Chg.block hs r h2.lt (fun hm => by have := hL r hm; omega))⟩⟩
def spaceM {L : List Nat} (B : Nat) (hL : ∀ b ∈ L, b < B) : MStP (Chg (· ∈ L)) Ext := ⟨fun v w => ∃ g h c d, v = .agg #[.slice (some ⟨g, 0, none⟩) 64 c, .slice (some ⟨h, 0, none⟩) 64 d] ∧ B ≤ g ∧ B ≤ h ∧ OwnI w g 64 c z64 ∧ OwnI w h 64 d z64, true,
  fun v w w' hs ⟨g, h, c, d, e, h1, h2, h3, h4⟩ => ⟨g, h, c, d, e, h1, h2, h3.below hs, h4.below hs⟩, fun _ v w w' hs ⟨g, h, c, d, e, h1, h2, h3, h4⟩ => ⟨g, h, c, d, e, h1, h2, h3.keep (Chg.block hs g h3.lt (fun hm => by have := hL g hm; omega)), h4.keep (Chg.block hs h h4.lt (fun hm => by have := hL h hm; omega))⟩⟩
def litP {L : List Nat} : MStP (Chg (· ∈ L)) Ext := ⟨fun v _ => ∃ X, v = .slice X 0 0, true, fun _ _ _ _ h => h, fun _ _ _ _ _ h => h⟩
def storeM {L : List Nat} (B : Nat) (hL : ∀ b ∈ L, b < B) (same : Bool) : MStP (Chg (· ∈ L)) Ext := ⟨fun v w => ∃ r g h c d X Y, v = .agg #[.slice (some ⟨r, 0, none⟩) 64 64, .slice (some ⟨g, 0, none⟩) 64 c, .slice (some ⟨h, 0, none⟩) 64 d, .int .i64 1, .slice X 0 0, .int .i64 0, .slice Y 0 0, .bool same] ∧ B ≤ r ∧ B ≤ g ∧ B ≤ h ∧ EmptyS r w ∧ OwnI w g 64 c z64 ∧ OwnI w h 64 d z64, true,
  fun v w w' hs ⟨r, g, h, c, d, X, Y, e, h0, h1, h2, h5, h3, h4⟩ => ⟨r, g, h, c, d, X, Y, e, h0, h1, h2, h5.keep (Below.block hs r h5.lt), h3.below hs, h4.below hs⟩, fun _ v w w' hs ⟨r, g, h, c, d, X, Y, e, h0, h1, h2, h5, h3, h4⟩ => ⟨r, g, h, c, d, X, Y, e, h0, h1, h2, h5.keep (Chg.block hs r h5.lt (fun hm => by have := hL r hm; omega)), h3.keep (Chg.block hs g h3.lt (fun hm => by have := hL g hm; omega)), h4.keep (Chg.block hs h h4.lt (fun hm => by have := hL h hm; omega))⟩⟩
theorem makeStr (w : World) : (Instr.makeSlice 24 (.int .i64 64) (.int .i64 64)).run Try.prog w = .ok (.slice (some ⟨w.heap.size, 0, none⟩) 64 64) (w.alloc (.cells (madeCells #[.string ⟨#[]⟩] 64) 9)) := by kernel_rfl
theorem set_8s {w : World} {r T : Nat} {v0 v1 v2 v3 v4 v5 v6 v7 x0 x1 x2 x3 x4 x5 x6 x7 : Value} (h : w.heap[r]? = some (.cells #[v0, v1, v2, v3, v4, v5, v6, v7] T (0, 0))) :
    ((((((((w.setCell ⟨r, 0, none⟩ x0).setCell ⟨r, 1, none⟩ x1).setCell ⟨r, 2, none⟩ x2).setCell ⟨r, 3, none⟩ x3).setCell ⟨r, 4, none⟩ x4).setCell ⟨r, 5, none⟩ x5).setCell ⟨r, 6, none⟩ x6).setCell ⟨r, 7, none⟩ x7).heap[r]? = some (.cells #[x0, x1, x2, x3, x4, x5, x6, x7] T (0, 0)) := by
  have h1 : (w.setCell ⟨r, 0, none⟩ x0).heap[r]? = some (.cells #[x0, v1, v2, v3, v4, v5, v6, v7] T (0, 0)) := block_set (o := 0) (v := x0) h
  have h2 : ((w.setCell ⟨r, 0, none⟩ x0).setCell ⟨r, 1, none⟩ x1).heap[r]? = some (.cells #[x0, x1, v2, v3, v4, v5, v6, v7] T (0, 0)) := block_set (o := 1) (v := x1) h1
  have h3 : (((w.setCell ⟨r, 0, none⟩ x0).setCell ⟨r, 1, none⟩ x1).setCell ⟨r, 2, none⟩ x2).heap[r]? = some (.cells #[x0, x1, x2, v3, v4, v5, v6, v7] T (0, 0)) := block_set (o := 2) (v := x2) h2
  have h4 : ((((w.setCell ⟨r, 0, none⟩ x0).setCell ⟨r, 1, none⟩ x1).setCell ⟨r, 2, none⟩ x2).setCell ⟨r, 3, none⟩ x3).heap[r]? = some (.cells #[x0, x1, x2, x3, v4, v5, v6, v7] T (0, 0)) := block_set (o := 3) (v := x3) h3
  have h5 : (((((w.setCell ⟨r, 0, none⟩ x0).setCell ⟨r, 1, none⟩ x1).setCell ⟨r, 2, none⟩ x2).setCell ⟨r, 3, none⟩ x3).setCell ⟨r, 4, none⟩ x4).heap[r]? = some (.cells #[x0, x1, x2, x3, x4, v5, v6, v7] T (0, 0)) := block_set (o := 4) (v := x4) h4
  have h6 : ((((((w.setCell ⟨r, 0, none⟩ x0).setCell ⟨r, 1, none⟩ x1).setCell ⟨r, 2, none⟩ x2).setCell ⟨r, 3, none⟩ x3).setCell ⟨r, 4, none⟩ x4).setCell ⟨r, 5, none⟩ x5).heap[r]? = some (.cells #[x0, x1, x2, x3, x4, x5, v6, v7] T (0, 0)) := block_set (o := 5) (v := x5) h5
  have h7 : (((((((w.setCell ⟨r, 0, none⟩ x0).setCell ⟨r, 1, none⟩ x1).setCell ⟨r, 2, none⟩ x2).setCell ⟨r, 3, none⟩ x3).setCell ⟨r, 4, none⟩ x4).setCell ⟨r, 5, none⟩ x5).setCell ⟨r, 6, none⟩ x6).heap[r]? = some (.cells #[x0, x1, x2, x3, x4, x5, x6, v7] T (0, 0)) := block_set (o := 6) (v := x6) h6
  have h8 : ((((((((w.setCell ⟨r, 0, none⟩ x0).setCell ⟨r, 1, none⟩ x1).setCell ⟨r, 2, none⟩ x2).setCell ⟨r, 3, none⟩ x3).setCell ⟨r, 4, none⟩ x4).setCell ⟨r, 5, none⟩ x5).setCell ⟨r, 6, none⟩ x6).setCell ⟨r, 7, none⟩ x7).heap[r]? = some (.cells #[x0, x1, x2, x3, x4, x5, x6, x7] T (0, 0)) := block_set (o := 7) (v := x7) h7
  exact h8
theorem far8s {w : World} {r b : Nat} {x0 x1 x2 x3 x4 x5 x6 x7 : Value} (h : b ≠ r) :
    ((((((((w.setCell ⟨r, 0, none⟩ x0).setCell ⟨r, 1, none⟩ x1).setCell ⟨r, 2, none⟩ x2).setCell ⟨r, 3, none⟩ x3).setCell ⟨r, 4, none⟩ x4).setCell ⟨r, 5, none⟩ x5).setCell ⟨r, 6, none⟩ x6).setCell ⟨r, 7, none⟩ x7).heap[b]? = w.heap[b]? :=
  (heap_far (p := ⟨r, 7, none⟩) h).trans ((heap_far (p := ⟨r, 6, none⟩) h).trans ((heap_far (p := ⟨r, 5, none⟩) h).trans ((heap_far (p := ⟨r, 4, none⟩) h).trans ((heap_far (p := ⟨r, 3, none⟩) h).trans ((heap_far (p := ⟨r, 2, none⟩) h).trans ((heap_far (p := ⟨r, 1, none⟩) h).trans (heap_far (p := ⟨r, 0, none⟩) h)))))))
set_option maxRecDepth 100000 in
set_option maxHeartbeats 2000000 in
theorem storeNew_any (same : Bool) (w : World) : Calls Try.prog 10 #[.bool same] w (NewSt same w) := by
  have hmk := makeStr
  go_enter Try.func10, Try.ntmps10
  go_wp2_with fail
  obtain ⟨w1, hW⟩ : ∃ w1, w1 = w.alloc (.cells #[.slice none 0 0, .slice none 0 0, .slice none 0 0, .int .i64 0, .slice none 0 0, .int .i64 0, .slice none 0 0, .bool false] 30) := ⟨_, rfl⟩
  have X1 : Below w.heap.size w w1 := by rw [hW]; exact bel1
  have hres : w1.heap[w.heap.size]? = some (.cells #[.slice none 0 0, .slice none 0 0, .slice none 0 0, .int .i64 0, .slice none 0 0, .int .i64 0, .slice none 0 0, .bool false] 30 (0, 0)) := by rw [hW]; exact heap_alloc_new _ _
  have z1 : w1.heap.size = w.heap.size + 1 := by rw [hW]; simp
  rw [← hW]; clear hW
  have HX1 := Lib.hid X1; have HRES := Lib.hid hres
  have hL : ∀ b ∈ [w.heap.size], b < w1.heap.size := by intro b hb; simp at hb; omega
  clear X1 hres
  go_wp2_with fail
  apply wp_region_rgz (Chg (· ∈ [w.heap.size])) (Ext) (fun y w' k' => (k' < 1000 → Below w1.heap.size w1 w') ∧ (1000 ≤ k' → ∃ r g h c d X Y, w'.heap[w.heap.size]? = some (.cells #[.slice (some ⟨r, 0, none⟩) 64 64, .slice (some ⟨g, 0, none⟩) 64 c, .slice (some ⟨h, 0, none⟩) 64 d, .int .i64 1, .slice X 0 0, .int .i64 0, .slice Y 0 0, .bool same] 30 (0, 0)) ∧ w1.heap.size ≤ r ∧ w1.heap.size ≤ g ∧ w1.heap.size ≤ h ∧ EmptyS r w' ∧ OwnI w' g 64 c z64 ∧ OwnI w' h 64 d z64)) [0, 0, 0, 0, 1000] [1000, 1000, 1000, 1000, 1000] (by kernel_rfl) [false, false, false, true, true, true, true] [some 3, some 4, some 5, some 6, none] [[], [], [], [0, 1, 2], [3]] [false, false, false, false, true] [true, true, true, true, true] [] [rowsM w1.heap.size hL, spaceM w1.heap.size hL, MStP.is _, storeM w1.heap.size hL same, MStP.is _] (by kernel_rfl) (by kernel_rfl) (by kernel_rfl) (by kernel_rfl)
  case hobs =>
    refine ⟨fun y w' k hS hj hk hF K hK => ?_, ?_⟩
    · skip -- 0: makeSlice
      simp only [fillL, cond_true, cond_false, List.getD_cons_zero, List.getD_cons_succ, StP.is, Act.put, List.setIfInBounds_toArray, List.set_cons_zero, List.set_cons_succ, Nat.reduceAdd, MStP.is, Option.isSome_some, Option.isSome_none] at hK ⊢
      simp only [List.sum_cons, List.sum_nil, List.getD_cons_zero, List.getD_cons_succ, Nat.reduceAdd, Nat.add_zero] at hk
      refine rg_yes (by kernel_rfl) ?_
      clear hF
      have hE := hj.1 (by omega)
      go_simp
      exact hK _ _ (Ext.alloc _ _) ⟨fun h => hE.alloc hE.size _, fun h => absurd h (by omega)⟩ ⟨w'.heap.size, rfl, hE.size, heap_alloc_new _ _⟩
    refine ⟨fun y w' k hS hj hk hF K hK => ?_, ?_⟩
    · skip -- 1: call
      simp only [fillL, cond_true, cond_false, List.getD_cons_zero, List.getD_cons_succ, StP.is, Act.put, List.setIfInBounds_toArray, List.set_cons_zero, List.set_cons_succ, Nat.reduceAdd, MStP.is, Option.isSome_some, Option.isSome_none] at hK ⊢
      simp only [List.sum_cons, List.sum_nil, List.getD_cons_zero, List.getD_cons_succ, Nat.reduceAdd, Nat.add_zero] at hk
      refine rg_yes (by kernel_rfl) ?_
      clear hF
      have hE := hj.1 (by omega)
      go_simp
      go_at_call 38
      refine (spaceNew_any w').mono ?_
      rintro e w'' ⟨g, h, c, d, rfl, -, hg1, hh1, hg2, hh2, hb⟩
      have hz := hE.size
      exact hK _ _ hb ⟨fun h => hE.trans (hb.mono hz), fun h => absurd h (by omega)⟩ ⟨g, h, c, d, rfl, by omega, by omega, hg2, hh2⟩
    refine ⟨fun y w' k hS hj hk hF K hK => ?_, ?_⟩
    · skip -- 2: move
      simp only [fillL, cond_true, cond_false, List.getD_cons_zero, List.getD_cons_succ, StP.is, Act.put, List.setIfInBounds_toArray, List.set_cons_zero, List.set_cons_succ, Nat.reduceAdd, MStP.is, Option.isSome_some, Option.isSome_none] at hK ⊢
      simp only [List.sum_cons, List.sum_nil, List.getD_cons_zero, List.getD_cons_succ, Nat.reduceAdd, Nat.add_zero] at hk
      refine rg_yes (by kernel_rfl) ?_
      clear hF
      go_simp
      exact hK _ _ (Ext.refl _) ⟨fun h => (hj.1 (by omega)), fun h => absurd h (by omega)⟩ rfl
    refine ⟨fun y w' k hS hj hk hF K hK => ?_, ?_⟩
    · skip -- 3: build
      obtain ⟨r, e3, hr1, hr2⟩ := hF.1
      obtain ⟨g, h, c, d, e4, hg1, hh1, hg2, hh2⟩ := hF.2.1
      have e5 : y 5 = _ := hF.2.2.1
      have e3' := Lib.hid e3
      have e4' := Lib.hid e4
      have e5' := Lib.hid e5
      simp only [fillL, cond_true, cond_false, List.getD_cons_zero, List.getD_cons_succ, StP.is, Act.put, List.setIfInBounds_toArray, List.set_cons_zero, List.set_cons_succ, Nat.reduceAdd, e3, e4, e5, MStP.is, Option.isSome_some, Option.isSome_none] at hK ⊢
      simp only [List.sum_cons, List.sum_nil, List.getD_cons_zero, List.getD_cons_succ, Nat.reduceAdd, Nat.add_zero] at hk
      refine rg_yes (by kernel_rfl) ?_
      clear e3 e4 e5
      clear hF
      have HR2 := Lib.hid hr2; have HG2 := Lib.hid hg2; have HH2 := Lib.hid hh2; clear hr2 hg2 hh2
      go_simp
      exact hK _ _ (Ext.refl _) ⟨fun h => (hj.1 (by omega)), fun h => absurd h (by omega)⟩ ⟨r, g, h, c, d, none, none, rfl, hr1, hg1, hh1, HR2.out, HG2.out, HH2.out⟩
    refine ⟨fun y w' k hS hj hk hF K hK => ?_, ?_⟩
    · skip -- 4: store
      obtain ⟨r, g, h, c, d, X, Y, e6, hr1, hg1, hh1, hr2, hg2, hh2⟩ := hF.1
      have HR2 := Lib.hid hr2; have HG2 := Lib.hid hg2; have HH2 := Lib.hid hh2; clear hr2 hg2 hh2
      have e6' := Lib.hid e6
      simp only [fillL, cond_true, cond_false, List.getD_cons_zero, List.getD_cons_succ, StP.is, Act.put, List.setIfInBounds_toArray, List.set_cons_zero, List.set_cons_succ, Nat.reduceAdd, e6, MStP.is, Option.isSome_some, Option.isSome_none] at hK ⊢
      simp only [List.sum_cons, List.sum_nil, List.getD_cons_zero, List.getD_cons_succ, Nat.reduceAdd, Nat.add_zero] at hk
      refine rg_yes (by kernel_rfl) ?_
      clear e6
      clear hF
      have hE := hj.1 (by omega)
      have hq := (hE.block w.heap.size (by omega)).trans HRES.out
      have lq := (Array.getElem?_eq_some_iff.1 hq).1
      have s0 := cell_of_row _ _ 0 _ _ (0, 0) hq; have f0 := block_free hq 0
      have s1 := cell_of_row _ _ 1 _ _ (0, 0) hq; have f1 := block_free hq 1
      have s2 := cell_of_row _ _ 2 _ _ (0, 0) hq; have f2 := block_free hq 2
      have s3 := cell_of_row _ _ 3 _ _ (0, 0) hq; have f3 := block_free hq 3
      have s4 := cell_of_row _ _ 4 _ _ (0, 0) hq; have f4 := block_free hq 4
      have s5 := cell_of_row _ _ 5 _ _ (0, 0) hq; have f5 := block_free hq 5
      have s6 := cell_of_row _ _ 6 _ _ (0, 0) hq; have f6 := block_free hq 6
      have s7 := cell_of_row _ _ 7 _ _ (0, 0) hq; have f7 := block_free hq 7
      have HQ := Lib.hid hq; clear hq
      go_simp
      refine hK undef _ (Chg.setCell (p := ⟨w.heap.size, 7, none⟩) (Chg.setCell (p := ⟨w.heap.size, 6, none⟩) (Chg.setCell (p := ⟨w.heap.size, 5, none⟩) (Chg.setCell (p := ⟨w.heap.size, 4, none⟩) (Chg.setCell (p := ⟨w.heap.size, 3, none⟩) (Chg.setCell (p := ⟨w.heap.size, 2, none⟩) (Chg.setCell (p := ⟨w.heap.size, 1, none⟩) (Chg.setCell (p := ⟨w.heap.size, 0, none⟩) (Chg.refl _ _) (.inl (by simp)) _) (.inl (by simp)) _) (.inl (by simp)) _) (.inl (by simp)) _) (.inl (by simp)) _) (.inl (by simp)) _) (.inl (by simp)) _) (.inl (by simp)) _) ⟨fun h => absurd h (by omega), fun _ => ⟨r, g, h, c, d, X, Y, set_8s HQ.out, hr1, hg1, hh1, ?_, ?_, ?_⟩⟩ rfl
      · exact HR2.out.keep (far8s (by omega))
      · exact HG2.out.keep (far8s (by omega))
      · exact HH2.out.keep (far8s (by omega))
    trivial
  case hH => rfl
  case hNS => exact fun _ _ h => Chg.of_below h _
  case hSt => exact fun a b => Chg.trans a b
  case hb => rfl
  case hdrew => exact (Chg.refl _ _).drewN 1
  case hj0 => exact fun y => ⟨fun _ => below_drewN (Below.refl _ _) 1, fun h => absurd h (by omega)⟩
  case hend =>
    intro y w6 hS hJ hF
    obtain ⟨r, g, h, c, d, X, Y, hq, hr1, hg1, hh1, hr2, hg2, hh2⟩ := hJ.2 (by decide)
    have HB6 : Below w.heap.size w w6 := HX1.out.trans (hS.below (B := w.heap.size) (fun k _ hk => by simp at hk; omega) (by omega))
    have hz := HB6.size
    have t0 := cell_of_row _ _ 0 _ _ (0, 0) hq; have t1 := cell_of_row _ _ 1 _ _ (0, 0) hq; have t2 := cell_of_row _ _ 2 _ _ (0, 0) hq; have t3 := cell_of_row _ _ 3 _ _ (0, 0) hq; have t4 := cell_of_row _ _ 4 _ _ (0, 0) hq; have t5 := cell_of_row _ _ 5 _ _ (0, 0) hq; have t6 := cell_of_row _ _ 6 _ _ (0, 0) hq; have t7 := cell_of_row _ _ 7 _ _ (0, 0) hq
    clear hJ hF hS hq
    simp only [fillL, cond_true, cond_false, Nat.reduceAdd]
    go_wp2_with fail
    refine bodyPost_ret (v := .agg #[.slice (some ⟨r, 0, none⟩) 64 64, .slice (some ⟨g, 0, none⟩) 64 c, .slice (some ⟨h, 0, none⟩) 64 d, .int .i64 1, .slice X 0 0, .int .i64 0, .slice Y 0 0, .bool same]) (by simp [results, Try.results10, go_sem, t0, t1, t2, t3, t4, t5, t6, t7]) rfl ⟨r, g, h, c, d, X, Y, rfl, by omega, by omega, by omega, hr2, hg2, hh2, HB6⟩
set_option maxRecDepth 100000 in
set_option maxHeartbeats 2000000 in
theorem spStoreNew_any (same : Bool) (w : World) : Calls Try.prog 11 #[.bool same] w (NewSt same w) := by
  have hmk := makeStr
  go_enter Try.func11, Try.ntmps11
  go_wp2_with fail
  obtain ⟨w1, hW⟩ : ∃ w1, w1 = w.alloc (.cells #[.slice none 0 0, .slice none 0 0, .slice none 0 0, .int .i64 0, .slice none 0 0, .int .i64 0, .slice none 0 0, .bool false] 30) := ⟨_, rfl⟩
  have X1 : Below w.heap.size w w1 := by rw [hW]; exact bel1
  have hres : w1.heap[w.heap.size]? = some (.cells #[.slice none 0 0, .slice none 0 0, .slice none 0 0, .int .i64 0, .slice none 0 0, .int .i64 0, .slice none 0 0, .bool false] 30 (0, 0)) := by rw [hW]; exact heap_alloc_new _ _
  have z1 : w1.heap.size = w.heap.size + 1 := by rw [hW]; simp
  rw [← hW]; clear hW
  have HX1 := Lib.hid X1; have HRES := Lib.hid hres
  have hL : ∀ b ∈ [w.heap.size], b < w1.heap.size := by intro b hb; simp at hb; omega
  clear X1 hres
  go_wp2_with fail
  apply wp_region_rgz (Chg (· ∈ [w.heap.size])) (Ext) (fun y w' k' => (k' < 1000 → Below w1.heap.size w1 w') ∧ (1000 ≤ k' → ∃ r g h c d X Y, w'.heap[w.heap.size]? = some (.cells #[.slice (some ⟨r, 0, none⟩) 64 64, .slice (some ⟨g, 0, none⟩) 64 c, .slice (some ⟨h, 0, none⟩) 64 d, .int .i64 1, .slice X 0 0, .int .i64 0, .slice Y 0 0, .bool same] 30 (0, 0)) ∧ w1.heap.size ≤ r ∧ w1.heap.size ≤ g ∧ w1.heap.size ≤ h ∧ EmptyS r w' ∧ OwnI w' g 64 c z64 ∧ OwnI w' h 64 d z64)) [0, 0, 0, 0, 0, 0, 1000] [1000, 1000, 1000, 1000, 1000, 1000, 1000] (by kernel_rfl) [false, false, false, true, true, true, true, true, true] [some 3, some 4, some 5, some 6, some 7, some 8, none] [[], [], [], [], [], [0, 1, 2, 3, 4], [5]] [false, false, false, false, false, false, true] [true, true, true, true, true, true, true] [] [rowsM w1.heap.size hL, spaceM w1.heap.size hL, litP, litP, MStP.is _, storeM w1.heap.size hL same, MStP.is _] (by kernel_rfl) (by kernel_rfl) (by kernel_rfl) (by kernel_rfl)
  case hobs =>
    refine ⟨fun y w' k hS hj hk hF K hK => ?_, ?_⟩
    · skip -- 0: makeSlice
      simp only [fillL, cond_true, cond_false, List.getD_cons_zero, List.getD_cons_succ, StP.is, Act.put, List.setIfInBounds_toArray, List.set_cons_zero, List.set_cons_succ, Nat.reduceAdd, MStP.is, Option.isSome_some, Option.isSome_none] at hK ⊢
      simp only [List.sum_cons, List.sum_nil, List.getD_cons_zero, List.getD_cons_succ, Nat.reduceAdd, Nat.add_zero] at hk
      refine rg_yes (by kernel_rfl) ?_
      clear hF
      have hE := hj.1 (by omega)
      go_simp
      exact hK _ _ (Ext.alloc _ _) ⟨fun h => hE.alloc hE.size _, fun h => absurd h (by omega)⟩ ⟨w'.heap.size, rfl, hE.size, heap_alloc_new _ _⟩
    refine ⟨fun y w' k hS hj hk hF K hK => ?_, ?_⟩
    · skip -- 1: call
      simp only [fillL, cond_true, cond_false, List.getD_cons_zero, List.getD_cons_succ, StP.is, Act.put, List.setIfInBounds_toArray, List.set_cons_zero, List.set_cons_succ, Nat.reduceAdd, MStP.is, Option.isSome_some, Option.isSome_none] at hK ⊢
      simp only [List.sum_cons, List.sum_nil, List.getD_cons_zero, List.getD_cons_succ, Nat.reduceAdd, Nat.add_zero] at hk
      refine rg_yes (by kernel_rfl) ?_
      clear hF
      have hE := hj.1 (by omega)
      go_simp
      go_at_call 39
      refine (spSpaceNew_any w').mono ?_
      rintro e w'' ⟨g, h, c, d, rfl, -, hg1, hh1, hg2, hh2, hb⟩
      have hz := hE.size
      exact hK _ _ hb ⟨fun h => hE.trans (hb.mono hz), fun h => absurd h (by omega)⟩ ⟨g, h, c, d, rfl, by omega, by omega, hg2, hh2⟩
    refine ⟨fun y w' k hS hj hk hF K hK => ?_, ?_⟩
    · skip -- 2: buildSlice
      simp only [fillL, cond_true, cond_false, List.getD_cons_zero, List.getD_cons_succ, StP.is, Act.put, List.setIfInBounds_toArray, List.set_cons_zero, List.set_cons_succ, Nat.reduceAdd, MStP.is, Option.isSome_some, Option.isSome_none] at hK ⊢
      simp only [List.sum_cons, List.sum_nil, List.getD_cons_zero, List.getD_cons_succ, Nat.reduceAdd, Nat.add_zero] at hk
      refine rg_yes (by kernel_rfl) ?_
      clear hF
      have hE := hj.1 (by omega)
      go_simp
      exact hK _ _ (Ext.alloc _ _) ⟨fun h => hE.alloc hE.size _, fun h => absurd h (by omega)⟩ ⟨_, rfl⟩
    refine ⟨fun y w' k hS hj hk hF K hK => ?_, ?_⟩
    · skip -- 3: buildSlice
      simp only [fillL, cond_true, cond_false, List.getD_cons_zero, List.getD_cons_succ, StP.is, Act.put, List.setIfInBounds_toArray, List.set_cons_zero, List.set_cons_succ, Nat.reduceAdd, MStP.is, Option.isSome_some, Option.isSome_none] at hK ⊢
      simp only [List.sum_cons, List.sum_nil, List.getD_cons_zero, List.getD_cons_succ, Nat.reduceAdd, Nat.add_zero] at hk
      refine rg_yes (by kernel_rfl) ?_
      clear hF
      have hE := hj.1 (by omega)
      go_simp
      exact hK _ _ (Ext.alloc _ _) ⟨fun h => hE.alloc hE.size _, fun h => absurd h (by omega)⟩ ⟨_, rfl⟩
    refine ⟨fun y w' k hS hj hk hF K hK => ?_, ?_⟩
    · skip -- 4: move
      simp only [fillL, cond_true, cond_false, List.getD_cons_zero, List.getD_cons_succ, StP.is, Act.put, List.setIfInBounds_toArray, List.set_cons_zero, List.set_cons_succ, Nat.reduceAdd, MStP.is, Option.isSome_some, Option.isSome_none] at hK ⊢
      simp only [List.sum_cons, List.sum_nil, List.getD_cons_zero, List.getD_cons_succ, Nat.reduceAdd, Nat.add_zero] at hk
      refine rg_yes (by kernel_rfl) ?_
      clear hF
      go_simp
      exact hK _ _ (Ext.refl _) ⟨fun h => (hj.1 (by omega)), fun h => absurd h (by omega)⟩ rfl
    refine ⟨fun y w' k hS hj hk hF K hK => ?_, ?_⟩
    · skip -- 5: build
      obtain ⟨r, e3, hr1, hr2⟩ := hF.1
      obtain ⟨g, h, c, d, e4, hg1, hh1, hg2, hh2⟩ := hF.2.1
      obtain ⟨X, e5⟩ := hF.2.2.1
      obtain ⟨Y, e6⟩ := hF.2.2.2.1
      have e7 : y 7 = _ := hF.2.2.2.2.1
      have e3' := Lib.hid e3
      have e4' := Lib.hid e4
      have e5' := Lib.hid e5
      have e6' := Lib.hid e6
      have e7' := Lib.hid e7
      simp only [fillL, cond_true, cond_false, List.getD_cons_zero, List.getD_cons_succ, StP.is, Act.put, List.setIfInBounds_toArray, List.set_cons_zero, List.set_cons_succ, Nat.reduceAdd, e3, e4, e5, e6, e7, MStP.is, Option.isSome_some, Option.isSome_none] at hK ⊢
      simp only [List.sum_cons, List.sum_nil, List.getD_cons_zero, List.getD_cons_succ, Nat.reduceAdd, Nat.add_zero] at hk
      refine rg_yes (by kernel_rfl) ?_
      clear e3 e4 e5 e6 e7
      clear hF
      have HR2 := Lib.hid hr2; have HG2 := Lib.hid hg2; have HH2 := Lib.hid hh2; clear hr2 hg2 hh2
      go_simp
      exact hK _ _ (Ext.refl _) ⟨fun h => (hj.1 (by omega)), fun h => absurd h (by omega)⟩ ⟨r, g, h, c, d, X, Y, rfl, hr1, hg1, hh1, HR2.out, HG2.out, HH2.out⟩
    refine ⟨fun y w' k hS hj hk hF K hK => ?_, ?_⟩
    · skip -- 6: store
      obtain ⟨r, g, h, c, d, X, Y, e8, hr1, hg1, hh1, hr2, hg2, hh2⟩ := hF.1
      have HR2 := Lib.hid hr2; have HG2 := Lib.hid hg2; have HH2 := Lib.hid hh2; clear hr2 hg2 hh2
      have e8' := Lib.hid e8
      simp only [fillL, cond_true, cond_false, List.getD_cons_zero, List.getD_cons_succ, StP.is, Act.put, List.setIfInBounds_toArray, List.set_cons_zero, List.set_cons_succ, Nat.reduceAdd, e8, MStP.is, Option.isSome_some, Option.isSome_none] at hK ⊢
      simp only [List.sum_cons, List.sum_nil, List.getD_cons_zero, List.getD_cons_succ, Nat.reduceAdd, Nat.add_zero] at hk
      refine rg_yes (by kernel_rfl) ?_
      clear e8
      clear hF
      have hE := hj.1 (by omega)
      have hq := (hE.block w.heap.size (by omega)).trans HRES.out
      have lq := (Array.getElem?_eq_some_iff.1 hq).1
      have s0 := cell_of_row _ _ 0 _ _ (0, 0) hq; have f0 := block_free hq 0
      have s1 := cell_of_row _ _ 1 _ _ (0, 0) hq; have f1 := block_free hq 1
      have s2 := cell_of_row _ _ 2 _ _ (0, 0) hq; have f2 := block_free hq 2
      have s3 := cell_of_row _ _ 3 _ _ (0, 0) hq; have f3 := block_free hq 3
      have s4 := cell_of_row _ _ 4 _ _ (0, 0) hq; have f4 := block_free hq 4
      have s5 := cell_of_row _ _ 5 _ _ (0, 0) hq; have f5 := block_free hq 5
      have s6 := cell_of_row _ _ 6 _ _ (0, 0) hq; have f6 := block_free hq 6
      have s7 := cell_of_row _ _ 7 _ _ (0, 0) hq; have f7 := block_free hq 7
      have HQ := Lib.hid hq; clear hq
      go_simp
      refine hK undef _ (Chg.setCell (p := ⟨w.heap.size, 7, none⟩) (Chg.setCell (p := ⟨w.heap.size, 6, none⟩) (Chg.setCell (p := ⟨w.heap.size, 5, none⟩) (Chg.setCell (p := ⟨w.heap.size, 4, none⟩) (Chg.setCell (p := ⟨w.heap.size, 3, none⟩) (Chg.setCell (p := ⟨w.heap.size, 2, none⟩) (Chg.setCell (p := ⟨w.heap.size, 1, none⟩) (Chg.setCell (p := ⟨w.heap.size, 0, none⟩) (Chg.refl _ _) (.inl (by simp)) _) (.inl (by simp)) _) (.inl (by simp)) _) (.inl (by simp)) _) (.inl (by simp)) _) (.inl (by simp)) _) (.inl (by simp)) _) (.inl (by simp)) _) ⟨fun h => absurd h (by omega), fun _ => ⟨r, g, h, c, d, X, Y, set_8s HQ.out, hr1, hg1, hh1, ?_, ?_, ?_⟩⟩ rfl
      · exact HR2.out.keep (far8s (by omega))
      · exact HG2.out.keep (far8s (by omega))
      · exact HH2.out.keep (far8s (by omega))
    trivial
  case hH => rfl
  case hNS => exact fun _ _ h => Chg.of_below h _
  case hSt => exact fun a b => Chg.trans a b
  case hb => rfl
  case hdrew => exact (Chg.refl _ _).drewN 1
  case hj0 => exact fun y => ⟨fun _ => below_drewN (Below.refl _ _) 1, fun h => absurd h (by omega)⟩
  case hend =>
    intro y w6 hS hJ hF
    obtain ⟨r, g, h, c, d, X, Y, hq, hr1, hg1, hh1, hr2, hg2, hh2⟩ := hJ.2 (by decide)
    have HB6 : Below w.heap.size w w6 := HX1.out.trans (hS.below (B := w.heap.size) (fun k _ hk => by simp at hk; omega) (by omega))
    have hz := HB6.size
    have t0 := cell_of_row _ _ 0 _ _ (0, 0) hq; have t1 := cell_of_row _ _ 1 _ _ (0, 0) hq; have t2 := cell_of_row _ _ 2 _ _ (0, 0) hq; have t3 := cell_of_row _ _ 3 _ _ (0, 0) hq; have t4 := cell_of_row _ _ 4 _ _ (0, 0) hq; have t5 := cell_of_row _ _ 5 _ _ (0, 0) hq; have t6 := cell_of_row _ _ 6 _ _ (0, 0) hq; have t7 := cell_of_row _ _ 7 _ _ (0, 0) hq
    clear hJ hF hS hq
    simp only [fillL, cond_true, cond_false, Nat.reduceAdd]
    go_wp2_with fail
    refine bodyPost_ret (v := .agg #[.slice (some ⟨r, 0, none⟩) 64 64, .slice (some ⟨g, 0, none⟩) 64 c, .slice (some ⟨h, 0, none⟩) 64 d, .int .i64 1, .slice X 0 0, .int .i64 0, .slice Y 0 0, .bool same]) (by simp [results, Try.results11, go_sem, t0, t1, t2, t3, t4, t5, t6, t7]) rfl ⟨r, g, h, c, d, X, Y, rfl, by omega, by omega, by omega, hr2, hg2, hh2, HB6⟩
end Go.Proofs.Ytffieobjcipeoaa
