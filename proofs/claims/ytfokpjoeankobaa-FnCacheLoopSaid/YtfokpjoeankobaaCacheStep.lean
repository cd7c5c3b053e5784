/- One step of a cache that has room: front, without, way and ask of the program. No condition. -/
import Derived.Test.YtfokpjoeankobaaListOps
namespace Go.Proofs.Ytfokpjoeankobaa
set_option linter.unnecessarySimpa false
open Go Go.Lib Go.RowKit
set_option linter.unusedVariables false
set_option linter.unusedSimpArgs false
def NoIdx (A : Option Addr) (n c : Nat) (row : Int) (w : World) : Prop := Calls Try.prog 61 #[.slice A n c, .int .i64 row] w fun e w' => e = .returned (.int .i64 (-1)) ∧ w' = w
theorem noIdx_empty (A : Option Addr) (c : Nat) (row : Int) (w : World) : NoIdx A 0 c row w := Try.slices_Index_int_empty A c row w
theorem noIdx_own {S : List Nat} {A : Option Addr} {n c : Nat} {xs : List Int} {row : Int} {w : World} (h : OwnA w 3 1 S A n c (xs.map (Value.int .i64))) (hl : xs.length = n) (hn : n ≤ 100) (hr : row ∉ xs) : NoIdx A n c row w := by
  have P := indexOf_any S A n c xs row w h hl (by omega)
  rw [idx_none hr] at P
  exact P
def FrontR (X : Nat) (b : Option Addr → Nat → Array Value) (row : Int) (S : List Nat) (n : Nat) (xs : List Int) (w : World) (e : Ending) (w' : World) : Prop :=
  e = .returned (.tuple #[]) ∧ ∃ A' c' S', w'.heap[X]? = some (.cells (b A' c') 26 (0, 0)) ∧ OwnA w' 3 1 S' A' (n + 1) c' ((row :: xs).map (Value.int .i64)) ∧ (∀ g ∈ S', g ∈ S ∨ w.heap.size ≤ g) ∧ Chg (fun k => k = X ∨ k ∈ S) w w'
def TakeR (X : Nat) (b : Array Value) (S : List Nat) (A : Option Addr) (c : Nat) (ys : List Int) (w : World) (e : Ending) (w' : World) : Prop :=
  e = .returned (.bool true) ∧ w'.heap[X]? = some (.cells b 26 (0, 0)) ∧ OwnA w' 3 1 S A ys.length c (ys.map (Value.int .i64)) ∧ Chg (fun k => k = X ∨ k ∈ S) w w'
set_option maxRecDepth 100000 in
set_option maxHeartbeats 2000000 in
theorem front2_any (X : Nat) (ro go : Int) (S : List Nat) (A : Option Addr) (n c : Nat) (xs : List Int) (v3 v4 v5 : Value) (row : Int) (w : World) (hq : w.heap[X]? = some (.cells #[.int .i64 ro, .int .i64 go, .slice A n c, v3, v4, v5] 26 (0, 0))) (h : OwnA w 3 1 S A n c (xs.map (Value.int .i64))) (hl : xs.length = n) (hn : n ≤ 100) (hX : X ∉ S) :
    Calls Try.prog 39 #[.pointer (some ⟨X, 2, none⟩), .int .i64 row] w (FrontR X (fun A' c' => #[.int .i64 ro, .int .i64 go, .slice A' (n + 1) c', v3, v4, v5]) row S n xs w) := by
  have lX := (Array.getElem?_eq_some_iff.1 hq).1
  have HQ := Lib.hid hq; have H := Lib.hid h
  have uc0 := cell_of_row _ _ 0 _ _ (0, 0) hq; have uf0 := block_free hq 0; have uc1 := cell_of_row _ _ 1 _ _ (0, 0) hq; have uf1 := block_free hq 1; have uc2 := cell_of_row _ _ 2 _ _ (0, 0) hq; have uf2 := block_free hq 2; have uc3 := cell_of_row _ _ 3 _ _ (0, 0) hq; have uf3 := block_free hq 3; have uc4 := cell_of_row _ _ 4 _ _ (0, 0) hq; have uf4 := block_free hq 4; have uc5 := cell_of_row _ _ 5 _ _ (0, 0) hq; have uf5 := block_free hq 5
  clear hq h
  go_enter Try.func39, Try.ntmps39
  go_wp2_with fail
  refine (insert0_any S A n c xs row w.heap.size 3 _ (H.out.below bel1) hl (by omega) (heap_alloc_new _ _) (fun hg => absurd (H.out.lt _ hg) (by omega))).mono ?_
  rintro e w2 ⟨A', c', S', rfl, hO, hS', hC⟩
  have hq2 := (hC.block X (by simp; omega) hX).trans ((Below.heap_alloc w (.cells #[.int .i64 row] 3) X lX).trans HQ.out)
  have hXS' : X ∉ S' := fun hg => by
    rcases hS' _ hg with h | h
    · exact hX h
    · simp at h; omega
  have hne : ∀ g ∈ S', g ≠ X := fun g hg e => hXS' (e ▸ hg)
  have HO := Lib.hid hO; have HS := Lib.hid hS'; have HNE := Lib.hid hne
  have HCC : Hid (Chg (fun k => k = X ∨ k ∈ S) w w2) := Lib.hid ⟨hC.os, hC.tape, hC.output, by have := hC.size; simp at this; omega, fun k hk hs => (hC.block k (by simp; omega) (fun h => hs (.inr h))).trans (Below.heap_alloc _ _ _ hk)⟩
  have HQ2 := Lib.hid hq2
  clear hO hS' hne hXS' hC uc0 uf0 uc1 uf1 uc2 uf2 uc3 uf3 uc4 uf4 uc5 uf5
  have uc0 := cell_of_row _ _ 0 _ _ (0, 0) hq2; have uf0 := block_free hq2 0; have uc1 := cell_of_row _ _ 1 _ _ (0, 0) hq2; have uf1 := block_free hq2 1; have uc2 := cell_of_row _ _ 2 _ _ (0, 0) hq2; have uf2 := block_free hq2 2; have uc3 := cell_of_row _ _ 3 _ _ (0, 0) hq2; have uf3 := block_free hq2 3; have uc4 := cell_of_row _ _ 4 _ _ (0, 0) hq2; have uf4 := block_free hq2 4; have uc5 := cell_of_row _ _ 5 _ _ (0, 0) hq2; have uf5 := block_free hq2 5
  clear hq2
  go_wp2_with fail
  go_end0
  exact ⟨rfl, A', c', S', block_set (o := 2) HQ2.out, HO.out.keep (fun g hg => heap_far (HNE.out g hg)), fun g hg => (HS.out g hg).imp id (fun h => by simp at h; omega), HCC.out.setCell (p := ⟨X, 2, none⟩) (.inl (.inl rfl)) _⟩
set_option maxRecDepth 100000 in
set_option maxHeartbeats 2000000 in
theorem take2_any (X : Nat) (ro go : Int) (S : List Nat) (A : Option Addr) (c : Nat) (ys : List Int) (v3 v4 v5 : Value) (row : Int) (w : World) (hq : w.heap[X]? = some (.cells #[.int .i64 ro, .int .i64 go, .slice A (ys.length + 1) c, v3, v4, v5] 26 (0, 0))) (h : OwnA w 3 1 S A (ys.length + 1) c ((ys ++ [row]).map (Value.int .i64))) (hn : ys.length ≤ 100) (hX : X ∉ S) (hr : row ∉ ys) :
    Calls Try.prog 38 #[.pointer (some ⟨X, 2, none⟩), .int .i64 row] w (TakeR X #[.int .i64 ro, .int .i64 go, .slice A ys.length c, v3, v4, v5] S A c ys w) := by
  have lX := (Array.getElem?_eq_some_iff.1 hq).1
  have HQ := Lib.hid hq; have H := Lib.hid h
  have HIX := Lib.hid (indexOf_any S A (ys.length + 1) c (ys ++ [row]) row w h (by simp) (by omega))
  rw [idx_last hr] at HIX
  have HDEL := Lib.hid (deleteLast_any S A ys.length c ys row w h rfl (by omega))
  have uc0 := cell_of_row _ _ 0 _ _ (0, 0) hq; have uf0 := block_free hq 0; have uc1 := cell_of_row _ _ 1 _ _ (0, 0) hq; have uf1 := block_free hq 1; have uc2 := cell_of_row _ _ 2 _ _ (0, 0) hq; have uf2 := block_free hq 2; have uc3 := cell_of_row _ _ 3 _ _ (0, 0) hq; have uf3 := block_free hq 3; have uc4 := cell_of_row _ _ 4 _ _ (0, 0) hq; have uf4 := block_free hq 4; have uc5 := cell_of_row _ _ 5 _ _ (0, 0) hq; have uf5 := block_free hq 5
  have nu1 : IntKind.i64.wrap ((ys.length : Int) + 1) = ((ys.length + 1 : Nat) : Int) := by rw [IntWalk.i64_in _ (by omega)]; omega
  have k0 : (0 : Int) ≤ (ys.length : Int) := by omega
  clear hq h
  go_enter Try.func38, Try.ntmps38
  go_wp2_with fail
  refine HIX.out.mono ?_
  rintro e w1 ⟨rfl, rfl⟩
  go_wp2_with fail
  refine HDEL.out.mono ?_
  rintro e w2 ⟨rfl, hO, hC⟩
  have hq2 := (hC.block X lX hX).trans HQ.out
  have hne : ∀ g ∈ S, g ≠ X := fun g hg e => hX (e ▸ hg)
  have HO := Lib.hid hO; have HNE := Lib.hid hne
  have HCC : Hid (Chg (fun k => k = X ∨ k ∈ S) w1 w2) := Lib.hid ⟨hC.os, hC.tape, hC.output, hC.size, fun k hk hs => hC.block k hk (fun h => hs (.inr h))⟩
  have HQ2 := Lib.hid hq2
  clear hO hne hC uc0 uf0 uc1 uf1 uc2 uf2 uc3 uf3 uc4 uf4 uc5 uf5
  have uc0 := cell_of_row _ _ 0 _ _ (0, 0) hq2; have uf0 := block_free hq2 0; have uc1 := cell_of_row _ _ 1 _ _ (0, 0) hq2; have uf1 := block_free hq2 1; have uc2 := cell_of_row _ _ 2 _ _ (0, 0) hq2; have uf2 := block_free hq2 2; have uc3 := cell_of_row _ _ 3 _ _ (0, 0) hq2; have uf3 := block_free hq2 3; have uc4 := cell_of_row _ _ 4 _ _ (0, 0) hq2; have uf4 := block_free hq2 4; have uc5 := cell_of_row _ _ 5 _ _ (0, 0) hq2; have uf5 := block_free hq2 5
  clear hq2
  go_wp2_with fail
  go_ret
  exact ⟨by simp [results, Try.results38, go_sem] <;> omega, block_set (o := 2) HQ2.out, HO.out.keep (fun g hg => heap_far (HNE.out g hg)), HCC.out.setCell (p := ⟨X, 2, none⟩) (.inl (.inl rfl)) _⟩
set_option maxRecDepth 100000 in
set_option maxHeartbeats 2000000 in
theorem front3_any (X : Nat) (ro go : Int) (S : List Nat) (A : Option Addr) (n c : Nat) (xs : List Int) (v2 v4 v5 : Value) (row : Int) (w : World) (hq : w.heap[X]? = some (.cells #[.int .i64 ro, .int .i64 go, v2, .slice A n c, v4, v5] 26 (0, 0))) (h : OwnA w 3 1 S A n c (xs.map (Value.int .i64))) (hl : xs.length = n) (hn : n ≤ 100) (hX : X ∉ S) :
    Calls Try.prog 39 #[.pointer (some ⟨X, 3, none⟩), .int .i64 row] w (FrontR X (fun A' c' => #[.int .i64 ro, .int .i64 go, v2, .slice A' (n + 1) c', v4, v5]) row S n xs w) := by
  have lX := (Array.getElem?_eq_some_iff.1 hq).1
  have HQ := Lib.hid hq; have H := Lib.hid h
  have uc0 := cell_of_row _ _ 0 _ _ (0, 0) hq; have uf0 := block_free hq 0; have uc1 := cell_of_row _ _ 1 _ _ (0, 0) hq; have uf1 := block_free hq 1; have uc2 := cell_of_row _ _ 2 _ _ (0, 0) hq; have uf2 := block_free hq 2; have uc3 := cell_of_row _ _ 3 _ _ (0, 0) hq; have uf3 := block_free hq 3; have uc4 := cell_of_row _ _ 4 _ _ (0, 0) hq; have uf4 := block_free hq 4; have uc5 := cell_of_row _ _ 5 _ _ (0, 0) hq; have uf5 := block_free hq 5
  clear hq h
  go_enter Try.func39, Try.ntmps39
  go_wp2_with fail
  refine (insert0_any S A n c xs row w.heap.size 3 _ (H.out.below bel1) hl (by omega) (heap_alloc_new _ _) (fun hg => absurd (H.out.lt _ hg) (by omega))).mono ?_
  rintro e w2 ⟨A', c', S', rfl, hO, hS', hC⟩
  have hq2 := (hC.block X (by simp; omega) hX).trans ((Below.heap_alloc w (.cells #[.int .i64 row] 3) X lX).trans HQ.out)
  have hXS' : X ∉ S' := fun hg => by
    rcases hS' _ hg with h | h
    · exact hX h
    · simp at h; omega
  have hne : ∀ g ∈ S', g ≠ X := fun g hg e => hXS' (e ▸ hg)
  have HO := Lib.hid hO; have HS := Lib.hid hS'; have HNE := Lib.hid hne
  have HCC : Hid (Chg (fun k => k = X ∨ k ∈ S) w w2) := Lib.hid ⟨hC.os, hC.tape, hC.output, by have := hC.size; simp at this; omega, fun k hk hs => (hC.block k (by simp; omega) (fun h => hs (.inr h))).trans (Below.heap_alloc _ _ _ hk)⟩
  have HQ2 := Lib.hid hq2
  clear hO hS' hne hXS' hC uc0 uf0 uc1 uf1 uc2 uf2 uc3 uf3 uc4 uf4 uc5 uf5
  have uc0 := cell_of_row _ _ 0 _ _ (0, 0) hq2; have uf0 := block_free hq2 0; have uc1 := cell_of_row _ _ 1 _ _ (0, 0) hq2; have uf1 := block_free hq2 1; have uc2 := cell_of_row _ _ 2 _ _ (0, 0) hq2; have uf2 := block_free hq2 2; have uc3 := cell_of_row _ _ 3 _ _ (0, 0) hq2; have uf3 := block_free hq2 3; have uc4 := cell_of_row _ _ 4 _ _ (0, 0) hq2; have uf4 := block_free hq2 4; have uc5 := cell_of_row _ _ 5 _ _ (0, 0) hq2; have uf5 := block_free hq2 5
  clear hq2
  go_wp2_with fail
  go_end0
  exact ⟨rfl, A', c', S', block_set (o := 3) HQ2.out, HO.out.keep (fun g hg => heap_far (HNE.out g hg)), fun g hg => (HS.out g hg).imp id (fun h => by simp at h; omega), HCC.out.setCell (p := ⟨X, 3, none⟩) (.inl (.inl rfl)) _⟩
set_option maxRecDepth 100000 in
set_option maxHeartbeats 2000000 in
theorem take3_any (X : Nat) (ro go : Int) (S : List Nat) (A : Option Addr) (c : Nat) (ys : List Int) (v2 v4 v5 : Value) (row : Int) (w : World) (hq : w.heap[X]? = some (.cells #[.int .i64 ro, .int .i64 go, v2, .slice A (ys.length + 1) c, v4, v5] 26 (0, 0))) (h : OwnA w 3 1 S A (ys.length + 1) c ((ys ++ [row]).map (Value.int .i64))) (hn : ys.length ≤ 100) (hX : X ∉ S) (hr : row ∉ ys) :
    Calls Try.prog 38 #[.pointer (some ⟨X, 3, none⟩), .int .i64 row] w (TakeR X #[.int .i64 ro, .int .i64 go, v2, .slice A ys.length c, v4, v5] S A c ys w) := by
  have lX := (Array.getElem?_eq_some_iff.1 hq).1
  have HQ := Lib.hid hq; have H := Lib.hid h
  have HIX := Lib.hid (indexOf_any S A (ys.length + 1) c (ys ++ [row]) row w h (by simp) (by omega))
  rw [idx_last hr] at HIX
  have HDEL := Lib.hid (deleteLast_any S A ys.length c ys row w h rfl (by omega))
  have uc0 := cell_of_row _ _ 0 _ _ (0, 0) hq; have uf0 := block_free hq 0; have uc1 := cell_of_row _ _ 1 _ _ (0, 0) hq; have uf1 := block_free hq 1; have uc2 := cell_of_row _ _ 2 _ _ (0, 0) hq; have uf2 := block_free hq 2; have uc3 := cell_of_row _ _ 3 _ _ (0, 0) hq; have uf3 := block_free hq 3; have uc4 := cell_of_row _ _ 4 _ _ (0, 0) hq; have uf4 := block_free hq 4; have uc5 := cell_of_row _ _ 5 _ _ (0, 0) hq; have uf5 := block_free hq 5
  have nu1 : IntKind.i64.wrap ((ys.length : Int) + 1) = ((ys.length + 1 : Nat) : Int) := by rw [IntWalk.i64_in _ (by omega)]; omega
  have k0 : (0 : Int) ≤ (ys.length : Int) := by omega
  clear hq h
  go_enter Try.func38, Try.ntmps38
  go_wp2_with fail
  refine HIX.out.mono ?_
  rintro e w1 ⟨rfl, rfl⟩
  go_wp2_with fail
  refine HDEL.out.mono ?_
  rintro e w2 ⟨rfl, hO, hC⟩
  have hq2 := (hC.block X lX hX).trans HQ.out
  have hne : ∀ g ∈ S, g ≠ X := fun g hg e => hX (e ▸ hg)
  have HO := Lib.hid hO; have HNE := Lib.hid hne
  have HCC : Hid (Chg (fun k => k = X ∨ k ∈ S) w1 w2) := Lib.hid ⟨hC.os, hC.tape, hC.output, hC.size, fun k hk hs => hC.block k hk (fun h => hs (.inr h))⟩
  have HQ2 := Lib.hid hq2
  clear hO hne hC uc0 uf0 uc1 uf1 uc2 uf2 uc3 uf3 uc4 uf4 uc5 uf5
  have uc0 := cell_of_row _ _ 0 _ _ (0, 0) hq2; have uf0 := block_free hq2 0; have uc1 := cell_of_row _ _ 1 _ _ (0, 0) hq2; have uf1 := block_free hq2 1; have uc2 := cell_of_row _ _ 2 _ _ (0, 0) hq2; have uf2 := block_free hq2 2; have uc3 := cell_of_row _ _ 3 _ _ (0, 0) hq2; have uf3 := block_free hq2 3; have uc4 := cell_of_row _ _ 4 _ _ (0, 0) hq2; have uf4 := block_free hq2 4; have uc5 := cell_of_row _ _ 5 _ _ (0, 0) hq2; have uf5 := block_free hq2 5
  clear hq2
  go_wp2_with fail
  go_ret
  exact ⟨by simp [results, Try.results38, go_sem] <;> omega, block_set (o := 3) HQ2.out, HO.out.keep (fun g hg => heap_far (HNE.out g hg)), HCC.out.setCell (p := ⟨X, 3, none⟩) (.inl (.inl rfl)) _⟩
set_option maxRecDepth 100000 in
set_option maxHeartbeats 2000000 in
theorem miss2_any (X : Nat) (ro go : Int) (A : Option Addr) (n c : Nat) (v3 v4 v5 : Value) (row : Int) (w : World) (hq : w.heap[X]? = some (.cells #[.int .i64 ro, .int .i64 go, .slice A n c, v3, v4, v5] 26 (0, 0))) (h : NoIdx A n c row w) :
    Calls Try.prog 38 #[.pointer (some ⟨X, 2, none⟩), .int .i64 row] w fun e w' => e = .returned (.bool false) ∧ w' = w := by
  have lX := (Array.getElem?_eq_some_iff.1 hq).1
  have H := Lib.hid h
  have uc0 := cell_of_row _ _ 0 _ _ (0, 0) hq; have uf0 := block_free hq 0; have uc1 := cell_of_row _ _ 1 _ _ (0, 0) hq; have uf1 := block_free hq 1; have uc2 := cell_of_row _ _ 2 _ _ (0, 0) hq; have uf2 := block_free hq 2; have uc3 := cell_of_row _ _ 3 _ _ (0, 0) hq; have uf3 := block_free hq 3; have uc4 := cell_of_row _ _ 4 _ _ (0, 0) hq; have uf4 := block_free hq 4; have uc5 := cell_of_row _ _ 5 _ _ (0, 0) hq; have uf5 := block_free hq 5
  clear hq h
  go_enter Try.func38, Try.ntmps38
  go_wp2_with fail
  refine H.out.mono ?_
  rintro e w1 ⟨rfl, rfl⟩
  go_wp2_with fail
  go_ret
  exact ⟨rfl, rfl⟩
set_option maxRecDepth 100000 in
set_option maxHeartbeats 2000000 in
theorem miss3_any (X : Nat) (ro go : Int) (A : Option Addr) (n c : Nat) (v2 v4 v5 : Value) (row : Int) (w : World) (hq : w.heap[X]? = some (.cells #[.int .i64 ro, .int .i64 go, v2, .slice A n c, v4, v5] 26 (0, 0))) (h : NoIdx A n c row w) :
    Calls Try.prog 38 #[.pointer (some ⟨X, 3, none⟩), .int .i64 row] w fun e w' => e = .returned (.bool false) ∧ w' = w := by
  have lX := (Array.getElem?_eq_some_iff.1 hq).1
  have H := Lib.hid h
  have uc0 := cell_of_row _ _ 0 _ _ (0, 0) hq; have uf0 := block_free hq 0; have uc1 := cell_of_row _ _ 1 _ _ (0, 0) hq; have uf1 := block_free hq 1; have uc2 := cell_of_row _ _ 2 _ _ (0, 0) hq; have uf2 := block_free hq 2; have uc3 := cell_of_row _ _ 3 _ _ (0, 0) hq; have uf3 := block_free hq 3; have uc4 := cell_of_row _ _ 4 _ _ (0, 0) hq; have uf4 := block_free hq 4; have uc5 := cell_of_row _ _ 5 _ _ (0, 0) hq; have uf5 := block_free hq 5
  clear hq h
  go_enter Try.func38, Try.ntmps38
  go_wp2_with fail
  refine H.out.mono ?_
  rintro e w1 ⟨rfl, rfl⟩
  go_wp2_with fail
  go_ret
  exact ⟨rfl, rfl⟩
set_option maxRecDepth 100000 in
set_option maxHeartbeats 2000000 in
theorem miss4_any (X : Nat) (ro go : Int) (A : Option Addr) (n c : Nat) (v2 v3 v5 : Value) (row : Int) (w : World) (hq : w.heap[X]? = some (.cells #[.int .i64 ro, .int .i64 go, v2, v3, .slice A n c, v5] 26 (0, 0))) (h : NoIdx A n c row w) :
    Calls Try.prog 38 #[.pointer (some ⟨X, 4, none⟩), .int .i64 row] w fun e w' => e = .returned (.bool false) ∧ w' = w := by
  have lX := (Array.getElem?_eq_some_iff.1 hq).1
  have H := Lib.hid h
  have uc0 := cell_of_row _ _ 0 _ _ (0, 0) hq; have uf0 := block_free hq 0; have uc1 := cell_of_row _ _ 1 _ _ (0, 0) hq; have uf1 := block_free hq 1; have uc2 := cell_of_row _ _ 2 _ _ (0, 0) hq; have uf2 := block_free hq 2; have uc3 := cell_of_row _ _ 3 _ _ (0, 0) hq; have uf3 := block_free hq 3; have uc4 := cell_of_row _ _ 4 _ _ (0, 0) hq; have uf4 := block_free hq 4; have uc5 := cell_of_row _ _ 5 _ _ (0, 0) hq; have uf5 := block_free hq 5
  clear hq h
  go_enter Try.func38, Try.ntmps38
  go_wp2_with fail
  refine H.out.mono ?_
  rintro e w1 ⟨rfl, rfl⟩
  go_wp2_with fail
  go_ret
  exact ⟨rfl, rfl⟩
set_option maxRecDepth 100000 in
set_option maxHeartbeats 2000000 in
theorem miss5_any (X : Nat) (ro go : Int) (A : Option Addr) (n c : Nat) (v2 v3 v4 : Value) (row : Int) (w : World) (hq : w.heap[X]? = some (.cells #[.int .i64 ro, .int .i64 go, v2, v3, v4, .slice A n c] 26 (0, 0))) (h : NoIdx A n c row w) :
    Calls Try.prog 38 #[.pointer (some ⟨X, 5, none⟩), .int .i64 row] w fun e w' => e = .returned (.bool false) ∧ w' = w := by
  have lX := (Array.getElem?_eq_some_iff.1 hq).1
  have H := Lib.hid h
  have uc0 := cell_of_row _ _ 0 _ _ (0, 0) hq; have uf0 := block_free hq 0; have uc1 := cell_of_row _ _ 1 _ _ (0, 0) hq; have uf1 := block_free hq 1; have uc2 := cell_of_row _ _ 2 _ _ (0, 0) hq; have uf2 := block_free hq 2; have uc3 := cell_of_row _ _ 3 _ _ (0, 0) hq; have uf3 := block_free hq 3; have uc4 := cell_of_row _ _ 4 _ _ (0, 0) hq; have uf4 := block_free hq 4; have uc5 := cell_of_row _ _ 5 _ _ (0, 0) hq; have uf5 := block_free hq 5
  clear hq h
  go_enter Try.func38, Try.ntmps38
  go_wp2_with fail
  refine H.out.mono ?_
  rintro e w1 ⟨rfl, rfl⟩
  go_wp2_with fail
  go_ret
  exact ⟨rfl, rfl⟩
end Go.Proofs.Ytfokpjoeankobaa
