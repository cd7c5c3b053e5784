/- slices.Insert at the head, slices.Delete of the last one and slices.Index, at lists of ints in blocks of one's own. No condition. -/
import Derived.Test.YtfokpjoeankobaaSetCells
import Derived.Test.YtfokpjoeankobaaShelfL
import Derived.Shelf.Spec.SlicesInsert
import Derived.Shelf.Spec.SlicesInsertGrow
namespace Go.Proofs.Ytfokpjoeankobaa
set_option linter.unnecessarySimpa false
open Go Go.Lib Go.RowKit Go.«Sort»
set_option linter.unusedVariables false
set_option linter.unusedSimpArgs false

theorem own_of_block {w : World} {g T n c : Nat} {cur : Array Value} {xs : List Int} (hg : w.heap[g]? = some (.cells cur T (0, 0))) (hs : cur.size = c) (hn : xs.length = n) (hc : n ≤ c) (hm : c ≤ maxLen) (hv : ∀ j, j < n → cur[j]? = (xs.map (Value.int .i64))[j]?) :
    OwnA w T 1 [g] (some ⟨g, 0, none⟩) n c (xs.map (Value.int .i64)) :=
  ⟨.inr ⟨g, cur, rfl, rfl, by simp [hn], hc, hm, hg, by rw [hs, Nat.mul_one], fun j hj => hv j (by omega)⟩, fun h => by cases h⟩
def InsP (row : Int) (xs : List Int) (S : List Nat) (n : Nat) (w : World) (e : Ending) (w' : World) : Prop :=
  ∃ A' c' S', e = .returned (.slice A' (n + 1) c') ∧ OwnA w' 3 1 S' A' (n + 1) c' ((row :: xs).map (Value.int .i64)) ∧ (∀ g ∈ S', g ∈ S ∨ w.heap.size ≤ g) ∧ Chg (· ∈ S) w w'
theorem one_ints (xs : List Int) : ∀ v ∈ xs.map (Value.int .i64), v.oneCell' = true := by
  intro v hv
  obtain ⟨x, _, rfl⟩ := List.mem_map.1 hv
  rfl
theorem shape_cells {w : World} {b T : Nat} {cur : Array Value} (h : w.heap[b]? = some (.cells cur T (0, 0))) : w.shape? b = some (T, cur.size) := by
  simp [World.shape?, h]
set_option maxRecDepth 100000 in
set_option maxHeartbeats 2000000 in
theorem insert0_any (S : List Nat) (A : Option Addr) (n c : Nat) (xs : List Int) (row : Int) (vb TV : Nat) (w : World) (h : OwnA w 3 1 S A n c (xs.map (Value.int .i64))) (hl : xs.length = n) (hn : n ≤ 1000) (hv : w.heap[vb]? = some (.cells #[.int .i64 row] TV (0, 0))) (hvS : vb ∉ S) :
    Calls Try.prog 63 #[.slice A n c, .int .i64 0, .slice (some ⟨vb, 0, none⟩) 1 1] w (InsP row xs S n w) := by
  have hvs : ∀ (j : Nat) (v : Value), [Value.int .i64 row][j]? = some v → w.cell? ⟨vb, 0 + j, none⟩ = some v := by
    intro j v hj
    rw [Nat.zero_add, cell_of_row _ _ j _ _ (0, 0) hv]
    simpa using hj
  have h1v : ∀ v ∈ [Value.int .i64 row], v.oneCell' = true := by intro v hv; simp at hv; subst hv; rfl
  obtain ⟨ho, hS0⟩ := h
  rcases Nat.eq_zero_or_pos n with h0 | h0
  · subst h0
    obtain rfl : xs = [] := List.eq_nil_of_length_eq_zero hl
    rcases Nat.eq_zero_or_pos c with hc | hc
    · subst hc
      have P := Any2.slices_Insert_int_end_grow Try.laysNm221 A 0 0 vb 0 1 1 [] [.int .i64 row] w (by omega) (by omega) (by omega) (by omega) rfl rfl (fun _ => rfl) (fun a _ j v hj => by simp at hj) hvs h1v
      simp only [show Try.laysNm221_ren.t 3 = 3 from rfl] at P
      refine P.mono ?_
      rintro e w' ⟨rfl, rfl⟩
      have hge := grownCap_ge w 1 0 3
      refine ⟨_, _, [w.heap.size], rfl, own_of_block (xs := [row]) (heap_alloc_new w.drew _) ?_ rfl hge (grownCap_le_maxLen w 1 0 3 (by unfold maxLen; omega)) ?_, fun g hg => .inr (by simp at hg; omega), ((Chg.refl _ _).drewN 1).alloc _⟩
      · simp [size_zeroI]; omega
      · intro j hj
        obtain rfl : j = 0 := by omega
        rw [Array.getElem?_append_left (by simp)]
        rfl
    · rcases ho with ⟨hS, _⟩ | ⟨g, cur, rfl, rfl, _, hnc, hcm, hg, hcs, hcc⟩
      · have := hS0 hS; omega
      have hcs' : cur.size = c := by omega
      refine (Any2.slices_Insert_int_end_room Try.laysNm221 g 0 0 c vb 0 1 1 [.int .i64 row] w (by omega) (by omega) (by unfold maxLen at hcm; omega) rfl ?_ (fun j _ => block_free hg _) hvs h1v).mono ?_
      · intro j hj
        rw [cell_of_row _ _ _ _ _ (0, 0) hg, Array.getElem?_eq_getElem (by omega)]; rfl
      rintro e w' ⟨rfl, rfl⟩
      obtain ⟨cur', e1, e2, e3⟩ := block_setCells [.int .i64 row] 0 w cur hg
      refine ⟨_, _, [g], rfl, own_of_block (xs := [row]) e1 (by omega) rfl (by omega) hcm ?_, fun g hg => .inl hg, Chg.setCells (.inl (by simp)) _ _ _ (Chg.refl _ _)⟩
      intro j hj
      rw [e3 j, if_pos (by simp; omega)]
      obtain rfl : j = 0 := by omega
      rfl
  · rcases ho with ⟨_, h1, _⟩ | ⟨g, cur, rfl, rfl, _, hnc, hcm, hg, hcs, hcc⟩
    · omega
    have hcs' : cur.size = c := by omega
    have hcl : (xs.map (Value.int .i64)).length = n := by simp [hl]
    have hcells : ∀ (j : Nat) (v : Value), (xs.map (Value.int .i64))[j]? = some v → w.cell? ⟨g, 0 + j, none⟩ = some v := by
      intro j v hj
      have hjn : j < n := by have := (List.getElem?_eq_some_iff.1 hj).1; omega
      rw [Nat.zero_add, cell_of_row _ _ j _ _ (0, 0) hg, hcc j (by omega), hj]
    by_cases hroom : n + 1 ≤ c
    · refine (Any2.slices_Insert_int_shift Try.laysNm221 g 0 n c 0 vb 0 1 1 (xs.map (Value.int .i64)) [.int .i64 row] w h0 (by omega) hroom (by unfold maxLen at hcm; omega) (by simpa using hvS) hcl rfl hcells ?_ (fun j _ => block_free hg _) hvs (one_ints xs) h1v TV 3 1 cur.size (shape_cells hv) (shape_cells hg) (by omega) (block_free hv _) (block_free hv _)).mono ?_
      · intro j hj
        rw [cell_of_row _ _ _ _ _ (0, 0) hg, Array.getElem?_eq_getElem (by omega)]; rfl
      rintro e w' ⟨rfl, rfl⟩
      obtain ⟨cur1, d1, d2, d3⟩ := block_setCells ((xs.map (Value.int .i64)).drop 0) (0 + (0 + 1)) w.drew cur hg
      obtain ⟨cur', e1, e2, e3⟩ := block_setCells [.int .i64 row] (0 + 0) _ cur1 d1
      refine ⟨_, _, [g], rfl, own_of_block (xs := row :: xs) e1 (by omega) (by simp [hl]) (by omega) hcm ?_, fun g hg => .inl hg, Chg.setCells (.inl (by simp)) _ _ _ (Chg.setCells (.inl (by simp)) _ _ _ ((Chg.refl _ _).drewN 1))⟩
      intro j hj
      rw [e3 j]
      rcases Nat.eq_zero_or_pos j with hj0 | hj0
      · subst hj0
        rw [if_pos (by simp; omega)]
        rfl
      · rw [if_neg (by simp; omega), d3 j, if_pos (by simp [hl]; omega)]
        obtain ⟨i, rfl⟩ : ∃ i, j = i + 1 := ⟨j - 1, by omega⟩
        simp
    · have P := Any2.slices_Insert_int_grow Try.laysNm221 g 0 n c 0 vb 0 1 1 (xs.map (Value.int .i64)) [.int .i64 row] w h0 (by omega) hnc (by omega) (by omega) hcl rfl hcells hvs (one_ints xs) h1v
      simp only [show Try.laysNm221_ren.t 3 = 3 from rfl] at P
      refine P.mono ?_
      rintro e w' ⟨rfl, rfl⟩
      have hge := grownCap_ge w (n + 1) c 3
      have hle := grownCap_le_maxLen w (n + 1) c 3 (by unfold maxLen; omega)
      generalize grownCap w (n + 1) c 3 = gc at hge hle ⊢
      have a0 := heap_alloc_new w (.cells (((xs.map (Value.int .i64)).take 0).toArray ++ Builtin.zeroCells (Value.int .i64 0).cells (n + 1 - 0) ++ Builtin.zeroCells (Value.int .i64 0).cells (gc - (n + 1))) 3)
      obtain ⟨wa, hwa⟩ : ∃ W, W = w.alloc (.cells (((xs.map (Value.int .i64)).take 0).toArray ++ Builtin.zeroCells (Value.int .i64 0).cells (n + 1 - 0) ++ Builtin.zeroCells (Value.int .i64 0).cells (gc - (n + 1))) 3) := ⟨_, rfl⟩
      have hca : Chg (· ∈ [g]) w wa := by rw [hwa]; exact (Chg.refl _ _).alloc _
      rw [← hwa] at a0 ⊢
      clear hwa
      obtain ⟨cur1, d1, d2, d3⟩ := block_setCells (b := w.heap.size) [.int .i64 row] 0 wa.drew _ a0
      obtain ⟨cur', e1, e2, e3⟩ := block_setCells (b := w.heap.size) ((xs.map (Value.int .i64)).drop 0) (0 + 1) (wa.drew.setCells w.heap.size 0 [.int .i64 row]).drew cur1 d1
      have hsz : cur'.size = gc := by rw [e2, d2]; simp [size_zeroI]; omega
      refine ⟨_, _, [w.heap.size], rfl, own_of_block (xs := row :: xs) e1 hsz (by simp [hl]) (by omega) hle ?_, fun g hg => .inr (by simp at hg; omega), Chg.setCells (.inr (Nat.le_refl _)) _ _ _ ((Chg.setCells (.inr (Nat.le_refl _)) _ _ _ (hca.drewN 1)).drewN 1)⟩
      intro j hj
      rw [e3 j]
      rcases Nat.eq_zero_or_pos j with hj0 | hj0
      · subst hj0
        rw [if_neg (by omega), d3 0, if_pos (by refine ⟨by omega, by simp, ?_⟩; have := hsz; rw [e2, d2] at this; omega)]
        rfl
      · rw [if_pos (by refine ⟨by omega, by simp [hl]; omega, by omega⟩)]
        obtain ⟨i, rfl⟩ : ∃ i, j = i + 1 := ⟨j - 1, by omega⟩
        simp
def DelP (ys : List Int) (S : List Nat) (A : Option Addr) (n c : Nat) (w : World) (e : Ending) (w' : World) : Prop :=
  e = .returned (.slice A n c) ∧ OwnA w' 3 1 S A n c (ys.map (Value.int .i64)) ∧ Chg (· ∈ S) w w'
set_option maxRecDepth 100000 in
set_option maxHeartbeats 2000000 in
theorem deleteLast_any (S : List Nat) (A : Option Addr) (n c : Nat) (ys : List Int) (row : Int) (w : World) (h : OwnA w 3 1 S A (n + 1) c ((ys ++ [row]).map (Value.int .i64))) (hl : ys.length = n) (hn : n ≤ 1000) :
    Calls Try.prog 62 #[.slice A (n + 1) c, .int .i64 (n : Int), .int .i64 ((n + 1 : Nat) : Int)] w (DelP ys S A n c w) := by
  obtain ⟨ho, hS0⟩ := h
  rcases ho with ⟨_, h1, _⟩ | ⟨g, cur, rfl, rfl, _, hnc, hcm, hg, hcs, hcc⟩
  · omega
  have hcs' : cur.size = c := by omega
  have hxl : (ys ++ [row]).length = n + 1 := by simp [hl]
  have hH : Holds (Value.int .i64) w g 0 (ys ++ [row]).toArray := by
    intro j hj
    refine ⟨?_, block_free hg _⟩
    rw [Nat.zero_add, cell_of_row _ _ j _ _ (0, 0) hg, hcc j (by simp at hj; omega), List.getElem?_map]
    simp at hj
    rw [List.getElem?_eq_getElem (by simp; omega)]
    simp [getElem!_pos, hj]
  have P := Try.slices_Delete_int g 0 c n (n + 1) (ys ++ [row]) w hH (by omega) (by unfold maxLen at hcm; omega) (by omega) (by omega)
  rw [hxl] at P
  refine P.mono ?_
  rintro e w' ⟨rfl, q, rfl⟩
  have e1 : (ys ++ [row]).take n ++ (ys ++ [row]).drop (n + 1) ++ List.replicate (n + 1 - n) 0 = ys ++ [0] := by
    rw [← hl]; simp
  rw [e1]
  obtain ⟨f, hf⟩ : ∃ f, f = putCells (Value.int .i64) 0 (ys ++ [0]).toArray := ⟨_, rfl⟩
  have hW : putRow (Value.int .i64) (Sort.ahead w q) g 0 (ys ++ [0]).toArray = mapBlock (Sort.ahead w q) g f := by rw [hf]; rfl
  rw [hW]
  have hH2 : (mapBlock (Sort.ahead w q) g f).heap = w.heap.modify g (onCells f) := by simp [mapBlock, Sort.ahead]
  have hcur : (mapBlock (Sort.ahead w q) g f).heap[g]? = some (.cells (f cur) 3 (0, 0)) := by
    rw [hH2, Array.getElem?_modify, if_pos rfl, hg]
    rfl
  have hfs : (f cur).size = cur.size := by rw [hf]; unfold putCells; simp
  refine ⟨by rw [show n + 1 - (n + 1 - n) = n by omega], own_of_block (xs := ys) hcur (by omega) hl (by omega) hcm ?_, ?_⟩
  · intro j hj
    rw [hf]
    unfold putCells
    rw [Array.getElem?_mapIdx, Array.getElem?_eq_getElem (by omega), Option.map_some, if_pos ⟨by omega, by simp; omega⟩, List.getElem?_map, List.getElem?_eq_getElem (by omega)]
    simp [getElem!_pos, hl, hj]
    rw [List.getElem?_append_left (by omega), List.getElem?_eq_getElem (by omega)]
    rfl
  · refine ⟨rfl, rfl, rfl, ?_, fun k hk hs => ?_⟩
    · rw [hH2]; simp
    · rw [hH2, Array.getElem?_modify, if_neg (by simp at hs; omega)]
set_option maxRecDepth 100000 in
set_option maxHeartbeats 2000000 in
theorem indexOf_any (S : List Nat) (A : Option Addr) (n c : Nat) (xs : List Int) (row : Int) (w : World) (h : OwnA w 3 1 S A n c (xs.map (Value.int .i64))) (hl : xs.length = n) (hn : n ≤ 1000) :
    Calls Try.prog 61 #[.slice A n c, .int .i64 row] w fun e w' => e = .returned (.int .i64 (idxOf xs row)) ∧ w' = w := by
  rcases Nat.eq_zero_or_pos n with h0 | h0
  · subst h0
    obtain rfl : xs = [] := List.eq_nil_of_length_eq_zero hl
    exact Try.slices_Index_int_empty A c row w
  obtain ⟨ho, hS0⟩ := h
  rcases ho with ⟨_, h1, _⟩ | ⟨g, cur, rfl, rfl, _, hnc, hcm, hg, hcs, hcc⟩
  · omega
  have P := Try.slices_Index_int g 0 n c xs row w (by omega) (by omega) (fun j hj => by
    rw [Nat.zero_add, cell_of_row _ _ j _ _ (0, 0) hg, hcc j (by omega), List.getElem?_map, List.getElem?_eq_getElem hj]
    simp [List.getD_eq_getElem?_getD, List.getElem?_eq_getElem hj])
  rw [List.take_of_length_le (by omega)] at P
  exact P
theorem idx_last {ys : List Int} {row : Int} (h : row ∉ ys) : idxOf (ys ++ [row]) row = (ys.length : Int) := by
  have := idxOf_hit (ys ++ [row]) (ys.length + 1) ys.length row (by omega) (by simp) (by simp [List.getD_eq_getElem?_getD]) (fun j hj e => h (by
    simp [List.getD_eq_getElem?_getD, List.getElem?_append_left hj, List.getElem?_eq_getElem hj] at e
    rw [← e]; exact List.getElem_mem hj))
  rw [List.take_of_length_le (by simp)] at this
  exact this
theorem idx_none {xs : List Int} {row : Int} (h : row ∉ xs) : idxOf xs row = -1 := by
  have := idxOf_miss xs xs.length row (fun j hj e => h (by
    simp [List.getD_eq_getElem?_getD, List.getElem?_eq_getElem hj] at e
    rw [← e]; exact List.getElem_mem hj))
  rw [List.take_of_length_le (Nat.le_refl _)] at this
  exact this
end Go.Proofs.Ytfokpjoeankobaa
