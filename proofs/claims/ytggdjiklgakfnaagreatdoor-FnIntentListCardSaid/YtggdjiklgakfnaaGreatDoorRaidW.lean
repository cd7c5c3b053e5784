/- Drawn disks: an array of three disks into whose cells one may write. No condition. -/
import Derived.Test.YtggdjiklgakfnaaGreatDoorDrawDisk2
import Derived.Test.YtggdjiklgakfnaaGreatDoorRaidNew
import Derived.Test.YtggdjiklgakfnaaGreatDoorRaidLose
namespace Go.Proofs.YtggdjiklgakfnaaGreatDoor
set_option linter.unusedSimpArgs false
set_option linter.unnecessarySimpa false
open Go.RowKit
set_option linter.unusedVariables false

/-- Block g holds 64 strings of at most M bytes. -/
def CellsB (M g : Nat) (w : World) : Prop := ∃ cur, w.heap[g]? = some (.cells cur 9 (0, 0)) ∧ 64 ≤ cur.size ∧ ∀ i, i < 64 → ∃ s : ByteArray, cur[i]? = some (.string s) ∧ s.size ≤ M
theorem CellsB.set {M g r : Nat} {w : World} {s : ByteArray} (h : CellsB M g w) (hs : s.size ≤ M) : CellsB M g (w.setCell ⟨g, r, none⟩ (.string s)) := by
  obtain ⟨cur, h1, h2, h3⟩ := h
  refine ⟨_, block_set h1, by simpa using h2, fun i hi => ?_⟩
  rw [Array.getElem?_setIfInBounds]
  split
  · rw [if_pos (by omega)]; exact ⟨s, rfl, hs⟩
  · exact h3 i hi
theorem CellsB.keep {M g : Nat} {w w' : World} (h : CellsB M g w) (hk : w'.heap[g]? = w.heap[g]?) : CellsB M g w' := by
  obtain ⟨cur, h1, h2⟩ := h
  exact ⟨cur, hk.trans h1, h2⟩
theorem CellsB.lt {M g : Nat} {w : World} (h : CellsB M g w) : g < w.heap.size := by obtain ⟨cur, h1, _⟩ := h; exact (Array.getElem?_eq_some_iff.1 h1).1
theorem CellsB.at_ {M g r : Nat} {w : World} (h : CellsB M g w) (hr : r < 64) : ∃ s : ByteArray, w.cell? ⟨g, r, none⟩ = some (.string s) ∧ w.frozen? ⟨g, r, none⟩ = false ∧ s.size ≤ M := by
  obtain ⟨cur, h1, h2, h3⟩ := h
  obtain ⟨s, hs, hm⟩ := h3 r hr
  exact ⟨s, (cell_of_row _ _ r _ _ (0, 0) h1).trans hs, block_free h1 _, hm⟩
theorem CellsB.mono {M N g : Nat} {w : World} (h : CellsB M g w) (hM : M ≤ N) : CellsB N g w := by
  obtain ⟨cur, h1, h2, h3⟩ := h
  exact ⟨cur, h1, h2, fun i hi => by obtain ⟨s, a, b⟩ := h3 i hi; exact ⟨s, a, Nat.le_trans b hM⟩⟩
/-- Block g holds three disks, all there, without waits, each with 64 cells in a block of its own behind lo. -/
def RaidW (M g lo : Nat) (w : World) : Prop := ∃ cur, w.heap[g]? = some (.cells cur 70 (0, 0)) ∧ 9 ≤ cur.size ∧ ∀ i, i < 3 → ∃ (gi ci m : Nat) (A : Option Addr), cur[i * 3]? = some (.slice (some ⟨gi, 0, none⟩) 64 ci) ∧ cur[i * 3 + 1]? = some (.slice A 0 m) ∧ cur[i * 3 + 2]? = some (.bool false) ∧ CellsB M gi w ∧ lo ≤ gi ∧ gi ≠ g ∧ 64 ≤ ci ∧ (A = none → m = 0)
/-- Block g holds three disks. -/
def RaidA (g lo : Nat) (w : World) : Prop := ∃ cur, w.heap[g]? = some (.cells cur 70 (0, 0)) ∧ 9 ≤ cur.size ∧ ∀ i, i < 3 → ∃ cs x, (∀ j v, cs[j]? = some v → cur[i * 3 + j]? = some v) ∧ DiskR w lo w.heap.size cs x
theorem RaidW.lt {M g lo : Nat} {w : World} (h : RaidW M g lo w) : g < w.heap.size := by obtain ⟨cur, h1, _⟩ := h; exact (Array.getElem?_eq_some_iff.1 h1).1
theorem RaidW.mono {M N g lo : Nat} {w : World} (h : RaidW M g lo w) (hM : M ≤ N) : RaidW N g lo w := by
  obtain ⟨cur, h1, h2, h3⟩ := h
  exact ⟨cur, h1, h2, fun i hi => by obtain ⟨gi, ci, m, A, a1, a2, a3, a4, a5⟩ := h3 i hi; exact ⟨gi, ci, m, A, a1, a2, a3, a4.mono hM, a5⟩⟩
theorem RaidA.lt {g lo : Nat} {w : World} (h : RaidA g lo w) : g < w.heap.size := by obtain ⟨cur, h1, _⟩ := h; exact (Array.getElem?_eq_some_iff.1 h1).1
/-- They stay where blocks behind lo stay. -/
theorem RaidW.keep {M g lo : Nat} {w w' : World} (h : RaidW M g lo w) (hg : lo ≤ g) (hk : ∀ b, lo ≤ b → b < w.heap.size → w'.heap[b]? = w.heap[b]?) : RaidW M g lo w' := by
  have hl := h.lt
  obtain ⟨cur, h1, h2, h3⟩ := h
  refine ⟨cur, (hk g hg hl).trans h1, h2, fun i hi => ?_⟩
  obtain ⟨gi, ci, m, A, a1, a2, a3, a4, a5, a6, a7⟩ := h3 i hi
  exact ⟨gi, ci, m, A, a1, a2, a3, a4.keep (hk gi a5 a4.lt), a5, a6, a7⟩
theorem RaidW.chg {M g lo p : Nat} {w w' : World} (h : RaidW M g lo w) (hg : lo ≤ g) (hc : Chg (· ∈ [p]) w w') (hp : p < lo) : RaidW M g lo w' :=
  h.keep hg fun b h1 h2 => hc.block b h2 (by simp; omega)
theorem RaidA.far {g lo : Nat} {w : World} (h : RaidA g lo w) (hg : lo ≤ g) {a : Addr} (ha : a.block < lo) (v : Value) : RaidA g lo (w.setCell a v) := by
  have hl := h.lt
  obtain ⟨cur, h1, h2, h3⟩ := h
  refine ⟨cur, (heap_far (by omega)).trans h1, h2, fun i hi => ?_⟩
  obtain ⟨cs, x, a1, a2⟩ := h3 i hi
  refine ⟨cs, x, a1, ?_⟩
  have := DiskR.keep (Same.setCell (p := a) (lo := lo) (hi := w.heap.size) (Same.refl _ _ _) (.inl ha) v) (by simp [World.setCell]) _ _ a2
  simpa [World.setCell] using this
/-- What a disk's cells are. -/
theorem RaidW.at_ {M g lo i : Nat} {w : World} (h : RaidW M g lo w) (hi : i < 3) : ∃ gi ci, w.cell? ⟨g, i * 3, none⟩ = some (.slice (some ⟨gi, 0, none⟩) 64 ci) ∧ CellsB M gi w ∧ lo ≤ gi ∧ gi ≠ g := by
  obtain ⟨cur, h1, h2, h3⟩ := h
  obtain ⟨gi, ci, m, A, a1, a2, a3, a4, a5, a6, a7⟩ := h3 i hi
  exact ⟨gi, ci, (cell_of_row _ _ _ _ _ (0, 0) h1).trans a1, a4, a5, a6⟩
/-- A text laid into a cell of one of them. -/
theorem RaidW.set {M g lo i r gi ci : Nat} {w : World} {s : ByteArray} (h : RaidW M g lo w) (hi : i < 3) (hc : w.cell? ⟨g, i * 3, none⟩ = some (.slice (some ⟨gi, 0, none⟩) 64 ci)) (hs : s.size ≤ M) : RaidW M g lo (w.setCell ⟨gi, r, none⟩ (.string s)) := by
  obtain ⟨cur, h1, h2, h3⟩ := h
  have hgg : gi ≠ g := by
    obtain ⟨gi', ci', m, A, a1, a2, a3, a4, a5, a6, a7⟩ := h3 i hi
    rw [cell_of_row _ _ _ _ _ (0, 0) h1, a1] at hc
    injection hc with e; injection e with e _; injection e with e; injection e with e _; subst e; exact a6
  refine ⟨cur, (heap_far (fun e => hgg e.symm)).trans h1, h2, fun j hj => ?_⟩
  obtain ⟨gj, cj, m, A, a1, a2, a3, a4, a5, a6, a7⟩ := h3 j hj
  refine ⟨gj, cj, m, A, a1, a2, a3, ?_, a5, a6, a7⟩
  by_cases e : gj = gi
  · subst e; exact a4.set hs
  · exact a4.keep (heap_far e)
theorem disk_cells {M gi ci m lo : Nat} {A : Option Addr} {w : World} (h : CellsB M gi w) (hM : M ≤ 1000000) (hlo : lo ≤ gi) (hc : 64 ≤ ci) (hA : A = none → m = 0) : ∃ x : DiskD, DiskR w lo w.heap.size [.slice (some ⟨gi, 0, none⟩) 64 ci, .slice A 0 m, .bool false] x := by
  obtain ⟨c2, hc2, hc64, hcs⟩ := h
  have hgl := (Array.getElem?_eq_some_iff.1 hc2).1
  refine ⟨(List.ofFn (fun j : Fin 64 => Classical.choose (hcs j.1 j.2)), [], false), ⟨_, _, _, _, _, _, rfl, ⟨by simp, hc, by unfold maxLen; omega, Nat.le_refl _, (fun h => by cases h), fun _ => ⟨gi, 0, rfl, hlo, hgl, fun j x hx => ?_⟩⟩, ⟨rfl, Nat.zero_le _, Nat.zero_le _, Nat.le_refl _, hA, fun h => absurd h (Nat.lt_irrefl _)⟩⟩⟩
  simp only [List.getElem?_ofFn] at hx
  split at hx
  · rename_i hj
    have e := Option.some.inj hx
    have hp := Classical.choose_spec (hcs j hj)
    subst e
    refine ⟨[.string _], rfl, fun t v hv => ?_, rfl, Nat.le_trans hp.2 (by unfold maxLen; omega)⟩
    match t, hv with
    | 0, hv =>
      simp at hv; subst hv
      rw [Nat.mul_one, Nat.add_zero, Nat.zero_add, cell_of_row _ _ _ _ _ (0, 0) hc2]; exact hp.1
    | t + 1, hv => simp at hv
  · cases hx
theorem RaidW.a {M g lo : Nat} {w : World} (h : RaidW M g lo w) (hM : M ≤ 1000000) : RaidA g lo w := by
  obtain ⟨cur, h1, h2, h3⟩ := h
  refine ⟨cur, h1, h2, fun i hi => ?_⟩
  obtain ⟨gi, ci, m, A, a1, a2, a3, a4, a5, a6, a7, a8⟩ := h3 i hi
  obtain ⟨x, hx⟩ := disk_cells a4 hM a5 a7 a8
  refine ⟨_, x, fun j v hv => ?_, hx⟩
  match j, hv with
  | 0, hv => simp at hv; subst hv; exact a1
  | 1, hv => simp at hv; subst hv; exact a2
  | 2, hv => simp at hv; subst hv; exact a3
  | j + 3, hv => simp at hv
/-- A disk laid in place of one of them. -/
theorem RaidW.put {M g lo k lo2 : Nat} {w W : World} {cs : List Value} {x : DiskD} (h : RaidW M g lo w) (hM : M ≤ 1000000) (hd : DiskR w lo2 w.heap.size cs x) (h2 : lo ≤ lo2) (h3 : g < lo2)
    (hW : W.heap.size = w.heap.size) (hk : ∀ i, i ≠ g → W.heap[i]? = w.heap[i]?) (hgW : ∀ cur, w.heap[g]? = some (.cells cur 70 (0, 0)) → W.heap[g]? = some (.cells (putAt cur (k * 3) cs) 70 (0, 0))) : RaidA g lo W := by
  obtain ⟨cur, c1, c2, c3⟩ := h
  have hl := hd.len
  refine ⟨_, hgW cur c1, by rw [putAt_size]; exact c2, fun i hi => ?_⟩
  by_cases e : i = k
  · subst e
    refine ⟨cs, x, fun j v hv => ?_, ?_⟩
    · have hj := (List.getElem?_eq_some_iff.1 hv).1
      exact putAt_in cs cur (i * 3) j v (by omega) hv
    · have hk2 := DiskR.keep (fun b b1 b2 => hk b (by omega)) (Nat.le_of_eq hW.symm) _ _ hd
      exact DiskR.wide h2 (by omega) (Nat.le_refl _) _ _ hk2
  · obtain ⟨gi, ci, m, A, a1, a2, a3, a4, a5, a6, a7, a8⟩ := c3 i hi
    obtain ⟨x, hx⟩ := disk_cells (a4.keep (hk gi a6)) hM a5 a7 a8
    have ho : ∀ j, j < 3 → (putAt cur (k * 3) cs)[i * 3 + j]? = cur[i * 3 + j]? := fun j hj => putAt_out _ _ _ _ (by omega)
    refine ⟨_, x, fun j v hv => ?_, hx⟩
    match j, hv with
    | 0, hv => simp at hv; subst hv; exact (ho 0 (by omega)).trans a1
    | 1, hv => simp at hv; subst hv; exact (ho 1 (by omega)).trans a2
    | 2, hv => simp at hv; subst hv; exact (ho 2 (by omega)).trans a3
    | j + 3, hv => simp at hv
theorem RaidA.r {g lo c : Nat} {w : World} (h : RaidA g lo w) (hg : lo ≤ g) (hc : 3 ≤ c) (hm : c ≤ maxLen) : ∃ x : RaidD, x.length = 3 ∧ RaidR w lo w.heap.size [.slice (some ⟨g, 0, none⟩) 3 c] x := by
  have hl := h.lt
  obtain ⟨cur, h1, h2, h3⟩ := h
  refine ⟨List.ofFn (fun i : Fin 3 => Classical.choose (Classical.choose_spec (h3 i.1 i.2))), by simp, ⟨_, _, _, rfl, ⟨by simp, hc, by unfold maxLen; omega, Nat.le_refl _, (fun h => by cases h), fun _ => ⟨g, 0, rfl, hg, hl, fun j x hx => ?_⟩⟩⟩⟩
  rw [List.getElem?_ofFn] at hx
  split at hx
  · rename_i hj
    have e := Option.some.inj hx
    have hp := Classical.choose_spec (Classical.choose_spec (h3 j hj))
    subst e
    refine ⟨Classical.choose (h3 j hj), DiskR.len hp.2, fun t v hv => ?_, hp.2⟩
    rw [Nat.zero_add, cell_of_row _ _ _ _ _ (0, 0) h1]
    exact hp.1 t v hv
  · cases hx
/-- Three new disks are so. -/
theorem RaidN.w {w : World} {lo hi : Nat} {A : Option Addr} {n c : Nat} (h : RaidN w lo hi [.slice A n c] newR) : ∃ g, A = some ⟨g, 0, none⟩ ∧ n = 3 ∧ 3 ≤ c ∧ c ≤ maxLen ∧ lo ≤ g ∧ g < hi ∧ RaidW 10000 g lo w := by
  have hn : n = 3 := by
    obtain ⟨A', n', c', o, e, h0, h1⟩ := h
    injection e with e _; injection e with e1 e2 e3; subst e1 e2 e3
    have := h0.len
    simpa [newR] using this.symm
  subst hn
  obtain ⟨g, cur, o, rfl, hg1, hg2, hg3, hg4, hg5, hg6, hg7, hg8, hg9⟩ := h.arr (by omega)
  refine ⟨g, rfl, rfl, hg5, hg6, hg1, hg2, cur, hg3, by omega, fun i hi => ?_⟩
  obtain ⟨cs, hcl, hcc, hD⟩ := hg9 i newD (newR_get hi)
  obtain ⟨A0, n0, c0, A1, n1, c1, rfl, h0, k0, h1, k1⟩ := hD.1
  have e0 := hcc 0 _ rfl
  have e1 := hcc 1 _ rfl
  have e2 := hcc 2 _ rfl
  obtain rfl : n0 = 64 := by have := h0.len; simpa [newD] using this.symm
  obtain rfl : n1 = 0 := by have := h1.len; simpa [newD] using this.symm
  rcases k0 with ⟨h00, _⟩ | ⟨gi, cu, rfl, b1, b2, hb, hcs, hgc, hcm⟩
  · omega
  have hC64 : CellsB 10000 gi w := by
    refine ⟨cu, hb, by omega, fun j hj => ?_⟩
    obtain ⟨b, off, hA, _, _, _, hcc⟩ := h0.at_ (by omega)
    injection hA with e; injection e with e1 e2; subst e1 e2
    obtain ⟨cs, hcl, hcv, hr⟩ := hcc j ByteArray.empty (by simp only [newD]; rw [List.getElem?_replicate, if_pos hj])
    obtain ⟨rfl, hsz⟩ := hr
    have hsz : ByteArray.empty.size ≤ 10000 := by decide
    have e := hcv 0 _ rfl
    rw [Nat.zero_add, Nat.mul_one, Nat.add_zero, cell_of_row _ _ j _ _ (0, 0) hb] at e
    exact ⟨_, e, hsz⟩
  refine ⟨gi, c0, c1, A1, by simpa using e0, e1, e2, hC64, b1, fun e => ?_, hgc, h1.2.2.2.2.1⟩
  subst e
  rw [hb] at hg3
  simp at hg3
/-- Drawn disks: the result's block, the box bx, the disks. -/
structure Base93 (R : World → Prop) (w : World) (p bx g c : Nat) (wr : World) : Prop where
  chg : Chg (· ∈ [p]) w wr
  res : wr.heap[w.heap.size]? = some (.cells #[.slice none 0 0] 25 (0, 0))
  box : wr.heap[bx]? = some (.cells #[.slice (some ⟨g, 0, none⟩) 3 c] 25 (0, 0))
  raid : R wr
abbrev B93 (M : Nat) (w : World) (p bx g c lo : Nat) (wr : World) : Prop := Base93 (RaidW M g lo) w p bx g c wr
abbrev A93 (w : World) (p bx g c lo : Nat) (wr : World) : Prop := Base93 (RaidA g lo) w p bx g c wr
theorem B93.step {M p bx g c lo : Nat} {w wr w' : World} (h : B93 M w p bx g c lo wr) (hc : Chg (· ∈ [p]) wr w') (hp : p < w.heap.size) (hlo : w.heap.size < lo) (hg : lo ≤ g) (hb : lo ≤ bx) : B93 M w p bx g c lo w' :=
  ⟨h.chg.trans hc, (hc.block _ (Array.getElem?_eq_some_iff.1 h.res).1 (by simp; omega)).trans h.res, (hc.block _ (Array.getElem?_eq_some_iff.1 h.box).1 (by simp; omega)).trans h.box, h.raid.chg hg hc (by omega)⟩
theorem B93.ne {M p bx g c lo gi : Nat} {w wr : World} (h : B93 M w p bx g c lo wr) (hC : CellsB M gi wr) : bx ≠ gi ∧ w.heap.size ≠ gi := by
  obtain ⟨cur, h1, _⟩ := hC
  constructor
  · rintro rfl; have := h1.symm.trans h.box; simp at this
  · rintro rfl; have := h1.symm.trans h.res; simp at this
theorem B93.put {M p bx g c lo gi ci i r : Nat} {w wr : World} {s : ByteArray} (h : B93 M w p bx g c lo wr) (hi : i < 3) (hc : wr.cell? ⟨g, i * 3, none⟩ = some (.slice (some ⟨gi, 0, none⟩) 64 ci)) (hC : CellsB M gi wr) (hs : s.size ≤ M) (hlo : w.heap.size < lo) (hgi : lo ≤ gi) : B93 M w p bx g c lo (wr.setCell ⟨gi, r, none⟩ (.string s)) :=
  ⟨Chg.setCell (p := ⟨gi, r, none⟩) h.chg (.inr (by show w.heap.size ≤ gi; omega)) _, (heap_far (h.ne hC).2).trans h.res, (heap_far (h.ne hC).1).trans h.box, h.raid.set hi hc hs⟩
theorem B93.a {M p bx g c lo : Nat} {w wr : World} (h : B93 M w p bx g c lo wr) (hM : M ≤ 1000000) : A93 w p bx g c lo wr := ⟨h.chg, h.res, h.box, h.raid.a hM⟩
end Go.Proofs.YtggdjiklgakfnaaGreatDoor
