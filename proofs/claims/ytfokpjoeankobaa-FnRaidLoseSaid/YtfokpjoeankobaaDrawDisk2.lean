/- l91Disk: a drawn disk. No condition. -/
import Derived.Test.YtfokpjoeankobaaDrawCells
import Derived.Test.YtfokpjoeankobaaDiskLose
import Derived.Test.YtfokpjoeankobaaLib
namespace Go.Proofs.Ytfokpjoeankobaa
set_option linter.unnecessarySimpa false
open Go.RowKit
set_option linter.unusedVariables false
set_option linter.unusedSimpArgs false

theorem infoE_WaitD : (Try.prog.info? 63).map (fun i => (i.zero, i.size, i.bytes)) = some (some (.agg #[.int .i64 0, .string ⟨#[]⟩]), 2, 24) := by kernel_rfl
/-- Block g holds 64 strings. -/
def Cells64 (g : Nat) (w : World) : Prop := ∃ cur, w.heap[g]? = some (.cells cur 9 (0, 0)) ∧ 64 ≤ cur.size ∧ ∀ i, i < 64 → ∃ s : ByteArray, cur[i]? = some (.string s) ∧ s.size ≤ maxLen
theorem Cells64.set {g r : Nat} {w : World} {s : ByteArray} (h : Cells64 g w) (hs : s.size ≤ maxLen) : Cells64 g (w.setCell ⟨g, r, none⟩ (.string s)) := by
  obtain ⟨cur, h1, h2, h3⟩ := h
  refine ⟨_, block_set h1, by simpa using h2, fun i hi => ?_⟩
  rw [Array.getElem?_setIfInBounds]
  split
  · rw [if_pos (by omega)]; exact ⟨s, rfl, hs⟩
  · exact h3 i hi
theorem Cells64.keep {g : Nat} {w w' : World} (h : Cells64 g w) (hk : w'.heap[g]? = w.heap[g]?) : Cells64 g w' := by
  obtain ⟨cur, h1, h2⟩ := h
  exact ⟨cur, hk.trans h1, h2⟩
theorem Cells64.lt {g : Nat} {w : World} (h : Cells64 g w) : g < w.heap.size := by obtain ⟨cur, h1, _⟩ := h; exact (Array.getElem?_eq_some_iff.1 h1).1
theorem Cells64.at_ {g r : Nat} {w : World} (h : Cells64 g w) (hr : r < 64) : ∃ s : ByteArray, w.cell? ⟨g, r, none⟩ = some (.string s) ∧ w.frozen? ⟨g, r, none⟩ = false := by
  obtain ⟨cur, h1, h2, h3⟩ := h
  obtain ⟨s, hs, _⟩ := h3 r hr
  exact ⟨s, (cell_of_row _ _ r _ _ (0, 0) h1).trans hs, block_free h1 _⟩
/-- The reader goes on; block g holds 64 strings as before. -/
def GoesC (p g : Nat) (a b : World) : Prop := Chg (· ∈ [p, g]) a b ∧ (Cells64 g a → Cells64 g b)
theorem GoesC.refl (p g : Nat) (a : World) : GoesC p g a a := ⟨Chg.refl _ _, id⟩
theorem GoesC.trans {p g : Nat} {a b c : World} (h : GoesC p g a b) (k : GoesC p g b c) : GoesC p g a c := ⟨h.1.trans k.1, fun x => k.2 (h.2 x)⟩
theorem GoesC.of {p g : Nat} {a b : World} (h : Chg (· ∈ [p]) a b) (hpg : p ≠ g) : GoesC p g a b :=
  ⟨h.mono (fun k _ hk => by simp at hk ⊢; exact .inl hk), fun x => x.keep (h.block g x.lt (by simpa using hpg.symm))⟩
section
variable {S : World → World → Prop}
def natS (m : Nat) : BStP S := ⟨fun v _ => ∃ r : Nat, v = .int .i64 (r : Int) ∧ r < m, fun _ _ _ _ h => h⟩
def strS (m : Nat) : BStP S := ⟨fun v _ => ∃ s : ByteArray, v = .string s ∧ s.size ≤ m, fun _ _ _ _ h => h⟩
def ptrS64 (g : Nat) : BStP S := ⟨fun v _ => ∃ r : Nat, v = .pointer (some ⟨g, r, none⟩) ∧ r < 64, fun _ _ _ _ h => h⟩
def anyS : BStP S := ⟨fun _ _ => True, fun _ _ _ _ h => h⟩
end
/-- The waiting writes, in memory of the call's own. -/
def WaitsAt (S : List Nat) (B : Option Addr) (m d : Nat) (ws : List WaitD) (w : World) : Prop :=
  OwnA w 63 2 S B m d (ws.flatMap fun x => [Value.int .i64 x.1, .string x.2]) ∧ ws.length = m ∧ ∀ x ∈ ws, x.2.size ≤ maxLen
theorem Rd.setOld {w0 w' : World} {p : Nat} {A : Option Addr} {n c : Nat} {zs : List Int} {k k0 : Nat} (h0 : Rd w0 p A n c zs k0) (h : Rd w' p A n c zs k) {a : Addr} (hb : w0.heap.size ≤ a.block) (v : Value) : Rd (w'.setCell a v) p A n c zs k :=
  h.keep (by simp [World.setCell]) fun b _ hbp => heap_far (by
    rcases hbp with rfl | ⟨hn, off, hA⟩
    · have := h0.2.2.2.1; omega
    · have := h0.old hn hA; omega)
/-- The disk as it is drawn: r: the result's block, t: the disk's box, g: the cells. -/
structure DBase (w : World) (p t g c0 : Nat) (S : List Nat) (B : Option Addr) (m d : Nat) (ws : List WaitD) (wr : World) : Prop where
  chg : Chg (· ∈ [p]) w wr
  res : wr.heap[w.heap.size]? = some (.cells #[.slice none 0 0, .slice none 0 0, .bool false] 45 (0, 0))
  box : wr.heap[t]? = some (.cells #[.slice (some ⟨g, 0, none⟩) 64 c0, .slice B m d, .bool false] 45 (0, 0))
  waits : WaitsAt S B m d ws wr
  cells : Cells64 g wr
  own : ∀ b ∈ S, w.heap.size < b ∧ b ≠ t ∧ b ≠ g
theorem chg_own {p : Nat} {T : List Nat} {w a b : World} (h : Chg (· ∈ [p]) w a) (k : Chg (· ∈ T) a b) (hT : ∀ x ∈ T, x = p ∨ w.heap.size ≤ x) : Chg (· ∈ [p]) w b :=
  ⟨k.os.trans h.os, k.tape.trans h.tape, k.output.trans h.output, Nat.le_trans h.size k.size, fun i hi hp => (k.block i (Nat.lt_of_lt_of_le hi h.size) (fun hm => by
    rcases hT i hm with rfl | h2
    · simp at hp
    · omega)).trans (h.block i hi hp)⟩
theorem DBase.cellsStep {w wr w9 : World} {p t g c0 : Nat} {S : List Nat} {B : Option Addr} {m d : Nat} {ws : List WaitD} (h : DBase w p t g c0 S B m d ws wr) (hp : p < w.heap.size) (hg : w.heap.size < g) (ht : w.heap.size < t) (htg : t ≠ g) (k : GoesC p g wr w9) : DBase w p t g c0 S B m d ws w9 := by
  have hr := (Array.getElem?_eq_some_iff.1 h.res).1
  have htl := (Array.getElem?_eq_some_iff.1 h.box).1
  refine ⟨chg_own h.chg k.1 (fun x hx => by simp at hx; omega), (k.1.block _ hr (by simp; omega)).trans h.res, (k.1.block _ htl (by simp; omega)).trans h.box, ⟨h.waits.1.keep (fun b hb => k.1.block b (h.waits.1.lt b hb) (by have := h.own b hb; simp; omega)), h.waits.2⟩, k.2 h.cells, h.own⟩
theorem DBase.pStep {w wr w9 : World} {p t g c0 : Nat} {S : List Nat} {B : Option Addr} {m d : Nat} {ws : List WaitD} (h : DBase w p t g c0 S B m d ws wr) (hp : p < w.heap.size) (hg : w.heap.size < g) (ht : w.heap.size < t) (htg : t ≠ g) (k : Chg (· ∈ [p]) wr w9) : DBase w p t g c0 S B m d ws w9 :=
  h.cellsStep hp hg ht htg (GoesC.of k (by omega))
section
variable {w0 : World} {p t : Nat} {L : List Nat}
def natM (m : Nat) : MStP (Chg (· ∈ L)) (Chg (· ∈ [p])) := ⟨fun v _ => ∃ r : Nat, v = .int .i64 (r : Int) ∧ r < m, true, fun _ _ _ _ h => h, fun _ _ _ _ _ h => h⟩
def strM (m : Nat) : MStP (Chg (· ∈ L)) (Chg (· ∈ [p])) := ⟨fun v _ => ∃ s : ByteArray, v = .string s ∧ s.size ≤ m, true, fun _ _ _ _ h => h, fun _ _ _ _ _ h => h⟩
def waitM : MStP (Chg (· ∈ L)) (Chg (· ∈ [p])) := ⟨fun v _ => ∃ (x : Int) (s : ByteArray), v = .agg #[.int .i64 x, .string s] ∧ s.size ≤ 9, true, fun _ _ _ _ h => h, fun _ _ _ _ _ h => h⟩
def litM (hp : p ∈ L) : MStP (Chg (· ∈ L)) (Chg (· ∈ [p])) := ⟨fun v w => ∃ (g : Nat) (x : Int) (s : ByteArray), v = .slice (some ⟨g, 0, none⟩) 1 1 ∧ g ∉ L ∧ s.size ≤ 9 ∧ w.heap[g]? = some (.cells #[.int .i64 x, .string s] 63 (0, 0)), true,
  fun v w w' hc ⟨g, x, s, e, hg, hs, hb⟩ => ⟨g, x, s, e, hg, hs, (hc.block g (Array.getElem?_eq_some_iff.1 hb).1 (fun hm => by simp at hm; subst hm; exact hg hp)).trans hb⟩,
  fun _ v w w' hc ⟨g, x, s, e, hg, hs, hb⟩ => ⟨g, x, s, e, hg, hs, (hc.block g (Array.getElem?_eq_some_iff.1 hb).1 hg).trans hb⟩⟩
def intM : MStP (Chg (· ∈ L)) (Chg (· ∈ [p])) := ⟨fun v _ => ∃ x : Int, v = .int .i64 x, true, fun _ _ _ _ h => h, fun _ _ _ _ _ h => h⟩
def TwoAt (L : List Nat) (g : Nat) (w : World) : Prop := g ∉ L ∧ w.heap[g]? = some (.cells #[.int .i64 (-1), .int .i64 64] 3 (0, 0))
theorem TwoAt.keep {L T : List Nat} {g : Nat} {w w' : World} (h : TwoAt L g w) (hc : Chg (· ∈ T) w w') (hT : ∀ b ∈ T, b ∈ L) : TwoAt L g w' := ⟨h.1, (hc.block g (Array.getElem?_eq_some_iff.1 h.2).1 (fun hm => h.1 (hT g hm))).trans h.2⟩
def litI (hp : p ∈ L) : MStP (Chg (· ∈ L)) (Chg (· ∈ [p])) := ⟨fun v w => ∃ g : Nat, v = .slice (some ⟨g, 0, none⟩) 2 2 ∧ TwoAt L g w, true, fun v w w' hc ⟨g, e, h⟩ => ⟨g, e, h.keep hc (fun b hb => by simp at hb; subst hb; exact hp)⟩, fun _ v w w' hc ⟨g, e, h⟩ => ⟨g, e, h.keep hc (fun b hb => hb)⟩⟩
def ptrI (hp : p ∈ L) : MStP (Chg (· ∈ L)) (Chg (· ∈ [p])) := ⟨fun v w => ∃ g r : Nat, v = .pointer (some ⟨g, r, none⟩) ∧ r < 2 ∧ TwoAt L g w, true, fun v w w' hc ⟨g, r, e, hr, h⟩ => ⟨g, r, e, hr, h.keep hc (fun b hb => by simp at hb; subst hb; exact hp)⟩, fun _ v w w' hc ⟨g, r, e, hr, h⟩ => ⟨g, r, e, hr, h.keep hc (fun b hb => hb)⟩⟩
def GrownAt (S : List Nat) (Z m : Nat) (ws : List WaitD) (B' : Option Addr) (d' : Nat) (w : World) : Prop :=
  ∃ (S' : List Nat) (x : Int) (s : ByteArray), WaitsAt S' B' (m + 1) d' (ws ++ [(x, s)]) w ∧ ∀ b ∈ S', b ∈ S ∨ Z ≤ b
theorem GrownAt.keep {S : List Nat} {Z m : Nat} {ws : List WaitD} {B' : Option Addr} {d' : Nat} {w w' : World} (h : GrownAt S Z m ws B' d' w) {T : List Nat} (hc : Chg (· ∈ T) w w') (h1 : ∀ b ∈ T, b ∉ S) (h2 : ∀ b ∈ T, b < Z) : GrownAt S Z m ws B' d' w' := by
  obtain ⟨S', x, s, ho, hs⟩ := h
  exact ⟨S', x, s, ⟨ho.1.keep fun b hb => hc.block b (ho.1.lt b hb) (fun hm => by rcases hs b hb with h | h; exact h1 b hm h; have := h2 b hm; omega), ho.2⟩, hs⟩
def appM (S : List Nat) (Z m : Nat) (ws : List WaitD) (hS : p ∉ S) (hZ : p < Z) : MStP (Chg (· ∈ L)) (Chg (· ∈ [p])) := ⟨fun v w => ∃ B' d', v = .slice B' (m + 1) d' ∧ GrownAt S Z m ws B' d' w, false,
  fun v w w' hc ⟨B', d', e, h⟩ => ⟨B', d', e, h.keep hc (fun b hb => by simp at hb; subst hb; exact hS) (fun b hb => by simp at hb; omega)⟩, fun h => by cases h⟩
def boxM (g c0 : Nat) (S : List Nat) (Z m : Nat) (ws : List WaitD) (hS : p ∉ S) (hZ : p < Z) (hpt : p ≠ t) : MStP (Chg (· ∈ L)) (Chg (· ∈ [p])) := ⟨fun _ w => ∃ B' d', w.heap[t]? = some (.cells #[.slice (some ⟨g, 0, none⟩) 64 c0, .slice B' (m + 1) d', .bool false] 45 (0, 0)) ∧ GrownAt S Z m ws B' d' w, false,
  fun v w w' hc ⟨B', d', e, h⟩ => ⟨B', d', (hc.block t (Array.getElem?_eq_some_iff.1 e).1 (by simp; omega)).trans e, h.keep hc (fun b hb => by simp at hb; subst hb; exact hS) (fun b hb => by simp at hb; omega)⟩, fun h => by cases h⟩
end
theorem WaitsAt.grow {S S' : List Nat} {B B' : Option Addr} {m d d' : Nat} {ws : List WaitD} {w w' : World} {x : Int} {s : ByteArray} (h : WaitsAt S B m d ws w) (hs : s.size ≤ maxLen) (h' : OwnA w' 63 2 S' B' (m + 1) d' ((ws.flatMap fun x => [Value.int .i64 x.1, .string x.2]) ++ [.int .i64 x, .string s])) : WaitsAt S' B' (m + 1) d' (ws ++ [(x, s)]) w' :=
  ⟨by simpa using h', by simp [h.2.1], fun y hy => by
    rcases List.mem_append.1 hy with hy | hy
    · exact h.2.2 y hy
    · simp at hy; subst hy; exact hs⟩
theorem row_waits {w : World} {lo hi : Nat} : ∀ ws : List WaitD, (∀ x ∈ ws, x.2.size ≤ maxLen) → RowV (WaitR w lo hi) 2 (ws.flatMap fun x => [Value.int .i64 x.1, .string x.2]) ws
  | [], _ => RowV.nil _ _
  | x :: ws, h => by
    have h1 : RowV (WaitR w lo hi) 2 [Value.int .i64 x.1, .string x.2] [x] := RowV.one rfl ⟨rfl, h x (by simp)⟩
    have := RowV.append h1 (row_waits ws (fun y hy => h y (by simp [hy]))) rfl
    simpa using this
theorem disk_fin {W : World} {g c0 lo o m d : Nat} {S : List Nat} {B : Option Addr} {ws : List WaitD} (gone : Bool) (hC : Cells64 g W) (hW : WaitsAt S B m d ws W) (hlo : lo ≤ g) (hS : ∀ b ∈ S, lo ≤ b) (ho : o ≤ 64) (hc : 64 ≤ c0) :
    ∃ x : DiskD, DiskR W lo W.heap.size [.slice (some ⟨g, o, none⟩) (64 - o) (c0 - o), .slice B m d, .bool gone] x ∧ x.1.length ≤ 64 ∧ x.2.1.length = m := by
  have hgl := hC.lt
  obtain ⟨cur, hg, h64, hs⟩ := hC
  have hx : ∃ xs : List ByteArray, xs.length = 64 - o ∧ ∀ j s, xs[j]? = some s → cur[o + j]? = some (.string s) ∧ s.size ≤ maxLen := by
    refine ⟨List.ofFn (fun j : Fin (64 - o) => Classical.choose (hs (o + j.1) (by omega))), by simp, fun j s hj => ?_⟩
    rw [List.getElem?_ofFn] at hj
    split at hj
    · rename_i hlt
      have e := Option.some.inj hj
      have := Classical.choose_spec (hs (o + j) (by omega))
      rw [← e]
      exact this
    · cases hj
  obtain ⟨xs, hxl, hxs⟩ := hx
  have h2 := (hW.1.slice (R := WaitR) (lo := lo) (hi := W.heap.size) hW.2.1 (row_waits ws hW.2.2) (fun b hb => ⟨hS b hb, hW.1.lt b hb⟩) (Nat.le_refl _)).1
  refine ⟨(xs, ws, gone), ⟨_, _, _, _, _, _, rfl, ⟨hxl, by omega, by unfold maxLen; omega, Nat.le_refl _, (fun h => by cases h), fun _ => ⟨g, o, rfl, hlo, hgl, fun j x hj => ?_⟩⟩, h2⟩, by simp only; omega, hW.2.1⟩
  obtain ⟨e, hsz⟩ := hxs j x hj
  refine ⟨[.string x], rfl, fun i v hv => ?_, rfl, hsz⟩
  match i, hv with
  | 0, hv =>
    simp at hv; subst hv
    rw [Nat.mul_one, Nat.add_zero, cell_of_row _ _ _ _ _ (0, 0) hg, e]
  | i + 1, hv => simp at hv
theorem set3D {w : World} {r T : Nat} {v0 v1 v2 x0 x1 x2 : Value} (h : w.heap[r]? = some (.cells #[v0, v1, v2] T (0, 0))) :
    (((w.setCell ⟨r, 0, none⟩ x0).setCell ⟨r, 1, none⟩ x1).setCell ⟨r, 2, none⟩ x2).heap[r]? = some (.cells #[x0, x1, x2] T (0, 0)) := by
  have h1 : (w.setCell ⟨r, 0, none⟩ x0).heap[r]? = some (.cells #[x0, v1, v2] T (0, 0)) := block_set (o := 0) (v := x0) h
  have h2 : ((w.setCell ⟨r, 0, none⟩ x0).setCell ⟨r, 1, none⟩ x1).heap[r]? = some (.cells #[x0, x1, v2] T (0, 0)) := block_set (o := 1) (v := x1) h1
  exact block_set (o := 2) (v := x2) h2
theorem Cells64.far {g : Nat} {w : World} (h : Cells64 g w) {a : Addr} (ha : g ≠ a.block) (v : Value) : Cells64 g (w.setCell a v) := h.keep (heap_far ha)
theorem WaitsAt.far {S : List Nat} {B : Option Addr} {m d : Nat} {ws : List WaitD} {w : World} (h : WaitsAt S B m d ws w) {a : Addr} (ha : a.block ∉ S) (v : Value) : WaitsAt S B m d ws (w.setCell a v) := ⟨h.1.keep fun b hb => heap_far (fun e => ha (e ▸ hb)), h.2⟩
theorem DBase.grow {w w5 w7 : World} {p t g c0 : Nat} {S S' : List Nat} {B A' : Option Addr} {m d c' : Nat} {ws : List WaitD} {X : Int} {s : ByteArray} {o : Obj} (h : DBase w p t g c0 S B m d ws w5) (hgw : w.heap.size < g) (htw : w.heap.size < t) (hgt : t ≠ g) (hs : s.size ≤ maxLen)
    (hO : OwnA w7 63 2 S' A' (m + 1) c' ((ws.flatMap fun x => [Value.int .i64 x.1, .string x.2]) ++ [.int .i64 X, .string s])) (hS' : ∀ b ∈ S', b ∈ S ∨ w5.heap.size ≤ b) (hC' : Chg (· ∈ S) (w5.alloc o) w7) :
    w7.heap[t]? = some (.cells #[.slice (some ⟨g, 0, none⟩) 64 c0, .slice B m d, .bool false] 45 (0, 0)) ∧ DBase w p t g c0 S' A' (m + 1) c' (ws ++ [(X, s)]) (w7.setCell ⟨t, 1, none⟩ (.slice A' (m + 1) c')) := by
  have hrl := (Array.getElem?_eq_some_iff.1 h.res).1
  have htl := (Array.getElem?_eq_some_iff.1 h.box).1
  have hgl := h.cells.lt
  have htS : t ∉ S := fun hm => by have := h.own t hm; omega
  have hgS : g ∉ S := fun hm => by have := h.own g hm; omega
  have hrS : w.heap.size ∉ S := fun hm => by have := h.own _ hm; omega
  have hz : (w5.alloc o).heap.size = w5.heap.size + 1 := by simp
  have hbt := (hC'.block t (by omega) htS).trans ((Below.heap_alloc w5 o t htl).trans h.box)
  have htS' : t ∉ S' := fun hm => by rcases hS' t hm with h | h; exact htS h; omega
  refine ⟨hbt, Chg.setCell (p := ⟨t, 1, none⟩) (chg_own (h.chg.alloc o) hC' (fun x hx => .inr (Nat.le_of_lt (h.own x hx).1))) (.inr (Nat.le_of_lt htw)) _, (heap_far (by show w.heap.size ≠ t; omega)).trans ((hC'.block _ (by omega) hrS).trans ((Below.heap_alloc w5 o _ hrl).trans h.res)), block_set hbt, (h.waits.grow hs hO).far (a := ⟨t, 1, none⟩) htS' _, (h.cells.keep ((hC'.block g (by omega) hgS).trans (Below.heap_alloc w5 o g hgl))).far (a := ⟨t, 1, none⟩) (by exact fun e => hgt e.symm) _, fun b hb => ?_⟩
  rcases hS' b hb with h1 | h1
  · exact h.own b h1
  · omega
def boxLen (t : Nat) (w : World) : Nat := match w.cell? ⟨t, 1, none⟩ with | some (.slice _ l _) => l | _ => 0
theorem boxLen_eq {t l d : Nat} {w : World} {B : Option Addr} (h : w.cell? ⟨t, 1, none⟩ = some (.slice B l d)) : boxLen t w = l := by unfold boxLen; rw [h]
def boolS {S : World → World → Prop} (Q : Prop) : BStP S := ⟨fun v _ => ∃ b : Bool, v = .bool b ∧ (b = true → Q), fun _ _ _ _ h => h⟩
/-- A disk drawn. -/
def PickedDisk (w : World) (p : Nat) (A : Option Addr) (n c : Nat) (zs : List Int) (k : Nat) (e : Ending) (w' : World) : Prop :=
  ∃ (cs : List Value) (x : DiskD) (k' : Nat), e = .returned (.agg cs.toArray) ∧ DiskR w' w.heap.size w'.heap.size cs x ∧ x.1.length ≤ 64 ∧ x.2.1.length ≤ 200 ∧ k' ≤ k + 600 ∧ Rd w' p A n c zs k' ∧ Chg (· ∈ [p]) w w'
/-- What stands behind the three stores into the result. -/
theorem picked_fin {w W : World} {p : Nat} {A : Option Addr} {n c : Nat} {zs : List Int} {k k' g c0 o m d : Nat} {S : List Nat} {B : Option Addr} {ws : List WaitD} (gone : Bool) (h : Rd w p A n c zs k) (hg : w.heap.size < g) (hC : Cells64 g W) (hW : WaitsAt S B m d ws W) (hS : ∀ b ∈ S, w.heap.size < b) (ho : o ≤ 64) (hc : 64 ≤ c0) (hm : m ≤ 200)
    (hr : Rd W p A n c zs k') (hk : k' ≤ k + 600) (hch : Chg (· ∈ [p]) w W) {x0 x1 x2 : Value} :
    PickedDisk w p A n c zs k (.returned (.agg #[.slice (some ⟨g, o, none⟩) (64 - o) (c0 - o), .slice B m d, .bool gone])) (((W.setCell ⟨w.heap.size, 0, none⟩ x0).setCell ⟨w.heap.size, 1, none⟩ x1).setCell ⟨w.heap.size, 2, none⟩ x2) := by
  have hrS : w.heap.size ∉ S := fun hm => by have := hS _ hm; omega
  have hgr : g ≠ w.heap.size := by omega
  obtain ⟨x, hx, hl1, hl2⟩ := disk_fin (lo := w.heap.size) gone (((hC.far (a := ⟨w.heap.size, 0, none⟩) hgr x0).far (a := ⟨w.heap.size, 1, none⟩) hgr x1).far (a := ⟨w.heap.size, 2, none⟩) hgr x2) (((hW.far (a := ⟨w.heap.size, 0, none⟩) hrS x0).far (a := ⟨w.heap.size, 1, none⟩) hrS x1).far (a := ⟨w.heap.size, 2, none⟩) hrS x2) (Nat.le_of_lt hg) (fun b hb => Nat.le_of_lt (hS b hb)) ho hc
  exact ⟨_, x, k', rfl, hx, hl1, by omega, hk, Rd.setOld h (Rd.setOld h (Rd.setOld h hr (a := ⟨w.heap.size, 0, none⟩) (Nat.le_refl _) _) (a := ⟨w.heap.size, 1, none⟩) (Nat.le_refl _) _) (a := ⟨w.heap.size, 2, none⟩) (Nat.le_refl _) _,
    Chg.setCell (p := ⟨w.heap.size, 2, none⟩) (Chg.setCell (p := ⟨w.heap.size, 1, none⟩) (Chg.setCell (p := ⟨w.heap.size, 0, none⟩) hch (.inr (Nat.le_refl _)) _) (.inr (Nat.le_refl _)) _) (.inr (Nat.le_refl _)) _⟩
set_option maxRecDepth 100000 in
set_option maxHeartbeats 4000000 in
theorem l91Disk_any (w : World) (p : Nat) (A : Option Addr) (n c : Nat) (zs : List Int) (k : Nat) (h : Rd w p A n c zs k) (hk : k ≤ 500000) :
    Calls Try.prog 49 #[.pointer (some ⟨p, 0, none⟩)] w (PickedDisk w p A n c zs k) := by
  have hp := h.2.2.2.1
  go_enter Try.func49, Try.ntmps49
  go_wp2_with fail
  refine (pick_any _ p A n c zs k 12 (Rd.below h bel1) (by omega) (by omega) (by omega)).mono ?_
  rintro e w1 ⟨q1, rfl, hq1, rd1, hc1, hz1⟩
  have hq1 := hq1 (by omega)
  have zz1 : w.heap.size + 1 ≤ w1.heap.size := by have := hc1.size; simp at this; omega
  have X1 : Hid (Chg (· ∈ [p]) w w1) := Lib.hid (((Chg.refl _ _).alloc _).trans hc1)
  have b1 : w1.heap[w.heap.size]? = some (.cells #[.slice none 0 0, .slice none 0 0, .bool false] 45 (0, 0)) := (hc1.block _ (by simp) (by simp; omega)).trans (heap_alloc_new _ _)
  have l1 : w.heap.size < w1.heap.size := by omega
  clear hz1 hc1
  by_cases h0 : q1 = 0
  case pos =>
    have e0 : ((q1 : Int) == 0) = true := by simp [h0]
    clear h0
    have v0 := cell_of_row _ _ 0 _ _ (0, 0) b1
    go_wp2_with fail
    refine (spDiskLose_any _).mono ?_
    rintro e w2 ⟨cs, rfl, hN, hb2⟩
    have hR := hN.r
    obtain ⟨A0, n0, c0, A1, n1, c1, rfl, hx0, hx1⟩ := hR
    have hDR : DiskR w2 w1.heap.size w2.heap.size [.slice A0 n0 c0, .slice A1 n1 c1, .bool loseD.2.2] loseD := ⟨A0, n0, c0, A1, n1, c1, rfl, hx0, hx1⟩
    have HDR := Lib.hid hDR
    clear hDR hx0 hx1 hN
    have rd2 := rd1.below hb2
    have X2 := Lib.hid (X1.out.trans (Chg.of_below hb2 _))
    have z2 := hb2.size
    have b2 := (hb2.block _ l1).trans b1
    clear v0 hb2
    have v0 := cell_of_row _ _ 0 _ _ (0, 0) b2; have v1 := cell_of_row _ _ 1 _ _ (0, 0) b2; have v2 := cell_of_row _ _ 2 _ _ (0, 0) b2
    have fv := fun o => block_free b2 o
    have fv0 := fv 0; have fv1 := fv 1; have fv2 := fv 2
    clear fv
    have l2 : w.heap.size < w2.heap.size := by omega
    go_wp2_with fail
    have hst := set3D (x0 := .slice A0 n0 c0) (x1 := .slice A1 n1 c1) (x2 := .bool loseD.2.2) b2
    have r0 := cell_of_row _ _ 0 _ _ (0, 0) hst; have r1 := cell_of_row _ _ 1 _ _ (0, 0) hst; have r2 := cell_of_row _ _ 2 _ _ (0, 0) hst
    clear hst
    exact bodyPost_ret (v := .agg #[.slice A0 n0 c0, .slice A1 n1 c1, .bool loseD.2.2]) (by simp [results, Try.results49, go_sem, r0, r1, r2]) rfl
      ⟨_, loseD, k + 1, rfl, DiskR.wide (by omega) (by simp [World.setCell]) (Nat.le_refl _) _ _ (DiskR.keep (w := w2) (lo := w1.heap.size) (hi := w2.heap.size) (Same.setCell (p := ⟨w.heap.size, 2, none⟩) (Same.setCell (p := ⟨w.heap.size, 1, none⟩) (Same.setCell (p := ⟨w.heap.size, 0, none⟩) (Same.refl _ _ _) (.inl (by simp <;> omega)) _) (.inl (by simp <;> omega)) _) (.inl (by simp <;> omega)) _) (by simp [World.setCell]) _ _ HDR.out),
        by decide, by decide, by omega, Rd.setOld h (Rd.setOld h (Rd.setOld h rd2 (a := ⟨w.heap.size, 0, none⟩) (Nat.le_refl _) _) (a := ⟨w.heap.size, 1, none⟩) (Nat.le_refl _) _) (a := ⟨w.heap.size, 2, none⟩) (Nat.le_refl _) _,
        Chg.setCell (p := ⟨w.heap.size, 2, none⟩) (Chg.setCell (p := ⟨w.heap.size, 1, none⟩) (Chg.setCell (p := ⟨w.heap.size, 0, none⟩) X2.out (.inr (Nat.le_refl _)) _) (.inr (Nat.le_refl _)) _) (.inr (Nat.le_refl _)) _⟩
  have e0 : ((q1 : Int) == 0) = false := by simp [h0]
  clear h0
  go_wp2_with fail
  refine (spDiskNew_any _).mono ?_
  rintro e w2 ⟨cs, rfl, hN, hb2⟩
  have rd2 := rd1.below hb2
  have X2 := X1.out.trans (Chg.of_below hb2 _)
  have b2 := (hb2.block _ l1).trans b1
  have z2 := hb2.size
  -- the new disk's parts
  obtain ⟨A0, n0, c0, A1, n1, c1, rfl, h0, k0, h1, k1⟩ := hN
  obtain rfl : n0 = 64 := by have := h0.len; simpa [newD] using this.symm
  obtain rfl : n1 = 0 := by have := h1.len; simpa [newD] using this.symm
  rcases k0 with ⟨h00, _⟩ | ⟨g, cur, rfl, hg1, hg2, hg, hcs, hgc, hcm⟩
  · omega
  have hnd : newD.2.2 = false := rfl
  rw [hnd]
  have hW := h1.ownA k1 (by decide)
  obtain ⟨S, vs, hO, hvl, -, -, hSb⟩ := hW
  have hv0 : vs = [] := List.eq_nil_of_length_eq_zero (by rw [hvl]; rfl)
  subst hv0
  have hC64 : Cells64 g w2 := by
    refine ⟨cur, hg, by omega, fun i hi => ?_⟩
    obtain ⟨b, off, hA, _, _, _, hcc⟩ := h0.at_ (by omega)
    injection hA with e; injection e with e1 e2; subst e1 e2
    obtain ⟨cs, hcl, hcv, hr⟩ := hcc i ByteArray.empty (by simp only [newD]; rw [List.getElem?_replicate, if_pos hi])
    obtain ⟨rfl, hsz⟩ := hr
    have e := hcv 0 _ rfl
    rw [Nat.zero_add, Nat.mul_one, Nat.add_zero, cell_of_row _ _ i _ _ (0, 0) hg] at e
    exact ⟨_, e, hsz⟩
  have hSg : ∀ b ∈ S, b ≠ g := by
    intro b hb hbg
    subst hbg
    rcases hO.1 with ⟨hS0, _⟩ | ⟨g', cur', hS0, _, _, _, _, hg', _⟩
    · rw [hS0] at hb; simp at hb
    · rw [hS0] at hb
      simp at hb
      subst hb
      rw [hg] at hg'
      simp at hg'
  have HD : Hid (∀ w3, Chg (· ∈ [p]) (w2.alloc (.cells #[.slice (some ⟨g, 0, none⟩) 64 c0, .slice A1 0 c1, .bool false] 45)) w3 → DBase w p w2.heap.size g c0 S A1 0 c1 [] w3) := Lib.hid (fun w3 hc3 =>
    DBase.pStep (wr := w2.alloc (.cells #[.slice (some ⟨g, 0, none⟩) 64 c0, .slice A1 0 c1, .bool false] 45)) ⟨X2.alloc _, (Below.heap_alloc _ _ _ (by omega)).trans b2, heap_alloc_new _ _, ⟨hO.below bel1, rfl, by simp⟩, hC64.keep (Below.heap_alloc _ _ _ hg2), fun b hb => by have h2 := (hSb b hb).2.2; have h3 := hSg b hb; omega⟩ hp (by omega) (by omega) (by omega) hc3)
  have hgw : w.heap.size < g := by omega
  have htw : w.heap.size < w2.heap.size := by omega
  have hgt : w2.heap.size ≠ g := by omega
  clear hC64 hSg hO hSb h0 h1 k1 hg hcs hcm hg1 hnd X2 b2 X1 b1 hb2
  obtain ⟨t, ht⟩ : ∃ t, t = w2.heap.size := ⟨_, rfl⟩
  go_wp2_with fail
  refine (pick_any _ p A n c zs (k + 1) 8 (Rd.below rd2 bel1) (by omega) (by omega) (by omega)).mono ?_
  rintro e w3 ⟨q2, rfl, hq2, rd3, hc3, hz3⟩
  have hq2 := hq2 (by omega)
  have HB3 : Hid (DBase w p t g c0 S A1 0 c1 [] w3) := Lib.hid (by rw [ht]; exact HD.out w3 hc3)
  rw [← ht] at htw hgt ⊢
  clear HD hz3 hc3 rd2 rd1 z2 zz1 l1 ht hg2
  go_wp2_with fail
  go_loopw [4] (fun i wr => ∃ (j k0 : Nat), i = .int .i64 (j : Int) ∧ j ≤ 7 ∧ k0 + 21 * j ≤ k + 2 + 21 * 7 ∧ Hid (Rd wr p A n c zs k0) ∧ Hid (DBase w p t g c0 S A1 0 c1 [] wr)) (fun i _ => (intOf i).toNat)
  case atStart => exact ⟨q2, k + 1 + 1, rfl, by omega, by omega, Lib.hid rd3, HB3⟩
  case round =>
    obtain ⟨j, k0, rfl, hj, hk0, HR, HB⟩ := hrel
    clear HB3 rd3
    have btl : t < wr.heap.size := (Array.getElem?_eq_some_iff.1 HB.out.box).1
    by_cases hj0 : 0 < j
    · have j0 : (0 : Int) < (j : Int) := by omega
      have ct0 : wr.cell? ⟨t, 0, none⟩ = some (.slice (some ⟨g, 0, none⟩) 64 c0) := cell_of_row _ _ 0 _ _ (0, 0) HB.out.box
      go_wp2_with fail
      have Sr : ∀ a, GoesC p g a a := fun a => GoesC.refl _ _ a
      apply wp_region_rgb (GoesC p g) (fun w' k' => ∃ k1, k1 ≤ k0 + k' ∧ Rd w' p A n c zs k1) [0, 0, 0, 1, 0, 20, 0, 0] (by kernel_rfl) (false :: false :: false :: false :: false :: false :: false :: false :: false :: false :: false :: false :: false :: false :: false :: false :: false :: true :: true :: true :: true :: true :: true :: true :: false :: false :: false :: false :: false :: false :: false :: false :: false :: false :: false :: false :: false :: false :: false :: false :: false :: false :: false :: false :: false :: false :: false :: false :: false :: false :: false :: false :: false :: false :: false :: false :: false :: false :: false :: false :: false :: false :: false :: false :: false :: false :: false :: false :: false :: false :: false :: false :: false :: false :: false :: false :: false :: false :: false :: false :: false :: false :: false :: false :: false :: false :: false :: false :: false :: false :: false :: false :: false :: []) [some 17, some 18, some 19, some 20, some 21, some 22, some 23, none] [[], [0], [], [2], [], [4], [1, 3], [5, 6]] [BStP.is _, BStP.is _, BStP.is _, natS 64, BStP.is _, strS 9, ptrS64 g, anyS] (by kernel_rfl)
      case hobs =>
        refine ⟨fun y w' k hS hj hk hF K hK => ?_, ?_⟩
        · skip -- 0: fieldAddr
          simp only [fillL, cond_true, cond_false, List.getD_cons_zero, List.getD_cons_succ, StP.is, Act.put, List.setIfInBounds_toArray, List.set_cons_zero, List.set_cons_succ, Nat.reduceAdd, BStP.is, Option.isSome_some, Option.isSome_none] at hK ⊢
          simp only [List.sum_cons, List.sum_nil, List.getD_cons_zero, List.getD_cons_succ, Nat.reduceAdd, Nat.add_zero] at hk
          refine rg_yes (by kernel_rfl) ?_
          clear hF
          go_simp
          exact hK _ _ (Sr _) (by simpa using hj) rfl
        refine ⟨fun y w' k hS hj hk hF K hK => ?_, ?_⟩
        · skip -- 1: load
          have e17 : y 17 = _ := hF.1
          simp only [fillL, cond_true, cond_false, List.getD_cons_zero, List.getD_cons_succ, StP.is, Act.put, List.setIfInBounds_toArray, List.set_cons_zero, List.set_cons_succ, Nat.reduceAdd, e17, BStP.is, Option.isSome_some, Option.isSome_none] at hK ⊢
          simp only [List.sum_cons, List.sum_nil, List.getD_cons_zero, List.getD_cons_succ, Nat.reduceAdd, Nat.add_zero] at hk
          refine rg_yes (by kernel_rfl) ?_
          clear e17
          clear hF
          have qt := (World.cell?_of_block (a := ⟨t, 0, none⟩) (hS.1.block t btl (by simp; omega))).trans ct0
          go_simp
          exact hK _ _ (Sr _) (by simpa using hj) rfl
        refine ⟨fun y w' k hS hj hk hF K hK => ?_, ?_⟩
        · skip -- 2: move
          simp only [fillL, cond_true, cond_false, List.getD_cons_zero, List.getD_cons_succ, StP.is, Act.put, List.setIfInBounds_toArray, List.set_cons_zero, List.set_cons_succ, Nat.reduceAdd, BStP.is, Option.isSome_some, Option.isSome_none] at hK ⊢
          simp only [List.sum_cons, List.sum_nil, List.getD_cons_zero, List.getD_cons_succ, Nat.reduceAdd, Nat.add_zero] at hk
          refine rg_yes (by kernel_rfl) ?_
          clear hF
          go_simp
          exact hK _ _ (Sr _) (by simpa using hj) rfl
        refine ⟨fun y w' k hS hj hk hF K hK => ?_, ?_⟩
        · skip -- 3: call
          have e19 : y 19 = _ := hF.1
          simp only [fillL, cond_true, cond_false, List.getD_cons_zero, List.getD_cons_succ, StP.is, Act.put, List.setIfInBounds_toArray, List.set_cons_zero, List.set_cons_succ, Nat.reduceAdd, e19, BStP.is, Option.isSome_some, Option.isSome_none] at hK ⊢
          simp only [List.sum_cons, List.sum_nil, List.getD_cons_zero, List.getD_cons_succ, Nat.reduceAdd, Nat.add_zero] at hk
          refine rg_yes (by kernel_rfl) ?_
          clear e19
          clear hF
          obtain ⟨k1, hk1, hrd⟩ := hj
          go_simp
          go_at_call 17
          refine (pick_any w' p A n c zs k1 64 hrd (by omega) (by omega) (by omega)).mono ?_
          rintro e w'' ⟨r, rfl, hr1, rd1, hc1, hz1⟩
          exact hK _ _ (GoesC.of hc1 (by omega)) ⟨k1 + 1, by omega, rd1⟩ ⟨r, rfl, by have := hr1 (by omega); omega⟩
        refine ⟨fun y w' k hS hj hk hF K hK => ?_, ?_⟩
        · skip -- 4: move
          simp only [fillL, cond_true, cond_false, List.getD_cons_zero, List.getD_cons_succ, StP.is, Act.put, List.setIfInBounds_toArray, List.set_cons_zero, List.set_cons_succ, Nat.reduceAdd, BStP.is, Option.isSome_some, Option.isSome_none] at hK ⊢
          simp only [List.sum_cons, List.sum_nil, List.getD_cons_zero, List.getD_cons_succ, Nat.reduceAdd, Nat.add_zero] at hk
          refine rg_yes (by kernel_rfl) ?_
          clear hF
          go_simp
          exact hK _ _ (Sr _) (by simpa using hj) rfl
        refine ⟨fun y w' k hS hj hk hF K hK => ?_, ?_⟩
        · skip -- 5: call
          have e21 : y 21 = _ := hF.1
          simp only [fillL, cond_true, cond_false, List.getD_cons_zero, List.getD_cons_succ, StP.is, Act.put, List.setIfInBounds_toArray, List.set_cons_zero, List.set_cons_succ, Nat.reduceAdd, e21, BStP.is, Option.isSome_some, Option.isSome_none] at hK ⊢
          simp only [List.sum_cons, List.sum_nil, List.getD_cons_zero, List.getD_cons_succ, Nat.reduceAdd, Nat.add_zero] at hk
          refine rg_yes (by kernel_rfl) ?_
          clear e21
          clear hF
          obtain ⟨k1, hk1, hrd⟩ := hj
          go_simp
          go_at_call 43
          refine (l91Text_any w' p A n c zs k1 9 hrd (by omega) (by omega)).mono ?_
          rintro e w'' ⟨s, k2, rfl, hs, hk2, rd2, hc2⟩
          exact hK _ _ (GoesC.of hc2 (by omega)) ⟨k2, by omega, rd2⟩ ⟨s, rfl, hs⟩
        refine ⟨fun y w' k hS hj hk hF K hK => ?_, ?_⟩
        · skip -- 6: indexAddr
          have e18 : y 18 = _ := hF.1
          obtain ⟨r, e20, hr64⟩ := hF.2.1
          simp only [fillL, cond_true, cond_false, List.getD_cons_zero, List.getD_cons_succ, StP.is, Act.put, List.setIfInBounds_toArray, List.set_cons_zero, List.set_cons_succ, Nat.reduceAdd, e18, e20, BStP.is, Option.isSome_some, Option.isSome_none] at hK ⊢
          simp only [List.sum_cons, List.sum_nil, List.getD_cons_zero, List.getD_cons_succ, Nat.reduceAdd, Nat.add_zero] at hk
          refine rg_yes (by kernel_rfl) ?_
          clear e18 e20
          clear hF
          have b0 : (0 : Int) ≤ (r : Int) := by omega
          have b1 : (r : Int) < 64 := by omega
          go_simp
          exact hK _ _ (Sr _) (by simpa using hj) ⟨r, rfl, hr64⟩
        refine ⟨fun y w' k hS hj hk hF K hK => ?_, ?_⟩
        · skip -- 7: store
          obtain ⟨s, e22, hs9⟩ := hF.1
          obtain ⟨r, e23, hr64⟩ := hF.2.1
          simp only [fillL, cond_true, cond_false, List.getD_cons_zero, List.getD_cons_succ, StP.is, Act.put, List.setIfInBounds_toArray, List.set_cons_zero, List.set_cons_succ, Nat.reduceAdd, e22, e23, BStP.is, Option.isSome_some, Option.isSome_none] at hK ⊢
          simp only [List.sum_cons, List.sum_nil, List.getD_cons_zero, List.getD_cons_succ, Nat.reduceAdd, Nat.add_zero] at hk
          refine rg_yes (by kernel_rfl) ?_
          clear e22 e23
          clear hF
          have hC := hS.2 HB.out.cells
          obtain ⟨s0, hcs, hfz⟩ := hC.at_ hr64
          have HC := Lib.hid hC; clear hC
          go_simp
          exact hK undef _ ⟨(Chg.refl _ _).setCell (.inl (by simp)) _, fun hh => hh.set (by unfold maxLen; omega)⟩ (by obtain ⟨k1, hk1, hrd⟩ := hj; exact ⟨k1, by simpa using hk1, Rd.setOld h hrd (a := ⟨g, r, none⟩) (by exact Nat.le_of_lt hgw) _⟩) trivial
        trivial
      case hSr => exact Sr
      case hSt => exact fun a b => GoesC.trans a b
      case hJ => exact fun _ _ _ h ⟨k1, h0, hr⟩ => ⟨k1, by omega, hr⟩
      case hdrew => exact GoesC.of (Chg.of_below (Below.drew (Below.refl _ _)) _) (by omega)
      case hj0 => exact ⟨k0, by omega, HR.out⟩
      case hend =>
        intro y w5 hS hj' _
        obtain ⟨k5, hk5, rd5⟩ := hj'
        simp only [List.sum_cons, List.sum_nil, Nat.reduceAdd] at hk5
        simp only [fillL, cond_true, cond_false, Nat.reduceAdd]
        have HB9 : Hid (DBase w p t g c0 S A1 0 c1 [] w5) := Lib.hid (HB.out.cellsStep hp hgw htw hgt hS)
        clear hS
        go_wp2_with fail
        go_roundw
        case rel => exact ⟨j - 1, k5, by simp; omega, by omega, by omega, Lib.hid rd5, HB9⟩
        case measure => simp [intOf]; omega
    · obtain rfl : j = 0 := by omega
      go_wp2_with fail
      refine (pick_any _ p A n c zs k0 7 HR.out (by omega) (by omega) (by omega)).mono ?_
      rintro e w4 ⟨q3, rfl, hq3, rd4, hc4, hz4⟩
      have hq3 := hq3 (by omega)
      have HB4 : Hid (DBase w p t g c0 S A1 0 c1 [] w4) := Lib.hid (HB.out.pStep hp hgw htw hgt hc4)
      clear hz4 hc4 HR HB btl
      go_wp2_with fail
      go_loopw [5] (fun i wr => ∃ (j k0 : Nat) (S : List Nat) (B : Option Addr) (m d : Nat) (ws : List WaitD), i = .int .i64 (j : Int) ∧ m + j ≤ 6 ∧ k0 + 21 * j ≤ k + 150 + 21 * 6 ∧ Hid (Rd wr p A n c zs k0) ∧ Hid (DBase w p t g c0 S B m d ws wr)) (fun i _ => (intOf i).toNat)
      case atStart => exact ⟨q3, k0 + 1, S, A1, 0, c1, [], rfl, by omega, by omega, Lib.hid rd4, HB4⟩
      case round =>
        clear HB4 rd4 hk0 hj hj0
        obtain ⟨j, k0, S, B, m, d, ws, rfl, hj, hk0, HR, HB⟩ := hrel
        have btl : t < wr.heap.size := (Array.getElem?_eq_some_iff.1 HB.out.box).1
        by_cases hj0 : 0 < j
        · have j0 : (0 : Int) < (j : Int) := by omega
          obtain ⟨i0, hi0, hz0, hz1, hz2⟩ := info_parts infoE_WaitD
          have hSown : ∀ b ∈ S, b < wr.heap.size := HB.out.waits.1.lt
          have hpS : p ∉ S := fun hm => by have := HB.out.own p hm; omega
          have htS : t ∉ S := fun hm => by have := HB.out.own t hm; omega
          have hpw : p < wr.heap.size := by omega
          have hpt : p ≠ t := by omega
          have hpL : p ∈ p :: t :: S := by simp
          have HOWN := Lib.hid hSown; clear hSown
          go_wp2_with fail
          have Nr : ∀ a, Chg (· ∈ [p]) a a := fun a => Chg.refl _ a
          have keepW : ∀ a b, Chg (· ∈ [p]) a b → WaitsAt S B m d ws a → WaitsAt S B m d ws b := fun a b hc hw => ⟨hw.1.keep fun x hx => hc.block x (hw.1.lt x hx) (by simp; rintro rfl; exact hpS hx), hw.2⟩
          have keepX : ∀ (a b : World), Chg (· ∈ [p]) a b → a.heap[t]? = some (.cells #[.slice (some ⟨g, 0, none⟩) 64 c0, .slice B m d, .bool false] 45 (0, 0)) → b.heap[t]? = some (.cells #[.slice (some ⟨g, 0, none⟩) 64 c0, .slice B m d, .bool false] 45 (0, 0)) := fun a b hc hh => (hc.block t (Array.getElem?_eq_some_iff.1 hh).1 (by simp; omega)).trans hh
          apply wp_region_rgw (Chg (· ∈ p :: t :: S)) (Chg (· ∈ [p])) (fun w' k' => ∃ k1, Rd w' p A n c zs k1 ∧ k1 ≤ k0 + 21 ∧ (1000 ≤ k' ∨ (k1 ≤ k0 + k' ∧ WaitsAt S B m d ws w')) ∧ (2000 ≤ k' ∨ w'.heap[t]? = some (.cells #[.slice (some ⟨g, 0, none⟩) 64 c0, .slice B m d, .bool false] 45 (0, 0)))) [0, 0, 0, 1, 0, 20, 0, 0, 1000, 0, 2000] [0, 3000, 0, 3021, 0, 3020, 0, 0, 3000, 0, 2000] (by kernel_rfl) (false :: false :: false :: false :: false :: false :: false :: false :: false :: false :: false :: false :: false :: false :: false :: false :: false :: false :: false :: false :: false :: false :: false :: false :: false :: false :: false :: false :: false :: false :: true :: true :: true :: true :: true :: true :: true :: true :: true :: true :: false :: false :: false :: false :: false :: false :: false :: false :: false :: false :: false :: false :: false :: false :: false :: false :: false :: false :: false :: false :: false :: false :: false :: false :: false :: false :: false :: false :: false :: false :: false :: false :: false :: false :: false :: false :: false :: false :: false :: false :: false :: false :: false :: false :: false :: false :: false :: false :: false :: false :: false :: false :: false :: []) [some 30, some 31, some 32, some 33, some 34, some 35, some 36, some 37, some 38, some 39, none] [[], [0], [], [2], [], [4], [3, 5], [6], [1, 7], [], [8, 9]] [false, false, false, false, false, false, false, false, true, false, true] [true, true, true, true, true, true, true, true, false, true, false] [10] [MStP.is _, MStP.is (.slice B m d), MStP.is _, natM 14, MStP.is _, strM 9, waitM, litM hpL, appM S wr.heap.size m ws hpS hpw, MStP.is _, boxM g c0 S wr.heap.size m ws hpS hpw hpt] (by kernel_rfl) (by kernel_rfl) (by kernel_rfl) (by kernel_rfl)
          case hobs =>
            refine ⟨fun y w' k hS hj hk hF K hK => ?_, ?_⟩
            · skip -- 0: fieldAddr
              simp only [fillL, cond_true, cond_false, List.getD_cons_zero, List.getD_cons_succ, StP.is, Act.put, List.setIfInBounds_toArray, List.set_cons_zero, List.set_cons_succ, Nat.reduceAdd, MStP.is, Option.isSome_some, Option.isSome_none] at hK ⊢
              simp only [List.sum_cons, List.sum_nil, List.getD_cons_zero, List.getD_cons_succ, Nat.reduceAdd, Nat.add_zero] at hk
              refine rg_yes (by kernel_rfl) ?_
              clear hF
              go_simp
              exact hK _ _ (Nr _) (by simpa using hj) rfl
            refine ⟨fun y w' k hS hj hk hF K hK => ?_, ?_⟩
            · skip -- 1: load
              have e30 : y 30 = _ := hF.1
              simp only [fillL, cond_true, cond_false, List.getD_cons_zero, List.getD_cons_succ, StP.is, Act.put, List.setIfInBounds_toArray, List.set_cons_zero, List.set_cons_succ, Nat.reduceAdd, e30, MStP.is, Option.isSome_some, Option.isSome_none] at hK ⊢
              simp only [List.sum_cons, List.sum_nil, List.getD_cons_zero, List.getD_cons_succ, Nat.reduceAdd, Nat.add_zero] at hk
              refine rg_yes (by kernel_rfl) ?_
              clear e30
              clear hF
              obtain ⟨k1, hrd, hk1, hown, hbox⟩ := hj
              have hwz : wr.heap.size ≤ w'.heap.size := hS.size
              have hbx := hbox.resolve_left (by omega)
              have qt := cell_of_row _ _ 1 _ _ (0, 0) hbx
              go_simp
              exact hK _ _ (Nr _) ⟨k1, hrd, hk1, hown.imp (by omega) id, hbox.imp (by omega) id⟩ rfl
            refine ⟨fun y w' k hS hj hk hF K hK => ?_, ?_⟩
            · skip -- 2: move
              simp only [fillL, cond_true, cond_false, List.getD_cons_zero, List.getD_cons_succ, StP.is, Act.put, List.setIfInBounds_toArray, List.set_cons_zero, List.set_cons_succ, Nat.reduceAdd, MStP.is, Option.isSome_some, Option.isSome_none] at hK ⊢
              simp only [List.sum_cons, List.sum_nil, List.getD_cons_zero, List.getD_cons_succ, Nat.reduceAdd, Nat.add_zero] at hk
              refine rg_yes (by kernel_rfl) ?_
              clear hF
              go_simp
              exact hK _ _ (Nr _) (by simpa using hj) rfl
            refine ⟨fun y w' k hS hj hk hF K hK => ?_, ?_⟩
            · skip -- 3: call
              have e32 : y 32 = _ := hF.1
              simp only [fillL, cond_true, cond_false, List.getD_cons_zero, List.getD_cons_succ, StP.is, Act.put, List.setIfInBounds_toArray, List.set_cons_zero, List.set_cons_succ, Nat.reduceAdd, e32, MStP.is, Option.isSome_some, Option.isSome_none] at hK ⊢
              simp only [List.sum_cons, List.sum_nil, List.getD_cons_zero, List.getD_cons_succ, Nat.reduceAdd, Nat.add_zero] at hk
              refine rg_yes (by kernel_rfl) ?_
              clear e32
              clear hF
              obtain ⟨k1, hrd, hk1, hown, hbox⟩ := hj
              have hwz : wr.heap.size ≤ w'.heap.size := hS.size
              go_simp
              go_at_call 17
              refine (pick_any w' p A n c zs k1 14 hrd (by omega) (by omega) (by omega)).mono ?_
              rintro e w'' ⟨r, rfl, hr1, rd1, hc1, hz1⟩
              exact hK _ _ hc1 ⟨k1 + 1, rd1, by omega, (hown.imp (by omega) fun hh => ⟨by have := hh.1; omega, keepW _ _ hc1 hh.2⟩), (hbox.imp (by omega) fun hh => keepX _ _ hc1 hh)⟩ ⟨r, rfl, by have := hr1 (by omega); omega⟩
            refine ⟨fun y w' k hS hj hk hF K hK => ?_, ?_⟩
            · skip -- 4: move
              simp only [fillL, cond_true, cond_false, List.getD_cons_zero, List.getD_cons_succ, StP.is, Act.put, List.setIfInBounds_toArray, List.set_cons_zero, List.set_cons_succ, Nat.reduceAdd, MStP.is, Option.isSome_some, Option.isSome_none] at hK ⊢
              simp only [List.sum_cons, List.sum_nil, List.getD_cons_zero, List.getD_cons_succ, Nat.reduceAdd, Nat.add_zero] at hk
              refine rg_yes (by kernel_rfl) ?_
              clear hF
              go_simp
              exact hK _ _ (Nr _) (by simpa using hj) rfl
            refine ⟨fun y w' k hS hj hk hF K hK => ?_, ?_⟩
            · skip -- 5: call
              have e34 : y 34 = _ := hF.1
              simp only [fillL, cond_true, cond_false, List.getD_cons_zero, List.getD_cons_succ, StP.is, Act.put, List.setIfInBounds_toArray, List.set_cons_zero, List.set_cons_succ, Nat.reduceAdd, e34, MStP.is, Option.isSome_some, Option.isSome_none] at hK ⊢
              simp only [List.sum_cons, List.sum_nil, List.getD_cons_zero, List.getD_cons_succ, Nat.reduceAdd, Nat.add_zero] at hk
              refine rg_yes (by kernel_rfl) ?_
              clear e34
              clear hF
              obtain ⟨k1, hrd, hk1, hown, hbox⟩ := hj
              have hwz : wr.heap.size ≤ w'.heap.size := hS.size
              go_simp
              go_at_call 43
              refine (l91Text_any w' p A n c zs k1 9 hrd (by omega) (by omega)).mono ?_
              rintro e w'' ⟨s, k2, rfl, hs, hk2, rd2, hc2⟩
              exact hK _ _ hc2 ⟨k2, rd2, by omega, (hown.imp (by omega) fun hh => ⟨by have := hh.1; omega, keepW _ _ hc2 hh.2⟩), (hbox.imp (by omega) fun hh => keepX _ _ hc2 hh)⟩ ⟨s, rfl, hs⟩
            refine ⟨fun y w' k hS hj hk hF K hK => ?_, ?_⟩
            · skip -- 6: build
              obtain ⟨r, e33, hr14⟩ := hF.1
              obtain ⟨s, e35, hs9⟩ := hF.2.1
              simp only [fillL, cond_true, cond_false, List.getD_cons_zero, List.getD_cons_succ, StP.is, Act.put, List.setIfInBounds_toArray, List.set_cons_zero, List.set_cons_succ, Nat.reduceAdd, e33, e35, MStP.is, Option.isSome_some, Option.isSome_none] at hK ⊢
              simp only [List.sum_cons, List.sum_nil, List.getD_cons_zero, List.getD_cons_succ, Nat.reduceAdd, Nat.add_zero] at hk
              refine rg_yes (by kernel_rfl) ?_
              clear e33 e35
              clear hF
              go_simp
              exact hK _ _ (Nr _) (by simpa using hj) ⟨_, _, rfl, hs9⟩
            refine ⟨fun y w' k hS hj hk hF K hK => ?_, ?_⟩
            · skip -- 7: buildSlice
              obtain ⟨x, s, e36, hs9⟩ := hF.1
              simp only [fillL, cond_true, cond_false, List.getD_cons_zero, List.getD_cons_succ, StP.is, Act.put, List.setIfInBounds_toArray, List.set_cons_zero, List.set_cons_succ, Nat.reduceAdd, e36, MStP.is, Option.isSome_some, Option.isSome_none] at hK ⊢
              simp only [List.sum_cons, List.sum_nil, List.getD_cons_zero, List.getD_cons_succ, Nat.reduceAdd, Nat.add_zero] at hk
              refine rg_yes (by kernel_rfl) ?_
              clear e36
              clear hF
              obtain ⟨k1, hrd, hk1, hown, hbox⟩ := hj
              have hwz : wr.heap.size ≤ w'.heap.size := hS.size
              go_simp
              exact hK _ _ ((Chg.refl _ _).alloc _) ⟨k1, hrd.below bel1, by omega, (hown.imp (by omega) fun hh => ⟨by have := hh.1; omega, keepW _ _ ((Chg.refl _ _).alloc _) hh.2⟩), (hbox.imp (by omega) fun hh => keepX _ _ ((Chg.refl _ _).alloc _) hh)⟩ ⟨_, _, _, rfl, (fun hm => by rcases List.mem_cons.1 hm with h | hm; omega; rcases List.mem_cons.1 hm with h | hm; omega; have := HOWN.out _ hm; omega), hs9, heap_alloc_new _ _⟩
            refine ⟨fun y w' k hS hj hk hF K hK => ?_, ?_⟩
            · skip -- 8: call
              have e31 : y 31 = _ := hF.1
              obtain ⟨gl, x, s, e37, hgL, hs9, hlit⟩ := hF.2.1
              simp only [fillL, cond_true, cond_false, List.getD_cons_zero, List.getD_cons_succ, StP.is, Act.put, List.setIfInBounds_toArray, List.set_cons_zero, List.set_cons_succ, Nat.reduceAdd, e31, e37, MStP.is, Option.isSome_some, Option.isSome_none] at hK ⊢
              simp only [List.sum_cons, List.sum_nil, List.getD_cons_zero, List.getD_cons_succ, Nat.reduceAdd, Nat.add_zero] at hk
              refine rg_yes (by kernel_rfl) ?_
              clear e31 e37
              clear hF
              obtain ⟨k1, hrd, hk1, hown, hbox⟩ := hj
              have hwz : wr.heap.size ≤ w'.heap.size := hS.size
              have hO := hown.resolve_left (by omega)
              have hbx := hbox.resolve_left (by omega)
              have hmm : m ≤ 6 := by omega
              refine wp_append_row _ _ 43 rfl 63 i0 (.agg #[.int .i64 0, .string ⟨#[]⟩]) 2 24 Try.underlying43 hi0 hz0 hz1 hz2 rfl (by decide) S B (some ⟨gl, 0, none⟩) m d 1 1 _ [.int .i64 x, .string s] rfl rfl hO.2.1 (RowAt.pair hlit) (by intro u hu; simp at hu; rcases hu with rfl | rfl <;> rfl) (by unfold maxLen; omega) (by omega) ?_
              intro A' c' S' w'' hO' hS' hC'
              have hrd' : Rd w'' p A n c zs k1 := hrd.keep hC'.size fun b hb hbp => hC'.block b hb (fun hm => by have h1 := HB.out.own b hm; rcases hbp with rfl | ⟨hn, off, hA⟩; omega; have := h.old hn hA; omega)
              exact hK _ _ (hC'.mono (fun b _ hm => by simp [hm])) ⟨k1, hrd', by omega, .inl (by omega), .inr ((hC'.block t (by omega) htS).trans hbx)⟩ ⟨A', c', rfl, S', x, s, hO.2.grow (by unfold maxLen; omega) hO', fun b hb => (hS' b hb).imp id (fun h => by omega)⟩
            refine ⟨fun y w' k hS hj hk hF K hK => ?_, ?_⟩
            · skip -- 9: fieldAddr
              simp only [fillL, cond_true, cond_false, List.getD_cons_zero, List.getD_cons_succ, StP.is, Act.put, List.setIfInBounds_toArray, List.set_cons_zero, List.set_cons_succ, Nat.reduceAdd, MStP.is, Option.isSome_some, Option.isSome_none] at hK ⊢
              simp only [List.sum_cons, List.sum_nil, List.getD_cons_zero, List.getD_cons_succ, Nat.reduceAdd, Nat.add_zero] at hk
              refine rg_yes (by kernel_rfl) ?_
              clear hF
              go_simp
              exact hK _ _ (Nr _) (by simpa using hj) rfl
            refine ⟨fun y w' k hS hj hk hF K hK => ?_, ?_⟩
            · skip -- 10: store
              obtain ⟨B', d', e38, hgr⟩ := hF.1
              have e39 : y 39 = _ := hF.2.1
              simp only [fillL, cond_true, cond_false, List.getD_cons_zero, List.getD_cons_succ, StP.is, Act.put, List.setIfInBounds_toArray, List.set_cons_zero, List.set_cons_succ, Nat.reduceAdd, e38, e39, MStP.is, Option.isSome_some, Option.isSome_none] at hK ⊢
              simp only [List.sum_cons, List.sum_nil, List.getD_cons_zero, List.getD_cons_succ, Nat.reduceAdd, Nat.add_zero] at hk
              refine rg_yes (by kernel_rfl) ?_
              clear e38 e39
              clear hF
              obtain ⟨k1, hrd, hk1, hown, hbox⟩ := hj
              have hwz : wr.heap.size ≤ w'.heap.size := hS.size
              have hbx := hbox.resolve_left (by omega)
              have t1 := cell_of_row _ _ 1 _ _ (0, 0) hbx
              have f1 : w'.frozen? ⟨t, 1, none⟩ = false := block_free hbx _
              have hst := block_set (o := 1) (v := .slice B' (m + 1) d') hbx
              have HST := Lib.hid hst; clear hst
              have HGR := Lib.hid hgr; clear hgr
              go_simp
              exact hK undef _ ((Chg.refl _ _).setCell (.inl (by simp)) _) ⟨k1, Rd.setOld h hrd (a := ⟨t, 1, none⟩) (by exact Nat.le_of_lt htw) _, by omega, .inl (by omega), .inl (by omega)⟩ ⟨B', d', HST.out, HGR.out.keep (T := [t]) ((Chg.refl _ _).setCell (.inl (by simp)) _) (fun b hb => by simp at hb; subst hb; exact htS) (fun b hb => by simp at hb; omega)⟩
            trivial
          case hH => rfl
          case hNS => exact fun a b hc => hc.mono (fun x _ hx => by simp at hx; simp [hx])
          case hSt => exact fun a b => Chg.trans a b
          case hJ => exact fun _ _ _ hle ⟨k1, a1, a2, a3, a4⟩ => ⟨k1, a1, a2, a3.imp (by omega) (fun hh => ⟨by omega, hh.2⟩), a4.imp (by omega) id⟩
          case hdrew => exact (Chg.refl _ _).drewN 1
          case hj0 => exact ⟨k0, HR.out.below (Below.drew (Below.refl _ _)), by omega, .inr ⟨by omega, HB.out.waits.1.below (Below.drew (Below.refl _ _)), HB.out.waits.2⟩, .inr HB.out.box⟩
          case hend =>
            intro y w5 hS hj' hF
            obtain ⟨B', d', hbx, S', x, s, hW, hS'⟩ := hF.1
            obtain ⟨k5, rd5, hk5, -, -⟩ := hj'
            clear hF
            simp only [fillL, cond_true, cond_false, Nat.reduceAdd]
            have hgl := HB.out.cells.lt
            have hgS : g ∉ S := fun hm => by have := HB.out.own g hm; omega
            have hrl := (Array.getElem?_eq_some_iff.1 HB.out.res).1
            have hrS : w.heap.size ∉ S := fun hm => by have := HB.out.own _ hm; omega
            have HB9 : Hid (DBase w p t g c0 S' B' (m + 1) d' (ws ++ [(x, s)]) w5) := Lib.hid ⟨chg_own HB.out.chg hS (fun x hx => by
                rcases List.mem_cons.1 hx with h | hx
                · exact .inl h
                rcases List.mem_cons.1 hx with h | hx
                · right; omega
                · right; have := HB.out.own x hx; omega),
              (hS.block _ hrl (by simp; exact ⟨by omega, by omega, hrS⟩)).trans HB.out.res, hbx, hW, HB.out.cells.keep (hS.block g hgl (by simp; exact ⟨by omega, by omega, hgS⟩)), fun b hb => by
                rcases hS' b hb with h | h
                · exact HB.out.own b h
                · omega⟩
            clear hS hbx hW hS' HB
            go_wp2_with fail
            go_roundw
            case rel => exact ⟨j - 1, k5, S', B', m + 1, d', ws ++ [(x, s)], by simp; omega, by omega, by omega, Lib.hid rd5, HB9⟩
            case measure => simp [intOf]; omega
        · obtain rfl : j = 0 := by omega
          go_wp2_with fail
          refine (pick_any _ p A n c zs k0 30 HR.out (by omega) (by omega) (by omega)).mono ?_
          rintro e w4 ⟨q4, rfl, hq4, rd4, hc4, hz4⟩
          have hq4 := hq4 (by omega)
          have HB4 : Hid (DBase w p t g c0 S B m d ws w4) := Lib.hid (HB.out.pStep hp hgw htw hgt hc4)
          have HR4 := Lib.hid rd4
          clear hz4 hc4 HR HB btl rd4
          have hq40 : (0 : Int) ≤ (q4 : Int) := by omega
          have htS : t ∉ S := fun hm => by have := HB4.out.own t hm; omega
          have hrl := (Array.getElem?_eq_some_iff.1 HB4.out.res).1
          have htl := (Array.getElem?_eq_some_iff.1 HB4.out.box).1
          have u0 := cell_of_row _ _ 0 _ _ (0, 0) HB4.out.box; have u1 := cell_of_row _ _ 1 _ _ (0, 0) HB4.out.box; have u2 := cell_of_row _ _ 2 _ _ (0, 0) HB4.out.box
          have v0 := cell_of_row _ _ 0 _ _ (0, 0) HB4.out.res; have v1 := cell_of_row _ _ 1 _ _ (0, 0) HB4.out.res; have v2 := cell_of_row _ _ 2 _ _ (0, 0) HB4.out.res
          have fu := fun o => block_free HB4.out.box o
          have fv := fun o => block_free HB4.out.res o
          have fu0 := fu 0; have fu1 := fu 1; have fu2 := fu 2; have fv0 := fv 0; have fv1 := fv 1; have fv2 := fv 2
          clear fu fv
          have hc1 : (1 : Int) ≤ (c0 : Int) := by omega
          have htr : t ≠ w.heap.size := by omega
          have hrt : w.heap.size ≠ t := by omega
          by_cases k0' : q4 = 0
          case pos =>
            have e0 : ((q4 : Int) == 0) = true := by simp [k0']
            clear k0'
            go_wp2_with fail
            have hres : (World.setCell w4 ⟨t, 0, none⟩ (.slice (some ⟨g, 1, none⟩) 63 (c0 - 1))).heap[w.heap.size]? = some (.cells #[.slice none 0 0, .slice none 0 0, .bool false] 45 (0, 0)) := ((heap_far hrt).trans HB4.out.res)
            have hst := set3D (x0 := .slice (some ⟨g, 1, none⟩) 63 (c0 - 1)) (x1 := .slice B m d) (x2 := .bool false) hres
            have r0 := cell_of_row _ _ 0 _ _ (0, 0) hst; have r1 := cell_of_row _ _ 1 _ _ (0, 0) hst; have r2 := cell_of_row _ _ 2 _ _ (0, 0) hst
            clear hst hres
            exact bodyPost_ret (v := .agg #[.slice (some ⟨g, 1, none⟩) 63 (c0 - 1), .slice B m d, .bool false]) (by simp [results, Try.results49, go_sem, r0, r1, r2]) rfl (picked_fin (o := 1) false h hgw (HB4.out.cells.far (a := ⟨t, 0, none⟩) (by exact fun e => hgt e.symm) _) (HB4.out.waits.far (a := ⟨t, 0, none⟩) htS _) (fun b hb => (HB4.out.own b hb).1) (by omega) hgc (by omega) (Rd.setOld h HR4.out (a := ⟨t, 0, none⟩) (by exact Nat.le_of_lt htw) _) (by omega) (Chg.setCell (p := ⟨t, 0, none⟩) HB4.out.chg (.inr (by exact Nat.le_of_lt htw)) _))
          have g0 : ¬ q4 = 0 := k0'
          by_cases k1' : q4 = 1
          case pos =>
            have e1 : ((q4 : Int) == 1) = true := by rw [k1']; rfl
            have e0' : ((q4 : Int) == 0) = false := by simp; omega
            clear k1' k0'
            go_wp2_with fail
            have hres : (World.setCell w4 ⟨t, 2, none⟩ (.bool true)).heap[w.heap.size]? = some (.cells #[.slice none 0 0, .slice none 0 0, .bool false] 45 (0, 0)) := ((heap_far hrt).trans HB4.out.res)
            have hst := set3D (x0 := .slice (some ⟨g, 0, none⟩) 64 c0) (x1 := .slice B m d) (x2 := .bool true) hres
            have r0 := cell_of_row _ _ 0 _ _ (0, 0) hst; have r1 := cell_of_row _ _ 1 _ _ (0, 0) hst; have r2 := cell_of_row _ _ 2 _ _ (0, 0) hst
            clear hst hres
            exact bodyPost_ret (v := .agg #[.slice (some ⟨g, 0, none⟩) 64 c0, .slice B m d, .bool true]) (by simp [results, Try.results49, go_sem, r0, r1, r2]) rfl (picked_fin (o := 0) true h hgw (HB4.out.cells.far (a := ⟨t, 2, none⟩) (by exact fun e => hgt e.symm) _) (HB4.out.waits.far (a := ⟨t, 2, none⟩) htS _) (fun b hb => (HB4.out.own b hb).1) (by omega) hgc (by omega) (Rd.setOld h HR4.out (a := ⟨t, 2, none⟩) (by exact Nat.le_of_lt htw) _) (by omega) (Chg.setCell (p := ⟨t, 2, none⟩) HB4.out.chg (.inr (by exact Nat.le_of_lt htw)) _))
          have g1 : ¬ q4 = 1 := k1'
          by_cases k2' : q4 = 2
          case pos =>
            have e2 : ((q4 : Int) == 2) = true := by rw [k2']; rfl
            have e0' : ((q4 : Int) == 0) = false := by simp; omega
            have e1' : ((q4 : Int) == 1) = false := by simp; omega
            clear k0' k1' k2' g0 g1
            obtain ⟨i0, hi0, hz0, hz1, hz2⟩ := info_parts infoE_WaitD
            have hSown : ∀ b ∈ S, b < w4.heap.size := HB4.out.waits.1.lt
            have hpS : p ∉ S := fun hm => by have := HB4.out.own p hm; omega
            have hpw : p < w4.heap.size := by omega
            have hpt : p ≠ t := by omega
            have hpL : p ∈ p :: t :: S := by simp
            have HOWN := Lib.hid hSown; clear hSown
            go_wp2_with fail
            have Nr : ∀ a, Chg (· ∈ [p]) a a := fun a => Chg.refl _ a
            have keepW : ∀ a b, Chg (· ∈ [p]) a b → WaitsAt S B m d ws a → WaitsAt S B m d ws b := fun a b hc hw => ⟨hw.1.keep fun x hx => hc.block x (hw.1.lt x hx) (by simp; rintro rfl; exact hpS hx), hw.2⟩
            have keepX : ∀ (a b : World), Chg (· ∈ [p]) a b → a.heap[t]? = some (.cells #[.slice (some ⟨g, 0, none⟩) 64 c0, .slice B m d, .bool false] 45 (0, 0)) → b.heap[t]? = some (.cells #[.slice (some ⟨g, 0, none⟩) 64 c0, .slice B m d, .bool false] 45 (0, 0)) := fun a b hc hh => (hc.block t (Array.getElem?_eq_some_iff.1 hh).1 (by simp; omega)).trans hh
            apply wp_region_rgw (Chg (· ∈ p :: t :: S)) (Chg (· ∈ [p])) (fun w' k' => ∃ k1, Rd w' p A n c zs k1 ∧ k1 ≤ k0 + 2 ∧ (1000 ≤ k' ∨ (k1 ≤ k0 + 1 + k' ∧ WaitsAt S B m d ws w')) ∧ (2000 ≤ k' ∨ w'.heap[t]? = some (.cells #[.slice (some ⟨g, 0, none⟩) 64 c0, .slice B m d, .bool false] 45 (0, 0)))) [0, 0, 0, 0, 1, 0, 0, 0, 0, 1000, 0, 2000] [0, 3000, 0, 0, 3001, 0, 0, 0, 0, 3000, 0, 2000] (by kernel_rfl) (false :: false :: false :: false :: false :: false :: false :: false :: false :: false :: false :: false :: false :: false :: false :: false :: false :: false :: false :: false :: false :: false :: false :: false :: false :: false :: false :: false :: false :: false :: false :: false :: false :: false :: false :: false :: false :: false :: false :: false :: false :: false :: false :: false :: false :: false :: false :: false :: false :: false :: false :: false :: false :: true :: true :: true :: true :: true :: true :: true :: true :: true :: true :: true :: false :: false :: false :: false :: false :: false :: false :: false :: false :: false :: false :: false :: false :: false :: false :: false :: false :: false :: false :: false :: false :: false :: false :: false :: false :: false :: false :: false :: false :: []) [some 53, some 54, some 55, some 56, some 57, some 58, some 59, some 60, some 61, some 62, some 63, none] [[], [0], [], [], [3], [2, 4], [5], [6], [7], [1, 8], [], [9, 10]] [false, false, false, false, false, false, false, false, false, true, false, true] [true, true, true, true, true, true, true, true, true, false, true, false] [11] [MStP.is _, MStP.is (.slice B m d), litI hpL, MStP.is _, natM 2, ptrI hpL, intM, waitM, litM hpL, appM S w4.heap.size m ws hpS hpw, MStP.is _, boxM g c0 S w4.heap.size m ws hpS hpw hpt] (by kernel_rfl) (by kernel_rfl) (by kernel_rfl) (by kernel_rfl)
            case hobs =>
              refine ⟨fun y w' k hS hj hk hF K hK => ?_, ?_⟩
              · skip -- 0: fieldAddr
                simp only [fillL, cond_true, cond_false, List.getD_cons_zero, List.getD_cons_succ, StP.is, Act.put, List.setIfInBounds_toArray, List.set_cons_zero, List.set_cons_succ, Nat.reduceAdd, MStP.is, Option.isSome_some, Option.isSome_none] at hK ⊢
                simp only [List.sum_cons, List.sum_nil, List.getD_cons_zero, List.getD_cons_succ, Nat.reduceAdd, Nat.add_zero] at hk
                refine rg_yes (by kernel_rfl) ?_
                clear hF
                go_simp
                exact hK _ _ (Nr _) (by simpa using hj) rfl
              refine ⟨fun y w' k hS hj hk hF K hK => ?_, ?_⟩
              · skip -- 1: load
                have e53 : y 53 = _ := hF.1
                simp only [fillL, cond_true, cond_false, List.getD_cons_zero, List.getD_cons_succ, StP.is, Act.put, List.setIfInBounds_toArray, List.set_cons_zero, List.set_cons_succ, Nat.reduceAdd, e53, MStP.is, Option.isSome_some, Option.isSome_none] at hK ⊢
                simp only [List.sum_cons, List.sum_nil, List.getD_cons_zero, List.getD_cons_succ, Nat.reduceAdd, Nat.add_zero] at hk
                refine rg_yes (by kernel_rfl) ?_
                clear e53
                clear hF
                obtain ⟨k1, hrd, hk1, hown, hbox⟩ := hj
                have hwz : w4.heap.size ≤ w'.heap.size := hS.size
                have hbx := hbox.resolve_left (by omega)
                have qt := cell_of_row _ _ 1 _ _ (0, 0) hbx
                go_simp
                exact hK _ _ (Nr _) ⟨k1, hrd, hk1, hown.imp (by omega) id, hbox.imp (by omega) id⟩ rfl
              refine ⟨fun y w' k hS hj hk hF K hK => ?_, ?_⟩
              · skip -- 2: buildSlice
                simp only [fillL, cond_true, cond_false, List.getD_cons_zero, List.getD_cons_succ, StP.is, Act.put, List.setIfInBounds_toArray, List.set_cons_zero, List.set_cons_succ, Nat.reduceAdd, MStP.is, Option.isSome_some, Option.isSome_none] at hK ⊢
                simp only [List.sum_cons, List.sum_nil, List.getD_cons_zero, List.getD_cons_succ, Nat.reduceAdd, Nat.add_zero] at hk
                refine rg_yes (by kernel_rfl) ?_
                clear hF
                obtain ⟨k1, hrd, hk1, hown, hbox⟩ := hj
                have hwz : w4.heap.size ≤ w'.heap.size := hS.size
                go_simp
                exact hK _ _ ((Chg.refl _ _).alloc _) ⟨k1, hrd.below bel1, by omega, (hown.imp (by omega) fun hh => ⟨by have := hh.1; omega, keepW _ _ ((Chg.refl _ _).alloc _) hh.2⟩), (hbox.imp (by omega) fun hh => keepX _ _ ((Chg.refl _ _).alloc _) hh)⟩ ⟨_, rfl, (fun hm => by rcases List.mem_cons.1 hm with h | hm; omega; rcases List.mem_cons.1 hm with h | hm; omega; have := HOWN.out _ hm; omega), heap_alloc_new _ _⟩
              refine ⟨fun y w' k hS hj hk hF K hK => ?_, ?_⟩
              · skip -- 3: move
                simp only [fillL, cond_true, cond_false, List.getD_cons_zero, List.getD_cons_succ, StP.is, Act.put, List.setIfInBounds_toArray, List.set_cons_zero, List.set_cons_succ, Nat.reduceAdd, MStP.is, Option.isSome_some, Option.isSome_none] at hK ⊢
                simp only [List.sum_cons, List.sum_nil, List.getD_cons_zero, List.getD_cons_succ, Nat.reduceAdd, Nat.add_zero] at hk
                refine rg_yes (by kernel_rfl) ?_
                clear hF
                go_simp
                exact hK _ _ (Nr _) (by simpa using hj) rfl
              refine ⟨fun y w' k hS hj hk hF K hK => ?_, ?_⟩
              · skip -- 4: call
                have e56 : y 56 = _ := hF.1
                simp only [fillL, cond_true, cond_false, List.getD_cons_zero, List.getD_cons_succ, StP.is, Act.put, List.setIfInBounds_toArray, List.set_cons_zero, List.set_cons_succ, Nat.reduceAdd, e56, MStP.is, Option.isSome_some, Option.isSome_none] at hK ⊢
                simp only [List.sum_cons, List.sum_nil, List.getD_cons_zero, List.getD_cons_succ, Nat.reduceAdd, Nat.add_zero] at hk
                refine rg_yes (by kernel_rfl) ?_
                clear e56
                clear hF
                obtain ⟨k1, hrd, hk1, hown, hbox⟩ := hj
                have hwz : w4.heap.size ≤ w'.heap.size := hS.size
                go_simp
                go_at_call 17
                refine (pick_any w' p A n c zs k1 2 hrd (by omega) (by omega) (by omega)).mono ?_
                rintro e w'' ⟨r, rfl, hr1, rd1, hc1, hz1⟩
                exact hK _ _ hc1 ⟨k1 + 1, rd1, by omega, (hown.imp (by omega) fun hh => ⟨by have := hh.1; omega, keepW _ _ hc1 hh.2⟩), (hbox.imp (by omega) fun hh => keepX _ _ hc1 hh)⟩ ⟨r, rfl, by have := hr1 (by omega); omega⟩
              refine ⟨fun y w' k hS hj hk hF K hK => ?_, ?_⟩
              · skip -- 5: indexAddr
                obtain ⟨gi, e55, hlitI⟩ := hF.1
                obtain ⟨r, e57, hr2⟩ := hF.2.1
                simp only [fillL, cond_true, cond_false, List.getD_cons_zero, List.getD_cons_succ, StP.is, Act.put, List.setIfInBounds_toArray, List.set_cons_zero, List.set_cons_succ, Nat.reduceAdd, e55, e57, MStP.is, Option.isSome_some, Option.isSome_none] at hK ⊢
                simp only [List.sum_cons, List.sum_nil, List.getD_cons_zero, List.getD_cons_succ, Nat.reduceAdd, Nat.add_zero] at hk
                refine rg_yes (by kernel_rfl) ?_
                clear e55 e57
                clear hF
                have b0 : (0 : Int) ≤ (r : Int) := by omega
                have b1 : (r : Int) < 2 := by omega
                go_simp
                exact hK _ _ (Nr _) (by simpa using hj) ⟨gi, r, rfl, hr2, hlitI⟩
              refine ⟨fun y w' k hS hj hk hF K hK => ?_, ?_⟩
              · skip -- 6: load
                obtain ⟨gi, r, e58, hr2, hlitI⟩ := hF.1
                simp only [fillL, cond_true, cond_false, List.getD_cons_zero, List.getD_cons_succ, StP.is, Act.put, List.setIfInBounds_toArray, List.set_cons_zero, List.set_cons_succ, Nat.reduceAdd, e58, MStP.is, Option.isSome_some, Option.isSome_none] at hK ⊢
                simp only [List.sum_cons, List.sum_nil, List.getD_cons_zero, List.getD_cons_succ, Nat.reduceAdd, Nat.add_zero] at hk
                refine rg_yes (by kernel_rfl) ?_
                clear e58
                clear hF
                have hcv : ∃ x : Int, w'.cell? ⟨gi, r, none⟩ = some (.int .i64 x) := by rw [cell_of_row _ _ r _ _ (0, 0) hlitI.2]; have : r = 0 ∨ r = 1 := (by omega); rcases this with rfl | rfl <;> exact ⟨_, rfl⟩
                obtain ⟨x, hx⟩ := hcv
                go_simp
                exact hK _ _ (Nr _) (by simpa using hj) ⟨x, rfl⟩
              refine ⟨fun y w' k hS hj hk hF K hK => ?_, ?_⟩
              · skip -- 7: build
                obtain ⟨x, e59⟩ := hF.1
                simp only [fillL, cond_true, cond_false, List.getD_cons_zero, List.getD_cons_succ, StP.is, Act.put, List.setIfInBounds_toArray, List.set_cons_zero, List.set_cons_succ, Nat.reduceAdd, e59, MStP.is, Option.isSome_some, Option.isSome_none] at hK ⊢
                simp only [List.sum_cons, List.sum_nil, List.getD_cons_zero, List.getD_cons_succ, Nat.reduceAdd, Nat.add_zero] at hk
                refine rg_yes (by kernel_rfl) ?_
                clear e59
                clear hF
                go_simp
                exact hK _ _ (Nr _) (by simpa using hj) ⟨x, ⟨#[119]⟩, rfl, by show 1 ≤ 9; omega⟩
              refine ⟨fun y w' k hS hj hk hF K hK => ?_, ?_⟩
              · skip -- 8: buildSlice
                obtain ⟨x, s, e60, hs9⟩ := hF.1
                simp only [fillL, cond_true, cond_false, List.getD_cons_zero, List.getD_cons_succ, StP.is, Act.put, List.setIfInBounds_toArray, List.set_cons_zero, List.set_cons_succ, Nat.reduceAdd, e60, MStP.is, Option.isSome_some, Option.isSome_none] at hK ⊢
                simp only [List.sum_cons, List.sum_nil, List.getD_cons_zero, List.getD_cons_succ, Nat.reduceAdd, Nat.add_zero] at hk
                refine rg_yes (by kernel_rfl) ?_
                clear e60
                clear hF
                obtain ⟨k1, hrd, hk1, hown, hbox⟩ := hj
                have hwz : w4.heap.size ≤ w'.heap.size := hS.size
                go_simp
                exact hK _ _ ((Chg.refl _ _).alloc _) ⟨k1, hrd.below bel1, by omega, (hown.imp (by omega) fun hh => ⟨by have := hh.1; omega, keepW _ _ ((Chg.refl _ _).alloc _) hh.2⟩), (hbox.imp (by omega) fun hh => keepX _ _ ((Chg.refl _ _).alloc _) hh)⟩ ⟨_, _, _, rfl, (fun hm => by rcases List.mem_cons.1 hm with h | hm; omega; rcases List.mem_cons.1 hm with h | hm; omega; have := HOWN.out _ hm; omega), hs9, heap_alloc_new _ _⟩
              refine ⟨fun y w' k hS hj hk hF K hK => ?_, ?_⟩
              · skip -- 9: call
                have e54 : y 54 = _ := hF.1
                obtain ⟨gl, x, s, e61, hgL, hs9, hlit⟩ := hF.2.1
                simp only [fillL, cond_true, cond_false, List.getD_cons_zero, List.getD_cons_succ, StP.is, Act.put, List.setIfInBounds_toArray, List.set_cons_zero, List.set_cons_succ, Nat.reduceAdd, e54, e61, MStP.is, Option.isSome_some, Option.isSome_none] at hK ⊢
                simp only [List.sum_cons, List.sum_nil, List.getD_cons_zero, List.getD_cons_succ, Nat.reduceAdd, Nat.add_zero] at hk
                refine rg_yes (by kernel_rfl) ?_
                clear e54 e61
                clear hF
                obtain ⟨k1, hrd, hk1, hown, hbox⟩ := hj
                have hwz : w4.heap.size ≤ w'.heap.size := hS.size
                have hO := hown.resolve_left (by omega)
                have hbx := hbox.resolve_left (by omega)
                have hmm : m ≤ 6 := by omega
                refine wp_append_row _ _ 43 rfl 63 i0 (.agg #[.int .i64 0, .string ⟨#[]⟩]) 2 24 Try.underlying43 hi0 hz0 hz1 hz2 rfl (by decide) S B (some ⟨gl, 0, none⟩) m d 1 1 _ [.int .i64 x, .string s] rfl rfl hO.2.1 (RowAt.pair hlit) (by intro u hu; simp at hu; rcases hu with rfl | rfl <;> rfl) (by unfold maxLen; omega) (by omega) ?_
                intro A' c' S' w'' hO' hS' hC'
                have hrd' : Rd w'' p A n c zs k1 := hrd.keep hC'.size fun b hb hbp => hC'.block b hb (fun hm => by have h1 := HB4.out.own b hm; rcases hbp with rfl | ⟨hn, off, hA⟩; omega; have := h.old hn hA; omega)
                exact hK _ _ (hC'.mono (fun b _ hm => by simp [hm])) ⟨k1, hrd', by omega, .inl (by omega), .inr ((hC'.block t (by omega) htS).trans hbx)⟩ ⟨A', c', rfl, S', x, s, hO.2.grow (by unfold maxLen; omega) hO', fun b hb => (hS' b hb).imp id (fun h => by omega)⟩
              refine ⟨fun y w' k hS hj hk hF K hK => ?_, ?_⟩
              · skip -- 10: fieldAddr
                simp only [fillL, cond_true, cond_false, List.getD_cons_zero, List.getD_cons_succ, StP.is, Act.put, List.setIfInBounds_toArray, List.set_cons_zero, List.set_cons_succ, Nat.reduceAdd, MStP.is, Option.isSome_some, Option.isSome_none] at hK ⊢
                simp only [List.sum_cons, List.sum_nil, List.getD_cons_zero, List.getD_cons_succ, Nat.reduceAdd, Nat.add_zero] at hk
                refine rg_yes (by kernel_rfl) ?_
                clear hF
                go_simp
                exact hK _ _ (Nr _) (by simpa using hj) rfl
              refine ⟨fun y w' k hS hj hk hF K hK => ?_, ?_⟩
              · skip -- 11: store
                obtain ⟨B', d', e62, hgr⟩ := hF.1
                have e63 : y 63 = _ := hF.2.1
                simp only [fillL, cond_true, cond_false, List.getD_cons_zero, List.getD_cons_succ, StP.is, Act.put, List.setIfInBounds_toArray, List.set_cons_zero, List.set_cons_succ, Nat.reduceAdd, e62, e63, MStP.is, Option.isSome_some, Option.isSome_none] at hK ⊢
                simp only [List.sum_cons, List.sum_nil, List.getD_cons_zero, List.getD_cons_succ, Nat.reduceAdd, Nat.add_zero] at hk
                refine rg_yes (by kernel_rfl) ?_
                clear e62 e63
                clear hF
                obtain ⟨k1, hrd, hk1, hown, hbox⟩ := hj
                have hwz : w4.heap.size ≤ w'.heap.size := hS.size
                have hbx := hbox.resolve_left (by omega)
                have t1 := cell_of_row _ _ 1 _ _ (0, 0) hbx
                have f1 : w'.frozen? ⟨t, 1, none⟩ = false := block_free hbx _
                have hst := block_set (o := 1) (v := .slice B' (m + 1) d') hbx
                have HST := Lib.hid hst; clear hst
                have HGR := Lib.hid hgr; clear hgr
                go_simp
                exact hK undef _ ((Chg.refl _ _).setCell (.inl (by simp)) _) ⟨k1, Rd.setOld h hrd (a := ⟨t, 1, none⟩) (by exact Nat.le_of_lt htw) _, by omega, .inl (by omega), .inl (by omega)⟩ ⟨B', d', HST.out, HGR.out.keep (T := [t]) ((Chg.refl _ _).setCell (.inl (by simp)) _) (fun b hb => by simp at hb; subst hb; exact htS) (fun b hb => by simp at hb; omega)⟩
              trivial
            case hH => rfl
            case hNS => exact fun a b hc => hc.mono (fun x _ hx => by simp at hx; simp [hx])
            case hSt => exact fun a b => Chg.trans a b
            case hJ => exact fun _ _ _ hle ⟨k1, a1, a2, a3, a4⟩ => ⟨k1, a1, a2, a3.imp (by omega) (fun hh => ⟨by omega, hh.2⟩), a4.imp (by omega) id⟩
            case hdrew => exact (Chg.refl _ _).drewN 1
            case hj0 => exact ⟨k0 + 1, HR4.out.below (Below.drew (Below.refl _ _)), by omega, .inr ⟨by omega, HB4.out.waits.1.below (Below.drew (Below.refl _ _)), HB4.out.waits.2⟩, .inr HB4.out.box⟩
            case hend =>
              intro y w5 hS hj' hF
              obtain ⟨B', d', hbx, S', x, s, hW, hS'⟩ := hF.1
              obtain ⟨k5, rd5, hk5, -, -⟩ := hj'
              clear hF
              simp only [fillL, cond_true, cond_false, Nat.reduceAdd]
              have hgl := HB4.out.cells.lt
              have hgS : g ∉ S := fun hm => by have := HB4.out.own g hm; omega
              have hrS : w.heap.size ∉ S := fun hm => by have := HB4.out.own _ hm; omega
              have HB5 : Hid (DBase w p t g c0 S' B' (m + 1) d' (ws ++ [(x, s)]) w5) := Lib.hid ⟨chg_own HB4.out.chg hS (fun x hx => by
                  rcases List.mem_cons.1 hx with h | hx
                  · exact .inl h
                  rcases List.mem_cons.1 hx with h | hx
                  · right; omega
                  · right; have := HB4.out.own x hx; omega),
                (hS.block _ hrl (by simp; exact ⟨by omega, by omega, hrS⟩)).trans HB4.out.res, hbx, hW, HB4.out.cells.keep (hS.block g hgl (by simp; exact ⟨by omega, by omega, hgS⟩)), fun b hb => by
                  rcases hS' b hb with h | h
                  · exact HB4.out.own b h
                  · omega⟩
              have HR5 := Lib.hid rd5
              clear hS hbx hW hS' u0 u1 u2 v0 v1 v2 fu0 fu1 fu2 fv0 fv1 fv2 hrl htl HB4 HR4 rd5
              have hrl := (Array.getElem?_eq_some_iff.1 HB5.out.res).1
              have htl := (Array.getElem?_eq_some_iff.1 HB5.out.box).1
              have u0 := cell_of_row _ _ 0 _ _ (0, 0) HB5.out.box; have u1 := cell_of_row _ _ 1 _ _ (0, 0) HB5.out.box; have u2 := cell_of_row _ _ 2 _ _ (0, 0) HB5.out.box
              have v0 := cell_of_row _ _ 0 _ _ (0, 0) HB5.out.res; have v1 := cell_of_row _ _ 1 _ _ (0, 0) HB5.out.res; have v2 := cell_of_row _ _ 2 _ _ (0, 0) HB5.out.res
              have fu := fun o => block_free HB5.out.box o
              have fv := fun o => block_free HB5.out.res o
              have fu0 := fu 0; have fu1 := fu 1; have fu2 := fu 2; have fv0 := fv 0; have fv1 := fv 1; have fv2 := fv 2
              clear fu fv
              go_wp2_with fail
              have hst := set3D (x0 := .slice (some ⟨g, 0, none⟩) 64 c0) (x1 := .slice B' (m + 1) d') (x2 := .bool false) HB5.out.res
              have r0 := cell_of_row _ _ 0 _ _ (0, 0) hst; have r1 := cell_of_row _ _ 1 _ _ (0, 0) hst; have r2 := cell_of_row _ _ 2 _ _ (0, 0) hst
              clear hst
              exact bodyPost_ret (v := .agg #[.slice (some ⟨g, 0, none⟩) 64 c0, .slice B' (m + 1) d', .bool false]) (by simp [results, Try.results49, go_sem, r0, r1, r2]) rfl (picked_fin (o := 0) false h hgw HB5.out.cells HB5.out.waits (fun b hb => (HB5.out.own b hb).1) (by omega) hgc (by omega) HR5.out (by omega) HB5.out.chg)
          have g2 : ¬ q4 = 2 := k2'
          by_cases k3' : q4 = 3
          case pos =>
            have e3 : ((q4 : Int) == 3) = true := by rw [k3']; rfl
            have e0' : ((q4 : Int) == 0) = false := by simp; omega
            have e1' : ((q4 : Int) == 1) = false := by simp; omega
            have e2' : ((q4 : Int) == 2) = false := by simp; omega
            clear k0' k1' k2' k3' g0 g1 g2
            go_wp2_with fail
            have Sr : ∀ a, GoesC p g a a := fun a => GoesC.refl _ _ a
            apply wp_region_rgb (GoesC p g) (fun w' k' => ∃ k1, k1 ≤ k0 + 1 + k' ∧ Rd w' p A n c zs k1) [0, 0, 0, 1, 0, 0, 0, 0] (by kernel_rfl) (false :: false :: false :: false :: false :: false :: false :: false :: false :: false :: false :: false :: false :: false :: false :: false :: false :: false :: false :: false :: false :: false :: false :: false :: false :: false :: false :: false :: false :: false :: false :: false :: false :: false :: false :: false :: false :: false :: false :: false :: false :: false :: false :: false :: false :: false :: false :: false :: false :: false :: false :: false :: false :: false :: false :: false :: false :: false :: false :: false :: false :: false :: false :: false :: false :: false :: true :: true :: true :: true :: true :: true :: true :: false :: false :: false :: false :: false :: false :: false :: false :: false :: false :: false :: false :: false :: false :: false :: false :: false :: false :: false :: false :: []) [some 66, some 67, some 68, some 69, some 70, some 71, some 72, none] [[], [0], [], [2], [3], [4], [1], [5, 6]] [BStP.is _, BStP.is _, BStP.is _, natS 2, natS 202, strS 201, BStP.is _, anyS] (by kernel_rfl)
            case hobs =>
              refine ⟨fun y w' k hS hj hk hF K hK => ?_, ?_⟩
              · skip -- 0: fieldAddr
                simp only [fillL, cond_true, cond_false, List.getD_cons_zero, List.getD_cons_succ, StP.is, Act.put, List.setIfInBounds_toArray, List.set_cons_zero, List.set_cons_succ, Nat.reduceAdd, BStP.is, Option.isSome_some, Option.isSome_none] at hK ⊢
                simp only [List.sum_cons, List.sum_nil, List.getD_cons_zero, List.getD_cons_succ, Nat.reduceAdd, Nat.add_zero] at hk
                refine rg_yes (by kernel_rfl) ?_
                clear hF
                go_simp
                exact hK _ _ (Sr _) (by simpa using hj) rfl
              refine ⟨fun y w' k hS hj hk hF K hK => ?_, ?_⟩
              · skip -- 1: load
                have e66 : y 66 = _ := hF.1
                simp only [fillL, cond_true, cond_false, List.getD_cons_zero, List.getD_cons_succ, StP.is, Act.put, List.setIfInBounds_toArray, List.set_cons_zero, List.set_cons_succ, Nat.reduceAdd, e66, BStP.is, Option.isSome_some, Option.isSome_none] at hK ⊢
                simp only [List.sum_cons, List.sum_nil, List.getD_cons_zero, List.getD_cons_succ, Nat.reduceAdd, Nat.add_zero] at hk
                refine rg_yes (by kernel_rfl) ?_
                clear e66
                clear hF
                have qt := (World.cell?_of_block (a := ⟨t, 0, none⟩) (hS.1.block t htl (by simp; omega))).trans u0
                go_simp
                exact hK _ _ (Sr _) (by simpa using hj) rfl
              refine ⟨fun y w' k hS hj hk hF K hK => ?_, ?_⟩
              · skip -- 2: move
                simp only [fillL, cond_true, cond_false, List.getD_cons_zero, List.getD_cons_succ, StP.is, Act.put, List.setIfInBounds_toArray, List.set_cons_zero, List.set_cons_succ, Nat.reduceAdd, BStP.is, Option.isSome_some, Option.isSome_none] at hK ⊢
                simp only [List.sum_cons, List.sum_nil, List.getD_cons_zero, List.getD_cons_succ, Nat.reduceAdd, Nat.add_zero] at hk
                refine rg_yes (by kernel_rfl) ?_
                clear hF
                go_simp
                exact hK _ _ (Sr _) (by simpa using hj) rfl
              refine ⟨fun y w' k hS hj hk hF K hK => ?_, ?_⟩
              · skip -- 3: call
                have e68 : y 68 = _ := hF.1
                simp only [fillL, cond_true, cond_false, List.getD_cons_zero, List.getD_cons_succ, StP.is, Act.put, List.setIfInBounds_toArray, List.set_cons_zero, List.set_cons_succ, Nat.reduceAdd, e68, BStP.is, Option.isSome_some, Option.isSome_none] at hK ⊢
                simp only [List.sum_cons, List.sum_nil, List.getD_cons_zero, List.getD_cons_succ, Nat.reduceAdd, Nat.add_zero] at hk
                refine rg_yes (by kernel_rfl) ?_
                clear e68
                clear hF
                obtain ⟨k1, hk1, hrd⟩ := hj
                go_simp
                go_at_call 17
                refine (pick_any w' p A n c zs k1 2 hrd (by omega) (by omega) (by omega)).mono ?_
                rintro e w'' ⟨r, rfl, hr1, rd1, hc1, hz1⟩
                exact hK _ _ (GoesC.of hc1 (by omega)) ⟨k1 + 1, by omega, rd1⟩ ⟨r, rfl, by have := hr1 (by omega); omega⟩
              refine ⟨fun y w' k hS hj hk hF K hK => ?_, ?_⟩
              · skip -- 4: binOp
                obtain ⟨r, e69, hr2⟩ := hF.1
                simp only [fillL, cond_true, cond_false, List.getD_cons_zero, List.getD_cons_succ, StP.is, Act.put, List.setIfInBounds_toArray, List.set_cons_zero, List.set_cons_succ, Nat.reduceAdd, e69, BStP.is, Option.isSome_some, Option.isSome_none] at hK ⊢
                simp only [List.sum_cons, List.sum_nil, List.getD_cons_zero, List.getD_cons_succ, Nat.reduceAdd, Nat.add_zero] at hk
                refine rg_yes (by kernel_rfl) ?_
                clear e69
                clear hF
                have hw : IntKind.i64.wrap (200 + (r : Int)) = 200 + (r : Int) := by rw [IntWalk.i64_in _ (by omega)]
                go_simp
                exact hK _ _ (Sr _) (by simpa using hj) ⟨200 + r, by rw [show ((200 + r : Nat) : Int) = 200 + (r : Int) by omega], by omega⟩
              refine ⟨fun y w' k hS hj hk hF K hK => ?_, ?_⟩
              · skip -- 5: call
                obtain ⟨mm, e70, hmm⟩ := hF.1
                simp only [fillL, cond_true, cond_false, List.getD_cons_zero, List.getD_cons_succ, StP.is, Act.put, List.setIfInBounds_toArray, List.set_cons_zero, List.set_cons_succ, Nat.reduceAdd, e70, BStP.is, Option.isSome_some, Option.isSome_none] at hK ⊢
                simp only [List.sum_cons, List.sum_nil, List.getD_cons_zero, List.getD_cons_succ, Nat.reduceAdd, Nat.add_zero] at hk
                refine rg_yes (by kernel_rfl) ?_
                clear e70
                clear hF
                go_simp
                go_at_call 69
                refine (l6Many_y _ mm w' rfl (by omega)).mono ?_
                rintro e w'' ⟨s, rfl, hs, rfl⟩
                exact hK _ _ (Sr _) (by simpa using hj) ⟨s, rfl, by omega⟩
              refine ⟨fun y w' k hS hj hk hF K hK => ?_, ?_⟩
              · skip -- 6: indexAddr
                have e67 : y 67 = _ := hF.1
                simp only [fillL, cond_true, cond_false, List.getD_cons_zero, List.getD_cons_succ, StP.is, Act.put, List.setIfInBounds_toArray, List.set_cons_zero, List.set_cons_succ, Nat.reduceAdd, e67, BStP.is, Option.isSome_some, Option.isSome_none] at hK ⊢
                simp only [List.sum_cons, List.sum_nil, List.getD_cons_zero, List.getD_cons_succ, Nat.reduceAdd, Nat.add_zero] at hk
                refine rg_yes (by kernel_rfl) ?_
                clear e67
                clear hF
                go_simp
                exact hK _ _ (Sr _) (by simpa using hj) rfl
              refine ⟨fun y w' k hS hj hk hF K hK => ?_, ?_⟩
              · skip -- 7: store
                obtain ⟨s, e71, hs9⟩ := hF.1
                have e72 : y 72 = _ := hF.2.1
                simp only [fillL, cond_true, cond_false, List.getD_cons_zero, List.getD_cons_succ, StP.is, Act.put, List.setIfInBounds_toArray, List.set_cons_zero, List.set_cons_succ, Nat.reduceAdd, e71, e72, BStP.is, Option.isSome_some, Option.isSome_none] at hK ⊢
                simp only [List.sum_cons, List.sum_nil, List.getD_cons_zero, List.getD_cons_succ, Nat.reduceAdd, Nat.add_zero] at hk
                refine rg_yes (by kernel_rfl) ?_
                clear e71 e72
                clear hF
                have hC := hS.2 HB4.out.cells
                obtain ⟨s0, hcs, hfz⟩ := hC.at_ (r := 3) (by omega)
                have HC := Lib.hid hC; clear hC
                go_simp
                exact hK undef _ ⟨(Chg.refl _ _).setCell (.inl (by simp)) _, fun hh => hh.set (by unfold maxLen; omega)⟩ (by obtain ⟨k1, hk1, hrd⟩ := hj; exact ⟨k1, by simpa using hk1, Rd.setOld h hrd (a := ⟨g, 3, none⟩) (by exact Nat.le_of_lt hgw) _⟩) trivial
              trivial
            case hSr => exact Sr
            case hSt => exact fun a b => GoesC.trans a b
            case hJ => exact fun _ _ _ h ⟨k1, h0, hr⟩ => ⟨k1, by omega, hr⟩
            case hdrew => exact GoesC.of (Chg.of_below (Below.drew (Below.refl _ _)) _) (by omega)
            case hj0 => exact ⟨k0 + 1, by omega, HR4.out.below (Below.drew (Below.refl _ _))⟩
            case hend =>
              intro y w5 hS hj' _
              obtain ⟨k5, hk5, rd5⟩ := hj'
              simp only [List.sum_cons, List.sum_nil, Nat.reduceAdd] at hk5
              simp only [fillL, cond_true, cond_false, Nat.reduceAdd]
              have HB5 : Hid (DBase w p t g c0 S B m d ws w5) := Lib.hid (HB4.out.cellsStep hp hgw htw hgt hS)
              have HR5 := Lib.hid rd5
              clear hS u0 u1 u2 v0 v1 v2 fu0 fu1 fu2 fv0 fv1 fv2 hrl htl HB4 HR4 rd5
              have hrl := (Array.getElem?_eq_some_iff.1 HB5.out.res).1
              have htl := (Array.getElem?_eq_some_iff.1 HB5.out.box).1
              have u0 := cell_of_row _ _ 0 _ _ (0, 0) HB5.out.box; have u1 := cell_of_row _ _ 1 _ _ (0, 0) HB5.out.box; have u2 := cell_of_row _ _ 2 _ _ (0, 0) HB5.out.box
              have v0 := cell_of_row _ _ 0 _ _ (0, 0) HB5.out.res; have v1 := cell_of_row _ _ 1 _ _ (0, 0) HB5.out.res; have v2 := cell_of_row _ _ 2 _ _ (0, 0) HB5.out.res
              have fu := fun o => block_free HB5.out.box o
              have fv := fun o => block_free HB5.out.res o
              have fu0 := fu 0; have fu1 := fu 1; have fu2 := fu 2; have fv0 := fv 0; have fv1 := fv 1; have fv2 := fv 2
              clear fu fv
              go_wp2_with fail
              have hst := set3D (x0 := .slice (some ⟨g, 0, none⟩) 64 c0) (x1 := .slice B m d) (x2 := .bool false) HB5.out.res
              have r0 := cell_of_row _ _ 0 _ _ (0, 0) hst; have r1 := cell_of_row _ _ 1 _ _ (0, 0) hst; have r2 := cell_of_row _ _ 2 _ _ (0, 0) hst
              clear hst
              exact bodyPost_ret (v := .agg #[.slice (some ⟨g, 0, none⟩) 64 c0, .slice B m d, .bool false]) (by simp [results, Try.results49, go_sem, r0, r1, r2]) rfl (picked_fin (o := 0) false h hgw HB5.out.cells HB5.out.waits (fun b hb => (HB5.out.own b hb).1) (by omega) hgc (by omega) HR5.out (by omega) HB5.out.chg)
          have g3 : ¬ q4 = 3 := k3'
          by_cases k4' : q4 = 4
          case pos =>
            have e4 : ((q4 : Int) == 4) = true := by rw [k4']; rfl
            have e0' : ((q4 : Int) == 0) = false := by simp; omega
            have e1' : ((q4 : Int) == 1) = false := by simp; omega
            have e2' : ((q4 : Int) == 2) = false := by simp; omega
            have e3' : ((q4 : Int) == 3) = false := by simp; omega
            clear k0' k1' k2' k3' k4' g0 g1 g2 g3
            go_wp2_with fail
            go_loopw [] (fun wr => ∃ (k0 : Nat) (S : List Nat) (B : Option Addr) (m d : Nat) (ws : List WaitD), m ≤ 122 ∧ k0 ≤ k + 300 + m ∧ Hid (Rd wr p A n c zs k0) ∧ Hid (DBase w p t g c0 S B m d ws wr)) (fun wr => 200 - boxLen t wr)
            case atStart => exact ⟨k0 + 1, S, B, m, d, ws, by omega, by omega, HR4, HB4⟩
            case round =>
              clear HB4 HR4 u0 u1 u2 v0 v1 v2 fu0 fu1 fu2 fv0 fv1 fv2 hrl htl htS hk0 hj
              obtain ⟨k0, S, B, m, d, ws, hm, hk0, HR, HB⟩ := hrel
              have htl : t < wr.heap.size := (Array.getElem?_eq_some_iff.1 HB.out.box).1
              have u1 : wr.cell? ⟨t, 1, none⟩ = some (.slice B m d) := cell_of_row _ _ 1 _ _ (0, 0) HB.out.box
              go_wp2_with fail
              have Sr : ∀ a, Chg (· ∈ [p]) a a := fun a => Chg.refl _ a
              apply wp_region_rgb (Chg (· ∈ [p])) (fun w' k' => ∃ k1, k1 ≤ k0 + k' ∧ Rd w' p A n c zs k1) [0, 0, 0, 0, 1, 0, 0] (by kernel_rfl) (false :: false :: false :: false :: false :: false :: false :: false :: false :: false :: false :: false :: false :: false :: false :: false :: false :: false :: false :: false :: false :: false :: false :: false :: false :: false :: false :: false :: false :: false :: false :: false :: false :: false :: false :: false :: false :: false :: false :: false :: false :: false :: false :: false :: false :: false :: false :: false :: false :: false :: false :: false :: false :: false :: false :: false :: false :: false :: false :: false :: false :: false :: false :: false :: false :: false :: false :: false :: false :: false :: false :: false :: false :: false :: false :: true :: true :: true :: true :: true :: true :: true :: false :: false :: false :: false :: false :: false :: false :: false :: false :: false :: false :: []) [some 75, some 76, some 77, some 78, some 79, some 80, some 81] [[], [0], [1], [], [3], [4], [2, 5]] [BStP.is _, BStP.is (.slice B m d), BStP.is _, BStP.is _, natS 2, natS 122, boolS (m < 122)] (by kernel_rfl)
              case hobs =>
                refine ⟨fun y w' k hS hj hk hF K hK => ?_, ?_⟩
                · skip -- 0: fieldAddr
                  simp only [fillL, cond_true, cond_false, List.getD_cons_zero, List.getD_cons_succ, StP.is, Act.put, List.setIfInBounds_toArray, List.set_cons_zero, List.set_cons_succ, Nat.reduceAdd, BStP.is, Option.isSome_some, Option.isSome_none] at hK ⊢
                  simp only [List.sum_cons, List.sum_nil, List.getD_cons_zero, List.getD_cons_succ, Nat.reduceAdd, Nat.add_zero] at hk
                  refine rg_yes (by kernel_rfl) ?_
                  clear hF
                  go_simp
                  exact hK _ _ (Sr _) (by simpa using hj) rfl
                refine ⟨fun y w' k hS hj hk hF K hK => ?_, ?_⟩
                · skip -- 1: load
                  have e75 : y 75 = _ := hF.1
                  simp only [fillL, cond_true, cond_false, List.getD_cons_zero, List.getD_cons_succ, StP.is, Act.put, List.setIfInBounds_toArray, List.set_cons_zero, List.set_cons_succ, Nat.reduceAdd, e75, BStP.is, Option.isSome_some, Option.isSome_none] at hK ⊢
                  simp only [List.sum_cons, List.sum_nil, List.getD_cons_zero, List.getD_cons_succ, Nat.reduceAdd, Nat.add_zero] at hk
                  refine rg_yes (by kernel_rfl) ?_
                  clear e75
                  clear hF
                  have qt := (World.cell?_of_block (a := ⟨t, 1, none⟩) (hS.block t htl (by simp; omega))).trans u1
                  go_simp
                  exact hK _ _ (Sr _) (by simpa using hj) rfl
                refine ⟨fun y w' k hS hj hk hF K hK => ?_, ?_⟩
                · skip -- 2: call
                  have e76 : y 76 = _ := hF.1
                  simp only [fillL, cond_true, cond_false, List.getD_cons_zero, List.getD_cons_succ, StP.is, Act.put, List.setIfInBounds_toArray, List.set_cons_zero, List.set_cons_succ, Nat.reduceAdd, e76, BStP.is, Option.isSome_some, Option.isSome_none] at hK ⊢
                  simp only [List.sum_cons, List.sum_nil, List.getD_cons_zero, List.getD_cons_succ, Nat.reduceAdd, Nat.add_zero] at hk
                  refine rg_yes (by kernel_rfl) ?_
                  clear e76
                  clear hF
                  go_simp
                  exact hK _ _ (Sr _) (by simpa using hj) rfl
                refine ⟨fun y w' k hS hj hk hF K hK => ?_, ?_⟩
                · skip -- 3: move
                  simp only [fillL, cond_true, cond_false, List.getD_cons_zero, List.getD_cons_succ, StP.is, Act.put, List.setIfInBounds_toArray, List.set_cons_zero, List.set_cons_succ, Nat.reduceAdd, BStP.is, Option.isSome_some, Option.isSome_none] at hK ⊢
                  simp only [List.sum_cons, List.sum_nil, List.getD_cons_zero, List.getD_cons_succ, Nat.reduceAdd, Nat.add_zero] at hk
                  refine rg_yes (by kernel_rfl) ?_
                  clear hF
                  go_simp
                  exact hK _ _ (Sr _) (by simpa using hj) rfl
                refine ⟨fun y w' k hS hj hk hF K hK => ?_, ?_⟩
                · skip -- 4: call
                  have e78 : y 78 = _ := hF.1
                  simp only [fillL, cond_true, cond_false, List.getD_cons_zero, List.getD_cons_succ, StP.is, Act.put, List.setIfInBounds_toArray, List.set_cons_zero, List.set_cons_succ, Nat.reduceAdd, e78, BStP.is, Option.isSome_some, Option.isSome_none] at hK ⊢
                  simp only [List.sum_cons, List.sum_nil, List.getD_cons_zero, List.getD_cons_succ, Nat.reduceAdd, Nat.add_zero] at hk
                  refine rg_yes (by kernel_rfl) ?_
                  clear e78
                  clear hF
                  obtain ⟨k1, hk1, hrd⟩ := hj
                  go_simp
                  go_at_call 17
                  refine (pick_any w' p A n c zs k1 2 hrd (by omega) (by omega) (by omega)).mono ?_
                  rintro e w'' ⟨r, rfl, hr1, rd1, hc1, hz1⟩
                  exact hK _ _ hc1 ⟨k1 + 1, by omega, rd1⟩ ⟨r, rfl, by have := hr1 (by omega); omega⟩
                refine ⟨fun y w' k hS hj hk hF K hK => ?_, ?_⟩
                · skip -- 5: binOp
                  obtain ⟨r, e79, hr2⟩ := hF.1
                  simp only [fillL, cond_true, cond_false, List.getD_cons_zero, List.getD_cons_succ, StP.is, Act.put, List.setIfInBounds_toArray, List.set_cons_zero, List.set_cons_succ, Nat.reduceAdd, e79, BStP.is, Option.isSome_some, Option.isSome_none] at hK ⊢
                  simp only [List.sum_cons, List.sum_nil, List.getD_cons_zero, List.getD_cons_succ, Nat.reduceAdd, Nat.add_zero] at hk
                  refine rg_yes (by kernel_rfl) ?_
                  clear e79
                  clear hF
                  have hw : IntKind.i64.wrap (120 + (r : Int)) = 120 + (r : Int) := by rw [IntWalk.i64_in _ (by omega)]
                  go_simp
                  exact hK _ _ (Sr _) (by simpa using hj) ⟨120 + r, by rw [show ((120 + r : Nat) : Int) = 120 + (r : Int) by omega], by omega⟩
                refine ⟨fun y w' k hS hj hk hF K hK => ?_, ?_⟩
                · skip -- 6: binOp
                  have e77 : y 77 = _ := hF.1
                  obtain ⟨mm, e80, hmm⟩ := hF.2.1
                  simp only [fillL, cond_true, cond_false, List.getD_cons_zero, List.getD_cons_succ, StP.is, Act.put, List.setIfInBounds_toArray, List.set_cons_zero, List.set_cons_succ, Nat.reduceAdd, e77, e80, BStP.is, Option.isSome_some, Option.isSome_none] at hK ⊢
                  simp only [List.sum_cons, List.sum_nil, List.getD_cons_zero, List.getD_cons_succ, Nat.reduceAdd, Nat.add_zero] at hk
                  refine rg_yes (by kernel_rfl) ?_
                  clear e77 e80
                  clear hF
                  go_simp
                  exact hK _ _ (Sr _) (by simpa using hj) ⟨_, rfl, fun hb => by simp at hb; omega⟩
                trivial
              case hSr => exact Sr
              case hSt => exact fun a b => Chg.trans a b
              case hJ => exact fun _ _ _ h ⟨k1, h0, hr⟩ => ⟨k1, by omega, hr⟩
              case hdrew => exact (Chg.refl _ _).drewN 1
              case hj0 => exact ⟨k0, by omega, HR.out.below (Below.drew (Below.refl _ _))⟩
              case hend =>
                intro y w5 hS hj' hF
                obtain ⟨bb, e81, hbb⟩ := hF.2.2.2.2.2.2.1
                obtain ⟨k5, hk5, rd5⟩ := hj'
                clear hF
                simp only [List.sum_cons, List.sum_nil, Nat.reduceAdd] at hk5
                simp only [fillL, cond_true, cond_false, Nat.reduceAdd, e81]
                clear e81 u1 htl
                have HB5 : Hid (DBase w p t g c0 S B m d ws w5) := Lib.hid (HB.out.pStep hp hgw htw hgt hS)
                have HR5 := Lib.hid rd5
                clear hS rd5
                have hrl := (Array.getElem?_eq_some_iff.1 HB5.out.res).1
                have htl := (Array.getElem?_eq_some_iff.1 HB5.out.box).1
                have u0 := cell_of_row _ _ 0 _ _ (0, 0) HB5.out.box; have u1 := cell_of_row _ _ 1 _ _ (0, 0) HB5.out.box; have u2 := cell_of_row _ _ 2 _ _ (0, 0) HB5.out.box
                cases bb
                case false =>
                  have v0 := cell_of_row _ _ 0 _ _ (0, 0) HB5.out.res; have v1 := cell_of_row _ _ 1 _ _ (0, 0) HB5.out.res; have v2 := cell_of_row _ _ 2 _ _ (0, 0) HB5.out.res
                  have fu := fun o => block_free HB5.out.box o
                  have fv := fun o => block_free HB5.out.res o
                  have fu0 := fu 0; have fu1 := fu 1; have fu2 := fu 2; have fv0 := fv 0; have fv1 := fv 1; have fv2 := fv 2
                  clear fu fv
                  go_wp2_with fail
                  have hst := set3D (x0 := .slice (some ⟨g, 0, none⟩) 64 c0) (x1 := .slice B m d) (x2 := .bool false) HB5.out.res
                  have r0 := cell_of_row _ _ 0 _ _ (0, 0) hst; have r1 := cell_of_row _ _ 1 _ _ (0, 0) hst; have r2 := cell_of_row _ _ 2 _ _ (0, 0) hst
                  clear hst
                  exact bodyPost_ret (v := .agg #[.slice (some ⟨g, 0, none⟩) 64 c0, .slice B m d, .bool false]) (by simp [results, Try.results49, go_sem, r0, r1, r2]) rfl (picked_fin (o := 0) false h hgw HB5.out.cells HB5.out.waits (fun b hb => (HB5.out.own b hb).1) (by omega) hgc (by omega) HR5.out (by omega) HB5.out.chg)
                case true =>
                  have hm2 := hbb rfl
                  have htS : t ∉ S := fun hm => by have := HB5.out.own t hm; omega
                  obtain ⟨i0, hi0, hz0, hz1, hz2⟩ := info_parts infoE_WaitD
                  have HOA : Hid (∀ X : Int, OwnA (w5.alloc (.cells #[.int .i64 X, .string ⟨#[122]⟩] 63)) 63 2 S B m d (ws.flatMap fun x => [Value.int .i64 x.1, .string x.2])) := Lib.hid fun X => HB5.out.waits.1.below bel1
                  have HLIT : Hid (∀ X : Int, RowAt (w5.alloc (.cells #[.int .i64 X, .string ⟨#[122]⟩] 63)) (some ⟨w5.heap.size, 0, none⟩) (1 * 2) [.int .i64 X, .string ⟨#[122]⟩]) := Lib.hid fun X => RowAt.pair (t := 63) (heap_alloc_new _ _)
                  have HONE : Hid (∀ X : Int, ∀ u ∈ [Value.int .i64 X, .string ⟨#[122]⟩], u.oneCell' = true) := Lib.hid (by intro X u hu; simp at hu; rcases hu with rfl | rfl <;> rfl)
                  go_wp2_with (at_builtin; go_must (refine wpList_append_row rfl _ _ 43 rfl 63 i0 (.agg #[.int .i64 0, .string ⟨#[]⟩]) 2 24 Try.underlying43 hi0 hz0 hz1 hz2 rfl (by decide) S B (some ⟨w5.heap.size, 0, none⟩) m d 1 1 _ [.int .i64 _, .string ⟨#[122]⟩] rfl rfl (HOA.out _) (HLIT.out _) (HONE.out _) (by unfold maxLen; omega) (by omega) ?_))
                  intro A' c' S' w7 hO' hS' hC'
                  obtain ⟨hbt, hDB⟩ := HB5.out.grow hgw htw hgt (by show 1 ≤ maxLen; unfold maxLen; omega) hO' (fun b hb => (hS' b hb).imp id (fun h => by omega)) hC'
                  have hrd7 : Rd w7 p A n c zs k5 := (HR5.out.below bel1).keep hC'.size fun b hb hbp => hC'.block b hb (fun hm => by have h1 := HB5.out.own b hm; rcases hbp with rfl | ⟨hn, off, hA⟩; omega; have := h.old hn hA; omega)
                  have HRD := Lib.hid (Rd.setOld h hrd7 (a := ⟨t, 1, none⟩) (by exact Nat.le_of_lt htw) (.slice A' (m + 1) c'))
                  have HDB := Lib.hid hDB
                  have hms : Hid (200 - boxLen t (w7.setCell ⟨t, 1, none⟩ (.slice A' (m + 1) c')) < 200 - boxLen t wr) := Lib.hid (by
                    rw [boxLen_eq (cell_of_row _ _ 1 _ _ (0, 0) hDB.box), boxLen_eq (cell_of_row _ _ 1 _ _ (0, 0) HB.out.box)]; omega)
                  clear u0 u1 u2 hO' hS' hC' hDB hrd7 htl hrl HOA HLIT HONE
                  have u1 := cell_of_row _ _ 1 _ _ (0, 0) hbt
                  have fu1 : w7.frozen? ⟨t, 1, none⟩ = false := block_free hbt _
                  have htl : t < w7.heap.size := (Array.getElem?_eq_some_iff.1 hbt).1
                  clear hbt
                  go_wp2_with fail
                  go_roundw
                  case rel => exact ⟨k5, S', A', m + 1, c', _, by omega, by omega, HRD, HDB⟩
                  case measure => exact hms.out
          have g4 : ¬ q4 = 4 := k4'
          clear k0' k1' k2' k3' k4'
          have e0' : ((q4 : Int) == 0) = false := by simp; omega
          have e1' : ((q4 : Int) == 1) = false := by simp; omega
          have e2' : ((q4 : Int) == 2) = false := by simp; omega
          have e3' : ((q4 : Int) == 3) = false := by simp; omega
          have e4' : ((q4 : Int) == 4) = false := by simp; omega
          clear g0 g1 g2 g3 g4
          go_wp2_with fail
          have hres : (w4).heap[w.heap.size]? = some (.cells #[.slice none 0 0, .slice none 0 0, .bool false] 45 (0, 0)) := HB4.out.res
          have hst := set3D (x0 := .slice (some ⟨g, 0, none⟩) 64 c0) (x1 := .slice B m d) (x2 := .bool false) hres
          have r0 := cell_of_row _ _ 0 _ _ (0, 0) hst; have r1 := cell_of_row _ _ 1 _ _ (0, 0) hst; have r2 := cell_of_row _ _ 2 _ _ (0, 0) hst
          clear hst hres
          exact bodyPost_ret (v := .agg #[.slice (some ⟨g, 0, none⟩) 64 c0, .slice B m d, .bool false]) (by simp [results, Try.results49, go_sem, r0, r1, r2]) rfl (picked_fin (o := 0) false h hgw HB4.out.cells HB4.out.waits (fun b hb => (HB4.out.own b hb).1) (by omega) hgc (by omega) HR4.out (by omega) HB4.out.chg)
end Go.Proofs.Ytfokpjoeankobaa
