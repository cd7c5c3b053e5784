/- Rows of cells of whatever element type: what is read, what is the call's own, append onto a slice without room. No condition. -/
import Derived.Test.YtgipchipcoaajaaLib
import Derived.Lib.SliceRun
import Derived.Maps.AppendAt
import Derived.Deep.DeepMust
import Derived.Deep.RegionWith
import Derived.Deep.RegionLawGrows
namespace Go.Proofs.Ytgipchipcoaajaa
set_option linter.unusedVariables false
set_option linter.unusedSimpArgs false
set_option linter.unnecessarySimpa false
open Go.RowKit

/-- The cells vs lie at A, m of them. -/
def RowAt (w : World) (A : Option Addr) (m : Nat) (vs : List Value) : Prop :=
  vs.length = m ∧ (0 < m → ∃ b off, A = some ⟨b, off, none⟩ ∧ ∀ j, j < m → w.cell? ⟨b, off + j, none⟩ = vs[j]?)
theorem add_plain (b off j : Nat) : (⟨b, off, none⟩ : Addr).add j = ⟨b, off + j, none⟩ := by
  unfold Addr.add
  split <;> simp_all
section
variable {w w' : World} {A : Option Addr} {m : Nat} {vs : List Value}
theorem RowAt.at_ (h : RowAt w A m vs) {k : Nat} (hk : k < m) : ∃ b off, A = some ⟨b, off, none⟩ ∧ b < w.heap.size ∧ ∀ j, j < m → w.cell? ⟨b, off + j, none⟩ = vs[j]? := by
  obtain ⟨h1, h2⟩ := h
  obtain ⟨b, off, hA, hc⟩ := h2 (by omega)
  exact ⟨b, off, hA, World.block_lt_of_cell? w _ ((hc k hk).trans (List.getElem?_eq_getElem (by omega))), hc⟩
theorem RowAt.keep (h : RowAt w A m vs) (hk : ∀ b off, A = some ⟨b, off, none⟩ → b < w.heap.size → w'.heap[b]? = w.heap[b]?) : RowAt w' A m vs := by
  refine ⟨h.1, fun hn => ?_⟩
  obtain ⟨b, off, hA, hb, hc⟩ := h.at_ hn
  exact ⟨b, off, hA, fun j hj => (World.cell?_of_block (hk b off hA hb)).trans (hc j hj)⟩
theorem RowAt.below (h : RowAt w A m vs) (hb : Below w.heap.size w w') : RowAt w' A m vs := h.keep fun b _ _ hlt => hb.block b hlt
theorem RowAt.news (h : RowAt w A m vs) {ad : Addr} (hA : A = some ad) : ∀ j u, vs[j]? = some u → w.cell? (ad.add j) = some u := by
  intro j u hu
  have hj : j < m := by
    have := h.1
    rcases Nat.lt_or_ge j vs.length with h | h
    · omega
    · rw [List.getElem?_eq_none h] at hu; cases hu
  obtain ⟨b, off, hA', _, hc⟩ := h.at_ hj
  rw [hA] at hA'
  injection hA' with e
  subst e
  rw [add_plain, hc j hj, hu]
end

/-- A slice whose memory is the call's own: it has no element, or its cells vs stand at the head of block g. -/
def OwnRow (w : World) (e : TypeId) (k : Nat) (S : List Nat) (A : Option Addr) (n c : Nat) (vs : List Value) : Prop :=
  (S = [] ∧ n = 0 ∧ vs = [] ∧ (A = none → c = 0)) ∨
  ∃ g cur, S = [g] ∧ A = some ⟨g, 0, none⟩ ∧ vs.length = n * k ∧ n ≤ c ∧ c ≤ maxLen ∧ w.heap[g]? = some (.cells cur e (0, 0)) ∧ cur.size = c * k ∧ ∀ j, j < n * k → cur[j]? = vs[j]?
section
variable {w w' : World} {e : TypeId} {k : Nat} {S : List Nat} {A : Option Addr} {n c : Nat} {vs : List Value}
theorem OwnRow.lt (h : OwnRow w e k S A n c vs) : ∀ g ∈ S, g < w.heap.size := by
  rcases h with ⟨rfl, _⟩ | ⟨g, cur, rfl, _, _, _, _, hg, _⟩
  · simp
  · simpa using (Array.getElem?_eq_some_iff.1 hg).1
theorem OwnRow.keep (h : OwnRow w e k S A n c vs) (hk : ∀ g ∈ S, w'.heap[g]? = w.heap[g]?) : OwnRow w' e k S A n c vs := by
  rcases h with h | ⟨g, cur, rfl, h1, h2, h3, h4, hg, h5⟩
  · exact .inl h
  · exact .inr ⟨g, cur, rfl, h1, h2, h3, h4, (hk g (by simp)).trans hg, h5⟩
theorem OwnRow.below (h : OwnRow w e k S A n c vs) (hb : Below w.heap.size w w') : OwnRow w' e k S A n c vs := h.keep fun g hg => hb.block g (h.lt g hg)
theorem OwnRow.at_ (h : OwnRow w e k S A n c vs) : RowAt w A (n * k) vs := by
  rcases h with ⟨_, rfl, rfl, _⟩ | ⟨g, cur, _, rfl, h2, _, _, hg, _, h5⟩
  · exact ⟨by simp, fun h => absurd h (by simp)⟩
  · exact ⟨h2, fun _ => ⟨g, 0, rfl, fun j hj => by rw [Nat.zero_add, cell_of_row w g j cur _ (0, 0) hg]; exact h5 j hj⟩⟩
theorem ownRow_of {base : Nat} {v : Value} (h : w.ownsRow base e k v n vs) :
    ∃ A c S, v = .slice A n c ∧ OwnRow w e k S A n c vs ∧ (∀ g ∈ S, base ≤ g) ∧ n ≤ c ∧ (S = [] → n = 0) := by
  obtain ⟨hl, h⟩ := h
  rcases h with ⟨rfl, rfl⟩ | ⟨g, cap, cur, rfl, hg, hh, h1, h2, h3, h4⟩
  · exact ⟨none, 0, [], rfl, .inl ⟨rfl, rfl, by simpa using hl, fun _ => rfl⟩, by simp, Nat.le_refl _, fun _ => rfl⟩
  · refine ⟨some ⟨g, 0, none⟩, cap, [g], rfl, .inr ⟨g, cur, rfl, rfl, hl, h1, h2, hh, h3, fun j hj => ?_⟩, by simpa using hg, h1, by simp⟩
    rw [← h4, List.getElem?_take, if_pos hj]
    simp
end

section
variable {P : Program}
theorem run_append_fresh (w : World) (t ty e : TypeId) (i : TypeInfo) (z : Value) (size bytes : Nat) (ht : P.underlying t = some (.slice e)) (hi : P.info? e = some i) (hz : i.zero = some z)
    (hsize : i.size = size) (hby : i.bytes = bytes) (hzs : z.cells.size = size) (hsz : 0 < size) (X A : Option Addr) (m c : Nat) (vs : List Value) (hA : RowAt w A (m * size) vs) (h1 : ∀ u ∈ vs, u.oneCell' = true)
    (h63 : m ≤ maxLen) (hbytes : m * bytes ≤ 140737488355328) :
    ∃ A' c' S w', (Builtin.append_ #[t, t] ty #[.slice X 0 0, .slice A m c]).run P w = .ok (.slice A' m c') w' ∧ OwnRow w' e size S A' m c' vs ∧ (∀ g ∈ S, w.heap.size ≤ g) ∧ Below w.heap.size w w' ∧ m ≤ c' := by
  rcases Nat.eq_zero_or_pos m with h0 | h0
  · subst h0
    have hv : vs = [] := List.eq_nil_of_length_eq_zero (by simpa using hA.1)
    refine ⟨X, 0, [], w, ?_, .inl ⟨rfl, rfl, hv, fun _ => rfl⟩, by simp, Below.refl _ _, Nat.le_refl _⟩
    rcases X with _ | x <;> rcases A with _ | ad <;> simp [Builtin.append_, run_underlying ht, sizeOf, typeInfo, hi, Builtin.lenOf, Builtin.firstCells, loadCells, loadCellsFrom, storeCells]
  · have hp : 0 < m * size := Nat.mul_pos h0 hsz
    obtain ⟨b, off, rfl, _, hc⟩ := hA.at_ hp
    have hnews := hA.news rfl
    rcases X with _ | x
    · obtain ⟨v', w', hr, ho, hg, _⟩ := run_append_own (P := P) w w.heap.size t ty e i z size bytes ht hi hz hsize hby hzs hsz (.slice none 0 0) 0 [] (World.ownsRow_nil _ _ _ _) ⟨b, off, none⟩ m c vs hA.1 hnews h1 (by omega) (by simpa using hbytes) (Nat.le_refl _)
      simp only [Nat.zero_add, List.nil_append] at ho
      obtain ⟨A', c', S, rfl, ho', hS, hcc, _⟩ := ownRow_of ho
      exact ⟨A', c', S, w', hr, ho', hS, (Below.refl _ _).grown hg (Nat.le_refl _) (by simp [Value.ownBlock]), hcc⟩
    · obtain ⟨v', w', hr, ho, hg⟩ := run_append_arg_grows (P := P) w t ty e i z size bytes ht hi hz hsize hby hzs hsz x 0 0 [] (by simp) (by simp) ⟨b, off, none⟩ m c vs hA.1 hnews (by omega) (by omega) (by simpa using hbytes)
      simp only [Nat.zero_add, List.nil_append] at ho
      obtain ⟨A', c', S, rfl, ho', hS, hcc, _⟩ := ownRow_of ho
      exact ⟨A', c', S, w', hr, ho', hS, (Below.refl _ _).grown hg (Nat.le_refl _) (by simp), hcc⟩

theorem wp_append_fresh {o : Oper} {a : Act} {w : World} {K : Act → World → Prop} {Q : Exit → Act → World → Prop} (s x : Operand) (t : TypeId)
    (ho : o.op = .call { callee := .builtin .append, args := #[s, x], argTypes := #[t, t] })
    (e : TypeId) (i : TypeInfo) (z : Value) (size bytes : Nat) (ht : P.underlying t = some (.slice e)) (hi : P.info? e = some i) (hz : i.zero = some z)
    (hsize : i.size = size) (hby : i.bytes = bytes) (hzs : z.cells.size = size) (hsz : 0 < size) (X A : Option Addr) (m c : Nat) (vs : List Value) (hs : a.eval s = .slice X 0 0) (hx : a.eval x = .slice A m c)
    (hA : RowAt w A (m * size) vs) (h1 : ∀ u ∈ vs, u.oneCell' = true) (h63 : m ≤ maxLen) (hbytes : m * bytes ≤ 140737488355328)
    (h : ∀ A' c' S w', OwnRow w' e size S A' m c' vs → (∀ g ∈ S, w.heap.size ≤ g) → Below w.heap.size w w' → m ≤ c' → K (a.put o.dst (.slice A' m c')) w') : o.wp P a w K Q := by
  obtain ⟨A', c', S, w', hr, h2, h3, h4, h5⟩ := run_append_fresh (P := P) w t o.type e i z size bytes ht hi hz hsize hby hzs hsz X A m c vs hA h1 h63 hbytes
  unfold Oper.wp execOp
  simp only [ho, resolve, invoke, builtin, Sem.run_bind, Sem.run_pure, Result.andThen_ok, List.map_toArray, List.map_cons, List.map_nil, hs, hx, hr]
  exact h A' c' S w' h2 h3 h4 h5

theorem wpList_append_fresh {ops : Array Oper} {rest : List Oper} {o : Oper} {a : Act} {w : World} {Q : Exit → Act → World → Prop} (hgd : o.guard = none) (s x : Operand) (t : TypeId)
    (ho : o.op = .call { callee := .builtin .append, args := #[s, x], argTypes := #[t, t] })
    (e : TypeId) (i : TypeInfo) (z : Value) (size bytes : Nat) (ht : P.underlying t = some (.slice e)) (hi : P.info? e = some i) (hz : i.zero = some z)
    (hsize : i.size = size) (hby : i.bytes = bytes) (hzs : z.cells.size = size) (hsz : 0 < size) (X A : Option Addr) (m c : Nat) (vs : List Value) (hs : a.eval s = .slice X 0 0) (hx : a.eval x = .slice A m c)
    (hA : RowAt w A (m * size) vs) (h1 : ∀ u ∈ vs, u.oneCell' = true) (h63 : m ≤ maxLen) (hbytes : m * bytes ≤ 140737488355328)
    (h : ∀ A' c' S w', OwnRow w' e size S A' m c' vs → (∀ g ∈ S, w.heap.size ≤ g) → Below w.heap.size w w' → m ≤ c' → wpList P ops Q rest (a.put o.dst (.slice A' m c')) w') : wpList P ops Q (o :: rest) a w :=
  wpList_plain hgd fun _ hK => wp_append_fresh s x t ho e i z size bytes ht hi hz hsize hby hzs hsz X A m c vs hs hx hA h1 h63 hbytes fun A' c' S w' h2 h3 h4 h5 => hK _ _ (h A' c' S w' h2 h3 h4 h5)

theorem step_append_fresh {ops : Array Oper} {o : Oper} {a : Act} {w : World} {K : Act → World → Prop} {Q : Exit → Act → World → Prop} {E : Prop} (hgd : o.guard = none) (s x : Operand) (t : TypeId)
    (ho : o.op = .call { callee := .builtin .append, args := #[s, x], argTypes := #[t, t] })
    (e : TypeId) (i : TypeInfo) (z : Value) (size bytes : Nat) (ht : P.underlying t = some (.slice e)) (hi : P.info? e = some i) (hz : i.zero = some z)
    (hsize : i.size = size) (hby : i.bytes = bytes) (hzs : z.cells.size = size) (hsz : 0 < size) (X A : Option Addr) (m c : Nat) (vs : List Value) (hs : a.eval s = .slice X 0 0) (hx : a.eval x = .slice A m c)
    (hA : RowAt w A (m * size) vs) (h1 : ∀ u ∈ vs, u.oneCell' = true) (h63 : m ≤ maxLen) (hbytes : m * bytes ≤ 140737488355328)
    (h : ∀ A' c' S w', OwnRow w' e size S A' m c' vs → (∀ g ∈ S, w.heap.size ≤ g) → Below w.heap.size w w' → m ≤ c' → K (a.put o.dst (.slice A' m c')) w') :
    if Region.wanted o (yielded ops a.tmps) = true then Oper.wp P o a w K Q else E := by
  have hw : Region.wanted o (yielded ops a.tmps) = true := by simp [Region.wanted, hgd]
  rw [if_pos hw]
  exact wp_append_fresh s x t ho e i z size bytes ht hi hz hsize hby hzs hsz X A m c vs hs hx hA h1 h63 hbytes h
end

/-! Lists of ints are rows. -/
section
variable {w : World} {A : Option Addr} {n c : Nat} {S : List Nat} {xs : List Int}
theorem IntsAt.row (h : IntsAt w A n xs) : RowAt w A (n * 1) (xs.map (Value.int .i64)) := by
  refine ⟨by simpa using h.len, fun hn => ?_⟩
  obtain ⟨b, off, hA, _, hc⟩ := h.at_ (k := 0) (by omega)
  refine ⟨b, off, hA, fun j hj => ?_⟩
  have hl := h.len
  rw [hc j (by omega)]
  simp [List.getD, show j < xs.length by omega]
theorem ownS_of_ownRow (h : OwnRow w 3 1 S A n c (xs.map (Value.int .i64))) (hb : n ≤ 140737488355328) : OwnS w S A n c xs := by
  rcases h with ⟨h1, h2, h3, h4⟩ | ⟨g, cur, rfl, rfl, h2, h3, h4, hg, h5, h6⟩
  · exact .inl ⟨h1, h2, by simpa using h3, h4⟩
  · have hl : xs.length = n := by simpa using h2
    refine .inr ⟨g, rfl, rfl, hl, h3, ⟨h4, hb⟩, cur, hg, by simpa using h5, fun j hj => ?_⟩
    rw [h6 j (by omega)]
    simp [List.getD, show j < xs.length by omega]
theorem ints_one (xs : List Int) : ∀ u ∈ xs.map (Value.int .i64), u.oneCell' = true := ints_oneCell .i64 xs
end
end Go.Proofs.Ytgipchipcoaajaa
