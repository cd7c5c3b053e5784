/- append onto a slice of the call's own, from whatever source: one law for all its ways. Condition: room below Go's bounds. -/
import Derived.Test.YtgipchipcoaajaaRow
namespace Go.Proofs.Ytgipchipcoaajaa
set_option linter.unusedVariables false
set_option linter.unusedSimpArgs false
set_option linter.unnecessarySimpa false
open Go.RowKit

/-- A slice of the call's own onto which one may append: without memory it has no room. -/
def OwnA (w : World) (e : TypeId) (k : Nat) (S : List Nat) (A : Option Addr) (n c : Nat) (vs : List Value) : Prop :=
  OwnRow w e k S A n c vs ∧ (S = [] → c = 0)
section
variable {w w' : World} {e : TypeId} {k : Nat} {S : List Nat} {A : Option Addr} {n c : Nat} {vs : List Value}
theorem OwnA.lt (h : OwnA w e k S A n c vs) : ∀ g ∈ S, g < w.heap.size := h.1.lt
theorem OwnA.keep (h : OwnA w e k S A n c vs) (hk : ∀ g ∈ S, w'.heap[g]? = w.heap[g]?) : OwnA w' e k S A n c vs := ⟨h.1.keep hk, h.2⟩
theorem OwnA.below (h : OwnA w e k S A n c vs) (hb : Below w.heap.size w w') : OwnA w' e k S A n c vs := ⟨h.1.below hb, h.2⟩
theorem OwnA.nil (X : Option Addr) : OwnA w e k [] X 0 0 [] := ⟨.inl ⟨rfl, rfl, rfl, fun _ => rfl⟩, fun _ => rfl⟩
theorem OwnA.at_ (h : OwnA w e k S A n c vs) : RowAt w A (n * k) vs := h.1.at_
theorem OwnA.none_ (h : OwnA w e k S A n c vs) (hA : A = none) : n = 0 ∧ c = 0 := by
  rcases h.1 with ⟨_, h1, _, h2⟩ | ⟨g, cur, _, h1, _⟩
  · exact ⟨h1, h2 hA⟩
  · rw [hA] at h1; cases h1
theorem OwnA.le (h : OwnA w e k S A n c vs) : n ≤ c := by
  rcases h.1 with ⟨_, h1, _, h2⟩ | ⟨g, cur, _, _, _, h1, _⟩
  · omega
  · exact h1
theorem OwnA.cap (h : OwnA w e k S A n c vs) : c ≤ maxLen := by
  rcases h.1 with ⟨h0, _, _, _⟩ | ⟨g, cur, _, _, _, _, h1, _⟩
  · rw [h.2 h0]; exact Nat.zero_le _
  · exact h1
end
/-- A row that a literal lays: a whole new block. -/
theorem RowAt.lit {w : World} {e : TypeId} {cur : Array Value} {m : Nat} (hm : cur.size = m) : RowAt (w.alloc (.cells cur e)) (some ⟨w.heap.size, 0, none⟩) m cur.toList := by
  refine ⟨by simpa using hm, fun _ => ⟨_, _, rfl, fun j hj => ?_⟩⟩
  rw [Nat.zero_add, cell_of_row _ _ j cur _ (0, 0) (heap_alloc_new w _)]
  simp
theorem OwnA.lit {w : World} {e : TypeId} {k : Nat} {cur : Array Value} {m : Nat} (hm : cur.size = m * k) (hmax : m ≤ maxLen) : OwnA (w.alloc (.cells cur e)) e k [w.heap.size] (some ⟨w.heap.size, 0, none⟩) m m cur.toList :=
  ⟨.inr ⟨_, cur, rfl, rfl, by simpa using hm, Nat.le_refl _, hmax, heap_alloc_new w _, hm, fun j hj => by simp⟩, fun h => by simp at h⟩

section
variable {P : Program}
theorem run_append_row (w : World) (t ty e : TypeId) (i : TypeInfo) (z : Value) (size bytes : Nat) (ht : P.underlying t = some (.slice e)) (hi : P.info? e = some i) (hz : i.zero = some z)
    (hsize : i.size = size) (hby : i.bytes = bytes) (hzs : z.cells.size = size) (hsz : 0 < size) (S : List Nat) (A B : Option Addr) (n c m d : Nat) (vs us : List Value) (hA : OwnA w e size S A n c vs) (hB : RowAt w B (m * size) us)
    (h1 : ∀ u ∈ us, u.oneCell' = true) (h63 : n + m ≤ maxLen) (hbytes : (n + m) * bytes ≤ 140737488355328) :
    ∃ A' c' S' w', (Builtin.append_ #[t, t] ty #[.slice A n c, .slice B m d]).run P w = .ok (.slice A' (n + m) c') w' ∧ OwnA w' e size S' A' (n + m) c' (vs ++ us) ∧ (∀ g ∈ S', g ∈ S ∨ w.heap.size ≤ g) ∧ Chg (· ∈ S) w w' := by
  obtain ⟨ho, hc0⟩ := hA
  rcases ho with ⟨rfl, rfl, rfl, hn⟩ | ⟨g, cur, rfl, rfl, hl, hnc, hcm, hg, hcs, hcc⟩
  · obtain rfl := hc0 rfl
    obtain ⟨A', c', S', w', hr, ho, hS, hb, hmc⟩ := run_append_fresh (P := P) w t ty e i z size bytes ht hi hz hsize hby hzs hsz A B m d us hB h1 (by omega) (by simpa using hbytes)
    rcases Nat.eq_zero_or_pos m with h0 | h0
    · subst h0
      have hu : us = [] := List.eq_nil_of_length_eq_zero (by simpa using hB.1)
      subst hu
      refine ⟨A, 0, [], w, ?_, OwnA.nil A, by simp, Chg.refl _ _⟩
      rcases A with _ | x <;> rcases B with _ | ad <;> simp [Builtin.append_, run_underlying ht, sizeOf, typeInfo, hi, Builtin.lenOf, Builtin.firstCells, loadCells, loadCellsFrom, storeCells]
    · refine ⟨A', c', S', w', by simpa using hr, ⟨by simpa using ho, fun hS0 => ?_⟩, fun g hg => .inr (hS g hg), Chg.of_below hb _⟩
      subst hS0
      rcases ho with ⟨_, h, _⟩ | ⟨g, _, h, _⟩
      · omega
      · cases h
  · rcases B with _ | ad
    · have hm0 : m = 0 := by
        rcases Nat.eq_zero_or_pos m with h | h
        · exact h
        · obtain ⟨b, off, hb, _⟩ := hB.2 (Nat.mul_pos h hsz)
          cases hb
      subst hm0
      have hu : us = [] := List.eq_nil_of_length_eq_zero (by simpa using hB.1)
      subst hu
      refine ⟨some ⟨g, 0, none⟩, c, [g], w, ?_, ⟨.inr ⟨g, cur, rfl, rfl, by simpa using hl, by simpa using hnc, hcm, hg, hcs, by simpa using hcc⟩, fun h => by simp at h⟩, fun g hg => .inl hg, Chg.refl _ _⟩
      have hle : n ≤ c := hnc
      simp [Builtin.append_, run_underlying ht, sizeOf, typeInfo, hi, Builtin.lenOf, Builtin.firstCells, loadCells, loadCellsFrom, storeCells, hle]
    · have hown : w.ownsRow g e size (.slice (some ⟨g, 0, none⟩) n c) n vs := by
        refine ⟨hl, .inr ⟨g, c, cur, rfl, Nat.le_refl _, hg, hnc, hcm, hcs, ?_⟩⟩
        apply List.ext_getElem?
        intro j
        rw [List.getElem?_take]
        split
        · rename_i hj
          rw [Array.getElem?_toList, hcc j hj]
        · rename_i hj
          rw [List.getElem?_eq_none (by omega)]
      have hgl : g < w.heap.size := (Array.getElem?_eq_some_iff.1 hg).1
      obtain ⟨v', w', hr, ho', hgr, hiff, hblk⟩ := run_append_own_at (P := P) w g t ty e i z size bytes ht hi hz hsize hby hzs hsz _ n vs hown ad m d us hB.1 (hB.news rfl) h1 h63 hbytes (by omega)
      rcases ho'.2 with ⟨hv, _⟩ | ⟨g', cap, cur', rfl, _, hg', hn', hcm', hcs', htk⟩
      · have := (hiff.1 hv).1
        simp at this
      refine ⟨_, cap, [g'], w', hr, ⟨.inr ⟨g', cur', rfl, rfl, ho'.1, hn', hcm', hg', hcs', fun j hj => ?_⟩, fun h => by simp at h⟩, fun k hk => ?_, ⟨hgr.os, hgr.tape, hgr.output, hgr.size, fun k hk hs => hgr.block k hk (by simpa [Value.ownBlock] using fun h => hs (by simp [h]))⟩⟩
      · rw [← htk, List.getElem?_take, if_pos hj]
        simp
      · simp at hk
        subst hk
        rcases hblk with h | h
        · left; simpa [Value.ownBlock] using h
        · right; simp [Value.ownBlock] at h; omega

theorem wp_append_row {o : Oper} {a : Act} {w : World} {K : Act → World → Prop} {Q : Exit → Act → World → Prop} (s x : Operand) (t : TypeId)
    (ho : o.op = .call { callee := .builtin .append, args := #[s, x], argTypes := #[t, t] })
    (e : TypeId) (i : TypeInfo) (z : Value) (size bytes : Nat) (ht : P.underlying t = some (.slice e)) (hi : P.info? e = some i) (hz : i.zero = some z)
    (hsize : i.size = size) (hby : i.bytes = bytes) (hzs : z.cells.size = size) (hsz : 0 < size) (S : List Nat) (A B : Option Addr) (n c m d : Nat) (vs us : List Value) (hs : a.eval s = .slice A n c) (hx : a.eval x = .slice B m d)
    (hA : OwnA w e size S A n c vs) (hB : RowAt w B (m * size) us) (h1 : ∀ u ∈ us, u.oneCell' = true) (h63 : n + m ≤ maxLen) (hbytes : (n + m) * bytes ≤ 140737488355328)
    (h : ∀ A' c' S' w', OwnA w' e size S' A' (n + m) c' (vs ++ us) → (∀ g ∈ S', g ∈ S ∨ w.heap.size ≤ g) → Chg (· ∈ S) w w' → K (a.put o.dst (.slice A' (n + m) c')) w') : o.wp P a w K Q := by
  obtain ⟨A', c', S', w', hr, h2, h3, h4⟩ := run_append_row (P := P) w t o.type e i z size bytes ht hi hz hsize hby hzs hsz S A B n c m d vs us hA hB h1 h63 hbytes
  unfold Oper.wp execOp
  simp only [ho, resolve, invoke, builtin, Sem.run_bind, Sem.run_pure, Result.andThen_ok, List.map_toArray, List.map_cons, List.map_nil, hs, hx, hr]
  exact h A' c' S' w' h2 h3 h4
theorem wpList_append_row {ops : Array Oper} {rest : List Oper} {o : Oper} {a : Act} {w : World} {Q : Exit → Act → World → Prop} (hgd : o.guard = none) (s x : Operand) (t : TypeId)
    (ho : o.op = .call { callee := .builtin .append, args := #[s, x], argTypes := #[t, t] })
    (e : TypeId) (i : TypeInfo) (z : Value) (size bytes : Nat) (ht : P.underlying t = some (.slice e)) (hi : P.info? e = some i) (hz : i.zero = some z)
    (hsize : i.size = size) (hby : i.bytes = bytes) (hzs : z.cells.size = size) (hsz : 0 < size) (S : List Nat) (A B : Option Addr) (n c m d : Nat) (vs us : List Value) (hs : a.eval s = .slice A n c) (hx : a.eval x = .slice B m d)
    (hA : OwnA w e size S A n c vs) (hB : RowAt w B (m * size) us) (h1 : ∀ u ∈ us, u.oneCell' = true) (h63 : n + m ≤ maxLen) (hbytes : (n + m) * bytes ≤ 140737488355328)
    (h : ∀ A' c' S' w', OwnA w' e size S' A' (n + m) c' (vs ++ us) → (∀ g ∈ S', g ∈ S ∨ w.heap.size ≤ g) → Chg (· ∈ S) w w' → wpList P ops Q rest (a.put o.dst (.slice A' (n + m) c')) w') : wpList P ops Q (o :: rest) a w :=
  wpList_plain hgd fun _ hK => wp_append_row s x t ho e i z size bytes ht hi hz hsize hby hzs hsz S A B n c m d vs us hs hx hA hB h1 h63 hbytes fun A' c' S' w' h2 h3 h4 => hK _ _ (h A' c' S' w' h2 h3 h4)
end
end Go.Proofs.Ytgipchipcoaajaa
