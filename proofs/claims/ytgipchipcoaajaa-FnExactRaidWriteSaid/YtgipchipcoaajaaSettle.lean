/- settle of the program: the waits are laid into the cells, in their order, by a closure. No condition. -/
import Derived.Test.YtgipchipcoaajaaDiskSpoil
import Derived.Test.YtgipchipcoaajaaClones
import Derived.Test.YtgipchipcoaajaaDiskLose
import Derived.Test.YtgipchipcoaajaaRgz
namespace Go.Proofs.Ytgipchipcoaajaa
set_option linter.unusedSimpArgs false
set_option linter.unnecessarySimpa false
open Go.RowKit
set_option linter.unusedVariables false
/-- Nothing below B has turned, and no block of another type than T. -/
def DT (B T : Nat) (a b : World) : Prop := Own B a b ∧ a.heap.size ≤ b.heap.size ∧ ∀ i, i < a.heap.size → (∀ cur, a.heap[i]? ≠ some (.cells cur T (0, 0))) → b.heap[i]? = a.heap[i]?
theorem DT.trans {B T : Nat} {a b c : World} (h : DT B T a b) (k : DT B T b c) : DT B T a c := by
  refine ⟨Own.trans h.1 k.1, Nat.le_trans h.2.1 k.2.1, fun i hi hn => ?_⟩
  have e := h.2.2 i hi hn
  exact (k.2.2 i (Nat.lt_of_lt_of_le hi h.2.1) (by rw [e]; exact hn)).trans e
theorem DT.of_ext {B T : Nat} {a b : World} (h : Ext a b) : DT B T a b := ⟨Own.of_ext _ _ _ h, Below.size h, fun i hi _ => Below.block h i hi⟩
/-- A block of texts. -/
def StrArr (S : TypeId) (w : World) (g c : Nat) (xs : List ByteArray) : Prop := ∃ cur : Array Value, w.heap[g]? = some (.cells cur S (0, 0)) ∧ cur.size = c ∧ xs.length ≤ c ∧ c ≤ maxLen ∧ ∀ (j : Nat) (s : ByteArray), xs[j]? = some s → cur[j]? = some (Value.string s)
theorem StrArr.block {S : TypeId} {w w' : World} {g c : Nat} {xs : List ByteArray} (h : StrArr S w g c xs) (e : w'.heap[g]? = w.heap[g]?) : StrArr S w' g c xs := by
  obtain ⟨cur, h1, h2⟩ := h
  exact ⟨cur, e.trans h1, h2⟩
theorem StrArr.lt {S : TypeId} {w : World} {g c : Nat} {xs : List ByteArray} (h : StrArr S w g c xs) : g < w.heap.size := by
  obtain ⟨cur, h1, _⟩ := h
  exact (Array.getElem?_eq_some_iff.1 h1).1
theorem StrArr.below {S : TypeId} {w w' : World} {g c : Nat} {xs : List ByteArray} (h : StrArr S w g c xs) (hb : Below w.heap.size w w') : StrArr S w' g c xs := h.block (hb.block _ h.lt)
theorem StrArr.cell {S : TypeId} {w : World} {g c j : Nat} {xs : List ByteArray} {s : ByteArray} (h : StrArr S w g c xs) (hj : xs[j]? = some s) : w.cell? ⟨g, j, none⟩ = some (.string s) := by
  obtain ⟨cur, h1, _, _, _, h5⟩ := h
  rw [cell_of_row _ _ j _ _ (0, 0) h1]
  exact h5 j s hj
theorem StrArr.free {S : TypeId} {w : World} {g c j : Nat} {xs : List ByteArray} (h : StrArr S w g c xs) : w.frozen? ⟨g, j, none⟩ = false := by
  obtain ⟨cur, h1, _⟩ := h
  exact block_free h1 _
theorem StrArr.of_whole {S : TypeId} {w : World} {lo hi : Nat} {A : Option Addr} {n c : Nat} {xs : List ByteArray} (h : SliceR StrR 1 w lo hi A n c xs) (k : Whole w S 1 lo hi A n c) (hn : 0 < n) : ∃ g, A = some ⟨g, 0, none⟩ ∧ lo ≤ g ∧ g < hi ∧ StrArr S w g c xs := by
  rcases k with ⟨h0, _⟩ | ⟨g, cur, rfl, h1, h2, h3, h4, h5, h6⟩
  · omega
  · have hl := h.len
    obtain ⟨b, off, hA, _, _, _, hc⟩ := h.at_ hn
    injection hA with e; injection e with e1 e2; subst e1 e2
    refine ⟨g, rfl, h1, h2, cur, h3, by omega, by omega, h6, fun j s hj => ?_⟩
    obtain ⟨cs, _, hcs, rfl, _⟩ := hc j s hj
    have := hcs 0 _ rfl
    rw [Nat.zero_add, Nat.mul_one, Nat.add_zero, cell_of_row _ _ _ _ _ (0, 0) h3] at this
    exact this
theorem StrArr.whole {S : TypeId} {w : World} {lo hi g c : Nat} {xs : List ByteArray} (h : StrArr S w g c xs) (h1 : lo ≤ g) (h2 : g < hi) : Whole w S 1 lo hi (some ⟨g, 0, none⟩) xs.length c := by
  obtain ⟨cur, k1, k2, k3, k4, k5⟩ := h
  exact .inr ⟨g, cur, rfl, h1, h2, k1, by omega, k3, k4⟩
theorem StrArr.slice {S : TypeId} {w : World} {lo hi g c : Nat} {xs : List ByteArray} (h : StrArr S w g c xs) (h1 : lo ≤ g) (h2 : g < hi) (h3 : hi ≤ w.heap.size) (hs : ∀ s ∈ xs, s.size ≤ maxLen) : SliceR StrR 1 w lo hi (some ⟨g, 0, none⟩) xs.length c xs := by
  obtain ⟨cur, k1, k2, k3, k4, k5⟩ := h
  refine ⟨rfl, k3, Nat.le_trans k3 k4, h3, (fun h => by cases h), fun _ => ⟨g, 0, rfl, h1, h2, fun j x hx => ⟨[.string x], rfl, fun i u hu => ?_, rfl, hs x (List.mem_of_getElem? hx)⟩⟩⟩
  match i, hu with
  | 0, hu =>
    simp at hu; subst hu
    rw [Nat.zero_add, Nat.mul_one, Nat.add_zero, cell_of_row _ _ _ _ _ (0, 0) k1]
    exact k5 j x hx
  | i + 1, hu => simp at hu
theorem StrArr.set {S : TypeId} {w : World} {g c a : Nat} {xs : List ByteArray} {s : ByteArray} (h : StrArr S w g c xs) (ha : a < xs.length) : StrArr S (w.setCell ⟨g, a, none⟩ (.string s)) g c (xs.set a s) := by
  obtain ⟨cur, k1, k2, k3, k4, k5⟩ := h
  refine ⟨cur.setIfInBounds a (.string s), block_set k1, by simpa using k2, by simpa using k3, k4, fun j x hx => ?_⟩
  rw [List.getElem?_set] at hx
  by_cases hj : a = j
  · subst hj
    rw [if_pos rfl, if_pos ha] at hx
    obtain rfl := Option.some.inj hx
    rw [Array.getElem?_setIfInBounds, if_pos rfl, if_pos (by omega)]
  · rw [if_neg hj] at hx
    rw [Array.getElem?_setIfInBounds, if_neg hj]
    exact k5 j x hx
def softStrA (B : Nat) {S T : TypeId} (hST : S ≠ T) (xs : List ByteArray) (f : Value → Value) : MStP (DT B T) Ext := ⟨fun v w => ∃ g c, B ≤ g ∧ v = f (.slice (some ⟨g, 0, none⟩) 64 c) ∧ StrArr S w g c xs, true,
  fun v w w' hs ⟨g, c, hg, e, h⟩ => ⟨g, c, hg, e, h.below hs⟩,
  fun _ v w w' hs ⟨g, c, hg, e, h⟩ => ⟨g, c, hg, e, h.block (hs.2.2 g h.lt (fun cur' => by obtain ⟨cur, h1, _⟩ := h; rw [h1]; intro e; injection e with e; injection e with _ e; exact hST e))⟩⟩
def softBoxT (B : Nat) (T : TypeId) (cur : Array Value) : MStP (DT B T) Ext := ⟨fun v w => ∃ g : Nat, B ≤ g ∧ v = .pointer (some ⟨g, 0, none⟩) ∧ w.heap[g]? = some (.cells cur T (0, 0)), false, fun v w w' hs ⟨g, hB, e, hg⟩ => ⟨g, hB, e, (Below.block hs g (Array.getElem?_eq_some_iff.1 hg).1).trans hg⟩, fun h => by cases h⟩
theorem setT_3 {w : World} {r T : Nat} {v0 v1 v2 x0 x1 x2 : Value} (h : w.heap[r]? = some (.cells #[v0, v1, v2] T (0, 0))) :
    (((w.setCell ⟨r, 0, none⟩ x0).setCell ⟨r, 1, none⟩ x1).setCell ⟨r, 2, none⟩ x2).heap[r]? = some (.cells #[x0, x1, x2] T (0, 0)) := block_set (o := 2) (v := x2) (block_set (o := 1) (v := x1) (block_set (o := 0) (v := x0) h))
def DoneT (B : Nat) (T S : TypeId) (xs : List ByteArray) (gone : Bool) (y : Nat → Value) (w' : World) : Prop :=
  ∃ nb g c : Nat, y 5 = .pointer (some ⟨nb, 0, none⟩) ∧ B ≤ nb ∧ B ≤ g ∧ w'.heap[nb]? = some (.cells #[.slice (some ⟨g, 0, none⟩) 64 c, .slice none 0 0, .bool gone] T (0, 0)) ∧ StrArr S w' g c xs
/-- What the waits leave in the cells. -/
def settleStep (f : Nat → WaitD → ByteArray → ByteArray) (ws : List WaitD) (t : List ByteArray) (i : Nat) : List ByteArray := match ws[i]? with
  | some x => t.set x.1.toNat (f i x (t.getD x.1.toNat ByteArray.empty))
  | none => t
def settleTo (f : Nat → WaitD → ByteArray → ByteArray) (ws : List WaitD) (t : List ByteArray) (k : Nat) : List ByteArray := (List.range k).foldl (settleStep f ws) t
theorem settleTo_succ {f : Nat → WaitD → ByteArray → ByteArray} {ws : List WaitD} {t : List ByteArray} {k : Nat} : settleTo f ws t (k + 1) = settleStep f ws (settleTo f ws t k) k := by simp [settleTo, List.range_succ, List.foldl_append]
theorem settleStep_len {f : Nat → WaitD → ByteArray → ByteArray} {ws : List WaitD} {t : List ByteArray} {k : Nat} : (settleStep f ws t k).length = t.length := by unfold settleStep; split <;> simp
theorem settleTo_len {f : Nat → WaitD → ByteArray → ByteArray} {ws : List WaitD} {t : List ByteArray} {k : Nat} : (settleTo f ws t k).length = t.length := by
  induction k with
  | zero => rfl
  | succ k ih => rw [settleTo_succ, settleStep_len, ih]
def settleD (f : Nat → WaitD → ByteArray → ByteArray) (x : DiskD) : DiskD := (settleTo f x.2.1 x.1 x.2.1.length, [], x.2.2)
theorem settleTo_le {f : Nat → WaitD → ByteArray → ByteArray} {ws : List WaitD} {t : List ByteArray} (hw : ∀ x ∈ ws, x.2.size ≤ 200) (ht : ∀ s ∈ t, s.size ≤ 200) (hf : ∀ i x s, x.2.size ≤ 200 → s.size ≤ 200 → (f i x s).size ≤ 200) (k : Nat) : ∀ s ∈ settleTo f ws t k, s.size ≤ 200 := by
  induction k with
  | zero => exact ht
  | succ k ih =>
    rw [settleTo_succ]
    unfold settleStep
    split
    · rename_i x hx
      intro s hs
      rcases List.mem_or_eq_of_mem_set hs with h | rfl
      · exact ih s h
      · refine hf _ _ _ (hw _ (List.mem_of_getElem? hx)) ?_
        rw [List.getD_eq_getElem?_getD]
        cases hg : (settleTo f ws t k)[x.1.toNat]? with
        | none => simp
        | some v => exact ih v (List.mem_of_getElem? hg)
    · exact ih
set_option maxRecDepth 100000 in
set_option maxHeartbeats 4000000 in
theorem settleFlush_any (cs : List Value) (x : DiskD) (w : World) (lo hi : Nat) (h : DiskR w lo hi cs x) (hok : diskOk x = true) (f : Nat → WaitD → ByteArray → ByteArray) (hf : ∀ i x s, x.2.size ≤ 200 → s.size ≤ 200 → (f i x s).size ≤ 200)
    (hfv : ∀ (i : Nat) (a : Int) (s t : ByteArray) (w' : World), Below w.heap.size w w' → i < 120 → s.size ≤ 200 → t.size ≤ 200 → Calls Try.prog 68 #[.int .i64 (i : Int), .agg #[.int .i64 a, .string s], .string t] w' fun e w'' => e = .returned (.string (f i (a, s) t)) ∧ Below w'.heap.size w' w'') :
    Calls Try.prog 67 #[.agg cs.toArray, .func (.func 68) #[] #[]] w (NewR DiskN w (settleD f x)) := by
  have hok' := hok
  obtain ⟨x0, x1, gone⟩ := x
  unfold diskOk at hok'
  simp only [Bool.and_eq_true, decide_eq_true_eq, List.all_eq_true] at hok'
  obtain ⟨⟨⟨⟨hx0, hx1⟩, hx2⟩, hx3⟩, hx4⟩ := hok'
  have HT : Hid (∀ s ∈ x0, s.size ≤ 200) := Lib.hid (fun s hs => by have := hx2 s hs; unfold textOk at this; simp at this; exact this.1)
  have HW : Hid (∀ y ∈ x1, inB y.1 0 63 = true ∧ y.2.size ≤ 200) := Lib.hid (fun y hy => by have := hx4 y hy; unfold waitOk at this; simpa using this)
  obtain ⟨A0, n0, c0, A1, n1, c1, rfl, h0, h1⟩ := h
  obtain rfl : 64 = n0 := by have := h0.len; simp only at this hx0; omega
  have hn1 := h1.len
  simp only at hn1 hx1
  have hn : n1 ≤ 120 := by omega
  have H0 := Lib.hid h0; have H1 := Lib.hid h1; have HX0 := Lib.hid hx0; have HN1 := Lib.hid hn1; have HF := Lib.hid hf; have HFV := Lib.hid hfv
  show Calls Try.prog 67 #[.agg #[.slice A0 64 c0, .slice A1 n1 c1, .bool gone], .func (.func 68) #[] #[]] w _
  clear h0 h1 hx0 hx1 hx2 hx3 hx4 hok hn1 hf hfv
  go_enter Try.func67, Try.ntmps67
  go_wp2_with fail
  obtain ⟨w1, hW⟩ : ∃ w1, w1 = (w.alloc (.cells #[.slice A0 64 c0, .slice A1 n1 c1, .bool gone] 26)).alloc (.cells #[.slice none 0 0, .slice none 0 0, .bool false] 26) := ⟨_, rfl⟩
  have X1 : Below w.heap.size w w1 := by rw [hW]; exact bel2
  have z1 : w1.heap.size = w.heap.size + 2 := by rw [hW]; simp
  have hq : w1.heap[w.heap.size + 1]? = some (.cells #[.slice none 0 0, .slice none 0 0, .bool false] 26 (0, 0)) := by rw [hW]; have := heap_alloc_new (w.alloc (.cells #[.slice A0 64 c0, .slice A1 n1 c1, .bool gone] 26)) (.cells #[.slice none 0 0, .slice none 0 0, .bool false] 26); simpa using this
  have hbx : w1.heap[w.heap.size]? = some (.cells #[.slice A0 64 c0, .slice A1 n1 c1, .bool gone] 26 (0, 0)) := by rw [hW]; exact (Below.heap_alloc _ _ _ (by simp)).trans (heap_alloc_new _ _)
  have HWW := Lib.hid hW; rw [← HWW.out]; clear hW HWW
  have c0' := cell_of_row _ _ 0 _ _ (0, 0) hbx; have c1' := cell_of_row _ _ 1 _ _ (0, 0) hbx; have c2' := cell_of_row _ _ 2 _ _ (0, 0) hbx
  have lw : w.heap.size < w1.heap.size := by omega
  have HBX := Lib.hid hbx; have HQ := Lib.hid hq; clear hbx hq
  apply wp_region_rgz (DT (w1.heap.size) 26) (Ext) (fun y w' k' => 1000 ≤ k' → DoneT w1.heap.size 26 9 x0 gone y w') [0, 0, 0, 0, 0, 0, 0, 1000] [1000, 1000, 1000, 1000, 1000, 1000, 1000, 1000] (by kernel_rfl) (false :: false :: false :: false :: false :: true :: false :: false :: true :: true :: true :: true :: true :: true :: false :: false :: false :: false :: false :: false :: false :: false :: false :: false :: false :: false :: false :: false :: false :: false :: false :: false :: false :: false :: false :: false :: false :: false :: false :: []) [some 8, some 9, some 10, some 11, some 12, some 13, some 5, none] [[], [0], [1], [], [3], [2, 4], [], [5, 6]] [false, false, false, false, false, false, false, true] [true, true, true, true, true, true, false, true] [] [MStP.is _, MStP.is _, softStrA (w1.heap.size) (S := 9) (T := 26) (by decide) x0 (fun v => v), MStP.is _, MStP.is _, softStrA (w1.heap.size) (S := 9) (T := 26) (by decide) x0 (fun v => .agg #[v, .slice none 0 0, .bool gone]), softBoxT (w1.heap.size) 26 #[.slice none 0 0, .slice none 0 0, .bool false], MStP.is _] (by kernel_rfl) (by kernel_rfl) (by kernel_rfl) (by kernel_rfl)
  case hobs =>
    refine ⟨fun y w' k hS hj hk hF K hK => ?_, ?_⟩
    · skip -- 0: fieldAddr
      simp only [fillL, cond_true, cond_false, List.getD_cons_zero, List.getD_cons_succ, StP.is, Act.put, List.setIfInBounds_toArray, List.set_cons_zero, List.set_cons_succ, Nat.reduceAdd, MStP.is, Option.isSome_some, Option.isSome_none] at hK ⊢
      simp only [List.sum_cons, List.sum_nil, List.getD_cons_zero, List.getD_cons_succ, Nat.reduceAdd, Nat.add_zero] at hk
      refine rg_yes (by kernel_rfl) ?_
      have hSb : Below w1.heap.size w1 w' := hS.1 (Nat.le_refl _)
      have hsz := hSb.size
      clear hF
      go_simp
      exact hK _ _ (Ext.refl _) (fun h => absurd h (by omega)) rfl
    refine ⟨fun y w' k hS hj hk hF K hK => ?_, ?_⟩
    · skip -- 1: load
      have e8 : y 8 = _ := hF.1
      have e8' := Lib.hid e8
      simp only [fillL, cond_true, cond_false, List.getD_cons_zero, List.getD_cons_succ, StP.is, Act.put, List.setIfInBounds_toArray, List.set_cons_zero, List.set_cons_succ, Nat.reduceAdd, e8, MStP.is, Option.isSome_some, Option.isSome_none] at hK ⊢
      simp only [List.sum_cons, List.sum_nil, List.getD_cons_zero, List.getD_cons_succ, Nat.reduceAdd, Nat.add_zero] at hk
      refine rg_yes (by kernel_rfl) ?_
      have hSb : Below w1.heap.size w1 w' := hS.1 (Nat.le_refl _)
      have hsz := hSb.size
      clear e8
      clear hF
      have q0_ := (hSb.cell lw).trans c0'
      go_simp
      exact hK _ _ (Ext.refl _) (fun h => absurd h (by omega)) rfl
    refine ⟨fun y w' k hS hj hk hF K hK => ?_, ?_⟩
    · skip -- 2: call
      have e9 : y 9 = _ := hF.1
      have e9' := Lib.hid e9
      simp only [fillL, cond_true, cond_false, List.getD_cons_zero, List.getD_cons_succ, StP.is, Act.put, List.setIfInBounds_toArray, List.set_cons_zero, List.set_cons_succ, Nat.reduceAdd, e9, MStP.is, Option.isSome_some, Option.isSome_none] at hK ⊢
      simp only [List.sum_cons, List.sum_nil, List.getD_cons_zero, List.getD_cons_succ, Nat.reduceAdd, Nat.add_zero] at hk
      refine rg_yes (by kernel_rfl) ?_
      have hSb : Below w1.heap.size w1 w' := hS.1 (Nat.le_refl _)
      have hsz := hSb.size
      clear e9
      clear hF
      go_simp
      go_at_call 116
      have hbw : Below w.heap.size w w' := X1.trans (hSb.mono (by omega))
      refine (cloneStringS_any _ _ _ x0 _ lo hi (SliceR.below H0.out hbw (StrR.below hbw H0.out.lo_le)) (by omega)).mono ?_
      rintro e w'' ⟨A', c', rfl, g1, g2, hb⟩
      obtain ⟨g, rfl, hg1, hg2, hsa⟩ := StrArr.of_whole g1 g2 (by omega)
      exact hK _ _ hb (fun h => absurd h (by omega)) ⟨g, c', by omega, rfl, hsa⟩
    refine ⟨fun y w' k hS hj hk hF K hK => ?_, ?_⟩
    · skip -- 3: fieldAddr
      simp only [fillL, cond_true, cond_false, List.getD_cons_zero, List.getD_cons_succ, StP.is, Act.put, List.setIfInBounds_toArray, List.set_cons_zero, List.set_cons_succ, Nat.reduceAdd, MStP.is, Option.isSome_some, Option.isSome_none] at hK ⊢
      simp only [List.sum_cons, List.sum_nil, List.getD_cons_zero, List.getD_cons_succ, Nat.reduceAdd, Nat.add_zero] at hk
      refine rg_yes (by kernel_rfl) ?_
      have hSb : Below w1.heap.size w1 w' := hS.1 (Nat.le_refl _)
      have hsz := hSb.size
      clear hF
      go_simp
      exact hK _ _ (Ext.refl _) (fun h => absurd h (by omega)) rfl
    refine ⟨fun y w' k hS hj hk hF K hK => ?_, ?_⟩
    · skip -- 4: load
      have e11 : y 11 = _ := hF.1
      have e11' := Lib.hid e11
      simp only [fillL, cond_true, cond_false, List.getD_cons_zero, List.getD_cons_succ, StP.is, Act.put, List.setIfInBounds_toArray, List.set_cons_zero, List.set_cons_succ, Nat.reduceAdd, e11, MStP.is, Option.isSome_some, Option.isSome_none] at hK ⊢
      simp only [List.sum_cons, List.sum_nil, List.getD_cons_zero, List.getD_cons_succ, Nat.reduceAdd, Nat.add_zero] at hk
      refine rg_yes (by kernel_rfl) ?_
      have hSb : Below w1.heap.size w1 w' := hS.1 (Nat.le_refl _)
      have hsz := hSb.size
      clear e11
      clear hF
      have q0_ := (hSb.cell lw).trans c2'
      go_simp
      exact hK _ _ (Ext.refl _) (fun h => absurd h (by omega)) rfl
    refine ⟨fun y w' k hS hj hk hF K hK => ?_, ?_⟩
    · skip -- 5: build
      obtain ⟨gs, cc, hgs, e10, hsa⟩ := hF.1
      have e12 : y 12 = _ := hF.2.1
      have e10' := Lib.hid e10
      have e12' := Lib.hid e12
      simp only [fillL, cond_true, cond_false, List.getD_cons_zero, List.getD_cons_succ, StP.is, Act.put, List.setIfInBounds_toArray, List.set_cons_zero, List.set_cons_succ, Nat.reduceAdd, e10, e12, MStP.is, Option.isSome_some, Option.isSome_none] at hK ⊢
      simp only [List.sum_cons, List.sum_nil, List.getD_cons_zero, List.getD_cons_succ, Nat.reduceAdd, Nat.add_zero] at hk
      refine rg_yes (by kernel_rfl) ?_
      have hSb : Below w1.heap.size w1 w' := hS.1 (Nat.le_refl _)
      have hsz := hSb.size
      clear e10 e12
      clear hF
      go_simp
      exact hK _ _ (Ext.refl _) (fun h => absurd h (by omega)) ⟨gs, cc, hgs, rfl, hsa⟩
    refine ⟨fun y w' k hS hj hk hF K hK => ?_, ?_⟩
    · skip -- 6: alloc
      simp only [fillL, cond_true, cond_false, List.getD_cons_zero, List.getD_cons_succ, StP.is, Act.put, List.setIfInBounds_toArray, List.set_cons_zero, List.set_cons_succ, Nat.reduceAdd, MStP.is, Option.isSome_some, Option.isSome_none] at hK ⊢
      simp only [List.sum_cons, List.sum_nil, List.getD_cons_zero, List.getD_cons_succ, Nat.reduceAdd, Nat.add_zero] at hk
      refine rg_yes (by kernel_rfl) ?_
      have hSb : Below w1.heap.size w1 w' := hS.1 (Nat.le_refl _)
      have hsz := hSb.size
      clear hF
      go_simp
      exact hK _ _ (Ext.alloc _ _) (fun h => absurd h (by omega)) ⟨_, by omega, rfl, heap_alloc_new _ _⟩
    refine ⟨fun y w' k hS hj hk hF K hK => ?_, ?_⟩
    · skip -- 7: store
      obtain ⟨gs, cc, hgs, e13, hsa⟩ := hF.1
      obtain ⟨nb, hBn, e5, hln⟩ := hF.2.1
      have e13' := Lib.hid e13
      have e5' := Lib.hid e5
      simp only [fillL, cond_true, cond_false, List.getD_cons_zero, List.getD_cons_succ, StP.is, Act.put, List.setIfInBounds_toArray, List.set_cons_zero, List.set_cons_succ, Nat.reduceAdd, e13, e5, MStP.is, Option.isSome_some, Option.isSome_none] at hK ⊢
      simp only [List.sum_cons, List.sum_nil, List.getD_cons_zero, List.getD_cons_succ, Nat.reduceAdd, Nat.add_zero] at hk
      refine rg_yes (by kernel_rfl) ?_
      have hSb : Below w1.heap.size w1 w' := hS.1 (Nat.le_refl _)
      have hsz := hSb.size
      clear e13 e5
      clear hF
      have HE5 := e5'; clear e5'
      have HSA := Lib.hid hsa; clear hsa
      have fz := fun o => block_free hln o
      have fz0 := fz 0; have fz1 := fz 1; have fz2 := fz 2
      have cz0 := cell_of_row _ _ 0 _ _ (0, 0) hln
      have cz1 := cell_of_row _ _ 1 _ _ (0, 0) hln
      have cz2 := cell_of_row _ _ 2 _ _ (0, 0) hln
      clear fz
      have HSET := Lib.hid (setT_3 (x0 := .slice (some ⟨gs, 0, none⟩) 64 cc) (x1 := .slice none 0 0) (x2 := .bool gone) hln)
      have HL3 := Lib.hid hln; clear hln
      go_simp
      have hDT : DT (w1.heap.size) 26 w' (((w'.setCell ⟨nb, 0, none⟩ (.slice (some ⟨gs, 0, none⟩) 64 cc)).setCell ⟨nb, 1, none⟩ (.slice none 0 0)).setCell ⟨nb, 2, none⟩ (.bool gone)) := by
        refine ⟨fun hB => ?_, by simp [World.setCell], fun i hi hn => ?_⟩
        · exact Below.setCell (p := ⟨nb, 2, none⟩) (Below.setCell (p := ⟨nb, 1, none⟩) (Below.setCell (p := ⟨nb, 0, none⟩) (Below.refl _ _) hBn _) hBn _) hBn _
        · have h1 : i ≠ nb := fun e => hn _ (e ▸ HL3.out)
          exact (heap_far h1).trans ((heap_far h1).trans (heap_far h1))
      have hgn : gs ≠ nb := fun e => by
        obtain ⟨cur, h1, _⟩ := HSA.out
        rw [e, HL3.out] at h1
        injection h1 with h1; injection h1 with _ h1; exact absurd h1 (by decide)
      exact hK undef _ hDT (fun _ => ⟨nb, gs, cc, HE5.out, hBn, hgs, HSET.out, HSA.out.block ((heap_far hgn).trans ((heap_far hgn).trans (heap_far hgn)))⟩) rfl
    trivial
  case hH => rfl
  case hNS => exact fun _ _ h => DT.of_ext h
  case hSt => exact fun a b => DT.trans a b
  case hb => rfl
  case hdrew => exact ⟨Own.drew _ _, Nat.le_refl _, fun _ _ _ => rfl⟩
  case hj0 => exact fun y h => absurd h (by omega)
  case hend =>
    intro y w2 hS hJ hF
    obtain ⟨nb, g, c, e5, hBn, hBg, hln, hsa⟩ := hJ (by decide)
    clear hJ hF
    simp only [fillL, cond_true, cond_false, Nat.reduceAdd, e5]
    clear e5
    have hb2 : Below w1.heap.size w1 w2 := hS.1 (Nat.le_refl _)
    have c1_ := (hb2.cell lw).trans c1'
    have X2B := Lib.hid hb2
    have X2 := Lib.hid (X1.trans (hb2.mono (by omega)))
    have HB2 := Lib.hid hb2
    have hz2 := hb2.size
    have HLN := Lib.hid hln; have HSA := Lib.hid hsa
    clear hS hb2 c0' c1' c2' hln hsa X1
    go_wp2_with fail
    have hgn : g ≠ nb := fun e => by
      obtain ⟨cur, h1, _⟩ := HSA.out
      rw [e, HLN.out] at h1
      injection h1 with h1; injection h1 with _ h1; exact absurd h1 (by decide)
    have lnb : nb < w2.heap.size := (Array.getElem?_eq_some_iff.1 HLN.out).1
    have lg : g < w2.heap.size := HSA.out.lt
    have Q2 : Hid (w2.heap[w.heap.size + 1]? = some (.cells #[.slice none 0 0, .slice none 0 0, .bool false] 26 (0, 0))) := Lib.hid ((X2B.out.block _ (by omega)).trans HQ.out)
    go_loopw [17] (fun i wr => ∃ r : Nat, r ≤ n1 ∧ i = .int .i64 (r : Int) ∧ Hid (Chg (· ∈ [g]) w2 wr) ∧ Hid (StrArr 9 wr g c (settleTo f x1 x0 r))) (fun i _ => n1 - (intOf i).toNat)
    case atStart => exact ⟨0, Nat.zero_le _, rfl, Lib.hid (Chg.refl _ _), HSA⟩
    case round =>
      obtain ⟨r, hr, rfl, HC, HA⟩ := hrel
      have hszr := HC.out.size
      have BL := Lib.hid (X2.out.trans (HC.out.below (B := w.heap.size) (fun k _ hk => by simp at hk; omega) (by omega)))
      have hnbr : wr.heap[nb]? = some (.cells #[.slice (some ⟨g, 0, none⟩) 64 c, .slice none 0 0, .bool gone] 26 (0, 0)) := (HC.out.block nb lnb (by simp; omega)).trans HLN.out
      by_cases hlt : r < n1
      · obtain ⟨xx, hx⟩ : ∃ xx, x1[r]? = some xx := ⟨x1[r]'(by rw [HN1.out]; exact hlt), List.getElem?_eq_getElem _⟩
        obtain ⟨bw, ow, rfl, _, _, blw, hcw⟩ := (SliceR.below H1.out BL.out (WaitR.below BL.out H1.out.lo_le)).at_ (by omega)
        obtain ⟨cs, hcl, hcc, hrr⟩ := hcw r xx hx
        obtain ⟨hin, hsz⟩ := HW.out xx (List.mem_of_getElem? hx)
        obtain ⟨a, s⟩ := xx
        obtain ⟨m, rfl, hm⟩ := inB_nat (m := 63) hin
        simp only at hsz
        obtain ⟨rfl, _⟩ := hrr
        have q0 := hcc 0 _ rfl
        have q1 := hcc 1 _ rfl
        simp only [Nat.add_zero] at q0
        have hlen : (settleTo f x1 x0 r).length = 64 := settleTo_len.trans HX0.out
        obtain ⟨u, hu⟩ : ∃ u, (settleTo f x1 x0 r)[m]? = some u := ⟨_, List.getElem?_eq_getElem (by omega)⟩
        have hus : u.size ≤ 200 := settleTo_le (fun y hy => (HW.out y hy).2) HT.out HF.out r u (List.mem_of_getElem? hu)
        have HSTEP : Hid (settleTo f x1 x0 (r + 1) = (settleTo f x1 x0 r).set m (f r ((m : Int), s) u)) := Lib.hid (by rw [settleTo_succ]; unfold settleStep; rw [hx]; simp [List.getD, hu])
        obtain ⟨t, ht⟩ : ∃ t, t = settleTo f x1 x0 r := ⟨_, rfl⟩
        rw [← ht] at HA HSTEP hu hlen
        have HU := Lib.hid hu; have HLEN := Lib.hid hlen; have HIN := Lib.hid hin
        clear hcw hcc hcl hu hlen hin ht hx
        have k0 : (0 : Int) ≤ (r : Int) := by omega
        have k1 : (r : Int) < (n1 : Int) := by omega
        have m0 : (0 : Int) ≤ (m : Int) := by omega
        have m1 : (m : Int) < 64 := by omega
        have HNB := Lib.hid hnbr; clear hnbr
        go_wp2_with fail
        obtain ⟨w5, hW5⟩ : ∃ w5, w5 = wr.alloc (.cells #[.int .i64 (m : Int), .string s] 78) := ⟨_, rfl⟩
        have e5 : Below wr.heap.size wr w5 := by rw [hW5]; exact (Below.refl _ _).alloc (Nat.le_refl _) _
        have z5 : w5.heap.size = wr.heap.size + 1 := by rw [hW5]; simp
        have hwt : w5.heap[wr.heap.size]? = some (.cells #[.int .i64 (m : Int), .string s] 78 (0, 0)) := by rw [hW5]; exact heap_alloc_new _ _
        rw [← hW5]
        have hnb5 := (e5.block nb (by omega)).trans HNB.out
        have HA5 := Lib.hid (HA.out.below e5)
        have E5 := Lib.hid e5; have HWT := Lib.hid hwt; have HNB5 := Lib.hid hnb5
        have BL5 := Lib.hid (BL.out.trans (e5.mono (show w.heap.size ≤ wr.heap.size by omega)))
        clear hW5 e5 hwt hnb5
        apply wp_region_rgz (Chg (· ∈ [g])) (Ext) (fun y w' k' => (k' < 1000 → StrArr 9 w' g c t) ∧ (1000 ≤ k' → StrArr 9 w' g c (t.set m (f r ((m : Int), s) u)))) (0 :: 0 :: 0 :: 0 :: 0 :: 0 :: 0 :: 0 :: 0 :: 0 :: 0 :: 0 :: 0 :: 0 :: 0 :: 1000 :: []) (1000 :: 1000 :: 1000 :: 1000 :: 1000 :: 1000 :: 1000 :: 1000 :: 1000 :: 1000 :: 1000 :: 1000 :: 1000 :: 1000 :: 1000 :: 1000 :: []) (by kernel_rfl) (false :: false :: false :: false :: false :: false :: false :: false :: false :: false :: false :: false :: false :: false :: false :: false :: false :: false :: false :: false :: false :: false :: true :: true :: true :: true :: true :: true :: true :: true :: true :: true :: true :: true :: true :: true :: true :: false :: false :: []) (some 22 :: some 23 :: some 24 :: some 25 :: some 26 :: some 27 :: some 28 :: some 29 :: some 30 :: some 31 :: some 32 :: some 33 :: some 34 :: some 35 :: some 36 :: none :: []) ([] :: [0] :: [] :: [2] :: [] :: [] :: [] :: [] :: [7] :: [] :: [9] :: [8, 10] :: [11] :: [4, 5, 6, 12] :: [1, 3] :: [13, 14] :: []) (false :: false :: false :: false :: false :: false :: false :: false :: false :: false :: false :: false :: false :: false :: false :: true :: []) (true :: true :: true :: true :: true :: true :: true :: true :: true :: true :: true :: true :: true :: true :: true :: true :: []) [] (MStP.is _ :: MStP.is _ :: MStP.is _ :: MStP.is _ :: MStP.is _ :: MStP.is _ :: MStP.is _ :: MStP.is _ :: MStP.is _ :: MStP.is _ :: MStP.is _ :: MStP.is _ :: MStP.is _ :: MStP.is _ :: MStP.is _ :: MStP.is _ :: []) (by kernel_rfl) (by kernel_rfl) (by kernel_rfl) (by kernel_rfl)
        case hobs =>
          refine ⟨fun y w' k hS hj hk hF K hK => ?_, ?_⟩
          · skip -- 0: fieldAddr
            simp only [fillL, cond_true, cond_false, List.getD_cons_zero, List.getD_cons_succ, StP.is, Act.put, List.setIfInBounds_toArray, List.set_cons_zero, List.set_cons_succ, Nat.reduceAdd, MStP.is, Option.isSome_some, Option.isSome_none] at hK ⊢
            simp only [List.sum_cons, List.sum_nil, List.getD_cons_zero, List.getD_cons_succ, Nat.reduceAdd, Nat.add_zero] at hk
            refine rg_yes (by kernel_rfl) ?_
            have hsw := hS.size
            clear hF
            go_simp
            exact hK _ _ (Ext.refl _) ⟨fun h => hj.1 (by omega), fun h => absurd h (by omega)⟩ rfl
          refine ⟨fun y w' k hS hj hk hF K hK => ?_, ?_⟩
          · skip -- 1: load
            have e22 : y 22 = _ := hF.1
            have e22' := Lib.hid e22
            simp only [fillL, cond_true, cond_false, List.getD_cons_zero, List.getD_cons_succ, StP.is, Act.put, List.setIfInBounds_toArray, List.set_cons_zero, List.set_cons_succ, Nat.reduceAdd, e22, MStP.is, Option.isSome_some, Option.isSome_none] at hK ⊢
            simp only [List.sum_cons, List.sum_nil, List.getD_cons_zero, List.getD_cons_succ, Nat.reduceAdd, Nat.add_zero] at hk
            refine rg_yes (by kernel_rfl) ?_
            have hsw := hS.size
            clear e22
            clear hF
            have hb_ := (hS.block nb (by omega) (by simp; omega)).trans HNB5.out
            have q0_ := cell_of_row _ _ 0 _ _ (0, 0) hb_
            clear hb_
            go_simp
            exact hK _ _ (Ext.refl _) ⟨fun h => hj.1 (by omega), fun h => absurd h (by omega)⟩ rfl
          refine ⟨fun y w' k hS hj hk hF K hK => ?_, ?_⟩
          · skip -- 2: fieldAddr
            simp only [fillL, cond_true, cond_false, List.getD_cons_zero, List.getD_cons_succ, StP.is, Act.put, List.setIfInBounds_toArray, List.set_cons_zero, List.set_cons_succ, Nat.reduceAdd, MStP.is, Option.isSome_some, Option.isSome_none] at hK ⊢
            simp only [List.sum_cons, List.sum_nil, List.getD_cons_zero, List.getD_cons_succ, Nat.reduceAdd, Nat.add_zero] at hk
            refine rg_yes (by kernel_rfl) ?_
            have hsw := hS.size
            clear hF
            go_simp
            exact hK _ _ (Ext.refl _) ⟨fun h => hj.1 (by omega), fun h => absurd h (by omega)⟩ rfl
          refine ⟨fun y w' k hS hj hk hF K hK => ?_, ?_⟩
          · skip -- 3: load
            have e24 : y 24 = _ := hF.1
            have e24' := Lib.hid e24
            simp only [fillL, cond_true, cond_false, List.getD_cons_zero, List.getD_cons_succ, StP.is, Act.put, List.setIfInBounds_toArray, List.set_cons_zero, List.set_cons_succ, Nat.reduceAdd, e24, MStP.is, Option.isSome_some, Option.isSome_none] at hK ⊢
            simp only [List.sum_cons, List.sum_nil, List.getD_cons_zero, List.getD_cons_succ, Nat.reduceAdd, Nat.add_zero] at hk
            refine rg_yes (by kernel_rfl) ?_
            have hsw := hS.size
            clear e24
            clear hF
            have hb_ := (hS.block wr.heap.size (by omega) (by simp; omega)).trans HWT.out
            have q0_ := cell_of_row _ _ 0 _ _ (0, 0) hb_; have q1_ := cell_of_row _ _ 1 _ _ (0, 0) hb_
            clear hb_
            go_simp
            exact hK _ _ (Ext.refl _) ⟨fun h => hj.1 (by omega), fun h => absurd h (by omega)⟩ rfl
          refine ⟨fun y w' k hS hj hk hF K hK => ?_, ?_⟩
          · skip -- 4: move
            simp only [fillL, cond_true, cond_false, List.getD_cons_zero, List.getD_cons_succ, StP.is, Act.put, List.setIfInBounds_toArray, List.set_cons_zero, List.set_cons_succ, Nat.reduceAdd, MStP.is, Option.isSome_some, Option.isSome_none] at hK ⊢
            simp only [List.sum_cons, List.sum_nil, List.getD_cons_zero, List.getD_cons_succ, Nat.reduceAdd, Nat.add_zero] at hk
            refine rg_yes (by kernel_rfl) ?_
            have hsw := hS.size
            clear hF
            go_simp
            exact hK _ _ (Ext.refl _) ⟨fun h => hj.1 (by omega), fun h => absurd h (by omega)⟩ rfl
          refine ⟨fun y w' k hS hj hk hF K hK => ?_, ?_⟩
          · skip -- 5: move
            simp only [fillL, cond_true, cond_false, List.getD_cons_zero, List.getD_cons_succ, StP.is, Act.put, List.setIfInBounds_toArray, List.set_cons_zero, List.set_cons_succ, Nat.reduceAdd, MStP.is, Option.isSome_some, Option.isSome_none] at hK ⊢
            simp only [List.sum_cons, List.sum_nil, List.getD_cons_zero, List.getD_cons_succ, Nat.reduceAdd, Nat.add_zero] at hk
            refine rg_yes (by kernel_rfl) ?_
            have hsw := hS.size
            clear hF
            go_simp
            exact hK _ _ (Ext.refl _) ⟨fun h => hj.1 (by omega), fun h => absurd h (by omega)⟩ rfl
          refine ⟨fun y w' k hS hj hk hF K hK => ?_, ?_⟩
          · skip -- 6: load
            simp only [fillL, cond_true, cond_false, List.getD_cons_zero, List.getD_cons_succ, StP.is, Act.put, List.setIfInBounds_toArray, List.set_cons_zero, List.set_cons_succ, Nat.reduceAdd, MStP.is, Option.isSome_some, Option.isSome_none] at hK ⊢
            simp only [List.sum_cons, List.sum_nil, List.getD_cons_zero, List.getD_cons_succ, Nat.reduceAdd, Nat.add_zero] at hk
            refine rg_yes (by kernel_rfl) ?_
            have hsw := hS.size
            clear hF
            have hb_ := (hS.block wr.heap.size (by omega) (by simp; omega)).trans HWT.out
            have q0_ := cell_of_row _ _ 0 _ _ (0, 0) hb_; have q1_ := cell_of_row _ _ 1 _ _ (0, 0) hb_
            clear hb_
            go_simp
            exact hK _ _ (Ext.refl _) ⟨fun h => hj.1 (by omega), fun h => absurd h (by omega)⟩ rfl
          refine ⟨fun y w' k hS hj hk hF K hK => ?_, ?_⟩
          · skip -- 7: fieldAddr
            simp only [fillL, cond_true, cond_false, List.getD_cons_zero, List.getD_cons_succ, StP.is, Act.put, List.setIfInBounds_toArray, List.set_cons_zero, List.set_cons_succ, Nat.reduceAdd, MStP.is, Option.isSome_some, Option.isSome_none] at hK ⊢
            simp only [List.sum_cons, List.sum_nil, List.getD_cons_zero, List.getD_cons_succ, Nat.reduceAdd, Nat.add_zero] at hk
            refine rg_yes (by kernel_rfl) ?_
            have hsw := hS.size
            clear hF
            go_simp
            exact hK _ _ (Ext.refl _) ⟨fun h => hj.1 (by omega), fun h => absurd h (by omega)⟩ rfl
          refine ⟨fun y w' k hS hj hk hF K hK => ?_, ?_⟩
          · skip -- 8: load
            have e29 : y 29 = _ := hF.1
            have e29' := Lib.hid e29
            simp only [fillL, cond_true, cond_false, List.getD_cons_zero, List.getD_cons_succ, StP.is, Act.put, List.setIfInBounds_toArray, List.set_cons_zero, List.set_cons_succ, Nat.reduceAdd, e29, MStP.is, Option.isSome_some, Option.isSome_none] at hK ⊢
            simp only [List.sum_cons, List.sum_nil, List.getD_cons_zero, List.getD_cons_succ, Nat.reduceAdd, Nat.add_zero] at hk
            refine rg_yes (by kernel_rfl) ?_
            have hsw := hS.size
            clear e29
            clear hF
            have hb_ := (hS.block nb (by omega) (by simp; omega)).trans HNB5.out
            have q0_ := cell_of_row _ _ 0 _ _ (0, 0) hb_
            clear hb_
            go_simp
            exact hK _ _ (Ext.refl _) ⟨fun h => hj.1 (by omega), fun h => absurd h (by omega)⟩ rfl
          refine ⟨fun y w' k hS hj hk hF K hK => ?_, ?_⟩
          · skip -- 9: fieldAddr
            simp only [fillL, cond_true, cond_false, List.getD_cons_zero, List.getD_cons_succ, StP.is, Act.put, List.setIfInBounds_toArray, List.set_cons_zero, List.set_cons_succ, Nat.reduceAdd, MStP.is, Option.isSome_some, Option.isSome_none] at hK ⊢
            simp only [List.sum_cons, List.sum_nil, List.getD_cons_zero, List.getD_cons_succ, Nat.reduceAdd, Nat.add_zero] at hk
            refine rg_yes (by kernel_rfl) ?_
            have hsw := hS.size
            clear hF
            go_simp
            exact hK _ _ (Ext.refl _) ⟨fun h => hj.1 (by omega), fun h => absurd h (by omega)⟩ rfl
          refine ⟨fun y w' k hS hj hk hF K hK => ?_, ?_⟩
          · skip -- 10: load
            have e31 : y 31 = _ := hF.1
            have e31' := Lib.hid e31
            simp only [fillL, cond_true, cond_false, List.getD_cons_zero, List.getD_cons_succ, StP.is, Act.put, List.setIfInBounds_toArray, List.set_cons_zero, List.set_cons_succ, Nat.reduceAdd, e31, MStP.is, Option.isSome_some, Option.isSome_none] at hK ⊢
            simp only [List.sum_cons, List.sum_nil, List.getD_cons_zero, List.getD_cons_succ, Nat.reduceAdd, Nat.add_zero] at hk
            refine rg_yes (by kernel_rfl) ?_
            have hsw := hS.size
            clear e31
            clear hF
            have hb_ := (hS.block wr.heap.size (by omega) (by simp; omega)).trans HWT.out
            have q0_ := cell_of_row _ _ 0 _ _ (0, 0) hb_; have q1_ := cell_of_row _ _ 1 _ _ (0, 0) hb_
            clear hb_
            go_simp
            exact hK _ _ (Ext.refl _) ⟨fun h => hj.1 (by omega), fun h => absurd h (by omega)⟩ rfl
          refine ⟨fun y w' k hS hj hk hF K hK => ?_, ?_⟩
          · skip -- 11: indexAddr
            have e30 : y 30 = _ := hF.1
            have e32 : y 32 = _ := hF.2.1
            have e30' := Lib.hid e30
            have e32' := Lib.hid e32
            simp only [fillL, cond_true, cond_false, List.getD_cons_zero, List.getD_cons_succ, StP.is, Act.put, List.setIfInBounds_toArray, List.set_cons_zero, List.set_cons_succ, Nat.reduceAdd, e30, e32, MStP.is, Option.isSome_some, Option.isSome_none] at hK ⊢
            simp only [List.sum_cons, List.sum_nil, List.getD_cons_zero, List.getD_cons_succ, Nat.reduceAdd, Nat.add_zero] at hk
            refine rg_yes (by kernel_rfl) ?_
            have hsw := hS.size
            clear e30 e32
            clear hF
            go_simp
            exact hK _ _ (Ext.refl _) ⟨fun h => hj.1 (by omega), fun h => absurd h (by omega)⟩ rfl
          refine ⟨fun y w' k hS hj hk hF K hK => ?_, ?_⟩
          · skip -- 12: load
            have e33 : y 33 = _ := hF.1
            have e33' := Lib.hid e33
            simp only [fillL, cond_true, cond_false, List.getD_cons_zero, List.getD_cons_succ, StP.is, Act.put, List.setIfInBounds_toArray, List.set_cons_zero, List.set_cons_succ, Nat.reduceAdd, e33, MStP.is, Option.isSome_some, Option.isSome_none] at hK ⊢
            simp only [List.sum_cons, List.sum_nil, List.getD_cons_zero, List.getD_cons_succ, Nat.reduceAdd, Nat.add_zero] at hk
            refine rg_yes (by kernel_rfl) ?_
            have hsw := hS.size
            clear e33
            clear hF
            have q0_ := (hj.1 (by omega)).cell HU.out
            go_simp
            exact hK _ _ (Ext.refl _) ⟨fun h => hj.1 (by omega), fun h => absurd h (by omega)⟩ rfl
          refine ⟨fun y w' k hS hj hk hF K hK => ?_, ?_⟩
          · skip -- 13: call
            have e26 : y 26 = _ := hF.1
            have e27 : y 27 = _ := hF.2.1
            have e28 : y 28 = _ := hF.2.2.1
            have e34 : y 34 = _ := hF.2.2.2.1
            have e26' := Lib.hid e26
            have e27' := Lib.hid e27
            have e28' := Lib.hid e28
            have e34' := Lib.hid e34
            simp only [fillL, cond_true, cond_false, List.getD_cons_zero, List.getD_cons_succ, StP.is, Act.put, List.setIfInBounds_toArray, List.set_cons_zero, List.set_cons_succ, Nat.reduceAdd, e26, e27, e28, e34, MStP.is, Option.isSome_some, Option.isSome_none] at hK ⊢
            simp only [List.sum_cons, List.sum_nil, List.getD_cons_zero, List.getD_cons_succ, Nat.reduceAdd, Nat.add_zero] at hk
            refine rg_yes (by kernel_rfl) ?_
            have hsw := hS.size
            clear e26 e27 e28 e34
            clear hF
            go_simp
            go_at_call 68
            have hbw : Below w.heap.size w w' := BL5.out.trans (hS.below (B := w.heap.size) (fun k _ hk => by simp at hk; omega) (by omega))
            refine (HFV.out r (m : Int) s u w' hbw (by omega) hsz hus).mono ?_
            rintro e w'' ⟨rfl, hb⟩
            exact hK _ _ hb ⟨fun h => (hj.1 (by omega)).below hb, fun h => absurd h (by omega)⟩ rfl
          refine ⟨fun y w' k hS hj hk hF K hK => ?_, ?_⟩
          · skip -- 14: indexAddr
            have e23 : y 23 = _ := hF.1
            have e25 : y 25 = _ := hF.2.1
            have e23' := Lib.hid e23
            have e25' := Lib.hid e25
            simp only [fillL, cond_true, cond_false, List.getD_cons_zero, List.getD_cons_succ, StP.is, Act.put, List.setIfInBounds_toArray, List.set_cons_zero, List.set_cons_succ, Nat.reduceAdd, e23, e25, MStP.is, Option.isSome_some, Option.isSome_none] at hK ⊢
            simp only [List.sum_cons, List.sum_nil, List.getD_cons_zero, List.getD_cons_succ, Nat.reduceAdd, Nat.add_zero] at hk
            refine rg_yes (by kernel_rfl) ?_
            have hsw := hS.size
            clear e23 e25
            clear hF
            go_simp
            exact hK _ _ (Ext.refl _) ⟨fun h => hj.1 (by omega), fun h => absurd h (by omega)⟩ rfl
          refine ⟨fun y w' k hS hj hk hF K hK => ?_, ?_⟩
          · skip -- 15: store
            have e35 : y 35 = _ := hF.1
            have e36 : y 36 = _ := hF.2.1
            have e35' := Lib.hid e35
            have e36' := Lib.hid e36
            simp only [fillL, cond_true, cond_false, List.getD_cons_zero, List.getD_cons_succ, StP.is, Act.put, List.setIfInBounds_toArray, List.set_cons_zero, List.set_cons_succ, Nat.reduceAdd, e35, e36, MStP.is, Option.isSome_some, Option.isSome_none] at hK ⊢
            simp only [List.sum_cons, List.sum_nil, List.getD_cons_zero, List.getD_cons_succ, Nat.reduceAdd, Nat.add_zero] at hk
            refine rg_yes (by kernel_rfl) ?_
            have hsw := hS.size
            clear e35 e36
            clear hF
            have HAA := Lib.hid (hj.1 (by omega))
            have fz := HAA.out.free (j := m)
            have q0_ := HAA.out.cell HU.out
            go_simp
            exact hK undef _ ((Chg.refl _ _).setCell (.inl (by simp)) _) ⟨fun h => absurd h (by omega), fun _ => HAA.out.set (by rw [HLEN.out]; omega)⟩ rfl
          trivial
        case hH => rfl
        case hNS => exact fun _ _ h => Chg.of_below h _
        case hSt => exact fun a b => Chg.trans a b
        case hb => rfl
        case hdrew => exact (Chg.refl _ _).drewN 1
        case hj0 => exact fun y => ⟨fun _ => HA5.out.block rfl, fun h => absurd h (by omega)⟩
        case hend =>
          intro y w6 hS hJ hF
          have hA6 := hJ.2 (by decide)
          rw [← HSTEP.out] at hA6
          have HA6 := Lib.hid hA6
          have HC6 : Hid (Chg (· ∈ [g]) w2 w6) := Lib.hid ((HC.out.trans (Chg.of_below E5.out _)).trans hS)
          clear hJ hF hS hA6
          simp only [fillL, cond_true, cond_false, Nat.reduceAdd]
          go_wp2_with fail
          go_roundw
          case rel => exact ⟨r + 1, by omega, by go_num, HC6, HA6⟩
          case measure => simp [intOf]; omega
      · obtain rfl : r = n1 := by omega
        have lq : w.heap.size + 1 < w2.heap.size := by omega
        have hqr := (HC.out.block (w.heap.size + 1) lq (by simp; omega)).trans Q2.out
        have b0 := cell_of_row _ _ 0 _ _ (0, 0) hnbr; have b1 := cell_of_row _ _ 1 _ _ (0, 0) hnbr; have b2 := cell_of_row _ _ 2 _ _ (0, 0) hnbr
        have r0 := cell_of_row _ _ 0 _ _ (0, 0) hqr; have r1 := cell_of_row _ _ 1 _ _ (0, 0) hqr; have r2 := cell_of_row _ _ 2 _ _ (0, 0) hqr
        have fz := fun o => block_free hqr o
        have fz0 := fz 0; have fz1 := fz 1; have fz2 := fz 2
        have hst := setT_3 (x0 := .slice (some ⟨g, 0, none⟩) 64 c) (x1 := .slice none 0 0) (x2 := .bool gone) hqr
        have s0 := cell_of_row _ _ 0 _ _ (0, 0) hst; have s1 := cell_of_row _ _ 1 _ _ (0, 0) hst; have s2 := cell_of_row _ _ 2 _ _ (0, 0) hst
        have hgq : g ≠ w.heap.size + 1 := by omega
        have HFA := Lib.hid (HA.out.block (w' := ((wr.setCell ⟨w.heap.size + 1, 0, none⟩ (.slice (some ⟨g, 0, none⟩) 64 c)).setCell ⟨w.heap.size + 1, 1, none⟩ (.slice none 0 0)).setCell ⟨w.heap.size + 1, 2, none⟩ (.bool gone)) ((heap_far hgq).trans ((heap_far hgq).trans (heap_far hgq))))
        clear fz hst hqr hnbr
        go_wp2_with fail
        refine bodyPost_ret (v := .agg #[.slice (some ⟨g, 0, none⟩) 64 c, .slice none 0 0, .bool gone]) (by simp [results, Try.results67, go_sem, s0, s1, s2]) rfl ⟨_, rfl, ?_, ?_⟩
        · have hl : (settleTo f x1 x0 r).length = 64 := settleTo_len.trans HX0.out
          have hs1 := HFA.out.slice (lo := w.heap.size) (hi := _) (by omega) HFA.out.lt (Nat.le_refl _) (fun s hs => by have := settleTo_le (fun y hy => (HW.out y hy).2) HT.out HF.out r s hs; unfold maxLen; omega)
          have hs2 := HFA.out.whole (lo := w.heap.size) (hi := _) (by omega) HFA.out.lt
          rw [hl] at hs1 hs2
          unfold settleD
          rw [HN1.out]
          exact ⟨_, _, _, _, _, _, rfl, hs1, hs2, ⟨rfl, Nat.le_refl _, Nat.zero_le _, Nat.le_refl _, fun _ => rfl, fun h => absurd h (Nat.lt_irrefl _)⟩, .inl ⟨rfl, rfl⟩⟩
        · exact Below.setCell (p := ⟨w.heap.size + 1, 2, none⟩) (Below.setCell (p := ⟨w.heap.size + 1, 1, none⟩) (Below.setCell (p := ⟨w.heap.size + 1, 0, none⟩) BL.out (by simp) _) (by simp) _) (by simp) _
set_option maxRecDepth 100000 in
set_option maxHeartbeats 4000000 in
theorem settleCrash_any (b0 b1 : Nat) (cs : List Value) (x : DiskD) (w : World) (lo hi : Nat) (h : DiskR w lo hi cs x) (hok : diskOk x = true) (f : Nat → WaitD → ByteArray → ByteArray) (hf : ∀ i x s, x.2.size ≤ 200 → s.size ≤ 200 → (f i x s).size ≤ 200)
    (hfv : ∀ (i : Nat) (a : Int) (s t : ByteArray) (w' : World), Below w.heap.size w w' → i < 120 → s.size ≤ 200 → t.size ≤ 200 → Calls Try.prog 69 #[.int .i64 (i : Int), .agg #[.int .i64 a, .string s], .string t, .pointer (some ⟨b0, 0, none⟩), .pointer (some ⟨b1, 0, none⟩)] w' fun e w'' => e = .returned (.string (f i (a, s) t)) ∧ Below w'.heap.size w' w'') :
    Calls Try.prog 67 #[.agg cs.toArray, .func (.func 69) #[] #[.pointer (some ⟨b0, 0, none⟩), .pointer (some ⟨b1, 0, none⟩)]] w (NewR DiskN w (settleD f x)) := by
  have hok' := hok
  obtain ⟨x0, x1, gone⟩ := x
  unfold diskOk at hok'
  simp only [Bool.and_eq_true, decide_eq_true_eq, List.all_eq_true] at hok'
  obtain ⟨⟨⟨⟨hx0, hx1⟩, hx2⟩, hx3⟩, hx4⟩ := hok'
  have HT : Hid (∀ s ∈ x0, s.size ≤ 200) := Lib.hid (fun s hs => by have := hx2 s hs; unfold textOk at this; simp at this; exact this.1)
  have HW : Hid (∀ y ∈ x1, inB y.1 0 63 = true ∧ y.2.size ≤ 200) := Lib.hid (fun y hy => by have := hx4 y hy; unfold waitOk at this; simpa using this)
  obtain ⟨A0, n0, c0, A1, n1, c1, rfl, h0, h1⟩ := h
  obtain rfl : 64 = n0 := by have := h0.len; simp only at this hx0; omega
  have hn1 := h1.len
  simp only at hn1 hx1
  have hn : n1 ≤ 120 := by omega
  have H0 := Lib.hid h0; have H1 := Lib.hid h1; have HX0 := Lib.hid hx0; have HN1 := Lib.hid hn1; have HF := Lib.hid hf; have HFV := Lib.hid hfv
  show Calls Try.prog 67 #[.agg #[.slice A0 64 c0, .slice A1 n1 c1, .bool gone], .func (.func 69) #[] #[.pointer (some ⟨b0, 0, none⟩), .pointer (some ⟨b1, 0, none⟩)]] w _
  clear h0 h1 hx0 hx1 hx2 hx3 hx4 hok hn1 hf hfv
  go_enter Try.func67, Try.ntmps67
  go_wp2_with fail
  obtain ⟨w1, hW⟩ : ∃ w1, w1 = (w.alloc (.cells #[.slice A0 64 c0, .slice A1 n1 c1, .bool gone] 26)).alloc (.cells #[.slice none 0 0, .slice none 0 0, .bool false] 26) := ⟨_, rfl⟩
  have X1 : Below w.heap.size w w1 := by rw [hW]; exact bel2
  have z1 : w1.heap.size = w.heap.size + 2 := by rw [hW]; simp
  have hq : w1.heap[w.heap.size + 1]? = some (.cells #[.slice none 0 0, .slice none 0 0, .bool false] 26 (0, 0)) := by rw [hW]; have := heap_alloc_new (w.alloc (.cells #[.slice A0 64 c0, .slice A1 n1 c1, .bool gone] 26)) (.cells #[.slice none 0 0, .slice none 0 0, .bool false] 26); simpa using this
  have hbx : w1.heap[w.heap.size]? = some (.cells #[.slice A0 64 c0, .slice A1 n1 c1, .bool gone] 26 (0, 0)) := by rw [hW]; exact (Below.heap_alloc _ _ _ (by simp)).trans (heap_alloc_new _ _)
  have HWW := Lib.hid hW; rw [← HWW.out]; clear hW HWW
  have c0' := cell_of_row _ _ 0 _ _ (0, 0) hbx; have c1' := cell_of_row _ _ 1 _ _ (0, 0) hbx; have c2' := cell_of_row _ _ 2 _ _ (0, 0) hbx
  have lw : w.heap.size < w1.heap.size := by omega
  have HBX := Lib.hid hbx; have HQ := Lib.hid hq; clear hbx hq
  apply wp_region_rgz (DT (w1.heap.size) 26) (Ext) (fun y w' k' => 1000 ≤ k' → DoneT w1.heap.size 26 9 x0 gone y w') [0, 0, 0, 0, 0, 0, 0, 1000] [1000, 1000, 1000, 1000, 1000, 1000, 1000, 1000] (by kernel_rfl) (false :: false :: false :: false :: false :: true :: false :: false :: true :: true :: true :: true :: true :: true :: false :: false :: false :: false :: false :: false :: false :: false :: false :: false :: false :: false :: false :: false :: false :: false :: false :: false :: false :: false :: false :: false :: false :: false :: false :: []) [some 8, some 9, some 10, some 11, some 12, some 13, some 5, none] [[], [0], [1], [], [3], [2, 4], [], [5, 6]] [false, false, false, false, false, false, false, true] [true, true, true, true, true, true, false, true] [] [MStP.is _, MStP.is _, softStrA (w1.heap.size) (S := 9) (T := 26) (by decide) x0 (fun v => v), MStP.is _, MStP.is _, softStrA (w1.heap.size) (S := 9) (T := 26) (by decide) x0 (fun v => .agg #[v, .slice none 0 0, .bool gone]), softBoxT (w1.heap.size) 26 #[.slice none 0 0, .slice none 0 0, .bool false], MStP.is _] (by kernel_rfl) (by kernel_rfl) (by kernel_rfl) (by kernel_rfl)
  case hobs =>
    refine ⟨fun y w' k hS hj hk hF K hK => ?_, ?_⟩
    · skip -- 0: fieldAddr
      simp only [fillL, cond_true, cond_false, List.getD_cons_zero, List.getD_cons_succ, StP.is, Act.put, List.setIfInBounds_toArray, List.set_cons_zero, List.set_cons_succ, Nat.reduceAdd, MStP.is, Option.isSome_some, Option.isSome_none] at hK ⊢
      simp only [List.sum_cons, List.sum_nil, List.getD_cons_zero, List.getD_cons_succ, Nat.reduceAdd, Nat.add_zero] at hk
      refine rg_yes (by kernel_rfl) ?_
      have hSb : Below w1.heap.size w1 w' := hS.1 (Nat.le_refl _)
      have hsz := hSb.size
      clear hF
      go_simp
      exact hK _ _ (Ext.refl _) (fun h => absurd h (by omega)) rfl
    refine ⟨fun y w' k hS hj hk hF K hK => ?_, ?_⟩
    · skip -- 1: load
      have e8 : y 8 = _ := hF.1
      have e8' := Lib.hid e8
      simp only [fillL, cond_true, cond_false, List.getD_cons_zero, List.getD_cons_succ, StP.is, Act.put, List.setIfInBounds_toArray, List.set_cons_zero, List.set_cons_succ, Nat.reduceAdd, e8, MStP.is, Option.isSome_some, Option.isSome_none] at hK ⊢
      simp only [List.sum_cons, List.sum_nil, List.getD_cons_zero, List.getD_cons_succ, Nat.reduceAdd, Nat.add_zero] at hk
      refine rg_yes (by kernel_rfl) ?_
      have hSb : Below w1.heap.size w1 w' := hS.1 (Nat.le_refl _)
      have hsz := hSb.size
      clear e8
      clear hF
      have q0_ := (hSb.cell lw).trans c0'
      go_simp
      exact hK _ _ (Ext.refl _) (fun h => absurd h (by omega)) rfl
    refine ⟨fun y w' k hS hj hk hF K hK => ?_, ?_⟩
    · skip -- 2: call
      have e9 : y 9 = _ := hF.1
      have e9' := Lib.hid e9
      simp only [fillL, cond_true, cond_false, List.getD_cons_zero, List.getD_cons_succ, StP.is, Act.put, List.setIfInBounds_toArray, List.set_cons_zero, List.set_cons_succ, Nat.reduceAdd, e9, MStP.is, Option.isSome_some, Option.isSome_none] at hK ⊢
      simp only [List.sum_cons, List.sum_nil, List.getD_cons_zero, List.getD_cons_succ, Nat.reduceAdd, Nat.add_zero] at hk
      refine rg_yes (by kernel_rfl) ?_
      have hSb : Below w1.heap.size w1 w' := hS.1 (Nat.le_refl _)
      have hsz := hSb.size
      clear e9
      clear hF
      go_simp
      go_at_call 116
      have hbw : Below w.heap.size w w' := X1.trans (hSb.mono (by omega))
      refine (cloneStringS_any _ _ _ x0 _ lo hi (SliceR.below H0.out hbw (StrR.below hbw H0.out.lo_le)) (by omega)).mono ?_
      rintro e w'' ⟨A', c', rfl, g1, g2, hb⟩
      obtain ⟨g, rfl, hg1, hg2, hsa⟩ := StrArr.of_whole g1 g2 (by omega)
      exact hK _ _ hb (fun h => absurd h (by omega)) ⟨g, c', by omega, rfl, hsa⟩
    refine ⟨fun y w' k hS hj hk hF K hK => ?_, ?_⟩
    · skip -- 3: fieldAddr
      simp only [fillL, cond_true, cond_false, List.getD_cons_zero, List.getD_cons_succ, StP.is, Act.put, List.setIfInBounds_toArray, List.set_cons_zero, List.set_cons_succ, Nat.reduceAdd, MStP.is, Option.isSome_some, Option.isSome_none] at hK ⊢
      simp only [List.sum_cons, List.sum_nil, List.getD_cons_zero, List.getD_cons_succ, Nat.reduceAdd, Nat.add_zero] at hk
      refine rg_yes (by kernel_rfl) ?_
      have hSb : Below w1.heap.size w1 w' := hS.1 (Nat.le_refl _)
      have hsz := hSb.size
      clear hF
      go_simp
      exact hK _ _ (Ext.refl _) (fun h => absurd h (by omega)) rfl
    refine ⟨fun y w' k hS hj hk hF K hK => ?_, ?_⟩
    · skip -- 4: load
      have e11 : y 11 = _ := hF.1
      have e11' := Lib.hid e11
      simp only [fillL, cond_true, cond_false, List.getD_cons_zero, List.getD_cons_succ, StP.is, Act.put, List.setIfInBounds_toArray, List.set_cons_zero, List.set_cons_succ, Nat.reduceAdd, e11, MStP.is, Option.isSome_some, Option.isSome_none] at hK ⊢
      simp only [List.sum_cons, List.sum_nil, List.getD_cons_zero, List.getD_cons_succ, Nat.reduceAdd, Nat.add_zero] at hk
      refine rg_yes (by kernel_rfl) ?_
      have hSb : Below w1.heap.size w1 w' := hS.1 (Nat.le_refl _)
      have hsz := hSb.size
      clear e11
      clear hF
      have q0_ := (hSb.cell lw).trans c2'
      go_simp
      exact hK _ _ (Ext.refl _) (fun h => absurd h (by omega)) rfl
    refine ⟨fun y w' k hS hj hk hF K hK => ?_, ?_⟩
    · skip -- 5: build
      obtain ⟨gs, cc, hgs, e10, hsa⟩ := hF.1
      have e12 : y 12 = _ := hF.2.1
      have e10' := Lib.hid e10
      have e12' := Lib.hid e12
      simp only [fillL, cond_true, cond_false, List.getD_cons_zero, List.getD_cons_succ, StP.is, Act.put, List.setIfInBounds_toArray, List.set_cons_zero, List.set_cons_succ, Nat.reduceAdd, e10, e12, MStP.is, Option.isSome_some, Option.isSome_none] at hK ⊢
      simp only [List.sum_cons, List.sum_nil, List.getD_cons_zero, List.getD_cons_succ, Nat.reduceAdd, Nat.add_zero] at hk
      refine rg_yes (by kernel_rfl) ?_
      have hSb : Below w1.heap.size w1 w' := hS.1 (Nat.le_refl _)
      have hsz := hSb.size
      clear e10 e12
      clear hF
      go_simp
      exact hK _ _ (Ext.refl _) (fun h => absurd h (by omega)) ⟨gs, cc, hgs, rfl, hsa⟩
    refine ⟨fun y w' k hS hj hk hF K hK => ?_, ?_⟩
    · skip -- 6: alloc
      simp only [fillL, cond_true, cond_false, List.getD_cons_zero, List.getD_cons_succ, StP.is, Act.put, List.setIfInBounds_toArray, List.set_cons_zero, List.set_cons_succ, Nat.reduceAdd, MStP.is, Option.isSome_some, Option.isSome_none] at hK ⊢
      simp only [List.sum_cons, List.sum_nil, List.getD_cons_zero, List.getD_cons_succ, Nat.reduceAdd, Nat.add_zero] at hk
      refine rg_yes (by kernel_rfl) ?_
      have hSb : Below w1.heap.size w1 w' := hS.1 (Nat.le_refl _)
      have hsz := hSb.size
      clear hF
      go_simp
      exact hK _ _ (Ext.alloc _ _) (fun h => absurd h (by omega)) ⟨_, by omega, rfl, heap_alloc_new _ _⟩
    refine ⟨fun y w' k hS hj hk hF K hK => ?_, ?_⟩
    · skip -- 7: store
      obtain ⟨gs, cc, hgs, e13, hsa⟩ := hF.1
      obtain ⟨nb, hBn, e5, hln⟩ := hF.2.1
      have e13' := Lib.hid e13
      have e5' := Lib.hid e5
      simp only [fillL, cond_true, cond_false, List.getD_cons_zero, List.getD_cons_succ, StP.is, Act.put, List.setIfInBounds_toArray, List.set_cons_zero, List.set_cons_succ, Nat.reduceAdd, e13, e5, MStP.is, Option.isSome_some, Option.isSome_none] at hK ⊢
      simp only [List.sum_cons, List.sum_nil, List.getD_cons_zero, List.getD_cons_succ, Nat.reduceAdd, Nat.add_zero] at hk
      refine rg_yes (by kernel_rfl) ?_
      have hSb : Below w1.heap.size w1 w' := hS.1 (Nat.le_refl _)
      have hsz := hSb.size
      clear e13 e5
      clear hF
      have HE5 := e5'; clear e5'
      have HSA := Lib.hid hsa; clear hsa
      have fz := fun o => block_free hln o
      have fz0 := fz 0; have fz1 := fz 1; have fz2 := fz 2
      have cz0 := cell_of_row _ _ 0 _ _ (0, 0) hln
      have cz1 := cell_of_row _ _ 1 _ _ (0, 0) hln
      have cz2 := cell_of_row _ _ 2 _ _ (0, 0) hln
      clear fz
      have HSET := Lib.hid (setT_3 (x0 := .slice (some ⟨gs, 0, none⟩) 64 cc) (x1 := .slice none 0 0) (x2 := .bool gone) hln)
      have HL3 := Lib.hid hln; clear hln
      go_simp
      have hDT : DT (w1.heap.size) 26 w' (((w'.setCell ⟨nb, 0, none⟩ (.slice (some ⟨gs, 0, none⟩) 64 cc)).setCell ⟨nb, 1, none⟩ (.slice none 0 0)).setCell ⟨nb, 2, none⟩ (.bool gone)) := by
        refine ⟨fun hB => ?_, by simp [World.setCell], fun i hi hn => ?_⟩
        · exact Below.setCell (p := ⟨nb, 2, none⟩) (Below.setCell (p := ⟨nb, 1, none⟩) (Below.setCell (p := ⟨nb, 0, none⟩) (Below.refl _ _) hBn _) hBn _) hBn _
        · have h1 : i ≠ nb := fun e => hn _ (e ▸ HL3.out)
          exact (heap_far h1).trans ((heap_far h1).trans (heap_far h1))
      have hgn : gs ≠ nb := fun e => by
        obtain ⟨cur, h1, _⟩ := HSA.out
        rw [e, HL3.out] at h1
        injection h1 with h1; injection h1 with _ h1; exact absurd h1 (by decide)
      exact hK undef _ hDT (fun _ => ⟨nb, gs, cc, HE5.out, hBn, hgs, HSET.out, HSA.out.block ((heap_far hgn).trans ((heap_far hgn).trans (heap_far hgn)))⟩) rfl
    trivial
  case hH => rfl
  case hNS => exact fun _ _ h => DT.of_ext h
  case hSt => exact fun a b => DT.trans a b
  case hb => rfl
  case hdrew => exact ⟨Own.drew _ _, Nat.le_refl _, fun _ _ _ => rfl⟩
  case hj0 => exact fun y h => absurd h (by omega)
  case hend =>
    intro y w2 hS hJ hF
    obtain ⟨nb, g, c, e5, hBn, hBg, hln, hsa⟩ := hJ (by decide)
    clear hJ hF
    simp only [fillL, cond_true, cond_false, Nat.reduceAdd, e5]
    clear e5
    have hb2 : Below w1.heap.size w1 w2 := hS.1 (Nat.le_refl _)
    have c1_ := (hb2.cell lw).trans c1'
    have X2B := Lib.hid hb2
    have X2 := Lib.hid (X1.trans (hb2.mono (by omega)))
    have HB2 := Lib.hid hb2
    have hz2 := hb2.size
    have HLN := Lib.hid hln; have HSA := Lib.hid hsa
    clear hS hb2 c0' c1' c2' hln hsa X1
    go_wp2_with fail
    have hgn : g ≠ nb := fun e => by
      obtain ⟨cur, h1, _⟩ := HSA.out
      rw [e, HLN.out] at h1
      injection h1 with h1; injection h1 with _ h1; exact absurd h1 (by decide)
    have lnb : nb < w2.heap.size := (Array.getElem?_eq_some_iff.1 HLN.out).1
    have lg : g < w2.heap.size := HSA.out.lt
    have Q2 : Hid (w2.heap[w.heap.size + 1]? = some (.cells #[.slice none 0 0, .slice none 0 0, .bool false] 26 (0, 0))) := Lib.hid ((X2B.out.block _ (by omega)).trans HQ.out)
    go_loopw [17] (fun i wr => ∃ r : Nat, r ≤ n1 ∧ i = .int .i64 (r : Int) ∧ Hid (Chg (· ∈ [g]) w2 wr) ∧ Hid (StrArr 9 wr g c (settleTo f x1 x0 r))) (fun i _ => n1 - (intOf i).toNat)
    case atStart => exact ⟨0, Nat.zero_le _, rfl, Lib.hid (Chg.refl _ _), HSA⟩
    case round =>
      obtain ⟨r, hr, rfl, HC, HA⟩ := hrel
      have hszr := HC.out.size
      have BL := Lib.hid (X2.out.trans (HC.out.below (B := w.heap.size) (fun k _ hk => by simp at hk; omega) (by omega)))
      have hnbr : wr.heap[nb]? = some (.cells #[.slice (some ⟨g, 0, none⟩) 64 c, .slice none 0 0, .bool gone] 26 (0, 0)) := (HC.out.block nb lnb (by simp; omega)).trans HLN.out
      by_cases hlt : r < n1
      · obtain ⟨xx, hx⟩ : ∃ xx, x1[r]? = some xx := ⟨x1[r]'(by rw [HN1.out]; exact hlt), List.getElem?_eq_getElem _⟩
        obtain ⟨bw, ow, rfl, _, _, blw, hcw⟩ := (SliceR.below H1.out BL.out (WaitR.below BL.out H1.out.lo_le)).at_ (by omega)
        obtain ⟨cs, hcl, hcc, hrr⟩ := hcw r xx hx
        obtain ⟨hin, hsz⟩ := HW.out xx (List.mem_of_getElem? hx)
        obtain ⟨a, s⟩ := xx
        obtain ⟨m, rfl, hm⟩ := inB_nat (m := 63) hin
        simp only at hsz
        obtain ⟨rfl, _⟩ := hrr
        have q0 := hcc 0 _ rfl
        have q1 := hcc 1 _ rfl
        simp only [Nat.add_zero] at q0
        have hlen : (settleTo f x1 x0 r).length = 64 := settleTo_len.trans HX0.out
        obtain ⟨u, hu⟩ : ∃ u, (settleTo f x1 x0 r)[m]? = some u := ⟨_, List.getElem?_eq_getElem (by omega)⟩
        have hus : u.size ≤ 200 := settleTo_le (fun y hy => (HW.out y hy).2) HT.out HF.out r u (List.mem_of_getElem? hu)
        have HSTEP : Hid (settleTo f x1 x0 (r + 1) = (settleTo f x1 x0 r).set m (f r ((m : Int), s) u)) := Lib.hid (by rw [settleTo_succ]; unfold settleStep; rw [hx]; simp [List.getD, hu])
        obtain ⟨t, ht⟩ : ∃ t, t = settleTo f x1 x0 r := ⟨_, rfl⟩
        rw [← ht] at HA HSTEP hu hlen
        have HU := Lib.hid hu; have HLEN := Lib.hid hlen; have HIN := Lib.hid hin
        clear hcw hcc hcl hu hlen hin ht hx
        have k0 : (0 : Int) ≤ (r : Int) := by omega
        have k1 : (r : Int) < (n1 : Int) := by omega
        have m0 : (0 : Int) ≤ (m : Int) := by omega
        have m1 : (m : Int) < 64 := by omega
        have HNB := Lib.hid hnbr; clear hnbr
        go_wp2_with fail
        obtain ⟨w5, hW5⟩ : ∃ w5, w5 = wr.alloc (.cells #[.int .i64 (m : Int), .string s] 78) := ⟨_, rfl⟩
        have e5 : Below wr.heap.size wr w5 := by rw [hW5]; exact (Below.refl _ _).alloc (Nat.le_refl _) _
        have z5 : w5.heap.size = wr.heap.size + 1 := by rw [hW5]; simp
        have hwt : w5.heap[wr.heap.size]? = some (.cells #[.int .i64 (m : Int), .string s] 78 (0, 0)) := by rw [hW5]; exact heap_alloc_new _ _
        rw [← hW5]
        have hnb5 := (e5.block nb (by omega)).trans HNB.out
        have HA5 := Lib.hid (HA.out.below e5)
        have E5 := Lib.hid e5; have HWT := Lib.hid hwt; have HNB5 := Lib.hid hnb5
        have BL5 := Lib.hid (BL.out.trans (e5.mono (show w.heap.size ≤ wr.heap.size by omega)))
        clear hW5 e5 hwt hnb5
        apply wp_region_rgz (Chg (· ∈ [g])) (Ext) (fun y w' k' => (k' < 1000 → StrArr 9 w' g c t) ∧ (1000 ≤ k' → StrArr 9 w' g c (t.set m (f r ((m : Int), s) u)))) (0 :: 0 :: 0 :: 0 :: 0 :: 0 :: 0 :: 0 :: 0 :: 0 :: 0 :: 0 :: 0 :: 0 :: 0 :: 1000 :: []) (1000 :: 1000 :: 1000 :: 1000 :: 1000 :: 1000 :: 1000 :: 1000 :: 1000 :: 1000 :: 1000 :: 1000 :: 1000 :: 1000 :: 1000 :: 1000 :: []) (by kernel_rfl) (false :: false :: false :: false :: false :: false :: false :: false :: false :: false :: false :: false :: false :: false :: false :: false :: false :: false :: false :: false :: false :: false :: true :: true :: true :: true :: true :: true :: true :: true :: true :: true :: true :: true :: true :: true :: true :: false :: false :: []) (some 22 :: some 23 :: some 24 :: some 25 :: some 26 :: some 27 :: some 28 :: some 29 :: some 30 :: some 31 :: some 32 :: some 33 :: some 34 :: some 35 :: some 36 :: none :: []) ([] :: [0] :: [] :: [2] :: [] :: [] :: [] :: [] :: [7] :: [] :: [9] :: [8, 10] :: [11] :: [4, 5, 6, 12] :: [1, 3] :: [13, 14] :: []) (false :: false :: false :: false :: false :: false :: false :: false :: false :: false :: false :: false :: false :: false :: false :: true :: []) (true :: true :: true :: true :: true :: true :: true :: true :: true :: true :: true :: true :: true :: true :: true :: true :: []) [] (MStP.is _ :: MStP.is _ :: MStP.is _ :: MStP.is _ :: MStP.is _ :: MStP.is _ :: MStP.is _ :: MStP.is _ :: MStP.is _ :: MStP.is _ :: MStP.is _ :: MStP.is _ :: MStP.is _ :: MStP.is _ :: MStP.is _ :: MStP.is _ :: []) (by kernel_rfl) (by kernel_rfl) (by kernel_rfl) (by kernel_rfl)
        case hobs =>
          refine ⟨fun y w' k hS hj hk hF K hK => ?_, ?_⟩
          · skip -- 0: fieldAddr
            simp only [fillL, cond_true, cond_false, List.getD_cons_zero, List.getD_cons_succ, StP.is, Act.put, List.setIfInBounds_toArray, List.set_cons_zero, List.set_cons_succ, Nat.reduceAdd, MStP.is, Option.isSome_some, Option.isSome_none] at hK ⊢
            simp only [List.sum_cons, List.sum_nil, List.getD_cons_zero, List.getD_cons_succ, Nat.reduceAdd, Nat.add_zero] at hk
            refine rg_yes (by kernel_rfl) ?_
            have hsw := hS.size
            clear hF
            go_simp
            exact hK _ _ (Ext.refl _) ⟨fun h => hj.1 (by omega), fun h => absurd h (by omega)⟩ rfl
          refine ⟨fun y w' k hS hj hk hF K hK => ?_, ?_⟩
          · skip -- 1: load
            have e22 : y 22 = _ := hF.1
            have e22' := Lib.hid e22
            simp only [fillL, cond_true, cond_false, List.getD_cons_zero, List.getD_cons_succ, StP.is, Act.put, List.setIfInBounds_toArray, List.set_cons_zero, List.set_cons_succ, Nat.reduceAdd, e22, MStP.is, Option.isSome_some, Option.isSome_none] at hK ⊢
            simp only [List.sum_cons, List.sum_nil, List.getD_cons_zero, List.getD_cons_succ, Nat.reduceAdd, Nat.add_zero] at hk
            refine rg_yes (by kernel_rfl) ?_
            have hsw := hS.size
            clear e22
            clear hF
            have hb_ := (hS.block nb (by omega) (by simp; omega)).trans HNB5.out
            have q0_ := cell_of_row _ _ 0 _ _ (0, 0) hb_
            clear hb_
            go_simp
            exact hK _ _ (Ext.refl _) ⟨fun h => hj.1 (by omega), fun h => absurd h (by omega)⟩ rfl
          refine ⟨fun y w' k hS hj hk hF K hK => ?_, ?_⟩
          · skip -- 2: fieldAddr
            simp only [fillL, cond_true, cond_false, List.getD_cons_zero, List.getD_cons_succ, StP.is, Act.put, List.setIfInBounds_toArray, List.set_cons_zero, List.set_cons_succ, Nat.reduceAdd, MStP.is, Option.isSome_some, Option.isSome_none] at hK ⊢
            simp only [List.sum_cons, List.sum_nil, List.getD_cons_zero, List.getD_cons_succ, Nat.reduceAdd, Nat.add_zero] at hk
            refine rg_yes (by kernel_rfl) ?_
            have hsw := hS.size
            clear hF
            go_simp
            exact hK _ _ (Ext.refl _) ⟨fun h => hj.1 (by omega), fun h => absurd h (by omega)⟩ rfl
          refine ⟨fun y w' k hS hj hk hF K hK => ?_, ?_⟩
          · skip -- 3: load
            have e24 : y 24 = _ := hF.1
            have e24' := Lib.hid e24
            simp only [fillL, cond_true, cond_false, List.getD_cons_zero, List.getD_cons_succ, StP.is, Act.put, List.setIfInBounds_toArray, List.set_cons_zero, List.set_cons_succ, Nat.reduceAdd, e24, MStP.is, Option.isSome_some, Option.isSome_none] at hK ⊢
            simp only [List.sum_cons, List.sum_nil, List.getD_cons_zero, List.getD_cons_succ, Nat.reduceAdd, Nat.add_zero] at hk
            refine rg_yes (by kernel_rfl) ?_
            have hsw := hS.size
            clear e24
            clear hF
            have hb_ := (hS.block wr.heap.size (by omega) (by simp; omega)).trans HWT.out
            have q0_ := cell_of_row _ _ 0 _ _ (0, 0) hb_; have q1_ := cell_of_row _ _ 1 _ _ (0, 0) hb_
            clear hb_
            go_simp
            exact hK _ _ (Ext.refl _) ⟨fun h => hj.1 (by omega), fun h => absurd h (by omega)⟩ rfl
          refine ⟨fun y w' k hS hj hk hF K hK => ?_, ?_⟩
          · skip -- 4: move
            simp only [fillL, cond_true, cond_false, List.getD_cons_zero, List.getD_cons_succ, StP.is, Act.put, List.setIfInBounds_toArray, List.set_cons_zero, List.set_cons_succ, Nat.reduceAdd, MStP.is, Option.isSome_some, Option.isSome_none] at hK ⊢
            simp only [List.sum_cons, List.sum_nil, List.getD_cons_zero, List.getD_cons_succ, Nat.reduceAdd, Nat.add_zero] at hk
            refine rg_yes (by kernel_rfl) ?_
            have hsw := hS.size
            clear hF
            go_simp
            exact hK _ _ (Ext.refl _) ⟨fun h => hj.1 (by omega), fun h => absurd h (by omega)⟩ rfl
          refine ⟨fun y w' k hS hj hk hF K hK => ?_, ?_⟩
          · skip -- 5: move
            simp only [fillL, cond_true, cond_false, List.getD_cons_zero, List.getD_cons_succ, StP.is, Act.put, List.setIfInBounds_toArray, List.set_cons_zero, List.set_cons_succ, Nat.reduceAdd, MStP.is, Option.isSome_some, Option.isSome_none] at hK ⊢
            simp only [List.sum_cons, List.sum_nil, List.getD_cons_zero, List.getD_cons_succ, Nat.reduceAdd, Nat.add_zero] at hk
            refine rg_yes (by kernel_rfl) ?_
            have hsw := hS.size
            clear hF
            go_simp
            exact hK _ _ (Ext.refl _) ⟨fun h => hj.1 (by omega), fun h => absurd h (by omega)⟩ rfl
          refine ⟨fun y w' k hS hj hk hF K hK => ?_, ?_⟩
          · skip -- 6: load
            simp only [fillL, cond_true, cond_false, List.getD_cons_zero, List.getD_cons_succ, StP.is, Act.put, List.setIfInBounds_toArray, List.set_cons_zero, List.set_cons_succ, Nat.reduceAdd, MStP.is, Option.isSome_some, Option.isSome_none] at hK ⊢
            simp only [List.sum_cons, List.sum_nil, List.getD_cons_zero, List.getD_cons_succ, Nat.reduceAdd, Nat.add_zero] at hk
            refine rg_yes (by kernel_rfl) ?_
            have hsw := hS.size
            clear hF
            have hb_ := (hS.block wr.heap.size (by omega) (by simp; omega)).trans HWT.out
            have q0_ := cell_of_row _ _ 0 _ _ (0, 0) hb_; have q1_ := cell_of_row _ _ 1 _ _ (0, 0) hb_
            clear hb_
            go_simp
            exact hK _ _ (Ext.refl _) ⟨fun h => hj.1 (by omega), fun h => absurd h (by omega)⟩ rfl
          refine ⟨fun y w' k hS hj hk hF K hK => ?_, ?_⟩
          · skip -- 7: fieldAddr
            simp only [fillL, cond_true, cond_false, List.getD_cons_zero, List.getD_cons_succ, StP.is, Act.put, List.setIfInBounds_toArray, List.set_cons_zero, List.set_cons_succ, Nat.reduceAdd, MStP.is, Option.isSome_some, Option.isSome_none] at hK ⊢
            simp only [List.sum_cons, List.sum_nil, List.getD_cons_zero, List.getD_cons_succ, Nat.reduceAdd, Nat.add_zero] at hk
            refine rg_yes (by kernel_rfl) ?_
            have hsw := hS.size
            clear hF
            go_simp
            exact hK _ _ (Ext.refl _) ⟨fun h => hj.1 (by omega), fun h => absurd h (by omega)⟩ rfl
          refine ⟨fun y w' k hS hj hk hF K hK => ?_, ?_⟩
          · skip -- 8: load
            have e29 : y 29 = _ := hF.1
            have e29' := Lib.hid e29
            simp only [fillL, cond_true, cond_false, List.getD_cons_zero, List.getD_cons_succ, StP.is, Act.put, List.setIfInBounds_toArray, List.set_cons_zero, List.set_cons_succ, Nat.reduceAdd, e29, MStP.is, Option.isSome_some, Option.isSome_none] at hK ⊢
            simp only [List.sum_cons, List.sum_nil, List.getD_cons_zero, List.getD_cons_succ, Nat.reduceAdd, Nat.add_zero] at hk
            refine rg_yes (by kernel_rfl) ?_
            have hsw := hS.size
            clear e29
            clear hF
            have hb_ := (hS.block nb (by omega) (by simp; omega)).trans HNB5.out
            have q0_ := cell_of_row _ _ 0 _ _ (0, 0) hb_
            clear hb_
            go_simp
            exact hK _ _ (Ext.refl _) ⟨fun h => hj.1 (by omega), fun h => absurd h (by omega)⟩ rfl
          refine ⟨fun y w' k hS hj hk hF K hK => ?_, ?_⟩
          · skip -- 9: fieldAddr
            simp only [fillL, cond_true, cond_false, List.getD_cons_zero, List.getD_cons_succ, StP.is, Act.put, List.setIfInBounds_toArray, List.set_cons_zero, List.set_cons_succ, Nat.reduceAdd, MStP.is, Option.isSome_some, Option.isSome_none] at hK ⊢
            simp only [List.sum_cons, List.sum_nil, List.getD_cons_zero, List.getD_cons_succ, Nat.reduceAdd, Nat.add_zero] at hk
            refine rg_yes (by kernel_rfl) ?_
            have hsw := hS.size
            clear hF
            go_simp
            exact hK _ _ (Ext.refl _) ⟨fun h => hj.1 (by omega), fun h => absurd h (by omega)⟩ rfl
          refine ⟨fun y w' k hS hj hk hF K hK => ?_, ?_⟩
          · skip -- 10: load
            have e31 : y 31 = _ := hF.1
            have e31' := Lib.hid e31
            simp only [fillL, cond_true, cond_false, List.getD_cons_zero, List.getD_cons_succ, StP.is, Act.put, List.setIfInBounds_toArray, List.set_cons_zero, List.set_cons_succ, Nat.reduceAdd, e31, MStP.is, Option.isSome_some, Option.isSome_none] at hK ⊢
            simp only [List.sum_cons, List.sum_nil, List.getD_cons_zero, List.getD_cons_succ, Nat.reduceAdd, Nat.add_zero] at hk
            refine rg_yes (by kernel_rfl) ?_
            have hsw := hS.size
            clear e31
            clear hF
            have hb_ := (hS.block wr.heap.size (by omega) (by simp; omega)).trans HWT.out
            have q0_ := cell_of_row _ _ 0 _ _ (0, 0) hb_; have q1_ := cell_of_row _ _ 1 _ _ (0, 0) hb_
            clear hb_
            go_simp
            exact hK _ _ (Ext.refl _) ⟨fun h => hj.1 (by omega), fun h => absurd h (by omega)⟩ rfl
          refine ⟨fun y w' k hS hj hk hF K hK => ?_, ?_⟩
          · skip -- 11: indexAddr
            have e30 : y 30 = _ := hF.1
            have e32 : y 32 = _ := hF.2.1
            have e30' := Lib.hid e30
            have e32' := Lib.hid e32
            simp only [fillL, cond_true, cond_false, List.getD_cons_zero, List.getD_cons_succ, StP.is, Act.put, List.setIfInBounds_toArray, List.set_cons_zero, List.set_cons_succ, Nat.reduceAdd, e30, e32, MStP.is, Option.isSome_some, Option.isSome_none] at hK ⊢
            simp only [List.sum_cons, List.sum_nil, List.getD_cons_zero, List.getD_cons_succ, Nat.reduceAdd, Nat.add_zero] at hk
            refine rg_yes (by kernel_rfl) ?_
            have hsw := hS.size
            clear e30 e32
            clear hF
            go_simp
            exact hK _ _ (Ext.refl _) ⟨fun h => hj.1 (by omega), fun h => absurd h (by omega)⟩ rfl
          refine ⟨fun y w' k hS hj hk hF K hK => ?_, ?_⟩
          · skip -- 12: load
            have e33 : y 33 = _ := hF.1
            have e33' := Lib.hid e33
            simp only [fillL, cond_true, cond_false, List.getD_cons_zero, List.getD_cons_succ, StP.is, Act.put, List.setIfInBounds_toArray, List.set_cons_zero, List.set_cons_succ, Nat.reduceAdd, e33, MStP.is, Option.isSome_some, Option.isSome_none] at hK ⊢
            simp only [List.sum_cons, List.sum_nil, List.getD_cons_zero, List.getD_cons_succ, Nat.reduceAdd, Nat.add_zero] at hk
            refine rg_yes (by kernel_rfl) ?_
            have hsw := hS.size
            clear e33
            clear hF
            have q0_ := (hj.1 (by omega)).cell HU.out
            go_simp
            exact hK _ _ (Ext.refl _) ⟨fun h => hj.1 (by omega), fun h => absurd h (by omega)⟩ rfl
          refine ⟨fun y w' k hS hj hk hF K hK => ?_, ?_⟩
          · skip -- 13: call
            have e26 : y 26 = _ := hF.1
            have e27 : y 27 = _ := hF.2.1
            have e28 : y 28 = _ := hF.2.2.1
            have e34 : y 34 = _ := hF.2.2.2.1
            have e26' := Lib.hid e26
            have e27' := Lib.hid e27
            have e28' := Lib.hid e28
            have e34' := Lib.hid e34
            simp only [fillL, cond_true, cond_false, List.getD_cons_zero, List.getD_cons_succ, StP.is, Act.put, List.setIfInBounds_toArray, List.set_cons_zero, List.set_cons_succ, Nat.reduceAdd, e26, e27, e28, e34, MStP.is, Option.isSome_some, Option.isSome_none] at hK ⊢
            simp only [List.sum_cons, List.sum_nil, List.getD_cons_zero, List.getD_cons_succ, Nat.reduceAdd, Nat.add_zero] at hk
            refine rg_yes (by kernel_rfl) ?_
            have hsw := hS.size
            clear e26 e27 e28 e34
            clear hF
            go_simp
            go_at_call 69
            have hbw : Below w.heap.size w w' := BL5.out.trans (hS.below (B := w.heap.size) (fun k _ hk => by simp at hk; omega) (by omega))
            refine (HFV.out r (m : Int) s u w' hbw (by omega) hsz hus).mono ?_
            rintro e w'' ⟨rfl, hb⟩
            exact hK _ _ hb ⟨fun h => (hj.1 (by omega)).below hb, fun h => absurd h (by omega)⟩ rfl
          refine ⟨fun y w' k hS hj hk hF K hK => ?_, ?_⟩
          · skip -- 14: indexAddr
            have e23 : y 23 = _ := hF.1
            have e25 : y 25 = _ := hF.2.1
            have e23' := Lib.hid e23
            have e25' := Lib.hid e25
            simp only [fillL, cond_true, cond_false, List.getD_cons_zero, List.getD_cons_succ, StP.is, Act.put, List.setIfInBounds_toArray, List.set_cons_zero, List.set_cons_succ, Nat.reduceAdd, e23, e25, MStP.is, Option.isSome_some, Option.isSome_none] at hK ⊢
            simp only [List.sum_cons, List.sum_nil, List.getD_cons_zero, List.getD_cons_succ, Nat.reduceAdd, Nat.add_zero] at hk
            refine rg_yes (by kernel_rfl) ?_
            have hsw := hS.size
            clear e23 e25
            clear hF
            go_simp
            exact hK _ _ (Ext.refl _) ⟨fun h => hj.1 (by omega), fun h => absurd h (by omega)⟩ rfl
          refine ⟨fun y w' k hS hj hk hF K hK => ?_, ?_⟩
          · skip -- 15: store
            have e35 : y 35 = _ := hF.1
            have e36 : y 36 = _ := hF.2.1
            have e35' := Lib.hid e35
            have e36' := Lib.hid e36
            simp only [fillL, cond_true, cond_false, List.getD_cons_zero, List.getD_cons_succ, StP.is, Act.put, List.setIfInBounds_toArray, List.set_cons_zero, List.set_cons_succ, Nat.reduceAdd, e35, e36, MStP.is, Option.isSome_some, Option.isSome_none] at hK ⊢
            simp only [List.sum_cons, List.sum_nil, List.getD_cons_zero, List.getD_cons_succ, Nat.reduceAdd, Nat.add_zero] at hk
            refine rg_yes (by kernel_rfl) ?_
            have hsw := hS.size
            clear e35 e36
            clear hF
            have HAA := Lib.hid (hj.1 (by omega))
            have fz := HAA.out.free (j := m)
            have q0_ := HAA.out.cell HU.out
            go_simp
            exact hK undef _ ((Chg.refl _ _).setCell (.inl (by simp)) _) ⟨fun h => absurd h (by omega), fun _ => HAA.out.set (by rw [HLEN.out]; omega)⟩ rfl
          trivial
        case hH => rfl
        case hNS => exact fun _ _ h => Chg.of_below h _
        case hSt => exact fun a b => Chg.trans a b
        case hb => rfl
        case hdrew => exact (Chg.refl _ _).drewN 1
        case hj0 => exact fun y => ⟨fun _ => HA5.out.block rfl, fun h => absurd h (by omega)⟩
        case hend =>
          intro y w6 hS hJ hF
          have hA6 := hJ.2 (by decide)
          rw [← HSTEP.out] at hA6
          have HA6 := Lib.hid hA6
          have HC6 : Hid (Chg (· ∈ [g]) w2 w6) := Lib.hid ((HC.out.trans (Chg.of_below E5.out _)).trans hS)
          clear hJ hF hS hA6
          simp only [fillL, cond_true, cond_false, Nat.reduceAdd]
          go_wp2_with fail
          go_roundw
          case rel => exact ⟨r + 1, by omega, by go_num, HC6, HA6⟩
          case measure => simp [intOf]; omega
      · obtain rfl : r = n1 := by omega
        have lq : w.heap.size + 1 < w2.heap.size := by omega
        have hqr := (HC.out.block (w.heap.size + 1) lq (by simp; omega)).trans Q2.out
        have b0 := cell_of_row _ _ 0 _ _ (0, 0) hnbr; have b1 := cell_of_row _ _ 1 _ _ (0, 0) hnbr; have b2 := cell_of_row _ _ 2 _ _ (0, 0) hnbr
        have r0 := cell_of_row _ _ 0 _ _ (0, 0) hqr; have r1 := cell_of_row _ _ 1 _ _ (0, 0) hqr; have r2 := cell_of_row _ _ 2 _ _ (0, 0) hqr
        have fz := fun o => block_free hqr o
        have fz0 := fz 0; have fz1 := fz 1; have fz2 := fz 2
        have hst := setT_3 (x0 := .slice (some ⟨g, 0, none⟩) 64 c) (x1 := .slice none 0 0) (x2 := .bool gone) hqr
        have s0 := cell_of_row _ _ 0 _ _ (0, 0) hst; have s1 := cell_of_row _ _ 1 _ _ (0, 0) hst; have s2 := cell_of_row _ _ 2 _ _ (0, 0) hst
        have hgq : g ≠ w.heap.size + 1 := by omega
        have HFA := Lib.hid (HA.out.block (w' := ((wr.setCell ⟨w.heap.size + 1, 0, none⟩ (.slice (some ⟨g, 0, none⟩) 64 c)).setCell ⟨w.heap.size + 1, 1, none⟩ (.slice none 0 0)).setCell ⟨w.heap.size + 1, 2, none⟩ (.bool gone)) ((heap_far hgq).trans ((heap_far hgq).trans (heap_far hgq))))
        clear fz hst hqr hnbr
        go_wp2_with fail
        refine bodyPost_ret (v := .agg #[.slice (some ⟨g, 0, none⟩) 64 c, .slice none 0 0, .bool gone]) (by simp [results, Try.results67, go_sem, s0, s1, s2]) rfl ⟨_, rfl, ?_, ?_⟩
        · have hl : (settleTo f x1 x0 r).length = 64 := settleTo_len.trans HX0.out
          have hs1 := HFA.out.slice (lo := w.heap.size) (hi := _) (by omega) HFA.out.lt (Nat.le_refl _) (fun s hs => by have := settleTo_le (fun y hy => (HW.out y hy).2) HT.out HF.out r s hs; unfold maxLen; omega)
          have hs2 := HFA.out.whole (lo := w.heap.size) (hi := _) (by omega) HFA.out.lt
          rw [hl] at hs1 hs2
          unfold settleD
          rw [HN1.out]
          exact ⟨_, _, _, _, _, _, rfl, hs1, hs2, ⟨rfl, Nat.le_refl _, Nat.zero_le _, Nat.le_refl _, fun _ => rfl, fun h => absurd h (Nat.lt_irrefl _)⟩, .inl ⟨rfl, rfl⟩⟩
        · exact Below.setCell (p := ⟨w.heap.size + 1, 2, none⟩) (Below.setCell (p := ⟨w.heap.size + 1, 1, none⟩) (Below.setCell (p := ⟨w.heap.size + 1, 0, none⟩) BL.out (by simp) _) (by simp) _) (by simp) _
end Go.Proofs.Ytgipchipcoaajaa
