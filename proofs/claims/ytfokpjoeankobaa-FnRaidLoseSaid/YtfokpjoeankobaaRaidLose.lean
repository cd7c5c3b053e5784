/- Copies of disks, and RaidLose both. No condition. -/
import Derived.Test.YtfokpjoeankobaaRaidEach
import Derived.Test.YtfokpjoeankobaaDiskOk
import Derived.Test.YtfokpjoeankobaaDiskLose
import Derived.Test.YtfokpjoeankobaaDiskCopy
import Derived.Test.YtfokpjoeankobaaLib
namespace Go.Proofs.Ytfokpjoeankobaa
set_option linter.unusedSimpArgs false
set_option linter.unnecessarySimpa false
open Go.RowKit
set_option linter.unusedVariables false
theorem RaidN.arr {w : World} {lo hi : Nat} {A : Option Addr} {n c : Nat} {xs : RaidD} (h : RaidN w lo hi [.slice A n c] xs) (hn : 0 < n) :
    ∃ (g : Nat) (cur : Array Value) (o : Nat → Nat), A = some ⟨g, 0, none⟩ ∧ lo ≤ g ∧ g < hi ∧ w.heap[g]? = some (.cells cur 45 (0, 0)) ∧ cur.size = c * 3 ∧ n ≤ c ∧ c ≤ maxLen ∧ xs.length = n ∧ hi ≤ w.heap.size ∧
      ∀ j x, xs[j]? = some x → ∃ cs, cs.length = 3 ∧ (∀ i v, cs[i]? = some v → cur[j * 3 + i]? = some v) ∧ DiskO o w lo hi cs (x, j) := by
  obtain ⟨A', n', c', o, e, h0, h1⟩ := h
  injection e with e _; injection e with e1 e2 e3; subst e1 e2 e3
  have hl := h0.len
  obtain ⟨b, off, rfl, _, _, _, hc⟩ := h0.at_ hn
  rcases h1 with ⟨h, _⟩ | ⟨g, cur, hA, a1, a2, a3, a4, a5, a6⟩
  · omega
  · injection hA with e; injection e with e1 e2; subst e1 e2
    refine ⟨b, cur, o, rfl, a1, a2, a3, a4, a5, a6, by simpa using hl, h0.lo_le, fun j x hx => ?_⟩
    obtain ⟨cs, hcl, hcc, hr⟩ := hc j (x, j) (by rw [List.getElem?_zipIdx, hx]; simp)
    refine ⟨cs, hcl, fun i v hv => ?_, hr⟩
    have := hcc i v hv
    rw [Nat.zero_add, cell_of_row _ _ _ _ _ (0, 0) a3] at this
    exact this
/-- A disk laid in place of another. -/
theorem RaidN.set {w W : World} {lo hi lo2 hi2 g c j : Nat} {xs : RaidD} {d : DiskD} {cs : List Value} (h : RaidN w lo hi [.slice (some ⟨g, 0, none⟩) 3 c] xs) (hj : j < 3) (hhi : hi ≤ lo2) (hd : DiskN w lo2 hi2 cs d) (h2 : lo2 ≤ hi2) (h3 : hi2 ≤ w.heap.size)
    (hW : W.heap.size = w.heap.size) (hk : ∀ i, i ≠ g → W.heap[i]? = w.heap[i]?) (hg : ∀ cur, w.heap[g]? = some (.cells cur 45 (0, 0)) → W.heap[g]? = some (.cells (putAt cur (j * 3) cs) 45 (0, 0))) : RaidN W lo hi2 [.slice (some ⟨g, 0, none⟩) 3 c] (xs.set j d) := by
  obtain ⟨g', cur, o, e, h1, h5, h6, h7, h8, h9, hl, h10, hc⟩ := h.arr (by omega)
  injection e with e; injection e with e1 e2; subst e1
  have hgW := hg cur h6
  have hkT : ∀ i, i < w.heap.size → (∀ cur, w.heap[i]? ≠ some (.cells cur 45 (0, 0))) → W.heap[i]? = w.heap[i]? := fun i hi hn => hk i (fun e => hn cur (e ▸ h6))
  have hcl : cs.length = 3 := hd.len
  have hj3 : j * 3 + 3 ≤ c * 3 := by omega
  refine ⟨some ⟨g, 0, none⟩, 3, c, fun b => if hi ≤ b then j else o b, rfl, ⟨by simpa using hl, h8, Nat.le_trans h8 h9, by omega, (fun h => by cases h), fun _ => ⟨g, 0, rfl, h1, by omega, fun i p hp => ?_⟩⟩, .inr ⟨g, _, rfl, h1, by omega, hgW, by rw [putAt_size, h7], h8, h9⟩⟩
  rw [List.getElem?_zipIdx, List.getElem?_set] at hp
  by_cases hij : j = i
  · subst hij
    rw [if_pos rfl, if_pos (by omega)] at hp
    obtain rfl : (d, j) = p := by simpa using hp
    refine ⟨cs, hcl, fun i v hv => ?_, DiskO.wide (by omega) (Nat.le_refl _) (by omega) _ _ (DiskO.of (DiskN.keepT (by omega) hkT _ _ hd) (fun b hb _ => if_pos (by omega)))⟩
    rw [Nat.zero_add, cell_of_row _ _ _ _ _ (0, 0) hgW]
    exact putAt_in _ _ _ _ _ (by omega) hv
  · rw [if_neg hij] at hp
    cases hx : xs[i]? with
    | none => rw [hx] at hp; cases hp
    | some x =>
      rw [hx] at hp
      obtain rfl : (x, i) = p := by simpa using hp
      obtain ⟨cs', hl', hc', ho'⟩ := hc i x hx
      refine ⟨cs', hl', fun t v hv => ?_, ?_⟩
      · have ht : t < 3 := by rw [← hl']; exact (List.getElem?_eq_some_iff.1 hv).1
        rw [Nat.zero_add, cell_of_row _ _ _ _ _ (0, 0) hgW, putAt_out _ _ _ _ (by omega)]
        exact hc' t v hv
      · have a1 := DiskO.relabel (o' := fun b => if hi ≤ b then j else o b) ho' (fun b _ hb => if_neg (by omega))
        exact DiskO.wide (Nat.le_refl _) (by omega) (by omega) _ _ (DiskO.keepT (by omega) hkT _ _ a1)
theorem raidOk_len {xs : RaidD} (h : raidOk xs = true) : xs.length = 3 ∧ ∀ x ∈ xs, x.1.length = 64 ∧ x.2.1.length ≤ 120 := by
  unfold raidOk at h
  obtain ⟨h1, h2⟩ := (Bool.and_eq_true _ _).mp h
  refine ⟨by simpa using h1, fun x hx => ?_⟩
  rw [List.all_eq_true] at h2
  exact diskOk_len (h2 x hx)
theorem eachD_id (xs : RaidD) : eachD (fun _ x => x) (fun _ _ => true) xs = xs := by
  unfold eachD
  rw [if_pos (by unfold allG; simp)]
  apply List.ext_getElem?
  intro i
  rw [List.getElem?_mapIdx]
  cases xs[i]? <;> rfl
set_option maxRecDepth 100000 in
set_option maxHeartbeats 2000000 in
theorem clone1_any (i : Nat) (cs : List Value) (x : DiskD) (w : World) (lo hi : Nat) (h : DiskR w lo hi cs x) (b0 : x.1.length ≤ 1099511627776) (b1 : x.2.1.length ≤ 1099511627776) :
    Calls Try.prog 51 #[.int .i64 (i : Int), .agg cs.toArray] w (NewR2 DiskN w x true) := by
  have H := Lib.hid h; have B0 := Lib.hid b0; have B1 := Lib.hid b1
  obtain ⟨gone, hgone⟩ : ∃ g, g = x.2.2 := ⟨_, rfl⟩
  obtain ⟨A0, n0, c0, A1, n1, c1, rfl, h0, h1⟩ := h
  rw [← hgone] at H ⊢
  have HG := Lib.hid hgone
  have HLE := Lib.hid h0.lo_le
  clear h0 h1 hgone b0 b1
  show Calls Try.prog 51 #[.int .i64 (i : Int), .agg #[.slice A0 n0 c0, .slice A1 n1 c1, .bool gone]] w _
  go_enter Try.func51, Try.ntmps51
  go_wp2_with fail
  refine (cloneDisk_any _ x _ lo hi (DiskR.below bel2 HLE.out _ _ H.out) B0.out B1.out).mono ?_
  rintro e w1 ⟨cs1, rfl, hN, hb1⟩
  have hN' : DiskN w1 (w.heap.size + 2) w1.heap.size cs1 x := by simpa using hN
  have HN := Lib.hid hN'
  have HX : Hid (Below w.heap.size w w1) := Lib.hid (bel2.trans (hb1.mono (by simp <;> omega)))
  have z1 : w.heap.size + 2 ≤ w1.heap.size := by have := hb1.size; simp at this; omega
  have hq : w1.heap[w.heap.size + 1]? = some (.cells #[.slice none 0 0, .slice none 0 0, .bool false] 45 (0, 0)) := (hb1.block _ (by simp <;> omega)).trans (by have := heap_alloc_new (w.alloc (.cells #[.slice A0 n0 c0, .slice A1 n1 c1, .bool gone] 45)) (.cells #[.slice none 0 0, .slice none 0 0, .bool false] 45); simpa using this)
  obtain ⟨B0_, m0, d0, B1_, m1, d1, rfl, -⟩ := hN'
  have fz := fun o => block_free hq o
  have fz0 := fz 0; have fz1 := fz 1; have fz2 := fz 2
  have r0 := cell_of_row _ _ 0 _ _ (0, 0) hq; have r1 := cell_of_row _ _ 1 _ _ (0, 0) hq; have r2 := cell_of_row _ _ 2 _ _ (0, 0) hq
  have hst := block_set (o := 2) (v := .bool x.2.2) (block_set (o := 1) (v := .slice B1_ m1 d1) (block_set (o := 0) (v := .slice B0_ m0 d0) hq))
  have s0 := cell_of_row _ _ 0 _ _ (0, 0) hst; have s1 := cell_of_row _ _ 1 _ _ (0, 0) hst; have s2 := cell_of_row _ _ 2 _ _ (0, 0) hst
  clear fz hst hq hb1 hN
  go_wp2_with fail
  refine bodyPost_ret (v := .tuple #[.agg #[.slice B0_ m0 d0, .slice B1_ m1 d1, .bool x.2.2], .bool true]) (by simp [results, Try.results51, go_sem, s0, s1, s2]) rfl ⟨_, rfl, ?_, ?_⟩
  · exact DiskN.wide (by omega) (by simp [World.setCell]) (Nat.le_refl _) _ _ (DiskN.keep (Same.setCell (p := ⟨w.heap.size + 1, 2, none⟩) (Same.setCell (p := ⟨w.heap.size + 1, 1, none⟩) (Same.setCell (p := ⟨w.heap.size + 1, 0, none⟩) (Same.refl _ _ _) (.inl (by simp)) _) (.inl (by simp)) _) (.inl (by simp)) _) (by simp [World.setCell]) _ _ HN.out)
  · exact Below.setCell (p := ⟨w.heap.size + 1, 2, none⟩) (Below.setCell (p := ⟨w.heap.size + 1, 1, none⟩) (Below.setCell (p := ⟨w.heap.size + 1, 0, none⟩) HX.out (by simp) _) (by simp) _) (by simp) _
theorem box2 {w : World} {a b : Obj} : ((w.alloc a).alloc b).heap[w.heap.size + 1]? = some b := by
  have := heap_alloc_new (w.alloc a) b
  simpa using this
set_option maxRecDepth 100000 in
set_option maxHeartbeats 2000000 in
theorem cloneRaid_any (A : Option Addr) (n c : Nat) (xs : RaidD) (w : World) (lo hi : Nat) (h : SliceR DiskR 3 w lo hi A n c xs) (hn : n ≤ 3) (hb : ∀ x ∈ xs, x.1.length = 64 ∧ x.2.1.length ≤ 120) :
    Calls Try.prog 26 #[.agg #[.slice A n c]] w (NewR RaidN w xs) := by
  have H := Lib.hid h; have HB := Lib.hid hb
  clear h hb
  go_enter Try.func26, Try.ntmps26
  go_wp2_with fail
  refine (eachClone_any A n c xs (fun _ x => x) (fun _ _ => true) _ lo hi (SliceR.below H.out bel2 (DiskR.below bel2 H.out.lo_le)) hn (fun i x cs w' lo' hi' _ hx hr => clone1_any i cs x w' lo' hi' hr (by have := HB.out x (List.mem_of_getElem? hx); omega) (by have := HB.out x (List.mem_of_getElem? hx); omega))).mono ?_
  rw [eachD_id]
  rintro e w1 ⟨cs1, rfl, hN, hb1⟩
  have hN' : RaidN w1 (w.heap.size + 2) w1.heap.size cs1 xs := by simpa using hN
  have HN := Lib.hid hN'
  obtain ⟨b, hbb⟩ : ∃ b, b = allG (fun _ _ => true) xs := ⟨_, rfl⟩
  rw [← hbb]
  have HX : Hid (Below w.heap.size w w1) := Lib.hid (bel2.trans (hb1.mono (by simp <;> omega)))
  have z1 : w.heap.size + 2 ≤ w1.heap.size := by have := hb1.size; simp at this; omega
  have hq : w1.heap[w.heap.size + 1]? = some (.cells #[.slice none 0 0] 35 (0, 0)) := (hb1.block _ (by simp <;> omega)).trans box2
  obtain ⟨A', n', c', o, rfl, -, -⟩ := hN'
  have f0 := block_free hq 0
  have r0 := cell_of_row _ _ 0 _ _ (0, 0) hq
  have l0 : w.heap.size + 1 < w1.heap.size := by omega
  have s0 := cell_of_row _ _ 0 _ _ (0, 0) ((Below.heap_alloc (w1.setCell ⟨w.heap.size + 1, 0, none⟩ (.slice A' n' c')) (.cells #[.slice A' n' c'] 35) _ (by simpa [World.setCell] using l0)).trans (block_set (o := 0) (v := .slice A' n' c') hq))
  clear hbb hb1 hN hq
  go_wp2_with fail
  refine bodyPost_ret (v := .agg #[.slice A' n' c']) (by simp [results, Try.results26, go_sem, s0]) rfl ⟨_, rfl, ?_, ?_⟩
  · exact RaidN.wide (by omega) (by simp [World.setCell]) (Nat.le_refl _) _ _ (RaidN.keep (Same.alloc (Same.setCell (p := ⟨w.heap.size + 1, 0, none⟩) (Same.refl _ _ _) (.inl (by simp)) _) _ (by simp [World.setCell])) (by simp [World.setCell]) _ _ HN.out)
  · exact Below.alloc (Below.setCell (p := ⟨w.heap.size + 1, 0, none⟩) HX.out (by simp) _) (by simp [World.setCell]; omega) _
def loseOk (x : RaidD) (k : Int) : Bool := raidOk x && inB k 0 2
def loseR (x : RaidD) (k : Int) : RaidD := if loseOk x k = true then x.set k.toNat loseD else []
theorem set3 {w : World} {g o0 : Nat} {v0 v1 v2 : Value} {cur : Array Value} {t : TypeId} (h : w.heap[g]? = some (.cells cur t (0, 0))) :
    (((w.setCell ⟨g, o0, none⟩ v0).setCell ⟨g, o0 + 1, none⟩ v1).setCell ⟨g, o0 + 2, none⟩ v2).heap[g]? = some (.cells (putAt cur o0 [v0, v1, v2]) t (0, 0)) :=
  block_set (block_set (block_set h))
theorem set3_far {w : World} {g o0 o1 o2 i : Nat} {v0 v1 v2 : Value} (h : i ≠ g) : (((w.setCell ⟨g, o0, none⟩ v0).setCell ⟨g, o1, none⟩ v1).setCell ⟨g, o2, none⟩ v2).heap[i]? = w.heap[i]? :=
  (heap_far h).trans ((heap_far h).trans (heap_far h))
set_option maxRecDepth 100000 in
set_option maxHeartbeats 4000000 in
theorem raidLose_any (cs : List Value) (x : RaidD) (k : Int) (w : World) (lo hi : Nat) (h : RaidR w lo hi cs x) :
    Calls Try.prog 11 #[.agg cs.toArray, .int .i64 k] w (NewR2 RaidN w (loseR x k) (loseOk x k)) := by
  obtain ⟨A, n, c, rfl, h0⟩ := h
  obtain ⟨rd, hrd⟩ : ∃ d, d = loseR x k := ⟨_, rfl⟩
  obtain ⟨rb, hrb⟩ : ∃ d, d = loseOk x k := ⟨_, rfl⟩
  rw [← hrd, ← hrb]
  have HRD := Lib.hid hrd; have HRB := Lib.hid hrb
  obtain ⟨ok, hok⟩ : ∃ b, b = raidOk x := ⟨_, rfl⟩
  obtain ⟨ib, hib⟩ : ∃ b, b = inB k 0 2 := ⟨_, rfl⟩
  have R1 := Lib.hid (fun w => within_any k 0 2 w)
  rw [← hib] at R1
  have HOK := Lib.hid hok; have HIB := Lib.hid hib
  have HL := Lib.hid h0.len
  have H := Lib.hid h0
  have HR : Hid (RaidR w lo hi [.slice A n c] x) := Lib.hid ⟨A, n, c, rfl, h0⟩
  have HLE := Lib.hid h0.lo_le
  clear h0 hrd hrb hok hib
  show Calls Try.prog 11 #[.agg #[.slice A n c], .int .i64 k] w _
  go_enter Try.func11, Try.ntmps11
  go_wp2_with fail
  have hbR : ∀ W, Below w.heap.size w W → RaidR W lo hi [.slice A n c] x := fun W hb => RaidR.below hb HLE.out _ _ HR.out
  have HBR := Lib.hid hbR; clear hbR
  refine (raidOk_any _ x _ lo hi (HBR.out _ bel2)).mono ?_
  rw [← HOK.out]
  rintro e w1 ⟨rfl, hb1⟩
  have z1 : w.heap.size + 2 ≤ w1.heap.size := by have := hb1.size; simp at this; omega
  have HX1 : Hid (Below w.heap.size w w1) := Lib.hid (bel2.trans (hb1.mono (by simp <;> omega)))
  have B1 : Hid (w1.heap[w.heap.size + 1]? = some (.cells #[.slice none 0 0] 35 (0, 0))) := Lib.hid ((hb1.block _ (by simp <;> omega)).trans box2)
  have B0 : Hid (w1.heap[w.heap.size]? = some (.cells #[.slice A n c] 35 (0, 0))) := Lib.hid ((hb1.block _ (by simp <;> omega)).trans ((Below.heap_alloc _ _ _ (by simp)).trans (heap_alloc_new _ _)))
  clear hb1
  have a0 := cell_of_row _ _ 0 _ _ (0, 0) B0.out
  have r0 := cell_of_row _ _ 0 _ _ (0, 0) B1.out
  have f0 := block_free B1.out 0
  have l0 : w.heap.size < w1.heap.size := by omega
  have l1 : w.heap.size + 1 < w1.heap.size := by omega
  have hbad : rb = false → Hid (rb = false ∧ rd = []) := fun h => Lib.hid ⟨h, by rw [HRD.out]; unfold loseR; rw [← HRB.out, h]; rfl⟩
  cases ok
  · have HF := hbad (by rw [HRB.out]; unfold loseOk; rw [← HOK.out]; rfl)
    clear hbad
    go_wp2_with fail
    refine bodyPost_ret (v := .tuple #[.agg #[.slice none 0 0], .bool false]) (by simp [results, Try.results11, go_sem, *]) rfl ⟨_, by rw [HF.out.1], by rw [HF.out.2]; exact noRaid none (Nat.le_refl _), ?_⟩
    repeat (first | exact HX1.out | refine Below.setCell ?_ (by simp <;> omega) _)
  cases ib
  · have HF := hbad (by rw [HRB.out]; unfold loseOk; rw [← HIB.out]; simp)
    clear hbad
    go_wp2_with (go_at_call 18; with_reducible refine (R1.out _).mono ?_; rintro e w' ⟨rfl, rfl⟩)
    refine bodyPost_ret (v := .tuple #[.agg #[.slice none 0 0], .bool false]) (by simp [results, Try.results11, go_sem, *]) rfl ⟨_, by rw [HF.out.1], by rw [HF.out.2]; exact noRaid none (Nat.le_refl _), ?_⟩
    repeat (first | exact HX1.out | refine Below.setCell ?_ (by simp <;> omega) _)
  clear hbad
  have HF1 : Hid (rb = true) := Lib.hid (by rw [HRB.out]; unfold loseOk; rw [← HOK.out, ← HIB.out]; rfl)
  obtain ⟨j, rfl, hjz⟩ := inB_nat (m := 2) HIB.out.symm
  have hj3 : j < 3 := by omega
  have HF2 : Hid (rd = x.set j loseD) := Lib.hid (by rw [HRD.out]; unfold loseR; rw [← HRB.out, HF1.out]; simp)
  obtain ⟨hl3, hx3⟩ := raidOk_len HOK.out.symm
  obtain rfl : 3 = n := by have := HL.out; omega
  have HX3 := Lib.hid hx3
  have j0 : (0 : Int) ≤ (j : Int) := by omega
  have j1 : (j : Int) < 3 := by omega
  clear hl3 hx3
  go_wp2_with (go_at_call 18; with_reducible refine (R1.out _).mono ?_; rintro e w' ⟨rfl, rfl⟩)
  refine (cloneRaid_any A 3 c x _ lo hi (SliceR.below H.out HX1.out (DiskR.below HX1.out HLE.out)) (by omega) HX3.out).mono ?_
  rintro e w2 ⟨cs2, rfl, hN, hb2⟩
  have z2 := hb2.size
  have HX2 : Hid (Below w.heap.size w w2) := Lib.hid (HX1.out.trans (hb2.mono HX1.out.size))
  have B12 : Hid (w2.heap[w.heap.size + 1]? = some (.cells #[.slice none 0 0] 35 (0, 0))) := Lib.hid ((hb2.block _ l1).trans B1.out)
  have hN3 := hN
  obtain ⟨A3, n3, c3, o3, rfl, hs3, hw3⟩ := hN3
  obtain rfl : 3 = n3 := by have e := hs3.len; rw [List.length_zipIdx] at e; have := HL.out; omega
  obtain ⟨g, cur, o, rfl, hg1, hg2, hg3, hg4, hg5, hg6, hg7, hg8, hg9⟩ := hN.arr (by omega)
  have HN := Lib.hid hN
  clear hs3 hw3 hN hb2 hg3 hg4 hg6 hg7 hg8 hg9 B0 B1 a0 r0 f0 l0 l1 cur
  have z3 : w.heap.size + 2 ≤ w2.heap.size := by omega
  go_wp2_with fail
  obtain ⟨w3, hW⟩ : ∃ w3, w3 = w2.alloc (.cells #[.slice (some ⟨g, 0, none⟩) 3 c3] 35) := ⟨_, rfl⟩
  have e3 : Below w2.heap.size w2 w3 := by rw [hW]; exact bel1
  have zz3 : w3.heap.size = w2.heap.size + 1 := by rw [hW]; simp
  have HBX : Hid (w3.heap[w2.heap.size]? = some (.cells #[.slice (some ⟨g, 0, none⟩) 3 c3] 35 (0, 0))) := Lib.hid (by rw [hW]; exact heap_alloc_new _ _)
  rw [← hW]; clear hW
  have HN3 : Hid (RaidN w3 w1.heap.size w2.heap.size [.slice (some ⟨g, 0, none⟩) 3 c3] x) := Lib.hid (RaidN.below e3 (Nat.le_refl _) _ _ HN.out)
  have HX4 : Hid (Below w.heap.size w w3) := Lib.hid (HX2.out.trans (e3.mono HX2.out.size))
  have B13 : Hid (w3.heap[w.heap.size + 1]? = some (.cells #[.slice none 0 0] 35 (0, 0))) := Lib.hid ((e3.block _ (by omega)).trans B12.out)
  clear e3 B12 HN
  apply wp_region_rgz (Chg (· ∈ [g])) (Ext) (fun y w' k' => (k' < 1000 → RaidN w' w1.heap.size w2.heap.size [.slice (some ⟨g, 0, none⟩) 3 c3] x) ∧ (1000 ≤ k' → ∃ hi2, hi2 ≤ w'.heap.size ∧ RaidN w' w1.heap.size hi2 [.slice (some ⟨g, 0, none⟩) 3 c3] (x.set j loseD))) [0, 0, 0, 0, 0, 1000] [1000, 1000, 1000, 1000, 1000, 1000] (by kernel_rfl) (false :: false :: false :: false :: false :: false :: false :: false :: false :: false :: false :: false :: false :: false :: false :: false :: false :: false :: true :: true :: true :: true :: true :: false :: []) [some 18, some 19, some 20, some 21, some 22, none] [[], [0], [], [], [1, 2], [3, 4]] [false, false, false, false, false, true] [true, true, true, false, true, true] [] [MStP.is _, MStP.is _, MStP.is _, ⟨fun v w' => ∃ cs lo2 hi2, v = .agg (List.toArray cs) ∧ w2.heap.size ≤ lo2 ∧ lo2 ≤ hi2 ∧ hi2 ≤ w'.heap.size ∧ DiskN w' lo2 hi2 cs loseD, false, fun v w' w'' hs h => by obtain ⟨cs, lo2, hi2, e, h1, h2, h3, h4⟩ := h; exact ⟨cs, lo2, hi2, e, h1, h2, Nat.le_trans h3 (Below.size hs), DiskN.below hs h3 _ _ h4⟩, fun h => by cases h⟩, MStP.is _, MStP.is _] (by kernel_rfl) (by kernel_rfl) (by kernel_rfl) (by kernel_rfl)
  case hobs =>
    refine ⟨fun y w' k hS hj hk hF K hK => ?_, ?_⟩
    · skip -- 0: fieldAddr
      simp only [fillL, cond_true, cond_false, List.getD_cons_zero, List.getD_cons_succ, StP.is, Act.put, List.setIfInBounds_toArray, List.set_cons_zero, List.set_cons_succ, Nat.reduceAdd, MStP.is, Option.isSome_some, Option.isSome_none] at hK ⊢
      simp only [List.sum_cons, List.sum_nil, List.getD_cons_zero, List.getD_cons_succ, Nat.reduceAdd, Nat.add_zero] at hk
      refine rg_yes (by kernel_rfl) ?_
      have hsw := hS.size
      clear hF
      go_simp
      exact hK _ _ (Ext.refl _) ⟨fun h => hj.1 (by omega), fun h => absurd h (by omega)⟩ rfl
    refine ⟨fun y w' k hS hj hk hF K hK => ?_, ?_⟩
    · skip -- 1: load
      have e18 : y 18 = _ := hF.1
      have e18' := Lib.hid e18
      simp only [fillL, cond_true, cond_false, List.getD_cons_zero, List.getD_cons_succ, StP.is, Act.put, List.setIfInBounds_toArray, List.set_cons_zero, List.set_cons_succ, Nat.reduceAdd, e18, MStP.is, Option.isSome_some, Option.isSome_none] at hK ⊢
      simp only [List.sum_cons, List.sum_nil, List.getD_cons_zero, List.getD_cons_succ, Nat.reduceAdd, Nat.add_zero] at hk
      refine rg_yes (by kernel_rfl) ?_
      have hsw := hS.size
      clear e18
      clear hF
      have q0_ := (World.cell?_of_block (a := ⟨w2.heap.size, 0, none⟩) (hS.block w2.heap.size (by omega) (by simp; omega))).trans (cell_of_row _ _ 0 _ _ (0, 0) HBX.out)
      have lq_ : w2.heap.size < w'.heap.size := by omega
      go_simp
      exact hK _ _ (Ext.refl _) ⟨fun h => hj.1 (by omega), fun h => absurd h (by omega)⟩ rfl
    refine ⟨fun y w' k hS hj hk hF K hK => ?_, ?_⟩
    · skip -- 2: move
      simp only [fillL, cond_true, cond_false, List.getD_cons_zero, List.getD_cons_succ, StP.is, Act.put, List.setIfInBounds_toArray, List.set_cons_zero, List.set_cons_succ, Nat.reduceAdd, MStP.is, Option.isSome_some, Option.isSome_none] at hK ⊢
      simp only [List.sum_cons, List.sum_nil, List.getD_cons_zero, List.getD_cons_succ, Nat.reduceAdd, Nat.add_zero] at hk
      refine rg_yes (by kernel_rfl) ?_
      have hsw := hS.size
      clear hF
      go_simp
      exact hK _ _ (Ext.refl _) ⟨fun h => hj.1 (by omega), fun h => absurd h (by omega)⟩ rfl
    refine ⟨fun y w' k hS hj hk hF K hK => ?_, ?_⟩
    · skip -- 3: call
      simp only [fillL, cond_true, cond_false, List.getD_cons_zero, List.getD_cons_succ, StP.is, Act.put, List.setIfInBounds_toArray, List.set_cons_zero, List.set_cons_succ, Nat.reduceAdd, MStP.is, Option.isSome_some, Option.isSome_none] at hK ⊢
      simp only [List.sum_cons, List.sum_nil, List.getD_cons_zero, List.getD_cons_succ, Nat.reduceAdd, Nat.add_zero] at hk
      refine rg_yes (by kernel_rfl) ?_
      have hsw := hS.size
      clear hF
      go_simp
      go_at_call 27
      refine (diskLose_any _).mono ?_
      rintro e w'' ⟨csd, rfl, hr, hb⟩
      exact hK _ _ hb ⟨fun h => RaidN.below hb (by omega) _ _ (hj.1 (by omega)), fun h => absurd h (by omega)⟩ ⟨csd, w'.heap.size, w''.heap.size, rfl, by omega, hb.size, Nat.le_refl _, hr⟩
    refine ⟨fun y w' k hS hj hk hF K hK => ?_, ?_⟩
    · skip -- 4: indexAddr
      have e19 : y 19 = _ := hF.1
      have e20 : y 20 = _ := hF.2.1
      have e19' := Lib.hid e19
      have e20' := Lib.hid e20
      simp only [fillL, cond_true, cond_false, List.getD_cons_zero, List.getD_cons_succ, StP.is, Act.put, List.setIfInBounds_toArray, List.set_cons_zero, List.set_cons_succ, Nat.reduceAdd, e19, e20, MStP.is, Option.isSome_some, Option.isSome_none] at hK ⊢
      simp only [List.sum_cons, List.sum_nil, List.getD_cons_zero, List.getD_cons_succ, Nat.reduceAdd, Nat.add_zero] at hk
      refine rg_yes (by kernel_rfl) ?_
      have hsw := hS.size
      clear e19 e20
      clear hF
      go_simp
      exact hK _ _ (Ext.refl _) ⟨fun h => hj.1 (by omega), fun h => absurd h (by omega)⟩ rfl
    refine ⟨fun y w' k hS hj hk hF K hK => ?_, ?_⟩
    · skip -- 5: store
      obtain ⟨csd, lo2, hi2, e21, hlo2, hlh2, hhi2, hd⟩ := hF.1
      have HD := Lib.hid hd
      obtain ⟨D0, d0_, dc0, D1, d1_, dc1, rfl, -⟩ := hd
      have e22 : y 22 = _ := hF.2.1
      have e21' := Lib.hid e21
      have e22' := Lib.hid e22
      simp only [fillL, cond_true, cond_false, List.getD_cons_zero, List.getD_cons_succ, StP.is, Act.put, List.setIfInBounds_toArray, List.set_cons_zero, List.set_cons_succ, Nat.reduceAdd, e21, e22, MStP.is, Option.isSome_some, Option.isSome_none] at hK ⊢
      simp only [List.sum_cons, List.sum_nil, List.getD_cons_zero, List.getD_cons_succ, Nat.reduceAdd, Nat.add_zero] at hk
      refine rg_yes (by kernel_rfl) ?_
      have hsw := hS.size
      clear e21 e22
      clear hF
      have HRN := Lib.hid (hj.1 (by omega))
      obtain ⟨g', cur, o', e', -, -, hgc, hgs, -, -, -, -, -⟩ := HRN.out.arr (by omega)
      injection e' with e'; injection e' with e' _; subst e'
      have t0 : w'.cell? ⟨g, j * 3, none⟩ = some _ := block_cell hgc (by rw [hgs]; omega)
      have t1 : w'.cell? ⟨g, j * 3 + 1, none⟩ = some _ := block_cell hgc (by rw [hgs]; omega)
      have t2 : w'.cell? ⟨g, j * 3 + 2, none⟩ = some _ := block_cell hgc (by rw [hgs]; omega)
      have fr0 : w'.frozen? ⟨g, j * 3, none⟩ = false := block_free hgc _
      have fr1 : w'.frozen? ⟨g, j * 3 + 1, none⟩ = false := block_free hgc _
      have fr2 : w'.frozen? ⟨g, j * 3 + 2, none⟩ = false := block_free hgc _
      generalize cur[j * 3]'_ = y0_ at t0
      generalize cur[j * 3 + 1]'_ = y1_ at t1
      generalize cur[j * 3 + 2]'_ = y2_ at t2
      clear hgc hgs
      go_simp
      refine hK undef _ (Chg.setCell (p := ⟨g, _, none⟩) (Chg.setCell (p := ⟨g, _, none⟩) (Chg.setCell (p := ⟨g, _, none⟩) (Chg.refl _ _) (.inl (by simp)) _) (.inl (by simp)) _) (.inl (by simp)) _) ⟨fun h => absurd h (by omega), fun _ => ⟨hi2, by simpa [World.setCell] using hhi2, ?_⟩⟩ rfl
      exact RaidN.set HRN.out hj3 hlo2 HD.out hlh2 hhi2 (by simp [World.setCell]) (fun i hi => set3_far hi) (fun cur h => set3 h)
    trivial
  case hH => rfl
  case hNS => exact fun _ _ h => Chg.of_below h _
  case hSt => exact fun a b => Chg.trans a b
  case hb => rfl
  case hdrew => exact (Chg.refl _ _).drewN 1
  case hj0 => exact fun y => ⟨fun _ => HN3.out, fun h => absurd h (by omega)⟩
  case hend =>
    intro y w6 hS hJ hF
    obtain ⟨hi2, hh2, hRN⟩ := hJ.2 (by decide)
    have HRN := Lib.hid hRN
    have z6 := hS.size
    have HX6 : Hid (Below w.heap.size w w6) := Lib.hid (HX4.out.trans (hS.below (B := w.heap.size) (fun k _ hk => by simp at hk; omega) (by omega)))
    have hq := (hS.block (w.heap.size + 1) (by omega) (by simp; omega)).trans B13.out
    have hbx := (hS.block w2.heap.size (by omega) (by simp; omega)).trans HBX.out
    have b0 := cell_of_row _ _ 0 _ _ (0, 0) hbx
    have r0 := cell_of_row _ _ 0 _ _ (0, 0) hq
    have f0 := block_free hq 0
    have s0 := cell_of_row _ _ 0 _ _ (0, 0) (block_set (o := 0) (v := .slice (some ⟨g, 0, none⟩) 3 c3) hq)
    have l1 : w.heap.size + 1 < w6.heap.size := by omega
    have l2 : w2.heap.size < w6.heap.size := by omega
    clear hJ hF hS hRN hq hbx
    simp only [fillL, cond_true, cond_false, Nat.reduceAdd]
    go_wp2_with fail
    refine bodyPost_ret (v := .tuple #[.agg #[.slice (some ⟨g, 0, none⟩) 3 c3], .bool true]) (by simp [results, Try.results11, go_sem, s0]) rfl ⟨_, by rw [HF1.out], ?_, Below.setCell (p := ⟨w.heap.size + 1, 0, none⟩) HX6.out (by simp) _⟩
    rw [HF2.out]
    exact RaidN.wide (by omega) (by simp [World.setCell]; omega) (Nat.le_refl _) _ _ (RaidN.keep (Same.setCell (p := ⟨w.heap.size + 1, 0, none⟩) (Same.refl _ _ _) (.inl (by simp; omega)) _) (by simp [World.setCell]) _ _ HRN.out)
set_option maxRecDepth 100000 in
set_option maxHeartbeats 4000000 in
theorem l4Copy_any (A : Option Addr) (n c : Nat) (xs : RaidD) (w : World) (lo hi : Nat) (h : SliceR DiskR 3 w lo hi A n c xs) (hn : n ≤ 3) (hb : ∀ x ∈ xs, x.1.length = 64 ∧ x.2.1.length ≤ 120) :
    Calls Try.prog 29 #[.agg #[.slice A n c]] w (NewR RaidN w xs) := by
  have HL := Lib.hid h.len
  have H := Lib.hid h; have HB3 := Lib.hid hb
  clear h hb
  obtain ⟨iD, hiD, hz0D, hz1D, hz2D⟩ := info_parts info_DiskS
  go_enter Try.func29, Try.ntmps29
  go_wp2_with fail
  obtain ⟨w1, hW⟩ : ∃ w1, w1 = (((w.alloc (.cells #[.slice A n c] 35)).alloc (.cells #[.slice none 0 0] 35)).alloc (.cells #[] 45)).alloc (.cells #[.slice (some ⟨w.heap.size + 2, 0, none⟩) 0 0] 35) := ⟨_, rfl⟩
  have X1 : Below w.heap.size w w1 := by rw [hW]; exact bel3.alloc (by simp <;> omega) _
  have z1 : w1.heap.size = w.heap.size + 4 := by rw [hW]; simp
  have k0 : w1.heap[w.heap.size]? = some (.cells #[.slice A n c] 35 (0, 0)) := by rw [hW]; exact (Below.heap_alloc _ _ _ (by simp <;> omega)).trans al3_0
  have k1 : w1.heap[w.heap.size + 1]? = some (.cells #[.slice none 0 0] 35 (0, 0)) := by rw [hW]; exact (Below.heap_alloc _ _ _ (by simp <;> omega)).trans al3_1
  have k3 : w1.heap[w.heap.size + 3]? = some (.cells #[.slice (some ⟨w.heap.size + 2, 0, none⟩) 0 0] 35 (0, 0)) := by
    rw [hW]
    have := heap_alloc_new (((w.alloc (.cells #[.slice A n c] 35)).alloc (.cells #[.slice none 0 0] 35)).alloc (.cells #[] 45)) (.cells #[.slice (some ⟨w.heap.size + 2, 0, none⟩) 0 0] 35)
    simpa using this
  rw [← hW]; clear hW
  have HX1 := Lib.hid X1; have K0 := Lib.hid k0; have K1 := Lib.hid k1; have K3 := Lib.hid k3
  clear X1 k0 k1 k3
  go_loopw [4] (fun i wr => ∃ (r : Nat) (A' : Option Addr) (c' : Nat), r ≤ n ∧ i = .int .i64 (r : Int) ∧ w.heap.size + 4 ≤ wr.heap.size ∧ Hid (Below w.heap.size w wr) ∧ Hid (wr.heap[w.heap.size]? = some (.cells #[.slice A n c] 35 (0, 0))) ∧ Hid (wr.heap[w.heap.size + 1]? = some (.cells #[.slice none 0 0] 35 (0, 0))) ∧ Hid (wr.heap[w.heap.size + 3]? = some (.cells #[.slice A' r c'] 35 (0, 0))) ∧ Hid (EachI (fun _ x => x) xs w wr (w.heap.size + 4) r A' c')) (fun i _ => n - (intOf i).toNat)
  case atStart => exact ⟨0, _, 0, Nat.zero_le _, rfl, by omega, HX1, K0, K1, K3, Lib.hid EachI.zero⟩
  case round =>
    clear HX1 K0 K1 K3 z1
    obtain ⟨r, A', c', hk, rfl, hz, HB, R0, R1, R3, HI⟩ := hrel
    have b0 := cell_of_row _ _ 0 _ _ (0, 0) R0.out
    have l0 : w.heap.size < wr.heap.size := by omega
    by_cases hlt : r < n
    · obtain ⟨x, hx⟩ : ∃ x, xs[r]? = some x := ⟨xs[r]'(by rw [HL.out]; exact hlt), List.getElem?_eq_getElem _⟩
      obtain ⟨b, off, rfl, _, _, bl, hc⟩ := (SliceR.below H.out HB.out (DiskR.below HB.out H.out.lo_le)).at_ (by omega)
      obtain ⟨cs, hcl, hcc, hr⟩ := hc r x hx
      clear hc
      have HR := Lib.hid hr
      have hhi : hi ≤ wr.heap.size := Nat.le_trans H.out.lo_le HB.out.size
      obtain ⟨gone, hgone⟩ : ∃ g, g = x.2.2 := ⟨_, rfl⟩
      obtain ⟨A0, n0, c0, A1, n1, c1, rfl, h0, h1⟩ := hr
      rw [← hgone] at HR hcc
      have Q0 := Lib.hid (hcc 0 _ rfl)
      have Q1 := Lib.hid (hcc 1 _ rfl)
      have Q2 := Lib.hid (hcc 2 _ rfl)
      clear hcc hcl h0 h1 hgone
      have HX := Lib.hid hx; have HB64 := Lib.hid (HB3.out x (List.mem_of_getElem? hx)); clear hx
      have lb3 : w.heap.size + 3 < wr.heap.size := by omega
      have k0 : (0 : Int) ≤ (r : Int) := by omega
      have k1 : (r : Int) < (n : Int) := by omega
      obtain ⟨S, vs, o, hO, hvl, hS, hrow, hone⟩ := HI.out
      have HO := Lib.hid hO; have HV := Lib.hid hvl; have HS := Lib.hid hS; have HROW := Lib.hid hrow; have HON := Lib.hid hone
      clear hO hvl hS hrow hone
      go_wp2_with fail
      clear b0
      apply wp_region_rgz (Chg (fun b => b ∈ S ∨ b = w.heap.size + 3)) (Ext) (fun y w' k' => (k' < 1000 → Below wr.heap.size wr w') ∧ (3000 ≤ k' → ∃ A2 c2, EachI (fun _ x => x) xs w w' (w.heap.size + 4) (r + 1) A2 c2 ∧ w'.heap[w.heap.size + 3]? = some (.cells #[.slice A2 (r + 1) c2] 35 (0, 0)))) [0, 0, 0, 0, 0, 0, 0, 0, 0, 1000, 0, 2000] [3000, 3000, 3000, 3000, 3000, 3000, 3000, 3000, 3000, 3000, 2000, 2000] (by kernel_rfl) (false :: false :: false :: false :: false :: false :: false :: false :: false :: false :: false :: false :: false :: false :: true :: true :: true :: true :: true :: true :: true :: true :: true :: true :: true :: false :: []) [some 14, some 15, some 16, some 17, some 18, some 19, some 20, some 21, some 22, some 23, some 24, none] [[], [0], [], [2], [], [3, 4], [5], [6], [7], [1, 8], [], [9, 10]] [false, false, false, false, false, false, false, false, false, true, false, true] [true, true, true, true, true, true, true, false, false, false, true, true] [] [MStP.is _, MStP.is _, MStP.is _, MStP.is _, MStP.is _, MStP.is _, MStP.is _, ⟨fun v w' => ∃ cs lo2 hi2, v = .agg (List.toArray cs) ∧ wr.heap.size ≤ lo2 ∧ lo2 ≤ hi2 ∧ hi2 ≤ w'.heap.size ∧ DiskN w' lo2 hi2 cs x, false, fun v w' w'' hs h => by obtain ⟨cs, lo2, hi2, e, h1, h2, h3, h4⟩ := h; exact ⟨cs, lo2, hi2, e, h1, h2, Nat.le_trans h3 (Below.size hs), DiskN.below hs h3 _ _ h4⟩, fun h => by cases h⟩, ⟨fun v w' => ∃ q cs lo2 hi2, v = .slice (some ⟨q, 0, none⟩) 1 1 ∧ wr.heap.size ≤ lo2 ∧ lo2 ≤ hi2 ∧ hi2 ≤ w'.heap.size ∧ DiskN w' lo2 hi2 cs x ∧ w'.heap[q]? = some (.cells (List.toArray cs) 45 (0, 0)), false, fun v w' w'' hs h => by obtain ⟨q, cs, lo2, hi2, e, h1, h2, h3, h4, h5⟩ := h; exact ⟨q, cs, lo2, hi2, e, h1, h2, Nat.le_trans h3 (Below.size hs), DiskN.below hs h3 _ _ h4, (Below.block hs q (Array.getElem?_eq_some_iff.1 h5).1).trans h5⟩, fun h => by cases h⟩, ⟨fun v w' => ∃ A2 c2, v = .slice A2 (r + 1) c2 ∧ EachI (fun _ x => x) xs w w' (w.heap.size + 4) (r + 1) A2 c2 ∧ w'.heap[w.heap.size + 3]? = some (.cells #[.slice A' r c'] 35 (0, 0)), false, fun v w' w'' hs h => by obtain ⟨A2, c2, e, h1, h2⟩ := h; exact ⟨A2, c2, e, h1.below hs, (Below.block hs _ (Array.getElem?_eq_some_iff.1 h2).1).trans h2⟩, fun h => by cases h⟩, MStP.is _, MStP.is _] (by kernel_rfl) (by kernel_rfl) (by kernel_rfl) (by kernel_rfl)
      case hobs =>
        refine ⟨fun y w' k hS hj hk hF K hK => ?_, ?_⟩
        · skip -- 0: fieldAddr
          simp only [fillL, cond_true, cond_false, List.getD_cons_zero, List.getD_cons_succ, StP.is, Act.put, List.setIfInBounds_toArray, List.set_cons_zero, List.set_cons_succ, Nat.reduceAdd, MStP.is, Option.isSome_some, Option.isSome_none] at hK ⊢
          simp only [List.sum_cons, List.sum_nil, List.getD_cons_zero, List.getD_cons_succ, Nat.reduceAdd, Nat.add_zero] at hk
          refine rg_yes (by kernel_rfl) ?_
          clear hF
          go_simp
          exact hK _ _ (Ext.refl _) ⟨fun h => (hj.1 (by omega)), fun h => absurd h (by omega)⟩ rfl
        refine ⟨fun y w' k hS hj hk hF K hK => ?_, ?_⟩
        · skip -- 1: load
          have e14 : y 14 = _ := hF.1
          have e14' := Lib.hid e14
          simp only [fillL, cond_true, cond_false, List.getD_cons_zero, List.getD_cons_succ, StP.is, Act.put, List.setIfInBounds_toArray, List.set_cons_zero, List.set_cons_succ, Nat.reduceAdd, e14, MStP.is, Option.isSome_some, Option.isSome_none] at hK ⊢
          simp only [List.sum_cons, List.sum_nil, List.getD_cons_zero, List.getD_cons_succ, Nat.reduceAdd, Nat.add_zero] at hk
          refine rg_yes (by kernel_rfl) ?_
          clear e14
          clear hF
          have hE := hj.1 (by omega)
          have hsw := hE.size
          have q0_ := (World.cell?_of_block (a := ⟨w.heap.size + 3, _, none⟩) (hE.block _ lb3)).trans (cell_of_row _ _ 0 _ _ (0, 0) R3.out)
          go_simp
          exact hK _ _ (Ext.refl _) ⟨fun h => hE, fun h => absurd h (by omega)⟩ rfl
        refine ⟨fun y w' k hS hj hk hF K hK => ?_, ?_⟩
        · skip -- 2: fieldAddr
          simp only [fillL, cond_true, cond_false, List.getD_cons_zero, List.getD_cons_succ, StP.is, Act.put, List.setIfInBounds_toArray, List.set_cons_zero, List.set_cons_succ, Nat.reduceAdd, MStP.is, Option.isSome_some, Option.isSome_none] at hK ⊢
          simp only [List.sum_cons, List.sum_nil, List.getD_cons_zero, List.getD_cons_succ, Nat.reduceAdd, Nat.add_zero] at hk
          refine rg_yes (by kernel_rfl) ?_
          clear hF
          go_simp
          exact hK _ _ (Ext.refl _) ⟨fun h => (hj.1 (by omega)), fun h => absurd h (by omega)⟩ rfl
        refine ⟨fun y w' k hS hj hk hF K hK => ?_, ?_⟩
        · skip -- 3: load
          have e16 : y 16 = _ := hF.1
          have e16' := Lib.hid e16
          simp only [fillL, cond_true, cond_false, List.getD_cons_zero, List.getD_cons_succ, StP.is, Act.put, List.setIfInBounds_toArray, List.set_cons_zero, List.set_cons_succ, Nat.reduceAdd, e16, MStP.is, Option.isSome_some, Option.isSome_none] at hK ⊢
          simp only [List.sum_cons, List.sum_nil, List.getD_cons_zero, List.getD_cons_succ, Nat.reduceAdd, Nat.add_zero] at hk
          refine rg_yes (by kernel_rfl) ?_
          clear e16
          clear hF
          have hE := hj.1 (by omega)
          have hsw := hE.size
          have q0_ := (World.cell?_of_block (a := ⟨w.heap.size, _, none⟩) (hE.block _ l0)).trans (cell_of_row _ _ 0 _ _ (0, 0) R0.out)
          go_simp
          exact hK _ _ (Ext.refl _) ⟨fun h => hE, fun h => absurd h (by omega)⟩ rfl
        refine ⟨fun y w' k hS hj hk hF K hK => ?_, ?_⟩
        · skip -- 4: move
          simp only [fillL, cond_true, cond_false, List.getD_cons_zero, List.getD_cons_succ, StP.is, Act.put, List.setIfInBounds_toArray, List.set_cons_zero, List.set_cons_succ, Nat.reduceAdd, MStP.is, Option.isSome_some, Option.isSome_none] at hK ⊢
          simp only [List.sum_cons, List.sum_nil, List.getD_cons_zero, List.getD_cons_succ, Nat.reduceAdd, Nat.add_zero] at hk
          refine rg_yes (by kernel_rfl) ?_
          clear hF
          go_simp
          exact hK _ _ (Ext.refl _) ⟨fun h => (hj.1 (by omega)), fun h => absurd h (by omega)⟩ rfl
        refine ⟨fun y w' k hS hj hk hF K hK => ?_, ?_⟩
        · skip -- 5: indexAddr
          have e17 : y 17 = _ := hF.1
          have e18 : y 18 = _ := hF.2.1
          have e17' := Lib.hid e17
          have e18' := Lib.hid e18
          simp only [fillL, cond_true, cond_false, List.getD_cons_zero, List.getD_cons_succ, StP.is, Act.put, List.setIfInBounds_toArray, List.set_cons_zero, List.set_cons_succ, Nat.reduceAdd, e17, e18, MStP.is, Option.isSome_some, Option.isSome_none] at hK ⊢
          simp only [List.sum_cons, List.sum_nil, List.getD_cons_zero, List.getD_cons_succ, Nat.reduceAdd, Nat.add_zero] at hk
          refine rg_yes (by kernel_rfl) ?_
          clear e17 e18
          clear hF
          go_simp
          exact hK _ _ (Ext.refl _) ⟨fun h => (hj.1 (by omega)), fun h => absurd h (by omega)⟩ rfl
        refine ⟨fun y w' k hS hj hk hF K hK => ?_, ?_⟩
        · skip -- 6: load
          have e19 : y 19 = _ := hF.1
          have e19' := Lib.hid e19
          simp only [fillL, cond_true, cond_false, List.getD_cons_zero, List.getD_cons_succ, StP.is, Act.put, List.setIfInBounds_toArray, List.set_cons_zero, List.set_cons_succ, Nat.reduceAdd, e19, MStP.is, Option.isSome_some, Option.isSome_none] at hK ⊢
          simp only [List.sum_cons, List.sum_nil, List.getD_cons_zero, List.getD_cons_succ, Nat.reduceAdd, Nat.add_zero] at hk
          refine rg_yes (by kernel_rfl) ?_
          clear e19
          clear hF
          have hE := hj.1 (by omega)
          have q0_ := (World.cell?_of_block (a := ⟨b, _, none⟩) (hE.block _ bl)).trans Q0.out
          have q1_ := (World.cell?_of_block (a := ⟨b, _, none⟩) (hE.block _ bl)).trans Q1.out
          have q2_ := (World.cell?_of_block (a := ⟨b, _, none⟩) (hE.block _ bl)).trans Q2.out
          simp only [Nat.add_zero] at q0_
          go_simp
          exact hK _ _ (Ext.refl _) ⟨fun h => hE, fun h => absurd h (by omega)⟩ rfl
        refine ⟨fun y w' k hS hj hk hF K hK => ?_, ?_⟩
        · skip -- 7: call
          have e20 : y 20 = _ := hF.1
          have e20' := Lib.hid e20
          simp only [fillL, cond_true, cond_false, List.getD_cons_zero, List.getD_cons_succ, StP.is, Act.put, List.setIfInBounds_toArray, List.set_cons_zero, List.set_cons_succ, Nat.reduceAdd, e20, MStP.is, Option.isSome_some, Option.isSome_none] at hK ⊢
          simp only [List.sum_cons, List.sum_nil, List.getD_cons_zero, List.getD_cons_succ, Nat.reduceAdd, Nat.add_zero] at hk
          refine rg_yes (by kernel_rfl) ?_
          clear e20
          clear hF
          have hE := hj.1 (by omega)
          go_simp
          go_at_call 54
          refine (l3Copy_any _ x _ _ _ (DiskR.below hE hhi _ _ HR.out) (by have := HB64.out; omega) (by have := HB64.out; omega)).mono ?_
          rintro e w'' ⟨csd, rfl, hr, hb⟩
          exact hK _ _ hb ⟨fun h => hE.trans (hb.mono hE.size), fun h => absurd h (by omega)⟩ ⟨csd, w'.heap.size, w''.heap.size, rfl, hE.size, hb.size, Nat.le_refl _, hr⟩
        refine ⟨fun y w' k hS hj hk hF K hK => ?_, ?_⟩
        · skip -- 8: buildSlice
          obtain ⟨csd, lo2, hi2, e21, hlo2, hlh2, hhi2, hd⟩ := hF.1
          have HD := Lib.hid hd
          obtain ⟨D0, d0_, dc0, D1, d1_, dc1, rfl, -⟩ := hd
          have e21' := Lib.hid e21
          simp only [fillL, cond_true, cond_false, List.getD_cons_zero, List.getD_cons_succ, StP.is, Act.put, List.setIfInBounds_toArray, List.set_cons_zero, List.set_cons_succ, Nat.reduceAdd, e21, MStP.is, Option.isSome_some, Option.isSome_none] at hK ⊢
          simp only [List.sum_cons, List.sum_nil, List.getD_cons_zero, List.getD_cons_succ, Nat.reduceAdd, Nat.add_zero] at hk
          refine rg_yes (by kernel_rfl) ?_
          clear e21
          clear hF
          have hE := hj.1 (by omega)
          go_simp
          exact hK _ _ (Ext.alloc _ _) ⟨fun h => hE.alloc hE.size _, fun h => absurd h (by omega)⟩ ⟨w'.heap.size, _, lo2, hi2, rfl, hlo2, hlh2, by simp; omega, DiskN.below bel1 hhi2 _ _ HD.out, heap_alloc_new _ _⟩
        refine ⟨fun y w' k hS hj hk hF K hK => ?_, ?_⟩
        · skip -- 9: call
          have e15 : y 15 = _ := hF.1
          obtain ⟨q, csd, lo2, hi2, e22, hlo2, hlh2, hhi2, hd, hlq⟩ := hF.2.1
          have e15' := Lib.hid e15
          have e22' := Lib.hid e22
          simp only [fillL, cond_true, cond_false, List.getD_cons_zero, List.getD_cons_succ, StP.is, Act.put, List.setIfInBounds_toArray, List.set_cons_zero, List.set_cons_succ, Nat.reduceAdd, e15, e22, MStP.is, Option.isSome_some, Option.isSome_none] at hK ⊢
          simp only [List.sum_cons, List.sum_nil, List.getD_cons_zero, List.getD_cons_succ, Nat.reduceAdd, Nat.add_zero] at hk
          refine rg_yes (by kernel_rfl) ?_
          clear e15 e22
          clear hF
          have hE := hj.1 (by omega)
          have hOA := HO.out.below hE
          have hcl3 := hd.len
          have hRow : RowAt w' (some ⟨q, 0, none⟩) (1 * 3) csd := ⟨by omega, fun _ => ⟨q, 0, rfl, fun j hj => by rw [Nat.zero_add, cell_of_row _ _ _ _ _ (0, 0) hlq]; simp⟩⟩
          refine wp_append_row (.tmp 15) (.tmp 22) 33 rfl 45 iD (.agg #[.slice none 0 0, .slice none 0 0, .bool false]) 3 56 Try.underlying33 hiD hz0D hz1D hz2D rfl (by decide) S A' (some ⟨q, 0, none⟩) r c' 1 1 vs csd rfl rfl hOA hRow hd.one (by unfold maxLen; omega) (by omega) ?_
          intro A2 c2 S2 w'' hO2 hS2 hC2
          have hI := EachI.step (w := w) (F := fun _ x => x) HX.out HV.out HROW.out HON.out HS.out hE (DiskN.wide hlo2 hhi2 (Nat.le_refl _) _ _ hd) hz (Below.refl _ w') hOA hO2 (fun g hg => (hS2 g hg).imp id (fun h => by have := hE.size; omega)) hC2
          refine hK _ _ (hC2.mono fun b _ hb => .inl hb) ⟨fun h => absurd h (by omega), fun h => absurd h (by omega)⟩ ⟨A2, c2, rfl, hI, ?_⟩
          exact (hC2.block _ (by have := hE.size; omega) (fun hb => by have := HS.out _ hb; omega)).trans ((hE.block _ (by omega)).trans R3.out)
        refine ⟨fun y w' k hS hj hk hF K hK => ?_, ?_⟩
        · skip -- 10: fieldAddr
          simp only [fillL, cond_true, cond_false, List.getD_cons_zero, List.getD_cons_succ, StP.is, Act.put, List.setIfInBounds_toArray, List.set_cons_zero, List.set_cons_succ, Nat.reduceAdd, MStP.is, Option.isSome_some, Option.isSome_none] at hK ⊢
          simp only [List.sum_cons, List.sum_nil, List.getD_cons_zero, List.getD_cons_succ, Nat.reduceAdd, Nat.add_zero] at hk
          refine rg_yes (by kernel_rfl) ?_
          clear hF
          go_simp
          exact hK _ _ (Ext.refl _) ⟨fun h => (hj.1 (by omega)), fun h => absurd h (by omega)⟩ rfl
        refine ⟨fun y w' k hS hj hk hF K hK => ?_, ?_⟩
        · skip -- 11: store
          obtain ⟨A2, c2, e23, hI9, hbx9⟩ := hF.1
          have e24 : y 24 = _ := hF.2.1
          have e23' := Lib.hid e23
          have e24' := Lib.hid e24
          simp only [fillL, cond_true, cond_false, List.getD_cons_zero, List.getD_cons_succ, StP.is, Act.put, List.setIfInBounds_toArray, List.set_cons_zero, List.set_cons_succ, Nat.reduceAdd, e23, e24, MStP.is, Option.isSome_some, Option.isSome_none] at hK ⊢
          simp only [List.sum_cons, List.sum_nil, List.getD_cons_zero, List.getD_cons_succ, Nat.reduceAdd, Nat.add_zero] at hk
          refine rg_yes (by kernel_rfl) ?_
          clear e23 e24
          clear hF
          have q0_ := cell_of_row _ _ 0 _ _ (0, 0) hbx9
          have f0_ := block_free hbx9 0
          have HBX9 := Lib.hid hbx9; clear hbx9
          go_simp
          exact hK undef _ ((Chg.refl _ _).setCell (.inl (.inr rfl)) _) ⟨fun h => absurd h (by omega), fun _ => ⟨A2, c2, hI9.far (by omega), block_set HBX9.out⟩⟩ rfl
        trivial
      case hH => rfl
      case hNS => exact fun _ _ h => Chg.of_below h _
      case hSt => exact fun a b => Chg.trans a b
      case hb => rfl
      case hdrew => exact (Chg.refl _ _).drewN 1
      case hj0 => exact fun y => ⟨fun _ => below_drewN (Below.refl _ _) 1, fun h => absurd h (by omega)⟩
      case hend =>
        intro y w6 hSS hJ hF
        obtain ⟨A2, c2, hI, hbx⟩ := hJ.2 (by decide)
        have HI6 := Lib.hid hI
        have z6 := hSS.size
        have hns : ∀ b, b < w.heap.size + 3 → ¬ (b ∈ S ∨ b = w.heap.size + 3) := fun b hb h => by
          rcases h with h | h
          · have := HS.out b h; omega
          · omega
        have HB6 : Hid (Below w.heap.size w w6) := Lib.hid (HB.out.trans (hSS.below (B := w.heap.size) (fun b _ h => Nat.le_of_not_lt fun hb => hns b (by omega) h) (by omega)))
        have R06 : Hid (w6.heap[w.heap.size]? = some (.cells #[.slice (some ⟨b, off, none⟩) n c] 35 (0, 0))) := Lib.hid ((hSS.block _ (by omega) (hns _ (by omega))).trans R0.out)
        have R16 : Hid (w6.heap[w.heap.size + 1]? = some (.cells #[.slice none 0 0] 35 (0, 0))) := Lib.hid ((hSS.block _ (by omega) (hns _ (by omega))).trans R1.out)
        have HBX6 := Lib.hid hbx
        clear hJ hF hSS hI hbx hns
        simp only [fillL, cond_true, cond_false, Nat.reduceAdd]
        go_wp2_with fail
        go_roundw
        case rel => exact ⟨r + 1, A2, c2, by omega, by go_num, by omega, HB6, R06, R16, HBX6, HI6⟩
        case measure => simp [intOf]; omega
    · obtain rfl : r = n := by omega
      have s0 := cell_of_row _ _ 0 _ _ (0, 0) R1.out
      have f0 := block_free R1.out 0
      have s1 := cell_of_row _ _ 0 _ _ (0, 0) R3.out
      have l1 : w.heap.size + 1 < wr.heap.size := by omega
      have l3 : w.heap.size + 3 < wr.heap.size := by omega
      have t0 := cell_of_row _ _ 0 _ _ (0, 0) (block_set (o := 0) (v := .slice A' r c') R1.out)
      go_wp2_with fail
      refine bodyPost_ret (v := .agg #[.slice A' r c']) (by simp [results, Try.results29, go_sem, t0]) rfl ⟨_, rfl, ?_, Below.setCell (p := ⟨w.heap.size + 1, 0, none⟩) HB.out (by simp) _⟩
      obtain ⟨S, vs, o, hO, hvl, hS, hrow, hone⟩ := HI.out
      rw [List.take_of_length_le (by simp; exact Nat.le_of_eq HL.out)] at hrow
      have hid : xs.mapIdx (fun _ x => x) = xs := by
        have := eachD_id xs
        unfold eachD at this
        rwa [if_pos (by unfold allG; simp)] at this
      rw [hid] at hrow
      have hsl := OwnA.slice (R := DiskO o) (lo := w.heap.size + 4) (hi := wr.heap.size) hO (by simpa using HL.out) hrow (fun g hg => ⟨hS g hg, hO.lt g hg⟩) (Nat.le_refl _)
      have hR : RaidN wr (w.heap.size + 4) wr.heap.size [.slice A' r c'] xs := ⟨_, _, _, o, rfl, hsl.1, hsl.2⟩
      exact RaidN.wide (by omega) (by simp [World.setCell]) (Nat.le_refl _) _ _ (RaidN.keep (Same.setCell (p := ⟨w.heap.size + 1, 0, none⟩) (Same.refl _ _ _) (.inl (by simp)) _) (by simp [World.setCell]) _ _ hR)
set_option maxRecDepth 100000 in
set_option maxHeartbeats 4000000 in
theorem spRaidLose_any (cs : List Value) (x : RaidD) (k : Int) (w : World) (lo hi : Nat) (h : RaidR w lo hi cs x) :
    Calls Try.prog 12 #[.agg cs.toArray, .int .i64 k] w (NewR2 RaidN w (loseR x k) (loseOk x k)) := by
  obtain ⟨A, n, c, rfl, h0⟩ := h
  obtain ⟨rd, hrd⟩ : ∃ d, d = loseR x k := ⟨_, rfl⟩
  obtain ⟨rb, hrb⟩ : ∃ d, d = loseOk x k := ⟨_, rfl⟩
  rw [← hrd, ← hrb]
  have HRD := Lib.hid hrd; have HRB := Lib.hid hrb
  obtain ⟨ok, hok⟩ : ∃ b, b = raidOk x := ⟨_, rfl⟩
  obtain ⟨ib, hib⟩ : ∃ b, b = inB k 0 2 := ⟨_, rfl⟩
  have R1 := Lib.hid (fun w => l6In_any k 0 2 w)
  rw [← hib] at R1
  have HOK := Lib.hid hok; have HIB := Lib.hid hib
  have HL := Lib.hid h0.len
  have H := Lib.hid h0
  have HR : Hid (RaidR w lo hi [.slice A n c] x) := Lib.hid ⟨A, n, c, rfl, h0⟩
  have HLE := Lib.hid h0.lo_le
  clear h0 hrd hrb hok hib
  show Calls Try.prog 12 #[.agg #[.slice A n c], .int .i64 k] w _
  go_enter Try.func12, Try.ntmps12
  go_wp2_with fail
  have hbR : ∀ W, Below w.heap.size w W → RaidR W lo hi [.slice A n c] x := fun W hb => RaidR.below hb HLE.out _ _ HR.out
  have HBR := Lib.hid hbR; clear hbR
  refine (spRaidOk_any _ x _ lo hi (HBR.out _ bel2)).mono ?_
  rw [← HOK.out]
  rintro e w1 ⟨rfl, hb1⟩
  have z1 : w.heap.size + 2 ≤ w1.heap.size := by have := hb1.size; simp at this; omega
  have HX1 : Hid (Below w.heap.size w w1) := Lib.hid (bel2.trans (hb1.mono (by simp <;> omega)))
  have B1 : Hid (w1.heap[w.heap.size + 1]? = some (.cells #[.slice none 0 0] 35 (0, 0))) := Lib.hid ((hb1.block _ (by simp <;> omega)).trans box2)
  have B0 : Hid (w1.heap[w.heap.size]? = some (.cells #[.slice A n c] 35 (0, 0))) := Lib.hid ((hb1.block _ (by simp <;> omega)).trans ((Below.heap_alloc _ _ _ (by simp)).trans (heap_alloc_new _ _)))
  clear hb1
  have a0 := cell_of_row _ _ 0 _ _ (0, 0) B0.out
  have r0 := cell_of_row _ _ 0 _ _ (0, 0) B1.out
  have f0 := block_free B1.out 0
  have l0 : w.heap.size < w1.heap.size := by omega
  have l1 : w.heap.size + 1 < w1.heap.size := by omega
  have hbad : rb = false → Hid (rb = false ∧ rd = []) := fun h => Lib.hid ⟨h, by rw [HRD.out]; unfold loseR; rw [← HRB.out, h]; rfl⟩
  cases ok
  · have HF := hbad (by rw [HRB.out]; unfold loseOk; rw [← HOK.out]; rfl)
    clear hbad
    go_wp2_with fail
    refine bodyPost_ret (v := .tuple #[.agg #[.slice none 0 0], .bool false]) (by simp [results, Try.results12, go_sem, *]) rfl ⟨_, by rw [HF.out.1], by rw [HF.out.2]; exact noRaid none (Nat.le_refl _), ?_⟩
    repeat (first | exact HX1.out | refine Below.setCell ?_ (by simp <;> omega) _)
  cases ib
  · have HF := hbad (by rw [HRB.out]; unfold loseOk; rw [← HIB.out]; simp)
    clear hbad
    go_wp2_with (go_at_call 19; with_reducible refine (R1.out _).mono ?_; rintro e w' ⟨rfl, rfl⟩)
    refine bodyPost_ret (v := .tuple #[.agg #[.slice none 0 0], .bool false]) (by simp [results, Try.results12, go_sem, *]) rfl ⟨_, by rw [HF.out.1], by rw [HF.out.2]; exact noRaid none (Nat.le_refl _), ?_⟩
    repeat (first | exact HX1.out | refine Below.setCell ?_ (by simp <;> omega) _)
  clear hbad
  have HF1 : Hid (rb = true) := Lib.hid (by rw [HRB.out]; unfold loseOk; rw [← HOK.out, ← HIB.out]; rfl)
  obtain ⟨j, rfl, hjz⟩ := inB_nat (m := 2) HIB.out.symm
  have hj3 : j < 3 := by omega
  have HF2 : Hid (rd = x.set j loseD) := Lib.hid (by rw [HRD.out]; unfold loseR; rw [← HRB.out, HF1.out]; simp)
  obtain ⟨hl3, hx3⟩ := raidOk_len HOK.out.symm
  obtain rfl : 3 = n := by have := HL.out; omega
  have HX3 := Lib.hid hx3
  have j0 : (0 : Int) ≤ (j : Int) := by omega
  have j1 : (j : Int) < 3 := by omega
  clear hl3 hx3
  go_wp2_with (go_at_call 19; with_reducible refine (R1.out _).mono ?_; rintro e w' ⟨rfl, rfl⟩)
  refine (l4Copy_any A 3 c x _ lo hi (SliceR.below H.out HX1.out (DiskR.below HX1.out HLE.out)) (by omega) HX3.out).mono ?_
  rintro e w2 ⟨cs2, rfl, hN, hb2⟩
  have z2 := hb2.size
  have HX2 : Hid (Below w.heap.size w w2) := Lib.hid (HX1.out.trans (hb2.mono HX1.out.size))
  have B12 : Hid (w2.heap[w.heap.size + 1]? = some (.cells #[.slice none 0 0] 35 (0, 0))) := Lib.hid ((hb2.block _ l1).trans B1.out)
  have hN3 := hN
  obtain ⟨A3, n3, c3, o3, rfl, hs3, hw3⟩ := hN3
  obtain rfl : 3 = n3 := by have e := hs3.len; rw [List.length_zipIdx] at e; have := HL.out; omega
  obtain ⟨g, cur, o, rfl, hg1, hg2, hg3, hg4, hg5, hg6, hg7, hg8, hg9⟩ := hN.arr (by omega)
  have HN := Lib.hid hN
  clear hs3 hw3 hN hb2 hg3 hg4 hg6 hg7 hg8 hg9 B0 B1 a0 r0 f0 l0 l1 cur
  have z3 : w.heap.size + 2 ≤ w2.heap.size := by omega
  go_wp2_with fail
  obtain ⟨w3, hW⟩ : ∃ w3, w3 = w2.alloc (.cells #[.slice (some ⟨g, 0, none⟩) 3 c3] 35) := ⟨_, rfl⟩
  have e3 : Below w2.heap.size w2 w3 := by rw [hW]; exact bel1
  have zz3 : w3.heap.size = w2.heap.size + 1 := by rw [hW]; simp
  have HBX : Hid (w3.heap[w2.heap.size]? = some (.cells #[.slice (some ⟨g, 0, none⟩) 3 c3] 35 (0, 0))) := Lib.hid (by rw [hW]; exact heap_alloc_new _ _)
  rw [← hW]; clear hW
  have HN3 : Hid (RaidN w3 w1.heap.size w2.heap.size [.slice (some ⟨g, 0, none⟩) 3 c3] x) := Lib.hid (RaidN.below e3 (Nat.le_refl _) _ _ HN.out)
  have HX4 : Hid (Below w.heap.size w w3) := Lib.hid (HX2.out.trans (e3.mono HX2.out.size))
  have B13 : Hid (w3.heap[w.heap.size + 1]? = some (.cells #[.slice none 0 0] 35 (0, 0))) := Lib.hid ((e3.block _ (by omega)).trans B12.out)
  clear e3 B12 HN
  apply wp_region_rgz (Chg (· ∈ [g])) (Ext) (fun y w' k' => (k' < 1000 → RaidN w' w1.heap.size w2.heap.size [.slice (some ⟨g, 0, none⟩) 3 c3] x) ∧ (1000 ≤ k' → ∃ hi2, hi2 ≤ w'.heap.size ∧ RaidN w' w1.heap.size hi2 [.slice (some ⟨g, 0, none⟩) 3 c3] (x.set j loseD))) [0, 0, 0, 0, 0, 1000] [1000, 1000, 1000, 1000, 1000, 1000] (by kernel_rfl) (false :: false :: false :: false :: false :: false :: false :: false :: false :: false :: false :: false :: false :: false :: false :: false :: false :: false :: true :: true :: true :: true :: true :: false :: []) [some 18, some 19, some 20, some 21, some 22, none] [[], [0], [], [], [1, 2], [3, 4]] [false, false, false, false, false, true] [true, true, true, false, true, true] [] [MStP.is _, MStP.is _, MStP.is _, ⟨fun v w' => ∃ cs lo2 hi2, v = .agg (List.toArray cs) ∧ w2.heap.size ≤ lo2 ∧ lo2 ≤ hi2 ∧ hi2 ≤ w'.heap.size ∧ DiskN w' lo2 hi2 cs loseD, false, fun v w' w'' hs h => by obtain ⟨cs, lo2, hi2, e, h1, h2, h3, h4⟩ := h; exact ⟨cs, lo2, hi2, e, h1, h2, Nat.le_trans h3 (Below.size hs), DiskN.below hs h3 _ _ h4⟩, fun h => by cases h⟩, MStP.is _, MStP.is _] (by kernel_rfl) (by kernel_rfl) (by kernel_rfl) (by kernel_rfl)
  case hobs =>
    refine ⟨fun y w' k hS hj hk hF K hK => ?_, ?_⟩
    · skip -- 0: fieldAddr
      simp only [fillL, cond_true, cond_false, List.getD_cons_zero, List.getD_cons_succ, StP.is, Act.put, List.setIfInBounds_toArray, List.set_cons_zero, List.set_cons_succ, Nat.reduceAdd, MStP.is, Option.isSome_some, Option.isSome_none] at hK ⊢
      simp only [List.sum_cons, List.sum_nil, List.getD_cons_zero, List.getD_cons_succ, Nat.reduceAdd, Nat.add_zero] at hk
      refine rg_yes (by kernel_rfl) ?_
      have hsw := hS.size
      clear hF
      go_simp
      exact hK _ _ (Ext.refl _) ⟨fun h => hj.1 (by omega), fun h => absurd h (by omega)⟩ rfl
    refine ⟨fun y w' k hS hj hk hF K hK => ?_, ?_⟩
    · skip -- 1: load
      have e18 : y 18 = _ := hF.1
      have e18' := Lib.hid e18
      simp only [fillL, cond_true, cond_false, List.getD_cons_zero, List.getD_cons_succ, StP.is, Act.put, List.setIfInBounds_toArray, List.set_cons_zero, List.set_cons_succ, Nat.reduceAdd, e18, MStP.is, Option.isSome_some, Option.isSome_none] at hK ⊢
      simp only [List.sum_cons, List.sum_nil, List.getD_cons_zero, List.getD_cons_succ, Nat.reduceAdd, Nat.add_zero] at hk
      refine rg_yes (by kernel_rfl) ?_
      have hsw := hS.size
      clear e18
      clear hF
      have q0_ := (World.cell?_of_block (a := ⟨w2.heap.size, 0, none⟩) (hS.block w2.heap.size (by omega) (by simp; omega))).trans (cell_of_row _ _ 0 _ _ (0, 0) HBX.out)
      have lq_ : w2.heap.size < w'.heap.size := by omega
      go_simp
      exact hK _ _ (Ext.refl _) ⟨fun h => hj.1 (by omega), fun h => absurd h (by omega)⟩ rfl
    refine ⟨fun y w' k hS hj hk hF K hK => ?_, ?_⟩
    · skip -- 2: move
      simp only [fillL, cond_true, cond_false, List.getD_cons_zero, List.getD_cons_succ, StP.is, Act.put, List.setIfInBounds_toArray, List.set_cons_zero, List.set_cons_succ, Nat.reduceAdd, MStP.is, Option.isSome_some, Option.isSome_none] at hK ⊢
      simp only [List.sum_cons, List.sum_nil, List.getD_cons_zero, List.getD_cons_succ, Nat.reduceAdd, Nat.add_zero] at hk
      refine rg_yes (by kernel_rfl) ?_
      have hsw := hS.size
      clear hF
      go_simp
      exact hK _ _ (Ext.refl _) ⟨fun h => hj.1 (by omega), fun h => absurd h (by omega)⟩ rfl
    refine ⟨fun y w' k hS hj hk hF K hK => ?_, ?_⟩
    · skip -- 3: call
      simp only [fillL, cond_true, cond_false, List.getD_cons_zero, List.getD_cons_succ, StP.is, Act.put, List.setIfInBounds_toArray, List.set_cons_zero, List.set_cons_succ, Nat.reduceAdd, MStP.is, Option.isSome_some, Option.isSome_none] at hK ⊢
      simp only [List.sum_cons, List.sum_nil, List.getD_cons_zero, List.getD_cons_succ, Nat.reduceAdd, Nat.add_zero] at hk
      refine rg_yes (by kernel_rfl) ?_
      have hsw := hS.size
      clear hF
      go_simp
      go_at_call 30
      refine (spDiskLose_any _).mono ?_
      rintro e w'' ⟨csd, rfl, hr, hb⟩
      exact hK _ _ hb ⟨fun h => RaidN.below hb (by omega) _ _ (hj.1 (by omega)), fun h => absurd h (by omega)⟩ ⟨csd, w'.heap.size, w''.heap.size, rfl, by omega, hb.size, Nat.le_refl _, hr⟩
    refine ⟨fun y w' k hS hj hk hF K hK => ?_, ?_⟩
    · skip -- 4: indexAddr
      have e19 : y 19 = _ := hF.1
      have e20 : y 20 = _ := hF.2.1
      have e19' := Lib.hid e19
      have e20' := Lib.hid e20
      simp only [fillL, cond_true, cond_false, List.getD_cons_zero, List.getD_cons_succ, StP.is, Act.put, List.setIfInBounds_toArray, List.set_cons_zero, List.set_cons_succ, Nat.reduceAdd, e19, e20, MStP.is, Option.isSome_some, Option.isSome_none] at hK ⊢
      simp only [List.sum_cons, List.sum_nil, List.getD_cons_zero, List.getD_cons_succ, Nat.reduceAdd, Nat.add_zero] at hk
      refine rg_yes (by kernel_rfl) ?_
      have hsw := hS.size
      clear e19 e20
      clear hF
      go_simp
      exact hK _ _ (Ext.refl _) ⟨fun h => hj.1 (by omega), fun h => absurd h (by omega)⟩ rfl
    refine ⟨fun y w' k hS hj hk hF K hK => ?_, ?_⟩
    · skip -- 5: store
      obtain ⟨csd, lo2, hi2, e21, hlo2, hlh2, hhi2, hd⟩ := hF.1
      have HD := Lib.hid hd
      obtain ⟨D0, d0_, dc0, D1, d1_, dc1, rfl, -⟩ := hd
      have e22 : y 22 = _ := hF.2.1
      have e21' := Lib.hid e21
      have e22' := Lib.hid e22
      simp only [fillL, cond_true, cond_false, List.getD_cons_zero, List.getD_cons_succ, StP.is, Act.put, List.setIfInBounds_toArray, List.set_cons_zero, List.set_cons_succ, Nat.reduceAdd, e21, e22, MStP.is, Option.isSome_some, Option.isSome_none] at hK ⊢
      simp only [List.sum_cons, List.sum_nil, List.getD_cons_zero, List.getD_cons_succ, Nat.reduceAdd, Nat.add_zero] at hk
      refine rg_yes (by kernel_rfl) ?_
      have hsw := hS.size
      clear e21 e22
      clear hF
      have HRN := Lib.hid (hj.1 (by omega))
      obtain ⟨g', cur, o', e', -, -, hgc, hgs, -, -, -, -, -⟩ := HRN.out.arr (by omega)
      injection e' with e'; injection e' with e' _; subst e'
      have t0 : w'.cell? ⟨g, j * 3, none⟩ = some _ := block_cell hgc (by rw [hgs]; omega)
      have t1 : w'.cell? ⟨g, j * 3 + 1, none⟩ = some _ := block_cell hgc (by rw [hgs]; omega)
      have t2 : w'.cell? ⟨g, j * 3 + 2, none⟩ = some _ := block_cell hgc (by rw [hgs]; omega)
      have fr0 : w'.frozen? ⟨g, j * 3, none⟩ = false := block_free hgc _
      have fr1 : w'.frozen? ⟨g, j * 3 + 1, none⟩ = false := block_free hgc _
      have fr2 : w'.frozen? ⟨g, j * 3 + 2, none⟩ = false := block_free hgc _
      generalize cur[j * 3]'_ = y0_ at t0
      generalize cur[j * 3 + 1]'_ = y1_ at t1
      generalize cur[j * 3 + 2]'_ = y2_ at t2
      clear hgc hgs
      go_simp
      refine hK undef _ (Chg.setCell (p := ⟨g, _, none⟩) (Chg.setCell (p := ⟨g, _, none⟩) (Chg.setCell (p := ⟨g, _, none⟩) (Chg.refl _ _) (.inl (by simp)) _) (.inl (by simp)) _) (.inl (by simp)) _) ⟨fun h => absurd h (by omega), fun _ => ⟨hi2, by simpa [World.setCell] using hhi2, ?_⟩⟩ rfl
      exact RaidN.set HRN.out hj3 hlo2 HD.out hlh2 hhi2 (by simp [World.setCell]) (fun i hi => set3_far hi) (fun cur h => set3 h)
    trivial
  case hH => rfl
  case hNS => exact fun _ _ h => Chg.of_below h _
  case hSt => exact fun a b => Chg.trans a b
  case hb => rfl
  case hdrew => exact (Chg.refl _ _).drewN 1
  case hj0 => exact fun y => ⟨fun _ => HN3.out, fun h => absurd h (by omega)⟩
  case hend =>
    intro y w6 hS hJ hF
    obtain ⟨hi2, hh2, hRN⟩ := hJ.2 (by decide)
    have HRN := Lib.hid hRN
    have z6 := hS.size
    have HX6 : Hid (Below w.heap.size w w6) := Lib.hid (HX4.out.trans (hS.below (B := w.heap.size) (fun k _ hk => by simp at hk; omega) (by omega)))
    have hq := (hS.block (w.heap.size + 1) (by omega) (by simp; omega)).trans B13.out
    have hbx := (hS.block w2.heap.size (by omega) (by simp; omega)).trans HBX.out
    have b0 := cell_of_row _ _ 0 _ _ (0, 0) hbx
    have r0 := cell_of_row _ _ 0 _ _ (0, 0) hq
    have f0 := block_free hq 0
    have s0 := cell_of_row _ _ 0 _ _ (0, 0) (block_set (o := 0) (v := .slice (some ⟨g, 0, none⟩) 3 c3) hq)
    have l1 : w.heap.size + 1 < w6.heap.size := by omega
    have l2 : w2.heap.size < w6.heap.size := by omega
    clear hJ hF hS hRN hq hbx
    simp only [fillL, cond_true, cond_false, Nat.reduceAdd]
    go_wp2_with fail
    refine bodyPost_ret (v := .tuple #[.agg #[.slice (some ⟨g, 0, none⟩) 3 c3], .bool true]) (by simp [results, Try.results12, go_sem, s0]) rfl ⟨_, by rw [HF1.out], ?_, Below.setCell (p := ⟨w.heap.size + 1, 0, none⟩) HX6.out (by simp) _⟩
    rw [HF2.out]
    exact RaidN.wide (by omega) (by simp [World.setCell]; omega) (Nat.le_refl _) _ _ (RaidN.keep (Same.setCell (p := ⟨w.heap.size + 1, 0, none⟩) (Same.refl _ _ _) (.inl (by simp; omega)) _) (by simp [World.setCell]) _ _ HRN.out)
end Go.Proofs.Ytfokpjoeankobaa
