/- Marks on disks: the arrays of all disks and what stands beside them. Condition: the marks are below 2^40. -/
import Derived.Test.YtggdjiklgakfnaaGreatDoorMarkD
import Derived.Test.YtggdjiklgakfnaaGreatDoorRaidLose
namespace Go.Proofs.YtggdjiklgakfnaaGreatDoor
set_option linter.unusedSimpArgs false
set_option linter.unnecessarySimpa false
open Go.RowKit
set_option linter.unusedVariables false
/-- How many marks a disk takes, and the disks ahead of one. -/
def dm (x : DiskD) : Nat := x.1.length + x.2.1.length * 2 + 1
def dsum (xs : RaidD) (j : Nat) : Nat := ((xs.take j).map dm).sum
theorem dsum_zero (xs : RaidD) : dsum xs 0 = 0 := by simp [dsum]
theorem dsum_succ {xs : RaidD} {j : Nat} {x : DiskD} (h : xs[j]? = some x) : dsum xs (j + 1) = dsum xs j + dm x := sum_take dm h
theorem dsum_mono (xs : RaidD) {i j : Nat} (h : i ≤ j) : dsum xs i ≤ dsum xs j := by
  unfold dsum
  rw [← List.take_append_drop i (xs.take j), List.take_take, Nat.min_eq_left h, List.map_append, List.sum_append]
  omega
theorem dsum_size (xs : RaidD) (j : Nat) : dsum xs j ≤ sizeRaid xs * 2 := by
  have h1 : dsum xs j ≤ dsum xs xs.length := by
    rcases Nat.le_total j xs.length with h | h
    · exact dsum_mono xs h
    · unfold dsum; rw [List.take_of_length_le h, List.take_of_length_le (Nat.le_refl _)]; omega
  refine Nat.le_trans h1 ?_
  unfold dsum sizeRaid
  rw [List.take_of_length_le (Nat.le_refl _)]
  clear h1
  induction xs with
  | nil => simp
  | cons x xs ih =>
    simp only [List.map_cons, List.sum_cons, List.length_cons]
    have : dm x ≤ (sizeDisk x + 1) * 2 := by unfold dm sizeDisk; omega
    omega
/-- The head of disk l in the cells cur: its arrays lie whole, and bear its label. -/
def HdrW (o : Nat → Nat) (w : World) (lo hi : Nat) (cur : Array Value) (l : Nat) (x : DiskD) : Prop :=
  ∃ A0 c0 A1 c1, cur[l * 3]? = some (.slice A0 x.1.length c0) ∧ cur[l * 3 + 1]? = some (.slice A1 x.2.1.length c1) ∧ Whole w 9 1 lo hi A0 x.1.length c0 ∧ Whole w 99 2 lo hi A1 x.2.1.length c1 ∧
    (0 < c0 → ∀ b, blkOf A0 b → o b = l) ∧ (0 < c1 → ∀ b, blkOf A1 b → o b = l)
/-- The head of disk l, marked from k on. -/
def HdrM (w : World) (k : Int) (cur : Array Value) (l : Nat) (x : DiskD) : Prop :=
  ∃ A0 c0 A1 c1, cur[l * 3]? = some (.slice A0 x.1.length c0) ∧ cur[l * 3 + 1]? = some (.slice A1 x.2.1.length c1) ∧ cur[l * 3 + 2]? = some (.bool ((k + x.1.length + x.2.1.length * 2) % 3 == 0)) ∧
    MarkedAt w KStringS k A0 x.1.length ∧ MarkedAt w KWaitS (k + x.1.length) A1 (x.2.1.length * 2)
theorem DiskO.hdr {o : Nat → Nat} {w : World} {lo hi l : Nat} {cs : List Value} {x : DiskD} {cur : Array Value} (h : DiskO o w lo hi cs (x, l)) (hc : ∀ i v, cs[i]? = some v → cur[l * 3 + i]? = some v) : HdrW o w lo hi cur l x := by
  obtain ⟨⟨A0, n0, c0, A1, n1, c1, rfl, h0, k0, h1, k1⟩, hl⟩ := h
  have e0 := h0.len; have e1 := h1.len
  simp only at e0 e1 hl
  subst e0 e1
  exact ⟨A0, c0, A1, c1, by simpa using hc 0 _ rfl, hc 1 _ rfl, k0, k1, fun hp b hb => hl A0 x.1.length c0 b (by simp) hp hb, fun hp b hb => hl A1 x.2.1.length c1 b (by simp) hp hb⟩
theorem Whole.same {w w' : World} {T : TypeId} {sz lo hi : Nat} {A : Option Addr} {n c : Nat} (h : Whole w T sz lo hi A n c) (hk : 0 < c → ∀ b cur, blkOf A b → w.heap[b]? = some (.cells cur T (0, 0)) → w'.heap[b]? = w.heap[b]?) : Whole w' T sz lo hi A n c := by
  rcases h with h | ⟨g, cur, rfl, h2, h3, h4, h5⟩
  · exact .inl h
  · rcases Nat.eq_zero_or_pos c with h0 | h0
    · exact .inl ⟨by have := h5.2.1; omega, h0⟩
    · exact .inr ⟨g, cur, rfl, h2, h3, (hk h0 g cur ⟨0, rfl⟩ h4).trans h4, h5⟩
theorem Whole.typ {w : World} {T : TypeId} {sz lo hi : Nat} {A : Option Addr} {n c b : Nat} (h : Whole w T sz lo hi A n c) (hc : 0 < c) (hb : blkOf A b) : ∃ cur, w.heap[b]? = some (.cells cur T (0, 0)) := by
  rcases h with h | ⟨g, cur, rfl, h2, h3, h4, h5⟩
  · omega
  · rw [blkOf_iff] at hb; subst hb; exact ⟨cur, h4⟩
theorem cells_ne {w : World} {b : Nat} {cur cur' : Array Value} {T T' : TypeId} (h : w.heap[b]? = some (.cells cur T (0, 0))) (h' : w.heap[b]? = some (.cells cur' T' (0, 0))) (hT : T ≠ T') : False := by
  rw [h] at h'
  injection h' with e; injection e with _ e
  exact hT e
/-- A change that leaves the arrays of disk l alone leaves its head. -/
theorem HdrW.same {o : Nat → Nat} {w w' : World} {lo hi l : Nat} {cur cur' : Array Value} {x : DiskD} (h : HdrW o w lo hi cur l x) (h0 : cur'[l * 3]? = cur[l * 3]?) (h1 : cur'[l * 3 + 1]? = cur[l * 3 + 1]?)
    (hk : ∀ b cu T, o b = l → w.heap[b]? = some (.cells cu T (0, 0)) → T ≠ 70 → w'.heap[b]? = w.heap[b]?) : HdrW o w' lo hi cur' l x := by
  obtain ⟨A0, c0, A1, c1, q0, q1, k0, k1, l0, l1⟩ := h
  exact ⟨A0, c0, A1, c1, h0.trans q0, h1.trans q1, k0.same (fun hc b cu hb hg => hk b cu _ (l0 hc b hb) hg (by decide)), k1.same (fun hc b cu hb hg => hk b cu _ (l1 hc b hb) hg (by decide)), l0, l1⟩
theorem MarkedAt.same {w w' : World} {K : List Value} {k : Int} {A : Option Addr} {m : Nat} (h : MarkedAt w K k A m) (hz : w.heap.size ≤ w'.heap.size) (hk : 0 < m → ∀ b, blkOf A b → b < w.heap.size → w'.heap[b]? = w.heap[b]?) : MarkedAt w' K k A m := by
  intro hm
  obtain ⟨b, off, hA, hb, hc⟩ := h hm
  exact ⟨b, off, hA, by omega, fun j hj => (World.cell?_of_block (hk hm b ⟨off, hA⟩ hb)).trans (hc j hj)⟩
theorem HdrM.same {o : Nat → Nat} {w w' : World} {lo hi l : Nat} {k : Int} {cur cur' : Array Value} {x : DiskD} (h : HdrM w k cur l x) (hw : HdrW o w lo hi cur l x) (hz : w.heap.size ≤ w'.heap.size) (h0 : cur'[l * 3]? = cur[l * 3]?) (h1 : cur'[l * 3 + 1]? = cur[l * 3 + 1]?) (h2 : cur'[l * 3 + 2]? = cur[l * 3 + 2]?)
    (hk : ∀ b cu T, o b = l → w.heap[b]? = some (.cells cu T (0, 0)) → T ≠ 70 → w'.heap[b]? = w.heap[b]?) : HdrM w' k cur' l x := by
  obtain ⟨A0, c0, A1, c1, q0, q1, q2, m0, m1⟩ := h
  obtain ⟨A0', c0', A1', c1', r0, r1, k0, k1, l0, l1⟩ := hw
  rw [q0] at r0; rw [q1] at r1
  injection r0 with e; injection e with e1 _ e2; subst e1 e2
  injection r1 with e; injection e with e1 _ e2; subst e1 e2
  refine ⟨A0, c0, A1, c1, h0.trans q0, h1.trans q1, h2.trans q2, m0.same hz (fun hm b hb _ => ?_), m1.same hz (fun hm b hb _ => ?_)⟩
  · have hc := k0.pos hm
    obtain ⟨cu, hcu⟩ := k0.typ hc hb
    exact hk b cu _ (l0 hc b hb) hcu (by decide)
  · have hc := k1.pos (by omega)
    obtain ⟨cu, hcu⟩ := k1.typ hc hb
    exact hk b cu _ (l1 hc b hb) hcu (by decide)
/-- What stands when j disks are marked. -/
def MarkI (o : Nat → Nat) (xs : RaidD) (k : Int) (w : World) (lo hi g c j : Nat) (wr : World) : Prop :=
  ∃ cur, wr.heap[g]? = some (.cells cur 70 (0, 0)) ∧ cur.size = c * 3 ∧ (∀ l x, xs[l]? = some x → HdrW o wr lo hi cur l x) ∧ (∀ l x, l < j → xs[l]? = some x → HdrM wr (k + dsum xs l) cur l x) ∧ Chg (fun b => lo ≤ b ∧ b < hi) w wr
theorem Whole.inb {w : World} {T : TypeId} {sz lo hi : Nat} {A : Option Addr} {n c b : Nat} (h : Whole w T sz lo hi A n c) (hc : 0 < c) (hb : blkOf A b) : lo ≤ b ∧ b < hi := by
  rcases h with h | ⟨g, cur, rfl, h2, h3, _⟩
  · omega
  · rw [blkOf_iff] at hb; subst hb; exact ⟨h2, h3⟩
theorem mark_step {o : Nat → Nat} {xs : RaidD} {k z : Int} {w wr w1 w2 : World} {lo hi g c j : Nat} {x : DiskD} {A0 A1 : Option Addr} {c0 c1 : Nat} {cur : Array Value} (hx : xs[j]? = some x) (hz : z = k + dsum xs j) (hg : wr.heap[g]? = some (.cells cur 70 (0, 0))) (hcs : cur.size = c * 3) (hjc : j < c)
    (hW : ∀ l x, xs[l]? = some x → HdrW o wr lo hi cur l x) (hM : ∀ l x, l < j → xs[l]? = some x → HdrM wr (k + dsum xs l) cur l x) (hC : Chg (fun b => lo ≤ b ∧ b < hi) w wr)
    (hgl : lo ≤ g) (hgh : g < hi) (q0 : cur[j * 3]? = some (.slice A0 x.1.length c0)) (q1 : cur[j * 3 + 1]? = some (.slice A1 x.2.1.length c1)) (K0 : Whole wr 9 1 lo hi A0 x.1.length c0) (K1 : Whole wr 99 2 lo hi A1 x.2.1.length c1)
    (L0 : 0 < c0 → ∀ b, blkOf A0 b → o b = j) (L1 : 0 < c1 → ∀ b, blkOf A1 b → o b = j)
    (m0 : MarkedAt w1 KStringS z A0 x.1.length) (k0 : Whole w1 9 1 lo hi A0 x.1.length c0) (hc1 : Chg (fun b => 0 < x.1.length ∧ blkOf A0 b) wr w1) (K1' : Whole w1 99 2 lo hi A1 x.2.1.length c1)
    (m1 : MarkedAt w2 KWaitS (z + x.1.length) A1 (x.2.1.length * 2)) (k1 : Whole w2 99 2 lo hi A1 x.2.1.length c1) (hc2 : Chg (fun b => 0 < x.2.1.length ∧ blkOf A1 b) w1 w2)
    (hg2 : w2.heap[g]? = some (.cells cur 70 (0, 0))) :
    MarkI o xs k w lo hi g c (j + 1) (w2.setCell ⟨g, j * 3 + 2, none⟩ (.bool ((z + x.1.length + x.2.1.length * 2) % 3 == 0))) := by
  have hz1 := hc1.size; have hz2 := hc2.size
  have h02 : ∀ b cu, wr.heap[b]? = some (.cells cu 9 (0, 0)) → o b = j → w2.heap[b]? = w1.heap[b]? := fun b cu hb ho => by
    have hlt := (Array.getElem?_eq_some_iff.1 hb).1
    refine hc2.block b (by omega) (fun h => ?_)
    obtain ⟨cu', h'⟩ := K1.typ (K1.pos h.1) h.2
    exact cells_ne hb h' (by decide)
  have hfar : ∀ b cu T, wr.heap[b]? = some (.cells cu T (0, 0)) → T ≠ 70 → o b ≠ j → (w2.setCell ⟨g, j * 3 + 2, none⟩ (.bool ((z + x.1.length + x.2.1.length * 2) % 3 == 0))).heap[b]? = wr.heap[b]? := fun b cu T hb hT ho => by
    have hlt := (Array.getElem?_eq_some_iff.1 hb).1
    have hbg : b ≠ g := fun e => cells_ne (e ▸ hb) hg hT
    refine (heap_far hbg).trans ((hc2.block b (by omega) (fun h => ho (L1 (K1.pos h.1) b h.2))).trans (hc1.block b hlt (fun h => ho (L0 (K0.pos h.1) b h.2))))
  have hset : ∀ i, i ≠ j * 3 + 2 → (cur.setIfInBounds (j * 3 + 2) (.bool ((z + x.1.length + x.2.1.length * 2) % 3 == 0)))[i]? = cur[i]? := fun i hi => by rw [Array.getElem?_setIfInBounds, if_neg (by omega)]
  have hW0 : Whole (w2.setCell ⟨g, j * 3 + 2, none⟩ (.bool ((z + x.1.length + x.2.1.length * 2) % 3 == 0))) 9 1 lo hi A0 x.1.length c0 := k0.same (fun hc b cu hb hcu => by
    have hbg : b ≠ g := fun e => by
      obtain ⟨cu', h'⟩ := K0.typ hc hb
      exact cells_ne (e ▸ h') hg (by decide)
    obtain ⟨cu', h'⟩ := K0.typ hc hb
    exact (heap_far hbg).trans (h02 b cu' h' (L0 hc b hb)))
  have hW1 : Whole (w2.setCell ⟨g, j * 3 + 2, none⟩ (.bool ((z + x.1.length + x.2.1.length * 2) % 3 == 0))) 99 2 lo hi A1 x.2.1.length c1 := k1.same (fun hc b cu hb hcu => heap_far (fun e => by
      obtain ⟨cu', h'⟩ := K1.typ hc hb
      exact cells_ne (e ▸ h') hg (by decide)))
  refine ⟨_, block_set hg2, by simpa using hcs, fun l y hy => ?_, fun l y hl hy => ?_, ?_⟩
  · by_cases hlj : l = j
    · subst hlj
      rw [hx] at hy; obtain rfl := Option.some.inj hy
      exact ⟨A0, c0, A1, c1, (hset _ (by omega)).trans q0, (hset _ (by omega)).trans q1, hW0, hW1, L0, L1⟩
    · exact (hW l y hy).same (hset _ (by omega)) (hset _ (by omega)) (fun b cu T ho hb hT => hfar b cu T hb hT (by omega))
  · by_cases hlj : l = j
    · subst hlj
      rw [hx] at hy; obtain rfl := Option.some.inj hy
      refine ⟨A0, c0, A1, c1, (hset _ (by omega)).trans q0, (hset _ (by omega)).trans q1, ?_, ?_, ?_⟩
      · rw [Array.getElem?_setIfInBounds, if_pos rfl, if_pos (by omega), hz]
      · rw [← hz]
        refine m0.same (by simp [World.setCell]; omega) (fun hm b hb _ => ?_)
        obtain ⟨cu', h'⟩ := K0.typ (K0.pos hm) hb
        exact (heap_far (fun e => cells_ne (e ▸ h') hg (by decide))).trans (h02 b cu' h' (L0 (K0.pos hm) b hb))
      · rw [← hz]
        refine m1.same (by simp [World.setCell]) (fun hm b hb _ => heap_far (fun e => ?_))
        obtain ⟨cu', h'⟩ := K1.typ (K1.pos (by omega)) hb
        exact cells_ne (e ▸ h') hg (by decide)
    · exact (hM l y (by omega) hy).same (hW l y hy) (by simp [World.setCell]; omega) (hset _ (by omega)) (hset _ (by omega)) (hset _ (by omega)) (fun b cu T ho hb hT => hfar b cu T hb hT (by omega))
  · refine (hC.trans ((hc1.mono fun b _ h => ?_).trans (hc2.mono fun b _ h => ?_))).setCell (.inl ⟨hgl, hgh⟩) _
    · exact K0.inb (K0.pos h.1) h.2
    · exact K1.inb (K1.pos h.1) h.2
/-- Disks that are marked. -/
def MarkedD (w : World) (k : Int) (A : Option Addr) (n : Nat) (xs : RaidD) : Prop := xs.length = n ∧ (0 < n → ∃ g cur, A = some ⟨g, 0, none⟩ ∧ w.heap[g]? = some (.cells cur 70 (0, 0)) ∧ ∀ l x, xs[l]? = some x → HdrM w (k + dsum xs l) cur l x)
theorem HdrM.below {w w' : World} {k : Int} {cur : Array Value} {l : Nat} {x : DiskD} (h : HdrM w k cur l x) (hb : Below w.heap.size w w') : HdrM w' k cur l x := by
  obtain ⟨A0, c0, A1, c1, q0, q1, q2, m0, m1⟩ := h
  exact ⟨A0, c0, A1, c1, q0, q1, q2, m0.below hb, m1.below hb⟩
theorem MarkedD.below {w w' : World} {k : Int} {A : Option Addr} {n : Nat} {xs : RaidD} (h : MarkedD w k A n xs) (hb : Below w.heap.size w w') : MarkedD w' k A n xs := by
  refine ⟨h.1, fun hn => ?_⟩
  obtain ⟨g, cur, rfl, hg, hm⟩ := h.2 hn
  exact ⟨g, cur, rfl, (hb.block g (Array.getElem?_eq_some_iff.1 hg).1).trans hg, fun l x hx => (hm l x hx).below hb⟩
set_option maxRecDepth 100000 in
set_option maxHeartbeats 4000000 in
theorem markDiskS_any (A : Option Addr) (n c : Nat) (xs : RaidD) (k : Int) (w : World) (lo hi : Nat) (h : RaidN w lo hi [.slice A n c] xs) (h0 : 0 ≤ k) (h1 : k + dsum xs n ≤ 1099511627776) :
    Calls Tryz.prog 31 #[.slice A n c, .int .i64 k] w fun e w' => e = .returned (.int .i64 (k + dsum xs n)) ∧ MarkedD w' k A n xs ∧ Chg (fun b => lo ≤ b ∧ b < hi) w w' := by
  by_cases hn0 : n = 0
  · subst hn0
    have hl : xs.length = 0 := by
      obtain ⟨_, _, _, _, e, hs, _⟩ := h
      injection e with e _; injection e with e1 e2 e3; subst e1 e2 e3
      simpa using hs.len
    go_enter Tryz.func31, Tryz.ntmps31
    go_wp2_with fail
    go_loop [1, 5] (fun kk i => kk = .int .i64 k ∧ i = .int .i64 ((0 : Nat) : Int)) (fun _ _ => 0)
    case atStart => exact ⟨rfl, rfl⟩
    case round =>
      obtain ⟨rfl, rfl⟩ := hrel
      go_wp2_with fail
      go_ret
      exact ⟨ret_int (by simp [dsum]), ⟨hl, fun h => absurd h (by omega)⟩, Chg.refl _ _⟩
  · obtain ⟨g, cur, o, rfl, hg1, hg2, hg3, hg4, hg5, hg6, hg7, hg8, hg9⟩ := h.arr (by omega)
    have hI : MarkI o xs k w lo hi g c 0 w := ⟨cur, hg3, hg4, fun l x hx => by
      obtain ⟨cs, _, hcc, hr⟩ := hg9 l x hx
      exact hr.hdr hcc, fun l x hl => absurd hl (by omega), Chg.refl _ _⟩
    have HI0 := Lib.hid hI
    have HL := Lib.hid hg7
    have HD : Hid (∀ j, j ≤ n → k + dsum xs j ≤ 1099511627776) := Lib.hid (fun j hj => by have := dsum_mono xs hj; omega)
    have hn40 : n ≤ 9223372036854775807 := by unfold maxLen at hg6; omega
    clear h hg3 hg4 hg6 hg7 hg9 hI h1 cur
    go_enter Tryz.func31, Tryz.ntmps31
    go_wp2_with fail
    go_loopw [1, 5] (fun kk i wr => ∃ (j : Nat) (z : Int), j ≤ n ∧ i = .int .i64 j ∧ kk = .int .i64 z ∧ 0 ≤ z ∧ z ≤ 1099511627776 ∧ Hid (z = k + dsum xs j) ∧ Hid (MarkI o xs k w lo hi g c j wr)) (fun _ i _ => n - (intOf i).toNat)
    case atStart => exact ⟨0, k, Nat.zero_le _, rfl, rfl, h0, by have := HD.out 0 (by omega); simp [dsum] at this; omega, Lib.hid (by simp [dsum]), HI0⟩
    case round =>
      clear HI0
      obtain ⟨j, z, hj, rfl, rfl, z0, z1, HZ, HI⟩ := hrel
      by_cases hlt : j < n
      · obtain ⟨x, hx⟩ : ∃ x, xs[j]? = some x := ⟨xs[j]'(by rw [HL.out]; exact hlt), List.getElem?_eq_getElem _⟩
        obtain ⟨cur, hg, hcs, hW, hM, hC⟩ := HI.out
        obtain ⟨A0, c0, A1, c1, q0, q1, K0, K1, L0, L1⟩ := hW j x hx
        have hgl : g < wr.heap.size := (Array.getElem?_eq_some_iff.1 hg).1
        have hbz : z + dm x ≤ 1099511627776 := by have := HD.out (j + 1) (by omega); rw [dsum_succ hx] at this; have := HZ.out; omega
        obtain ⟨n0, hn0'⟩ : ∃ m, m = x.1.length := ⟨_, rfl⟩
        obtain ⟨n1, hn1'⟩ : ∃ m, m = x.2.1.length := ⟨_, rfl⟩
        have HN0 := Lib.hid hn0'; have HN1 := Lib.hid hn1'
        unfold dm at hbz
        rw [← hn0', ← hn1'] at hbz
        have QQ0 := q0; have QQ1 := q1
        rw [← hn0'] at q0; rw [← hn1'] at q1
        have p0 : wr.cell? ⟨g, j * 3, none⟩ = some (.slice A0 n0 c0) := (cell_of_row _ _ _ _ _ (0, 0) hg).trans q0
        have p1 : wr.cell? ⟨g, j * 3 + 1, none⟩ = some (.slice A1 n1 c1) := (cell_of_row _ _ _ _ _ (0, 0) hg).trans q1
        have HG := Lib.hid hg; have HCS := Lib.hid hcs; have HWW := Lib.hid hW; have HMM := Lib.hid hM; have HCC := Lib.hid hC; have HK0 := Lib.hid K0; have HK1 := Lib.hid K1; have HL0 := Lib.hid L0; have HL1 := Lib.hid L1; have HQ0 := Lib.hid QQ0; have HQ1 := Lib.hid QQ1; have HX := Lib.hid hx
        clear hg hcs hW hM hC K0 K1 L0 L1 QQ0 QQ1 hx q0 q1 hn0' hn1'
        have j0 : (0 : Int) ≤ (j : Int) := by omega
        have j1 : (j : Int) < (n : Int) := by omega
        go_wp2_with fail
        refine (markStringS_any A0 n0 c0 z _ lo hi (by rw [HN0.out]; exact HK0.out) z0 (by omega)).mono ?_
        rintro e w1 ⟨rfl, m0, k0, hc1⟩
        have hgn : ∀ T, T ≠ 70 → ∀ (A : Option Addr) (m cc sz : Nat), Whole wr T sz lo hi A m cc → ¬ (0 < m ∧ blkOf A g) := fun T hT A m cc sz hw hb => by
          obtain ⟨cu, hcu⟩ := hw.typ (hw.pos hb.1) hb.2
          exact cells_ne hcu HG.out hT
        have hg1' := (hc1.block g hgl (by rw [HN0.out]; exact hgn _ (by decide) _ _ _ _ HK0.out)).trans HG.out
        have K1' : Whole w1 99 2 lo hi A1 n1 c1 := by
          rw [HN1.out]
          refine HK1.out.same (fun hc b cu hb hcu => hc1.block b (Array.getElem?_eq_some_iff.1 hcu).1 (fun h => ?_))
          obtain ⟨cu', h'⟩ := HK0.out.typ (HK0.out.pos (by rw [← HN0.out]; exact h.1)) h.2
          exact cells_ne hcu h' (by decide)
        have p1' : w1.cell? ⟨g, j * 3 + 1, none⟩ = some (.slice A1 n1 c1) := by rw [HN1.out]; exact (cell_of_row _ _ _ _ _ (0, 0) hg1').trans HQ1.out
        have hgl1 : g < w1.heap.size := by have := hc1.size; omega
        have HM0 := Lib.hid m0; have HKK0 := Lib.hid k0; have HC1 := Lib.hid hc1; have HG1 := Lib.hid hg1'; have HK1' := Lib.hid K1'
        clear m0 k0 hc1 hg1' K1' p0 p1 hgn
        have zz : 0 ≤ z + (n0 : Int) := by omega
        go_wp2_with fail
        refine (markWaitS_any A1 n1 c1 (z + (n0 : Int)) _ lo hi HK1'.out zz (by omega)).mono ?_
        rintro e w2 ⟨rfl, m1, k1, hc2⟩
        have hg2' : w2.heap[g]? = some _ := (hc2.block g hgl1 (fun h => by
          obtain ⟨cu, hcu⟩ := HK1'.out.typ (HK1'.out.pos h.1) h.2
          exact cells_ne hcu HG1.out (by decide))).trans HG1.out
        have hstep : MarkI o xs k w lo hi g c (j + 1) (w2.setCell ⟨g, j * 3 + 2, none⟩ (.bool ((z + n0 + n1 * 2) % 3 == 0))) := by
          have := mark_step HX.out HZ.out HG.out HCS.out (by omega) HWW.out HMM.out HCC.out hg1 hg2 HQ0.out HQ1.out HK0.out HK1.out HL0.out HL1.out (by rw [← HN0.out]; exact HM0.out) (by rw [← HN0.out]; exact HKK0.out) (by rw [← HN0.out]; exact HC1.out) (by rw [← HN1.out]; exact HK1'.out) (by rw [← HN0.out, ← HN1.out]; exact m1) (by rw [← HN1.out]; exact k1) (by rw [← HN1.out]; exact hc2) hg2'
          rw [← HN0.out, ← HN1.out] at this
          exact this
        have hgl2 : g < w2.heap.size := by have := hc2.size; omega
        have t0 : w2.cell? ⟨g, j * 3 + 2, none⟩ = some _ := block_cell hg2' (by rw [HCS.out]; omega)
        have f0 : w2.frozen? ⟨g, j * 3 + 2, none⟩ = false := block_free hg2' _
        generalize cur[j * 3 + 2]'_ = y0 at t0
        have HST := Lib.hid hstep
        have z2 : 0 ≤ z + (n0 : Int) + (n1 : Int) * 2 := by omega
        have HZ2 : Hid (z + (n0 : Int) + (n1 : Int) * 2 + 1 = k + dsum xs (j + 1)) := Lib.hid (by rw [dsum_succ HX.out]; unfold dm; have := HZ.out; have := HN0.out; have := HN1.out; omega)
        clear m1 k1 hc2 hg2' hstep p1'
        go_wp2_with fail
        go_roundw
        case rel => exact ⟨j + 1, z + (n0 : Int) + (n1 : Int) * 2 + 1, by omega, by go_num, rfl, by omega, by omega, HZ2, HST⟩
        case measure => simp [intOf]; omega
      · obtain rfl : j = n := by omega
        obtain ⟨cur, hg, hcs, hW, hM, hC⟩ := HI.out
        have HM : Hid (MarkedD wr k (some ⟨g, 0, none⟩) j xs) := Lib.hid ⟨HL.out, fun _ => ⟨g, cur, rfl, hg, fun l x hx => hM l x (by have := (List.getElem?_eq_some_iff.1 hx).1; have := HL.out; omega) hx⟩⟩
        have HC := Lib.hid hC
        clear hg hcs hW hM hC
        go_wp2_with fail
        go_ret
        exact ⟨ret_int HZ.out, HM.out, HC.out⟩
set_option maxRecDepth 100000 in
set_option maxHeartbeats 2000000 in
theorem markRaid_any (A : Option Addr) (n c : Nat) (xs : RaidD) (k : Int) (w : World) (lo hi : Nat) (h : RaidN w lo hi [.slice A n c] xs) (hhi : hi ≤ w.heap.size) (h0 : 0 ≤ k) (h1 : k + dsum xs n ≤ 1099511627776) :
    Calls Tryz.prog 14 #[.agg #[.slice A n c], .int .i64 k] w fun e w' => e = .returned (.int .i64 (k + dsum xs n)) ∧ MarkedD w' k A n xs ∧ Chg (fun b => lo ≤ b ∧ b < hi) w w' := by
  have H := Lib.hid h; clear h
  obtain ⟨tot, ht⟩ : ∃ t : Int, t = k + dsum xs n := ⟨_, rfl⟩
  rw [← ht]
  have HT := Lib.hid ht
  rw [← ht] at h1; clear ht
  go_enter Tryz.func14, Tryz.ntmps14
  go_wp2_with fail
  refine (markDiskS_any A n c xs k _ lo hi (RaidN.below bel1 hhi _ _ H.out) h0 (by rw [← HT.out]; exact h1)).mono ?_
  rw [← HT.out]
  rintro e w1 ⟨rfl, hm, hc⟩
  go_wp2_with fail
  go_ret
  exact ⟨rfl, hm, ((Chg.refl _ _).alloc _).trans hc⟩
end Go.Proofs.YtggdjiklgakfnaaGreatDoor
