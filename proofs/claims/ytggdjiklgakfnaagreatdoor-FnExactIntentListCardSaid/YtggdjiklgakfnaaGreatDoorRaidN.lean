/- Disks in new memory of which no two share an array: each block bears the number of its disk. No condition. -/
import Derived.Test.YtggdjiklgakfnaaGreatDoorFamDTo
import Derived.Test.YtggdjiklgakfnaaGreatDoorFamRSz
import Derived.Test.YtggdjiklgakfnaaGreatDoorDiskWrite
namespace Go.Proofs.YtggdjiklgakfnaaGreatDoor
set_option linter.unusedSimpArgs false
set_option linter.unnecessarySimpa false
open Go.RowKit
set_option linter.unusedVariables false
/-- The arrays of cells cs bear the label i. -/
def Lab (o : Nat → Nat) (cs : List Value) (i : Nat) : Prop := ∀ A n c b, Value.slice A n c ∈ cs → 0 < c → blkOf A b → o b = i
def DiskO (o : Nat → Nat) : Reads (DiskD × Nat) := fun w lo hi cs p => DiskN w lo hi cs p.1 ∧ Lab o cs p.2
theorem DiskO.keep {o : Nat → Nat} {w w' : World} {lo hi : Nat} (hs : Same lo hi w w') (hz : w.heap.size ≤ w'.heap.size) (cs : List Value) (p : DiskD × Nat) (h : DiskO o w lo hi cs p) : DiskO o w' lo hi cs p := ⟨DiskN.keep hs hz _ _ h.1, h.2⟩
theorem DiskO.wide {o : Nat → Nat} {w : World} {lo hi lo' hi' : Nat} (b1 : lo' ≤ lo) (b2 : hi ≤ hi') (b3 : hi' ≤ w.heap.size) (cs : List Value) (p : DiskD × Nat) (h : DiskO o w lo hi cs p) : DiskO o w lo' hi' cs p := ⟨DiskN.wide b1 b2 b3 _ _ h.1, h.2⟩
theorem DiskO.below {o : Nat → Nat} {w w' : World} {lo hi : Nat} (hb : Below w.heap.size w w') (hhi : hi ≤ w.heap.size) (cs : List Value) (p : DiskD × Nat) (h : DiskO o w lo hi cs p) : DiskO o w' lo hi cs p := ⟨DiskN.below hb hhi _ _ h.1, h.2⟩
theorem DiskN.blk {w : World} {lo hi : Nat} {cs : List Value} {x : DiskD} (h : DiskN w lo hi cs x) {A : Option Addr} {n c b : Nat} (hm : Value.slice A n c ∈ cs) (hc : 0 < c) (hb : blkOf A b) : lo ≤ b ∧ b < hi := by
  obtain ⟨A0, n0, c0, A1, n1, c1, rfl, _, k0, _, k1⟩ := h
  have key : ∀ {T : TypeId} {sz : Nat} {A : Option Addr} {n c : Nat}, Whole w T sz lo hi A n c → 0 < c → blkOf A b → lo ≤ b ∧ b < hi := by
    intro T sz A n c k hc hb
    rcases k with h | ⟨g, cur, rfl, h1, h2, _⟩
    · omega
    · rw [blkOf_iff] at hb; subst hb; exact ⟨h1, h2⟩
  simp only [List.mem_cons, Value.slice.injEq, List.not_mem_nil, or_false, reduceCtorEq] at hm
  rcases hm with ⟨rfl, rfl, rfl⟩ | ⟨rfl, rfl, rfl⟩
  · exact key k0 hc hb
  · exact key k1 hc hb
theorem DiskO.of {o : Nat → Nat} {w : World} {lo hi i : Nat} {cs : List Value} {x : DiskD} (h : DiskN w lo hi cs x) (ho : ∀ b, lo ≤ b → b < hi → o b = i) : DiskO o w lo hi cs (x, i) :=
  ⟨h, fun A n c b hm hc hb => ho b (h.blk hm hc hb).1 (h.blk hm hc hb).2⟩
theorem DiskO.relabel {o o' : Nat → Nat} {w : World} {lo hi : Nat} {cs : List Value} {p : DiskD × Nat} (h : DiskO o w lo hi cs p) (ho : ∀ b, lo ≤ b → b < hi → o' b = o b) : DiskO o' w lo hi cs p :=
  ⟨h.1, fun A n c b hm hc hb => (ho b (h.1.blk hm hc hb).1 (h.1.blk hm hc hb).2).trans (h.2 A n c b hm hc hb)⟩
/-- A disk stays where only blocks of disks turn. -/
theorem DiskN.keepT {w w' : World} {lo hi : Nat} (hz : w.heap.size ≤ w'.heap.size) (hk : ∀ i, i < w.heap.size → (∀ cur, w.heap[i]? ≠ some (.cells cur 70 (0, 0))) → w'.heap[i]? = w.heap[i]?) (cs : List Value) (x : DiskD) (h : DiskN w lo hi cs x) : DiskN w' lo hi cs x := by
  obtain ⟨A0, n0, c0, A1, n1, c1, rfl, h0, k0, h1, k1⟩ := h
  have key : ∀ {T : TypeId} {sz : Nat} {A : Option Addr} {n c : Nat}, T ≠ 70 → Whole w T sz lo hi A n c → 0 < c → ∀ b, blkOf A b → lo ≤ b → b < hi → w'.heap[b]? = w.heap[b]? := by
    intro T sz A n c hT k hc b hb _ _
    rcases k with h | ⟨g, cur, rfl, h1, h2, h3, _⟩
    · omega
    · rw [blkOf_iff] at hb; subst hb
      refine hk b (Array.getElem?_eq_some_iff.1 h3).1 (fun cur' e => ?_)
      rw [h3] at e
      injection e with e; injection e with _ e; exact hT e
  exact ⟨A0, n0, c0, A1, n1, c1, rfl, h0.keepB hz (fun hn => key (by decide) k0 (k0.pos hn)) (fun _ _ h => h), k0.keepB (key (by decide) k0), h1.keepB hz (fun hn => key (by decide) k1 (k1.pos hn)) (fun _ _ h => h), k1.keepB (key (by decide) k1)⟩
theorem DiskO.keepT {o : Nat → Nat} {w w' : World} {lo hi : Nat} (hz : w.heap.size ≤ w'.heap.size) (hk : ∀ i, i < w.heap.size → (∀ cur, w.heap[i]? ≠ some (.cells cur 70 (0, 0))) → w'.heap[i]? = w.heap[i]?) (cs : List Value) (p : DiskD × Nat) (h : DiskO o w lo hi cs p) : DiskO o w' lo hi cs p := ⟨DiskN.keepT hz hk _ _ h.1, h.2⟩
theorem RowR.imp {α : Type} {R R' : Reads α} {sz : Nat} {w : World} {lo hi : Nat} {cur : Array Value} {k : Nat} {xs : List α} (h : RowR R sz w lo hi cur k xs) (hR : ∀ cs x, R w lo hi cs x → R' w lo hi cs x) : RowR R' sz w lo hi cur k xs :=
  fun j x hj hx => (h j x hj hx).imp fun cs h => ⟨h.1, h.2.1, hR _ _ h.2.2⟩
/-- Disks in memory of their own, no two of which share an array. -/
def RaidN : Reads RaidD := fun w lo hi cs x => ∃ (A : Option Addr) (n c : Nat) (o : Nat → Nat), cs = [.slice A n c] ∧ SliceR (DiskO o) 3 w lo hi A n c x.zipIdx ∧ Whole w 70 3 lo hi A n c
theorem SliceR.unzip {o : Nat → Nat} {w : World} {lo hi : Nat} {A : Option Addr} {n c : Nat} {x : RaidD} (h : SliceR (DiskO o) 3 w lo hi A n c x.zipIdx) : SliceR DiskN 3 w lo hi A n c x := by
  obtain ⟨h1, h2, h3, h4, h5, h6⟩ := h
  refine ⟨by simpa using h1, h2, h3, h4, h5, fun hn => ?_⟩
  obtain ⟨b, off, hA, hlo, hhi, hc⟩ := h6 hn
  refine ⟨b, off, hA, hlo, hhi, fun j d hd => ?_⟩
  obtain ⟨cs, hl, hcs, hr⟩ := hc j (d, j) (by rw [List.getElem?_zipIdx, hd]; simp)
  exact ⟨cs, hl, hcs, hr.1⟩
theorem SliceR.imp {α : Type} {R R' : Reads α} {sz : Nat} {w : World} {lo hi : Nat} {A : Option Addr} {n c : Nat} {xs : List α} (h : SliceR R sz w lo hi A n c xs) (hR : ∀ cs x, R w lo hi cs x → R' w lo hi cs x) : SliceR R' sz w lo hi A n c xs := by
  obtain ⟨h1, h2, h3, h4, h5, h6⟩ := h
  refine ⟨h1, h2, h3, h4, h5, fun hn => ?_⟩
  obtain ⟨b, off, hA, hlo, hhi, hc⟩ := h6 hn
  refine ⟨b, off, hA, hlo, hhi, fun j d hd => ?_⟩
  obtain ⟨cs, hl, hcs, hr⟩ := hc j d hd
  exact ⟨cs, hl, hcs, hR _ _ hr⟩
theorem RaidN.r {w : World} {lo hi : Nat} {cs : List Value} {x : RaidD} (h : RaidN w lo hi cs x) : RaidR w lo hi cs x := by
  obtain ⟨A, n, c, o, rfl, h0, _⟩ := h
  exact ⟨A, n, c, rfl, h0.unzip.imp fun _ _ h => DiskN.r h⟩
theorem RaidN.keep {w w' : World} {lo hi : Nat} (hs : Same lo hi w w') (hz : w.heap.size ≤ w'.heap.size) (cs : List Value) (x : RaidD) (h : RaidN w lo hi cs x) : RaidN w' lo hi cs x := by
  obtain ⟨A, n, c, o, rfl, h0, h1⟩ := h
  exact ⟨A, n, c, o, rfl, h0.keep hs hz (DiskO.keep hs hz), h1.keep hs⟩
theorem RaidN.wide {w : World} {lo hi lo' hi' : Nat} (b1 : lo' ≤ lo) (b2 : hi ≤ hi') (b3 : hi' ≤ w.heap.size) (cs : List Value) (x : RaidD) (h : RaidN w lo hi cs x) : RaidN w lo' hi' cs x := by
  obtain ⟨A, n, c, o, rfl, h0, h1⟩ := h
  exact ⟨A, n, c, o, rfl, h0.wide b1 b2 b3 (DiskO.wide b1 b2 b3), h1.wide b1 b2⟩
theorem RaidN.below {w w' : World} {lo hi : Nat} (hb : Below w.heap.size w w') (hhi : hi ≤ w.heap.size) (cs : List Value) (x : RaidD) (h : RaidN w lo hi cs x) : RaidN w' lo hi cs x := RaidN.keep (Same.of_below hb hhi) hb.size cs x h
theorem noRaid {w : World} {lo hi : Nat} (A : Option Addr) (h : hi ≤ w.heap.size) : RaidN w lo hi [.slice A 0 0] [] :=
  ⟨A, 0, 0, fun _ => 0, rfl, ⟨rfl, Nat.le_refl _, Nat.zero_le _, h, fun _ => rfl, fun h => absurd h (Nat.lt_irrefl _)⟩, .inl ⟨rfl, rfl⟩⟩
theorem info_DiskS : (Tryz.prog.info? 70).map (fun i => (i.zero, i.size, i.bytes)) = some (some (.agg #[.slice none 0 0, .slice none 0 0, .bool false]), 3, 56) := by kernel_rfl
theorem make_DiskS (n : Nat) (hn : n ≤ 1048576) (w : World) :
    (Instr.makeSlice 23 (.int .i64 (n : Int)) (.int .i64 (n : Int))).run Tryz.prog w = .ok (.slice (some ⟨w.heap.size, 0, none⟩) n n) (w.alloc (.cells (madeCells #[.slice none 0 0, .slice none 0 0, .bool false] (n * 3)) 70)) := by
  obtain ⟨i, hi, hz, hs, hb⟩ := info_parts info_DiskS
  have hr := run_make (P := Tryz.prog) w 23 70 i (.agg #[.slice none 0 0, .slice none 0 0, .bool false]) Tryz.underlying23 hi hz .i64 .i64 n n (by omega) (by omega) (by rw [hb]; omega) (by omega)
  simp only [Int.toNat_natCast, hs] at hr
  exact hr
set_option maxRecDepth 100000 in
set_option maxHeartbeats 2000000 in
theorem toDiskS_any (A : Option Addr) (n c : Nat) (xs : List DiskD) (w : World) (lo hi : Nat) (h : SliceR DiskR 3 w lo hi A n c xs) (hz : xs.length + (xs.map sizeDisk).sum ≤ 1048576) :
    Calls Tryz.prog 28 #[.slice A n c] w fun e w' => ∃ A' c', e = .returned (.slice A' n c') ∧ RaidN w' w.heap.size w'.heap.size [.slice A' n c'] xs ∧ Below w.heap.size w w' := by
  have hl := Lib.hid h.len
  have hn : n ≤ 1048576 := by have := h.len; omega
  have HZ := Lib.hid hz
  clear hz
  have hmk := make_DiskS n hn w
  have H := Lib.hid h
  clear h
  go_enter Tryz.func28, Tryz.ntmps28
  go_wp2_with fail
  have hrow : ∃ cur, (w.alloc (.cells (madeCells #[.slice none 0 0, .slice none 0 0, .bool false] (n * 3)) 70)).heap[w.heap.size]? = some (.cells cur 70 (0, 0)) ∧ cur.size = n * 3 := ⟨_, heap_alloc_new w _, size_madeCells _ _⟩
  generalize hW : w.alloc (.cells (madeCells #[.slice none 0 0, .slice none 0 0, .bool false] (n * 3)) 70) = w1 at *
  have hb1 : Below w.heap.size w w1 := by rw [← hW]; exact bel1
  have hs1 : w.heap.size < w1.heap.size := by rw [← hW]; simp
  clear hW hmk
  have rel0 : ∃ cur, w1.heap[w.heap.size]? = some (.cells cur 70 (0, 0)) ∧ cur.size = n * 3 ∧ Hid (∃ o, RowR (DiskO o) 3 w1 (w.heap.size + 1) w1.heap.size cur 0 xs.zipIdx) := by
    obtain ⟨cur, h1, h2⟩ := hrow
    exact ⟨cur, h1, h2, Lib.hid ⟨fun _ => 0, fun j x hj => absurd hj (by omega)⟩⟩
  clear hrow
  go_loopw [4] (fun i wr => ∃ k : Nat, k ≤ n ∧ i = .int .i64 k ∧ Below w.heap.size w wr ∧ w.heap.size < wr.heap.size ∧ ∃ cur, wr.heap[w.heap.size]? = some (.cells cur 70 (0, 0)) ∧ cur.size = n * 3 ∧ Hid (∃ o, RowR (DiskO o) 3 wr (w.heap.size + 1) wr.heap.size cur k xs.zipIdx)) (fun i _ => n - (intOf i).toNat)
  case atStart => exact ⟨0, Nat.zero_le _, rfl, hb1, hs1, rel0⟩
  case round =>
    clear rel0 hb1 hs1
    obtain ⟨k, hk, rfl, hB, hS, cur, hg, hcs, HR⟩ := hrel
    by_cases hlt : k < n
    · obtain ⟨x, hx⟩ : ∃ x, xs[k]? = some x := ⟨xs[k]'(by rw [hl.out]; exact hlt), List.getElem?_eq_getElem _⟩
      obtain ⟨b, off, rfl, _, _, bl, hc⟩ := (SliceR.below H.out hB (DiskR.below hB H.out.lo_le)).at_ (by omega)
      obtain ⟨cs, hcl, hcc, hr⟩ := hc k x hx
      clear hc
      have hhi : hi ≤ wr.heap.size := Nat.le_trans H.out.lo_le hB.size
      obtain ⟨cells_, waits_, gone_⟩ := x
      have hr0 := hr
      obtain ⟨Aa0, na0, ca0, Aa1, na1, ca1, rfl, ha0, ha1⟩ := hr0
      have G := Lib.hid hr
      have q0 := hcc 0 _ rfl
      have q1 := hcc 1 _ rfl
      have q2 := hcc 2 _ rfl
      simp only [Nat.add_zero] at q0
      clear hcc hcl hr ha0 ha1
      have k0 : (0 : Int) ≤ (k : Int) := by omega
      have k1 : (k : Int) < (n : Int) := by omega
      have HX := Lib.hid hx
      clear hx
      have HG := Lib.hid hg
      have hkn : k * 3 + 3 ≤ cur.size := by rw [hcs]; omega
      have HC := Lib.hid hcs
      clear hg hcs
      go_wp2_with fail
      refine (toDisk_any [.slice Aa0 na0 ca0, .slice Aa1 na1 ca1, .bool gone_] _ _ _ _ G.out (by have := HZ.out; have := sum_le sizeDisk HX.out; omega)).mono ?_
      rintro e w2 ⟨cs2, rfl, hr2, hb2⟩
      have hr3 := hr2
      obtain ⟨Ar0, nr0, cr0, Ar1, nr1, cr1, rfl, hr0, hr1, hr4, hr5⟩ := hr3
      have G2 := Lib.hid hr2
      clear hr2 hr0 hr1 hr4 hr5
      have hg2 := (hb2.block _ hS).trans HG.out
      have hs2 : w.heap.size < w2.heap.size := Nat.lt_of_lt_of_le hS hb2.size
      have hB2 : Below w.heap.size w w2 := hB.trans (hb2.mono hB.size)
      have HK := Lib.hid hb2
      clear hb2 bl q0 q1 q2
      have t0 : w2.cell? ⟨w.heap.size, k * 3, none⟩ = some _ := block_cell hg2 (by omega)
      have f0 : w2.frozen? ⟨w.heap.size, k * 3, none⟩ = false := block_free hg2 _
      have t1 : w2.cell? ⟨w.heap.size, k * 3 + 1, none⟩ = some _ := block_cell hg2 (by omega)
      have f1 : w2.frozen? ⟨w.heap.size, k * 3 + 1, none⟩ = false := block_free hg2 _
      have t2 : w2.cell? ⟨w.heap.size, k * 3 + 2, none⟩ = some _ := block_cell hg2 (by omega)
      have f2 : w2.frozen? ⟨w.heap.size, k * 3 + 2, none⟩ = false := block_free hg2 _
      have HG2 := Lib.hid hg2
      clear hg2
      generalize cur[k * 3]'_ = z0 at t0
      generalize cur[k * 3 + 1]'_ = z1 at t1
      generalize cur[k * 3 + 2]'_ = z2 at t2
      go_wp2_with fail
      go_roundw
      case rel =>
        have hput : putAt cur (k * 3) [.slice Ar0 nr0 cr0, .slice Ar1 nr1 cr1, .bool gone_] = (((cur.setIfInBounds (k * 3) (.slice Ar0 nr0 cr0)).setIfInBounds (k * 3 + 1) (.slice Ar1 nr1 cr1)).setIfInBounds (k * 3 + 2) (.bool gone_)) := by simp only [putAt, Nat.add_assoc, Nat.reduceAdd]
        refine ⟨k + 1, by omega, by go_num, Below.setCell (p := ⟨w.heap.size, _, none⟩) (Below.setCell (p := ⟨w.heap.size, _, none⟩) (Below.setCell (p := ⟨w.heap.size, _, none⟩) (hB2) (Nat.le_refl _) _) (Nat.le_refl _) _) (Nat.le_refl _) _, by simpa using hs2, (((cur.setIfInBounds (k * 3) (.slice Ar0 nr0 cr0)).setIfInBounds (k * 3 + 1) (.slice Ar1 nr1 cr1)).setIfInBounds (k * 3 + 2) (.bool gone_)), block_set (block_set (block_set (HG2.out))), (by rw [← hput, putAt_size]; exact HC.out), Lib.hid ?_⟩
        rw [← hput]
        obtain ⟨o, HRo⟩ := HR.out
        have hst := (Step.setCell (p := ⟨w.heap.size, k * 3 + 2, none⟩) (Step.setCell (p := ⟨w.heap.size, k * 3 + 1, none⟩) (Step.setCell (p := ⟨w.heap.size, k * 3, none⟩) (Step.refl _ w2) (Nat.lt_succ_self _) (.slice Ar0 nr0 cr0)) (Nat.lt_succ_self _) (.slice Ar1 nr1 cr1)) (Nat.lt_succ_self _) (.bool gone_))
        refine ⟨fun b => if b < wr.heap.size then o b else k, ?_⟩
        refine RowR.step (n := n) (RowR.imp (R' := DiskO (fun b => if b < wr.heap.size then o b else k)) HRo (fun cs p h => DiskO.relabel h (fun b h1 h2 => if_pos h2))) (x := ((cells_, waits_, gone_), k)) (by rw [List.getElem?_zipIdx, HX.out]; simp) rfl HC.out hlt ?_ ?_
        · refine DiskO.wide (show w.heap.size + 1 ≤ wr.heap.size from hS) (Nat.le_refl _) (Nat.le_refl _) _ _ (DiskO.of ?_ (fun b h1 h2 => if_neg (by omega)))
          have h2 := DiskN.keep (fun j a b => hst.2 j (Nat.le_trans hS a) b) (Nat.le_of_eq hst.1.symm) _ _ G2.out
          rw [hst.1]; exact h2
        · intro cs p h
          have h2 := DiskO.keep (Same.of_below HK.out (Nat.le_refl _)) HK.out.size cs p h
          have h3 := DiskO.wide (Nat.le_refl _) HK.out.size (Nat.le_refl _) cs p h2
          have h4 := DiskO.keep (fun j a b => hst.2 j a b) (Nat.le_of_eq hst.1.symm) cs p h3
          rw [hst.1]; exact h4
      case measure => simp [intOf]; omega
    · obtain rfl : k = n := by omega
      obtain ⟨o, HRo⟩ := HR.out
      have hfin := RowR.slice (lo := w.heap.size) (hi := wr.heap.size) (c := k) (fun j x hj hx => (HRo j x hj hx).imp fun cs h => ⟨h.1, h.2.1, DiskO.wide (Nat.le_succ _) (Nat.le_refl _) (Nat.le_refl _) _ _ h.2.2⟩) (by simpa using hl.out) (by unfold maxLen; omega) (Nat.le_refl _) hg (Nat.le_refl _) hS (Nat.le_refl _)
      have HF := Lib.hid hfin; have HG := Lib.hid hg; have HC := Lib.hid hcs
      clear hfin HR HRo hg hcs
      go_wp2_with fail
      go_ret
      exact ⟨_, _, rfl, ⟨_, _, _, o, rfl, HF.out, .inr ⟨_, _, rfl, Nat.le_refl _, hS, HG.out, HC.out, Nat.le_refl _, by unfold maxLen; omega⟩⟩, hB⟩
set_option maxRecDepth 100000 in
set_option maxHeartbeats 2000000 in
theorem toRaid_any (cs : List Value) (x : RaidD) (w : World) (lo hi : Nat) (h : RaidR w lo hi cs x) (hz : sizeRaid x ≤ 1048576) :
    Calls Tryz.prog 11 #[.agg cs.toArray] w (NewR RaidN w x) := by
  obtain ⟨A, n, c, rfl, h0⟩ := h
  have H := Lib.hid h0; have HZ := Lib.hid hz
  clear h0 hz
  show Calls Tryz.prog 11 #[.agg #[.slice A n c]] w _
  go_enter Tryz.func11, Tryz.ntmps11
  go_wp2_with fail
  refine (toDiskS_any A n c x _ lo hi (SliceR.below H.out bel3 (DiskR.below bel3 H.out.lo_le)) HZ.out).mono ?_
  rintro e w1 ⟨A', c', rfl, hN, hb1⟩
  have z1 : w.heap.size + 3 ≤ w1.heap.size := by have := hb1.size; simp at this; omega
  have X1 : Below w.heap.size w w1 := bel3.trans (hb1.mono (by simp <;> omega))
  have hN : RaidN w1 (w.heap.size + 3) w1.heap.size [.slice A' n c'] x := by simpa using hN
  have hr : w1.heap[w.heap.size + 1]? = some (.cells #[.slice none 0 0] 25 (0, 0)) := (hb1.block _ (by simp <;> omega)).trans al3_1
  have hq : w1.heap[w.heap.size + 2]? = some (.cells #[.slice none 0 0] 25 (0, 0)) := (hb1.block _ (by simp <;> omega)).trans al3_2
  have HN := Lib.hid hN; have HX := Lib.hid X1
  have r0 := cell_of_row _ _ 0 _ _ (0, 0) hr; have q0 := cell_of_row _ _ 0 _ _ (0, 0) hq
  have fr := block_free hr 0; have fq := block_free hq 0
  have l1 : w.heap.size + 1 < w1.heap.size := by omega
  have l2 : w.heap.size + 1 + 1 < w1.heap.size := by omega
  have s0 := cell_of_row _ _ 0 _ _ (0, 0) (block_set (o := 0) (v := .slice A' n c') ((heap_far (w := w1) (p := ⟨w.heap.size + 1 + 1, 0, none⟩) (v := .slice A' n c') (by simp <;> omega)).trans hr))
  clear hr hq hb1 hN X1
  go_wp2_with fail
  refine bodyPost_ret (v := .agg #[.slice A' n c']) (by simp [results, Tryz.results11, go_sem, s0]) rfl ⟨_, rfl, ?_, ?_⟩
  · exact RaidN.wide (by omega) (by simp [World.setCell]) (Nat.le_refl _) _ _ (RaidN.keep (Same.setCell (p := ⟨w.heap.size + 1, 0, none⟩) (Same.setCell (p := ⟨w.heap.size + 1 + 1, 0, none⟩) (Same.refl _ _ _) (.inl (by simp <;> omega)) _) (.inl (by simp <;> omega)) _) (by simp [World.setCell]) _ _ HN.out)
  · exact Below.setCell (p := ⟨w.heap.size + 1, 0, none⟩) (Below.setCell (p := ⟨w.heap.size + 1 + 1, 0, none⟩) HX.out (by simp <;> omega) _) (by simp <;> omega) _
end Go.Proofs.YtggdjiklgakfnaaGreatDoor
