/- to at each type: a copy in new memory. No condition. -/
import Derived.Test.YtlacpcdbgimnmaaDoorTypes
import Derived.Test.YtlacpcdbgimnmaaDoorChecked
namespace Go.Proofs.YtlacpcdbgimnmaaDoor
set_option linter.unusedVariables false
set_option linter.unusedSimpArgs false
set_option linter.unnecessarySimpa false
open Go.RowKit

def sizePtr (x : PtrD) : Nat := 0
def sizeTree (x : TreeD) : Nat := 0
def sizeRoot (x : RootD) : Nat := 0
def sizeFound (x : FoundD) : Nat := x.1.size
def sizeThing (x : ThingD) : Nat := x.2.2.size
def sizeWait (x : WaitD) : Nat := x.2.size
def sizeOp (x : OpD) : Nat := x.2.1.size + x.2.2.1.size + x.2.2.2.2.size
def sizeHead (x : HeadD) : Nat := x.1.size + x.2.2.2.1.length
def sizeSnap (x : SnapD) : Nat := x.2.1.size + x.2.2.2.2.2.length
def sizeFlat (x : FlatD) : Nat := x.1.length + (x.1.map sizeFound).sum + x.2.length + (x.2.map sizeThing).sum
def sizeMeta (x : MetaD) : Nat := x.1.length + (x.1.map sizeHead).sum + x.2.1.length + (x.2.1.map sizeSnap).sum
def sizeCache (x : CacheD) : Nat := x.2.2.1.length + x.2.2.2.1.length + x.2.2.2.2.1.length + x.2.2.2.2.2.length
def sizeDisk (x : DiskD) : Nat := x.1.length + (x.1.map ByteArray.size).sum + x.2.1.length + (x.2.1.map sizeWait).sum
def sizeIntent (x : IntentD) : Nat := x.2.2.1.size + x.2.2.2.2.1.size + x.2.2.2.2.2.1.size + x.2.2.2.2.2.2.2.size
set_option maxRecDepth 100000 in
set_option maxHeartbeats 2000000 in
theorem toPtrF_any (cs : List Value) (x : PtrD) (w w0 : World) (lo hi : Nat) (h : PtrR w0 lo hi cs x) :
    Calls Tryd.prog 61 #[.agg cs.toArray] w fun e w' => e = .returned (.agg cs.toArray) ∧ Below w.heap.size w w' := by
  obtain ⟨at_, birth_, size_, sum_, level_⟩ := x
  obtain rfl := h
  show Calls Tryd.prog 61 #[.agg #[.int .i64 at_, .int .i64 birth_, .int .i64 size_, .int .i64 sum_, .int .i64 level_]] w _
  go_enter Tryd.func61, Tryd.ntmps61
  go_wp2
  exact bodyPost_ret (v := .agg #[.int .i64 at_, .int .i64 birth_, .int .i64 size_, .int .i64 sum_, .int .i64 level_]) (by simp [results, Tryd.results61, go_sem]) rfl ⟨rfl, by repeat (first | exact Below.refl _ _ | assumption | refine Below.setCell ?_ (by simp <;> omega) _ | refine Below.alloc ?_ (by simp <;> omega) _)⟩

theorem info_PtrS : (Tryd.prog.info? 43).map (fun i => (i.zero, i.size, i.bytes)) = some (some (.agg #[.int .i64 0, .int .i64 0, .int .i64 0, .int .i64 0, .int .i64 0]), 5, 40) := by kernel_rfl
theorem make_PtrS (n : Nat) (hn : n ≤ 1048576) (w : World) :
    (Instr.makeSlice 46 (.int .i64 (n : Int)) (.int .i64 (n : Int))).run Tryd.prog w = .ok (.slice (some ⟨w.heap.size, 0, none⟩) n n) (w.alloc (.cells (madeCells #[.int .i64 0, .int .i64 0, .int .i64 0, .int .i64 0, .int .i64 0] (n * 5)) 43)) := by
  obtain ⟨i, hi, hz, hs, hb⟩ := info_parts info_PtrS
  have hr := run_make (P := Tryd.prog) w 46 43 i (.agg #[.int .i64 0, .int .i64 0, .int .i64 0, .int .i64 0, .int .i64 0]) Tryd.underlying46 hi hz .i64 .i64 n n (by omega) (by omega) (by rw [hb]; omega) (by omega)
  simp only [Int.toNat_natCast, hs] at hr
  exact hr

set_option maxRecDepth 100000 in
set_option maxHeartbeats 2000000 in
theorem toPtrS_any (A : Option Addr) (n c : Nat) (xs : List PtrD) (w : World) (lo hi : Nat) (h : SliceR PtrR 5 w lo hi A n c xs) (hz : xs.length ≤ 1048576) :
    Calls Tryd.prog 46 #[.slice A n c] w (NewSl PtrR 5 w n xs) := by
  have hl := Lib.hid h.len
  have hn : n ≤ 1048576 := by have := h.len; omega
  have HZ := Lib.hid hz
  clear hz
  have hmk := make_PtrS n hn w
  have H := Lib.hid h
  clear h
  go_enter Tryd.func46, Tryd.ntmps46
  go_wp2_with fail
  have hrow : ∃ cur, (w.alloc (.cells (madeCells #[.int .i64 0, .int .i64 0, .int .i64 0, .int .i64 0, .int .i64 0] (n * 5)) 43)).heap[w.heap.size]? = some (.cells cur 43 (0, 0)) ∧ cur.size = n * 5 := ⟨_, heap_alloc_new w _, size_madeCells _ _⟩
  generalize hW : w.alloc (.cells (madeCells #[.int .i64 0, .int .i64 0, .int .i64 0, .int .i64 0, .int .i64 0] (n * 5)) 43) = w1 at *
  have hb1 : Below w.heap.size w w1 := by rw [← hW]; exact bel1
  have hs1 : w.heap.size < w1.heap.size := by rw [← hW]; simp
  clear hW hmk
  have rel0 : ∃ cur, w1.heap[w.heap.size]? = some (.cells cur 43 (0, 0)) ∧ cur.size = n * 5 ∧ Hid (RowR PtrR 5 w1 (w.heap.size + 1) w1.heap.size cur 0 xs) := by
    obtain ⟨cur, h1, h2⟩ := hrow
    exact ⟨cur, h1, h2, Lib.hid (fun j x hj => absurd hj (by omega))⟩
  clear hrow
  go_loopw [4] (fun i wr => ∃ k : Nat, k ≤ n ∧ i = .int .i64 k ∧ Below w.heap.size w wr ∧ w.heap.size < wr.heap.size ∧ ∃ cur, wr.heap[w.heap.size]? = some (.cells cur 43 (0, 0)) ∧ cur.size = n * 5 ∧ Hid (RowR PtrR 5 wr (w.heap.size + 1) wr.heap.size cur k xs)) (fun i _ => n - (intOf i).toNat)
  case atStart => exact ⟨0, Nat.zero_le _, rfl, hb1, hs1, rel0⟩
  case round =>
    clear rel0 hb1 hs1
    obtain ⟨k, hk, rfl, hB, hS, cur, hg, hcs, HR⟩ := hrel
    by_cases hlt : k < n
    · obtain ⟨x, hx⟩ : ∃ x, xs[k]? = some x := ⟨xs[k]'(by rw [hl.out]; exact hlt), List.getElem?_eq_getElem _⟩
      obtain ⟨b, off, rfl, _, _, bl, hc⟩ := (SliceR.below H.out hB (PtrR.below hB H.out.lo_le)).at_ (by omega)
      obtain ⟨cs, hcl, hcc, hr⟩ := hc k x hx
      clear hc
      have hhi : hi ≤ wr.heap.size := Nat.le_trans H.out.lo_le hB.size
      obtain ⟨at_, birth_, size_, sum_, level_⟩ := x
      have hr0 := hr
      obtain rfl := hr0
      have G := Lib.hid hr
      have q0 := hcc 0 _ rfl
      have q1 := hcc 1 _ rfl
      have q2 := hcc 2 _ rfl
      have q3 := hcc 3 _ rfl
      have q4 := hcc 4 _ rfl
      simp only [Nat.add_zero] at q0
      clear hcc hcl hr 
      have k0 : (0 : Int) ≤ (k : Int) := by omega
      have k1 : (k : Int) < (n : Int) := by omega
      have HX := Lib.hid hx
      clear hx
      have HG := Lib.hid hg
      have hkn : k * 5 + 5 ≤ cur.size := by rw [hcs]; omega
      have HC := Lib.hid hcs
      clear hg hcs
      go_wp2_with fail
      refine (toPtrF_any [.int .i64 at_, .int .i64 birth_, .int .i64 size_, .int .i64 sum_, .int .i64 level_] _ _ wr _ _ G.out).mono ?_
      rintro e w2 ⟨rfl, hb2⟩
      have hg2 := (hb2.block _ hS).trans HG.out
      have hs2 : w.heap.size < w2.heap.size := Nat.lt_of_lt_of_le hS hb2.size
      have hB2 : Below w.heap.size w w2 := hB.trans (hb2.mono hB.size)
      have HK := Lib.hid hb2
      clear hb2 bl q0 q1 q2 q3 q4
      have t0 : w2.cell? ⟨w.heap.size, k * 5, none⟩ = some _ := block_cell hg2 (by omega)
      have f0 : w2.frozen? ⟨w.heap.size, k * 5, none⟩ = false := block_free hg2 _
      have t1 : w2.cell? ⟨w.heap.size, k * 5 + 1, none⟩ = some _ := block_cell hg2 (by omega)
      have f1 : w2.frozen? ⟨w.heap.size, k * 5 + 1, none⟩ = false := block_free hg2 _
      have t2 : w2.cell? ⟨w.heap.size, k * 5 + 2, none⟩ = some _ := block_cell hg2 (by omega)
      have f2 : w2.frozen? ⟨w.heap.size, k * 5 + 2, none⟩ = false := block_free hg2 _
      have t3 : w2.cell? ⟨w.heap.size, k * 5 + 3, none⟩ = some _ := block_cell hg2 (by omega)
      have f3 : w2.frozen? ⟨w.heap.size, k * 5 + 3, none⟩ = false := block_free hg2 _
      have t4 : w2.cell? ⟨w.heap.size, k * 5 + 4, none⟩ = some _ := block_cell hg2 (by omega)
      have f4 : w2.frozen? ⟨w.heap.size, k * 5 + 4, none⟩ = false := block_free hg2 _
      have HG2 := Lib.hid hg2
      clear hg2
      generalize cur[k * 5]'_ = z0 at t0
      generalize cur[k * 5 + 1]'_ = z1 at t1
      generalize cur[k * 5 + 2]'_ = z2 at t2
      generalize cur[k * 5 + 3]'_ = z3 at t3
      generalize cur[k * 5 + 4]'_ = z4 at t4
      go_wp2_with fail
      go_roundw
      case rel =>
        have hput : putAt cur (k * 5) [.int .i64 at_, .int .i64 birth_, .int .i64 size_, .int .i64 sum_, .int .i64 level_] = (((((cur.setIfInBounds (k * 5) (.int .i64 at_)).setIfInBounds (k * 5 + 1) (.int .i64 birth_)).setIfInBounds (k * 5 + 2) (.int .i64 size_)).setIfInBounds (k * 5 + 3) (.int .i64 sum_)).setIfInBounds (k * 5 + 4) (.int .i64 level_)) := by simp only [putAt, Nat.add_assoc, Nat.reduceAdd]
        refine ⟨k + 1, by omega, by go_num, Below.setCell (p := ⟨w.heap.size, _, none⟩) (Below.setCell (p := ⟨w.heap.size, _, none⟩) (Below.setCell (p := ⟨w.heap.size, _, none⟩) (Below.setCell (p := ⟨w.heap.size, _, none⟩) (Below.setCell (p := ⟨w.heap.size, _, none⟩) (hB2) (Nat.le_refl _) _) (Nat.le_refl _) _) (Nat.le_refl _) _) (Nat.le_refl _) _) (Nat.le_refl _) _, by simpa using hs2, (((((cur.setIfInBounds (k * 5) (.int .i64 at_)).setIfInBounds (k * 5 + 1) (.int .i64 birth_)).setIfInBounds (k * 5 + 2) (.int .i64 size_)).setIfInBounds (k * 5 + 3) (.int .i64 sum_)).setIfInBounds (k * 5 + 4) (.int .i64 level_)), block_set (block_set (block_set (block_set (block_set (HG2.out))))), (by rw [← hput, putAt_size]; exact HC.out), Lib.hid ?_⟩
        rw [← hput]
        refine RowR.step (n := n) HR.out HX.out rfl HC.out hlt ?_ ?_
        · exact G.out
        · exact fun _ _ h => h
      case measure => simp [intOf]; omega
    · obtain rfl : k = n := by omega
      have hfin := RowR.slice (lo := w.heap.size) (hi := wr.heap.size) (c := k) (fun j x hj hx => (HR.out j x hj hx).imp fun cs h => ⟨h.1, h.2.1, PtrR.wide (Nat.le_succ _) (Nat.le_refl _) (Nat.le_refl _) _ _ h.2.2⟩) hl.out (by unfold maxLen; omega) (Nat.le_refl _) hg (Nat.le_refl _) hS (Nat.le_refl _)
      have HF := Lib.hid hfin
      clear hfin HR hg hcs
      go_wp2_with fail
      go_ret
      exact ⟨_, _, rfl, HF.out, hB⟩

set_option maxRecDepth 100000 in
set_option maxHeartbeats 2000000 in
theorem toTreeF_any (cs : List Value) (x : TreeD) (w w0 : World) (lo hi : Nat) (h : TreeR w0 lo hi cs x) :
    Calls Tryd.prog 45 #[.agg cs.toArray] w fun e w' => e = .returned (.agg cs.toArray) ∧ Below w.heap.size w w' := by
  obtain ⟨⟨root_at_, root_birth_, root_size_, root_sum_, root_level_⟩, depth_, many_⟩ := x
  obtain rfl := h
  show Calls Tryd.prog 45 #[.agg #[.int .i64 root_at_, .int .i64 root_birth_, .int .i64 root_size_, .int .i64 root_sum_, .int .i64 root_level_, .int .i64 depth_, .int .i64 many_]] w _
  go_enter Tryd.func45, Tryd.ntmps45
  go_wp2
  refine bodyPost_ret (v := .agg #[.int .i64 root_at_, .int .i64 root_birth_, .int .i64 root_size_, .int .i64 root_sum_, .int .i64 root_level_]) (by simp [results, Tryd.results61, go_sem]) rfl ?_
  go_wp2
  exact bodyPost_ret (v := .agg #[.int .i64 root_at_, .int .i64 root_birth_, .int .i64 root_size_, .int .i64 root_sum_, .int .i64 root_level_, .int .i64 depth_, .int .i64 many_]) (by simp [results, Tryd.results45, go_sem]) rfl ⟨rfl, by repeat (first | exact Below.refl _ _ | assumption | refine Below.setCell ?_ (by simp <;> omega) _ | refine Below.alloc ?_ (by simp <;> omega) _)⟩








end Go.Proofs.YtlacpcdbgimnmaaDoor
