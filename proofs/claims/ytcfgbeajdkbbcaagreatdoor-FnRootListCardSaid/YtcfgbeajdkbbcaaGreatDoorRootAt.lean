/- The root in a row: rootAt, l22At and RootAt of the program and of the reference. Condition: the tables that strconv's functions read lie as their initialisers lay them. -/
import Derived.Test.YtcfgbeajdkbbcaaGreatDoorRootsPlain
import Derived.Test.YtcfgbeajdkbbcaaGreatDoorRootGet
import Derived.Test.YtcfgbeajdkbbcaaGreatDoorL3Read
import Derived.Test.YtcfgbeajdkbbcaaGreatDoorLib
namespace Go.Proofs.YtcfgbeajdkbbcaaGreatDoor
set_option linter.unnecessarySimpa false
open Go Go.Lib Go.RowKit
set_option linter.unusedVariables false
set_option linter.unusedSimpArgs false

theorem look_size {d : DiskD} (h : diskOk d = true) (a : Int) : (lookD d a).size ≤ 200 := by
  unfold diskOk at h
  simp only [Bool.and_eq_true] at h
  obtain ⟨⟨⟨⟨_, _⟩, h1⟩, _⟩, h2⟩ := h
  rw [List.all_eq_true] at h1 h2
  unfold lookD
  split
  · rename_i w hw
    have := h2 w (by have := List.mem_of_find?_eq_some hw; simpa using this)
    unfold waitOk at this
    simpa using ((Bool.and_eq_true _ _).mp this).2
  · rw [List.getD_eq_getElem?_getD]
    cases hx : d.1[a.toNat]? with
    | none => simp
    | some s =>
      have := h1 s (List.mem_of_getElem? hx)
      unfold textOk at this
      simpa using ((Bool.and_eq_true _ _).mp this).1
theorem diskOk_64 {d : DiskD} (h : diskOk d = true) : d.1.length = 64 := by
  unfold diskOk at h
  simp only [Bool.and_eq_true] at h
  simpa using h.1.1.1.1
theorem raidOk_all {x : RaidD} (h : raidOk x = true) : ∀ d ∈ x, diskOk d = true := by
  unfold raidOk at h
  have := ((Bool.and_eq_true _ _).mp h).2
  rwa [List.all_eq_true] at this
def rcA (x : RootD) : Array Value := #[.int .i64 x.1, .int .i64 x.2.1.1, .int .i64 x.2.1.2.1, .int .i64 x.2.1.2.2.1, .int .i64 x.2.1.2.2.2.1, .int .i64 x.2.1.2.2.2.2, .int .i64 x.2.2.1, .int .i64 x.2.2.2]
/-- What RootAt leaves: a root and a truth. -/
def GotAt (y : RootD) (b : Bool) (w : World) (e : Ending) (w' : World) : Prop := e = .returned (.tuple #[.agg (rcA y), .bool b]) ∧ Below w.heap.size w w'
theorem stepR_gone {row : Int} {y : RootD} {d : DiskD} (h : d.2.2 = true) : stepR row y d = y := if_pos h
theorem stepR_no {row : Int} {y : RootD} {d : DiskD} {x : Str} {z : RootD} {ok : Bool} (hg : d.2.2 = false) (hx : lookD d row = strB x) (hz : rootOfT x = (z, ok)) (h : ¬ (ok = true ∧ z.1 % 4 = row ∧ y.1 < z.1)) : stepR row y d = y := by
  unfold stepR bestR
  rw [hg, if_neg (by simp), hx]
  have e : (strB x).data.toList = x := by simp [strB]
  rw [e, hz]
  exact if_neg h
theorem stepR_yes {row : Int} {y : RootD} {d : DiskD} {x : Str} {z : RootD} (hg : d.2.2 = false) (hx : lookD d row = strB x) (hz : rootOfT x = (z, true)) (h : z.1 % 4 = row ∧ y.1 < z.1) : stepR row y d = z := by
  unfold stepR bestR
  rw [hg, if_neg (by simp), hx]
  have e : (strB x).data.toList = x := by simp [strB]
  rw [e, hz]
  exact if_pos ⟨rfl, h⟩
theorem far8 {w : World} {r b : Nat} {x0 x1 x2 x3 x4 x5 x6 x7 : Value} (h : b ≠ r) :
    ((((((((w.setCell ⟨r, 0, none⟩ x0).setCell ⟨r, 1, none⟩ x1).setCell ⟨r, 2, none⟩ x2).setCell ⟨r, 3, none⟩ x3).setCell ⟨r, 4, none⟩ x4).setCell ⟨r, 5, none⟩ x5).setCell ⟨r, 6, none⟩ x6).setCell ⟨r, 7, none⟩ x7).heap[b]? = w.heap[b]? := by
  exact (heap_far (p := ⟨r, 7, none⟩) h).trans ((heap_far (p := ⟨r, 6, none⟩) h).trans ((heap_far (p := ⟨r, 5, none⟩) h).trans ((heap_far (p := ⟨r, 4, none⟩) h).trans ((heap_far (p := ⟨r, 3, none⟩) h).trans ((heap_far (p := ⟨r, 2, none⟩) h).trans ((heap_far (p := ⟨r, 1, none⟩) h).trans (heap_far (p := ⟨r, 0, none⟩) h)))))))
theorem sizeS {w : World} {b o : Nat} {v : Value} : (w.setCell ⟨b, o, none⟩ v).heap.size = w.heap.size := by simp [World.setCell]
theorem size8 {w : World} {r : Nat} {x0 x1 x2 x3 x4 x5 x6 x7 : Value} :
    ((((((((w.setCell ⟨r, 0, none⟩ x0).setCell ⟨r, 1, none⟩ x1).setCell ⟨r, 2, none⟩ x2).setCell ⟨r, 3, none⟩ x3).setCell ⟨r, 4, none⟩ x4).setCell ⟨r, 5, none⟩ x5).setCell ⟨r, 6, none⟩ x6).setCell ⟨r, 7, none⟩ x7).heap.size = w.heap.size := by
  rw [sizeS, sizeS, sizeS, sizeS, sizeS, sizeS, sizeS, sizeS]
theorem belowS {n b o : Nat} {w0 w : World} {v : Value} (h : Below n w0 w) (hr : n ≤ b) : Below n w0 (w.setCell ⟨b, o, none⟩ v) := Below.setCell (p := ⟨b, o, none⟩) h hr v
theorem below8 {n : Nat} {w0 w : World} {r : Nat} {x0 x1 x2 x3 x4 x5 x6 x7 : Value} (h : Below n w0 w) (hr : n ≤ r) : Below n w0 ((((((((w.setCell ⟨r, 0, none⟩ x0).setCell ⟨r, 1, none⟩ x1).setCell ⟨r, 2, none⟩ x2).setCell ⟨r, 3, none⟩ x3).setCell ⟨r, 4, none⟩ x4).setCell ⟨r, 5, none⟩ x5).setCell ⟨r, 6, none⟩ x6).setCell ⟨r, 7, none⟩ x7) :=
  belowS (belowS (belowS (belowS (belowS (belowS (belowS (belowS h hr) hr) hr) hr) hr) hr) hr) hr
set_option maxRecDepth 100000 in
set_option maxHeartbeats 4000000 in
theorem rootAt_any (A : Option Addr) (n c : Nat) (x : RaidD) (r : Nat) (w : World) (lo hi : Nat) (he : Env w) (h : SliceR DiskR 3 w lo hi A n c x) (hok : ∀ d ∈ x, diskOk d = true) (hr : r < 4) :
    Calls Tryz.prog 30 #[.agg #[.slice A n c], .int .i64 (r : Int)] w (GotAt (rootAtF x (r : Int)) (decide (0 < (rootAtF x (r : Int)).1)) w) := by
  have HL := Lib.hid h.len
  have hm := h.max
  have H := Lib.hid h; have HOK := Lib.hid hok
  clear h hok
  obtain ⟨rd, hrd⟩ : ∃ d, d = rootAtF x (r : Int) := ⟨_, rfl⟩
  rw [← hrd]
  have HRD := Lib.hid hrd; clear hrd
  go_enter Tryz.func30, Tryz.ntmps30
  go_wp2_with fail
  obtain ⟨w1, hW⟩ : ∃ w1, w1 = ((w.alloc (.cells #[.slice A n c] 36)).alloc (.cells #[.int .i64 0, .int .i64 0, .int .i64 0, .int .i64 0, .int .i64 0, .int .i64 0, .int .i64 0, .int .i64 0] 31)).alloc (.cells #[.int .i64 0, .int .i64 0, .int .i64 0, .int .i64 0, .int .i64 0, .int .i64 0, .int .i64 0, .int .i64 0] 31) := ⟨_, rfl⟩
  have X1 : Below w.heap.size w w1 := by rw [hW]; exact bel3
  have z1 : w1.heap.size = w.heap.size + 3 := by rw [hW]; simp
  have k0 : w1.heap[w.heap.size]? = some (.cells #[.slice A n c] 36 (0, 0)) := by rw [hW]; exact al3_0
  have k1 : w1.heap[w.heap.size + 1]? = some (.cells #[.int .i64 0, .int .i64 0, .int .i64 0, .int .i64 0, .int .i64 0, .int .i64 0, .int .i64 0, .int .i64 0] 31 (0, 0)) := by rw [hW]; exact al3_1
  have k2 : w1.heap[w.heap.size + 1 + 1]? = some (.cells #[.int .i64 0, .int .i64 0, .int .i64 0, .int .i64 0, .int .i64 0, .int .i64 0, .int .i64 0, .int .i64 0] 31 (0, 0)) := by rw [hW]; exact al3_2
  rw [← hW]; clear hW
  have HX1 := Lib.hid X1; have K0 := Lib.hid k0; have K1 := Lib.hid k1; have K2 := Lib.hid k2
  clear X1 k0 k1 k2
  go_loopw [14] (fun i wr => ∃ k : Nat, k ≤ n ∧ i = .int .i64 (k : Int) ∧ w.heap.size + 3 ≤ wr.heap.size ∧ Hid (Below w.heap.size w wr) ∧ Hid (wr.heap[w.heap.size]? = some (.cells #[.slice A n c] 36 (0, 0))) ∧ Hid (wr.heap[w.heap.size + 1]? = some (.cells #[.int .i64 0, .int .i64 0, .int .i64 0, .int .i64 0, .int .i64 0, .int .i64 0, .int .i64 0, .int .i64 0] 31 (0, 0))) ∧ Hid (wr.heap[w.heap.size + 1 + 1]? = some (.cells (rcA (rootAtF (x.take k) (r : Int))) 31 (0, 0)))) (fun i _ => n - (RowKit.intOf i).toNat)
  case atStart => exact ⟨0, Nat.zero_le _, rfl, by omega, HX1, K0, K1, Lib.hid (by rw [K2.out]; rfl)⟩
  case round =>
    clear HX1 K0 K1 K2 z1
    obtain ⟨k, hk, rfl, hz, HB, R0, R1, R2⟩ := hrel
    have l2 : w.heap.size + 1 + 1 < wr.heap.size := by omega
    have l0 : w.heap.size < wr.heap.size := by omega
    have q := cell_of_row _ _ 0 _ _ (0, 0) R0.out
    by_cases hlt : k < n
    · obtain ⟨d, hx⟩ : ∃ d, x[k]? = some d := ⟨x[k]'(by rw [HL.out]; exact hlt), List.getElem?_eq_getElem _⟩
      have hdk := HOK.out d (List.mem_of_getElem? hx)
      have HS := Lib.hid (rootAt_take (row := (r : Int)) hx)
      obtain ⟨best, hbest⟩ : ∃ b, b = rootAtF (x.take k) (r : Int) := ⟨_, rfl⟩
      have HG := Lib.hid (show GoodR (r : Int) best from hbest ▸ rootAt_good _ _)
      rw [← hbest] at HS R2
      have HBEST := Lib.hid hbest; clear hbest
      obtain ⟨bt, ⟨ba, bb, bs, bm, bl⟩, bd, bn⟩ := best
      have R2' : Hid (wr.heap[w.heap.size + 1 + 1]? = some (.cells #[.int .i64 bt, .int .i64 ba, .int .i64 bb, .int .i64 bs, .int .i64 bm, .int .i64 bl, .int .i64 bd, .int .i64 bn] 31 (0, 0))) := Lib.hid R2.out
      obtain ⟨b, off, rfl, _, _, bl_, hc⟩ := (SliceR.below H.out HB.out (DiskR.below HB.out H.out.lo_le)).at_ (by omega)
      obtain ⟨cs, hcl, hcc, hD⟩ := hc k d hx
      have hhi : hi ≤ wr.heap.size := Nat.le_trans H.out.lo_le HB.out.size
      have HD := Lib.hid hD
      clear hc
      have HDK := Lib.hid hdk; clear hdk hx
      obtain ⟨gone, hgone⟩ : ∃ g, g = d.2.2 := ⟨_, rfl⟩
      have HGN := Lib.hid hgone.symm
      obtain ⟨A0, n0, c0, A1, n1, c1, rfl, h0, h1⟩ := hD
      rw [← hgone] at HD hcc
      clear hgone h0 h1
      have q0 := hcc 0 _ rfl
      have q1 := hcc 1 _ rfl
      have q2 := hcc 2 _ rfl
      simp only [Nat.add_zero] at q0
      clear hcc hcl
      have kk0 : (0 : Int) ≤ (k : Int) := by omega
      have kk1 : (k : Int) < (n : Int) := by omega
      cases gone
      rotate_left
      · have HF := Lib.hid (HS.out.trans (stepR_gone HGN.out))
        go_wp2_with fail
        go_roundw
        case rel => exact ⟨k + 1, by omega, by go_num, by simp; omega, Lib.hid (HB.out.alloc HB.out.size _), Lib.hid ((Below.heap_alloc _ _ _ l0).trans R0.out), Lib.hid ((Below.heap_alloc _ _ _ (by omega)).trans R1.out), Lib.hid (by rw [HF.out]; exact (Below.heap_alloc _ _ _ l2).trans R2'.out)⟩
        case measure => simp [RowKit.intOf]; omega
      go_wp2_with fail
      refine (look_any _ d r _ _ _ (DiskR.below bel1 hhi _ _ HD.out) (by have := diskOk_64 HDK.out; omega)).mono ?_
      rintro e w2 ⟨rfl, hb2⟩
      have hbw : Below wr.heap.size wr w2 := bel1.trans (hb2.mono (by simp))
      obtain ⟨y, hy⟩ : ∃ y : Str, lookD d (r : Int) = strB y := ⟨(lookD d (r : Int)).data.toList, (strB_data _).symm⟩
      have hys : y.length ≤ 200 := by have h1 := look_size HDK.out (r : Int); rw [hy] at h1; exact h1
      rw [hy]
      have HY := Lib.hid hy; clear hy hb2
      have HBW := Lib.hid hbw
      have HB2 : Below w.heap.size w w2 := HB.out.trans (hbw.mono HB.out.size)
      have z2 := hbw.size
      clear hbw q0 q1 q2 q
      go_wp2_with fail
      refine (rootGet_any y _ (he.below HB2) (by omega)).mono ?_
      rintro e w3 ⟨t, a, b_, s_, m_, l_, d_, n_, ok, rfl, RI, hb3⟩
      have HRF := Lib.hid (rootOfT_eq RI)
      have hti : ok = true → 1 ≤ t ∧ t ≤ 900 := fun hk => by
        rcases RI with ⟨_, h1, _⟩ | ⟨h1, _⟩
        · exact (rootOk_parts h1).1
        · rw [hk] at h1; cases h1
      have HBW3 : Hid (Below wr.heap.size wr w3) := Lib.hid (HBW.out.trans (hb3.mono z2))
      have HB3 : Hid (Below w.heap.size w w3) := Lib.hid (HB2.trans (hb3.mono HB2.size))
      have z3 := hb3.size
      clear RI hb3 HBW HB2
      have R03 : Hid (w3.heap[w.heap.size]? = some (.cells #[.slice (some ⟨b, off, none⟩) n c] 36 (0, 0))) := Lib.hid ((HBW3.out.block _ l0).trans R0.out)
      have R13 : Hid (w3.heap[w.heap.size + 1]? = some (.cells #[.int .i64 0, .int .i64 0, .int .i64 0, .int .i64 0, .int .i64 0, .int .i64 0, .int .i64 0, .int .i64 0] 31 (0, 0))) := Lib.hid ((HBW3.out.block _ (by omega)).trans R1.out)
      have R23 : Hid (w3.heap[w.heap.size + 1 + 1]? = some (.cells #[.int .i64 bt, .int .i64 ba, .int .i64 bb, .int .i64 bs, .int .i64 bm, .int .i64 bl, .int .i64 bd, .int .i64 bn] 31 (0, 0))) := Lib.hid ((HBW3.out.block _ l2).trans R2'.out)
      have lw3 : w.heap.size + 1 + 1 < w3.heap.size := by omega
      cases ok
      · have HF := Lib.hid (HS.out.trans (stepR_no HGN.out HY.out HRF.out (by simp)))
        go_wp2_with fail
        go_roundw
        case rel => exact ⟨k + 1, by omega, by go_num, by simp; omega, Lib.hid (HB3.out.alloc HB3.out.size _), Lib.hid ((Below.heap_alloc _ _ _ (by omega)).trans R03.out), Lib.hid ((Below.heap_alloc _ _ _ (by omega)).trans R13.out), Lib.hid (by rw [HF.out]; exact (Below.heap_alloc _ _ _ lw3).trans R23.out)⟩
        case measure => simp [RowKit.intOf]; omega
      have hti := hti rfl
      have hrem : IntKind.i64.wrap (t.tmod 4) = t % 4 := by rw [Int.tmod_eq_emod_of_nonneg (by omega), IntWalk.i64_in _ (by omega)]
      have r0 := cell_of_row _ _ 0 _ _ (0, 0) R23.out
      by_cases h4 : t % 4 = (r : Int)
      rotate_left
      · have HF := Lib.hid (HS.out.trans (stepR_no HGN.out HY.out HRF.out (fun h => h4 h.2.1)))
        have d4 : (t % 4 == (r : Int)) = false := by simpa using h4
        go_wp2_with fail
        go_roundw
        case rel => exact ⟨k + 1, by omega, by go_num, by simp; omega, Lib.hid (HB3.out.alloc HB3.out.size _), Lib.hid ((Below.heap_alloc _ _ _ (by omega)).trans R03.out), Lib.hid ((Below.heap_alloc _ _ _ (by omega)).trans R13.out), Lib.hid (by rw [HF.out]; exact (Below.heap_alloc _ _ _ lw3).trans R23.out)⟩
        case measure => simp [RowKit.intOf]; omega
      have d4 : (t % 4 == (r : Int)) = true := by simpa using h4
      by_cases hgt : bt < t
      rotate_left
      · have HF := Lib.hid (HS.out.trans (stepR_no HGN.out HY.out HRF.out (fun h => hgt h.2.2)))
        go_wp2_with fail
        go_roundw
        case rel => exact ⟨k + 1, by omega, by go_num, by simp; omega, Lib.hid (HB3.out.alloc HB3.out.size _), Lib.hid ((Below.heap_alloc _ _ _ (by omega)).trans R03.out), Lib.hid ((Below.heap_alloc _ _ _ (by omega)).trans R13.out), Lib.hid (by rw [HF.out]; exact (Below.heap_alloc _ _ _ lw3).trans R23.out)⟩
        case measure => simp [RowKit.intOf]; omega
      have HF := Lib.hid (HS.out.trans (stepR_yes HGN.out HY.out HRF.out ⟨h4, hgt⟩))
      have f0 := block_free R23.out 0; have f1 := block_free R23.out 1; have f2 := block_free R23.out 2; have f3 := block_free R23.out 3
      have f4 := block_free R23.out 4; have f5 := block_free R23.out 5; have f6 := block_free R23.out 6; have f7 := block_free R23.out 7
      have r1 := cell_of_row _ _ 1 _ _ (0, 0) R23.out; have r2 := cell_of_row _ _ 2 _ _ (0, 0) R23.out; have r3 := cell_of_row _ _ 3 _ _ (0, 0) R23.out
      have r4 := cell_of_row _ _ 4 _ _ (0, 0) R23.out; have r5 := cell_of_row _ _ 5 _ _ (0, 0) R23.out; have r6 := cell_of_row _ _ 6 _ _ (0, 0) R23.out; have r7 := cell_of_row _ _ 7 _ _ (0, 0) R23.out
      go_wp2_with fail
      go_roundw
      case rel => exact ⟨k + 1, by omega, by go_num, Nat.le_trans (Nat.le_trans (show w.heap.size + 3 ≤ w3.heap.size by omega) (Nat.le_of_eq size8.symm)) bel1.size, Lib.hid (Below.alloc (below8 HB3.out (by omega)) (by rw [size8]; omega) _), Lib.hid ((Below.heap_alloc _ _ _ (by rw [size8]; omega)).trans ((far8 (by omega)).trans R03.out)), Lib.hid ((Below.heap_alloc _ _ _ (by rw [size8]; omega)).trans ((far8 (by omega)).trans R13.out)), Lib.hid (by rw [HF.out]; exact (Below.heap_alloc _ _ _ (by rw [size8]; omega)).trans (set_8 R23.out))⟩
      case measure => simp [RowKit.intOf]; omega
    · obtain rfl : k = n := by omega
      rw [List.take_of_length_le (Nat.le_of_eq HL.out), ← HRD.out] at R2
      obtain ⟨bt, ⟨ba, bb, bs, bm, bl⟩, bd, bn⟩ := rd
      have R2' : Hid (wr.heap[w.heap.size + 1 + 1]? = some (.cells #[.int .i64 bt, .int .i64 ba, .int .i64 bb, .int .i64 bs, .int .i64 bm, .int .i64 bl, .int .i64 bd, .int .i64 bn] 31 (0, 0))) := Lib.hid R2.out
      have r0 := cell_of_row _ _ 0 _ _ (0, 0) R2'.out; have r1 := cell_of_row _ _ 1 _ _ (0, 0) R2'.out; have r2 := cell_of_row _ _ 2 _ _ (0, 0) R2'.out; have r3 := cell_of_row _ _ 3 _ _ (0, 0) R2'.out
      have r4 := cell_of_row _ _ 4 _ _ (0, 0) R2'.out; have r5 := cell_of_row _ _ 5 _ _ (0, 0) R2'.out; have r6 := cell_of_row _ _ 6 _ _ (0, 0) R2'.out; have r7 := cell_of_row _ _ 7 _ _ (0, 0) R2'.out
      have l1 : w.heap.size + 1 < wr.heap.size := by omega
      go_wp2_with fail
      apply wp_region_rgz (Chg (· ∈ [w.heap.size + 1])) (Ext) (fun y w' k' => (k' < 1000 → w'.heap[w.heap.size + 1]? = some (.cells #[.int .i64 0, .int .i64 0, .int .i64 0, .int .i64 0, .int .i64 0, .int .i64 0, .int .i64 0, .int .i64 0] 31 (0, 0))) ∧ (1000 ≤ k' → w'.heap[w.heap.size + 1]? = some (.cells #[.int .i64 bt, .int .i64 ba, .int .i64 bb, .int .i64 bs, .int .i64 bm, .int .i64 bl, .int .i64 bd, .int .i64 bn] 31 (0, 0)))) [0, 0, 0, 0, 1000, 0] [1000, 0, 0, 0, 1000, 0] (by kernel_rfl) (false :: false :: false :: false :: false :: true :: false :: false :: false :: false :: false :: false :: false :: false :: false :: false :: false :: false :: false :: false :: false :: false :: false :: false :: false :: false :: false :: false :: false :: false :: false :: false :: false :: false :: false :: false :: false :: false :: false :: false :: false :: false :: false :: false :: true :: true :: true :: true :: []) [some 44, some 45, some 46, some 47, none, some 5] [[], [], [1], [2], [0], [3]] [false, false, false, false, true, false] [true, true, true, true, true, true] [5] [MStP.is _, MStP.is _, MStP.is _, MStP.is _, MStP.is _, MStP.is _] (by kernel_rfl) (by kernel_rfl) (by kernel_rfl) (by kernel_rfl)
      case hobs =>
        refine ⟨fun y w' k hS hj hk hF K hK => ?_, ?_⟩
        · skip -- 0: load
          simp only [fillL, cond_true, cond_false, List.getD_cons_zero, List.getD_cons_succ, StP.is, Act.put, List.setIfInBounds_toArray, List.set_cons_zero, List.set_cons_succ, Nat.reduceAdd, MStP.is, Option.isSome_some, Option.isSome_none] at hK ⊢
          simp only [List.sum_cons, List.sum_nil, List.getD_cons_zero, List.getD_cons_succ, Nat.reduceAdd, Nat.add_zero] at hk
          refine rg_yes (by kernel_rfl) ?_
          clear hF
          have hsw := hS.size
          have q0_ := (World.cell?_of_block (a := ⟨w.heap.size + 1 + 1, 0, none⟩) (hS.block _ l2 (by simp))).trans r0
          have q1_ := (World.cell?_of_block (a := ⟨w.heap.size + 1 + 1, 1, none⟩) (hS.block _ l2 (by simp))).trans r1
          have q2_ := (World.cell?_of_block (a := ⟨w.heap.size + 1 + 1, 2, none⟩) (hS.block _ l2 (by simp))).trans r2
          have q3_ := (World.cell?_of_block (a := ⟨w.heap.size + 1 + 1, 3, none⟩) (hS.block _ l2 (by simp))).trans r3
          have q4_ := (World.cell?_of_block (a := ⟨w.heap.size + 1 + 1, 4, none⟩) (hS.block _ l2 (by simp))).trans r4
          have q5_ := (World.cell?_of_block (a := ⟨w.heap.size + 1 + 1, 5, none⟩) (hS.block _ l2 (by simp))).trans r5
          have q6_ := (World.cell?_of_block (a := ⟨w.heap.size + 1 + 1, 6, none⟩) (hS.block _ l2 (by simp))).trans r6
          have q7_ := (World.cell?_of_block (a := ⟨w.heap.size + 1 + 1, 7, none⟩) (hS.block _ l2 (by simp))).trans r7
          have lq_ : w.heap.size + 1 + 1 < w'.heap.size := by omega
          go_simp
          exact hK _ _ (Ext.refl _) ⟨fun h => hj.1 (by omega), fun h => hj.2 (by omega)⟩ rfl
        refine ⟨fun y w' k hS hj hk hF K hK => ?_, ?_⟩
        · skip -- 1: fieldAddr
          simp only [fillL, cond_true, cond_false, List.getD_cons_zero, List.getD_cons_succ, StP.is, Act.put, List.setIfInBounds_toArray, List.set_cons_zero, List.set_cons_succ, Nat.reduceAdd, MStP.is, Option.isSome_some, Option.isSome_none] at hK ⊢
          simp only [List.sum_cons, List.sum_nil, List.getD_cons_zero, List.getD_cons_succ, Nat.reduceAdd, Nat.add_zero] at hk
          refine rg_yes (by kernel_rfl) ?_
          clear hF
          go_simp
          exact hK _ _ (Ext.refl _) ⟨fun h => hj.1 (by omega), fun h => hj.2 (by omega)⟩ rfl
        refine ⟨fun y w' k hS hj hk hF K hK => ?_, ?_⟩
        · skip -- 2: load
          have e45 : y 45 = _ := hF.1
          have e45' := Lib.hid e45
          simp only [fillL, cond_true, cond_false, List.getD_cons_zero, List.getD_cons_succ, StP.is, Act.put, List.setIfInBounds_toArray, List.set_cons_zero, List.set_cons_succ, Nat.reduceAdd, e45, MStP.is, Option.isSome_some, Option.isSome_none] at hK ⊢
          simp only [List.sum_cons, List.sum_nil, List.getD_cons_zero, List.getD_cons_succ, Nat.reduceAdd, Nat.add_zero] at hk
          refine rg_yes (by kernel_rfl) ?_
          clear e45
          clear hF
          have hsw := hS.size
          have q0_ := (World.cell?_of_block (a := ⟨w.heap.size + 1 + 1, 0, none⟩) (hS.block _ l2 (by simp))).trans r0
          have lq_ : w.heap.size + 1 + 1 < w'.heap.size := by omega
          go_simp
          exact hK _ _ (Ext.refl _) ⟨fun h => hj.1 (by omega), fun h => hj.2 (by omega)⟩ rfl
        refine ⟨fun y w' k hS hj hk hF K hK => ?_, ?_⟩
        · skip -- 3: binOp
          have e46 : y 46 = _ := hF.1
          have e46' := Lib.hid e46
          simp only [fillL, cond_true, cond_false, List.getD_cons_zero, List.getD_cons_succ, StP.is, Act.put, List.setIfInBounds_toArray, List.set_cons_zero, List.set_cons_succ, Nat.reduceAdd, e46, MStP.is, Option.isSome_some, Option.isSome_none] at hK ⊢
          simp only [List.sum_cons, List.sum_nil, List.getD_cons_zero, List.getD_cons_succ, Nat.reduceAdd, Nat.add_zero] at hk
          refine rg_yes (by kernel_rfl) ?_
          clear e46
          clear hF
          go_simp
          exact hK _ _ (Ext.refl _) ⟨fun h => hj.1 (by omega), fun h => hj.2 (by omega)⟩ rfl
        refine ⟨fun y w' k hS hj hk hF K hK => ?_, ?_⟩
        · skip -- 4: store
          have e44 : y 44 = _ := hF.1
          have e44' := Lib.hid e44
          simp only [fillL, cond_true, cond_false, List.getD_cons_zero, List.getD_cons_succ, StP.is, Act.put, List.setIfInBounds_toArray, List.set_cons_zero, List.set_cons_succ, Nat.reduceAdd, e44, MStP.is, Option.isSome_some, Option.isSome_none] at hK ⊢
          simp only [List.sum_cons, List.sum_nil, List.getD_cons_zero, List.getD_cons_succ, Nat.reduceAdd, Nat.add_zero] at hk
          refine rg_yes (by kernel_rfl) ?_
          clear e44
          clear hF
          have hb := hj.1 (by omega)
          have HBB := Lib.hid hb
          have s0 := cell_of_row _ _ 0 _ _ (0, 0) hb; have g0 := block_free hb 0
          have s1 := cell_of_row _ _ 1 _ _ (0, 0) hb; have g1 := block_free hb 1
          have s2 := cell_of_row _ _ 2 _ _ (0, 0) hb; have g2 := block_free hb 2
          have s3 := cell_of_row _ _ 3 _ _ (0, 0) hb; have g3 := block_free hb 3
          have s4 := cell_of_row _ _ 4 _ _ (0, 0) hb; have g4 := block_free hb 4
          have s5 := cell_of_row _ _ 5 _ _ (0, 0) hb; have g5 := block_free hb 5
          have s6 := cell_of_row _ _ 6 _ _ (0, 0) hb; have g6 := block_free hb 6
          have s7 := cell_of_row _ _ 7 _ _ (0, 0) hb; have g7 := block_free hb 7
          clear hb
          go_simp
          exact hK undef _ (Chg.setCell (p := ⟨w.heap.size + 1, 7, none⟩) (Chg.setCell (p := ⟨w.heap.size + 1, 6, none⟩) (Chg.setCell (p := ⟨w.heap.size + 1, 5, none⟩) (Chg.setCell (p := ⟨w.heap.size + 1, 4, none⟩) (Chg.setCell (p := ⟨w.heap.size + 1, 3, none⟩) (Chg.setCell (p := ⟨w.heap.size + 1, 2, none⟩) (Chg.setCell (p := ⟨w.heap.size + 1, 1, none⟩) (Chg.setCell (p := ⟨w.heap.size + 1, 0, none⟩) (Chg.refl _ _) (.inl (by simp)) _) (.inl (by simp)) _) (.inl (by simp)) _) (.inl (by simp)) _) (.inl (by simp)) _) (.inl (by simp)) _) (.inl (by simp)) _) (.inl (by simp)) _) ⟨fun h => absurd h (by omega), fun _ => set_8 HBB.out⟩ rfl
        refine ⟨fun y w' k hS hj hk hF K hK => ?_, ?_⟩
        · skip -- 5: assign
          have e47 : y 47 = _ := hF.1
          have e47' := Lib.hid e47
          simp only [fillL, cond_true, cond_false, List.getD_cons_zero, List.getD_cons_succ, StP.is, Act.put, List.setIfInBounds_toArray, List.set_cons_zero, List.set_cons_succ, Nat.reduceAdd, e47, MStP.is, Option.isSome_some, Option.isSome_none] at hK ⊢
          simp only [List.sum_cons, List.sum_nil, List.getD_cons_zero, List.getD_cons_succ, Nat.reduceAdd, Nat.add_zero] at hk
          refine rg_yes (by kernel_rfl) ?_
          clear e47
          clear hF
          go_simp
          exact hK _ _ (Ext.refl _) ⟨fun h => hj.1 (by omega), fun h => hj.2 (by omega)⟩ rfl
        trivial
      case hH => rfl
      case hNS => exact fun _ _ h => Chg.of_below h _
      case hSt => exact fun a b => Chg.trans a b
      case hb => rfl
      case hdrew => exact (Chg.refl _ _).drewN 1
      case hj0 => exact fun y => ⟨fun _ => R1.out, fun h => absurd h (by omega)⟩
      case hend =>
        intro y w6 hS hJ hF
        have hst := hJ.2 (by decide)
        have e5 : y 5 = _ := hF.1
        have HB6 : Below w.heap.size w w6 := HB.out.trans (hS.below (B := w.heap.size) (fun k _ hk => by simp at hk; omega) (by omega))
        have t0 := cell_of_row _ _ 0 _ _ (0, 0) hst; have t1 := cell_of_row _ _ 1 _ _ (0, 0) hst; have t2 := cell_of_row _ _ 2 _ _ (0, 0) hst; have t3 := cell_of_row _ _ 3 _ _ (0, 0) hst
        have t4 := cell_of_row _ _ 4 _ _ (0, 0) hst; have t5 := cell_of_row _ _ 5 _ _ (0, 0) hst; have t6 := cell_of_row _ _ 6 _ _ (0, 0) hst; have t7 := cell_of_row _ _ 7 _ _ (0, 0) hst
        clear hJ hF hS hst
        simp only [fillL, cond_true, cond_false, Nat.reduceAdd, e5]
        clear e5
        go_wp2_with fail
        refine bodyPost_ret (v := .tuple #[.agg #[.int .i64 bt, .int .i64 ba, .int .i64 bb, .int .i64 bs, .int .i64 bm, .int .i64 bl, .int .i64 bd, .int .i64 bn], .bool (decide (0 < bt))]) (by simp [results, Tryz.results30, go_sem, t0, t1, t2, t3, t4, t5, t6, t7]) rfl ⟨rfl, HB6⟩
set_option maxRecDepth 100000 in
set_option maxHeartbeats 4000000 in
theorem l22At_any (A : Option Addr) (n c : Nat) (x : RaidD) (r : Nat) (w : World) (lo hi : Nat)  (h : SliceR DiskR 3 w lo hi A n c x) (hok : ∀ d ∈ x, diskOk d = true) (hr : r < 4) :
    Calls Tryz.prog 26 #[.agg #[.slice A n c], .int .i64 (r : Int)] w (GotAt (rootAtF x (r : Int)) (decide (0 < (rootAtF x (r : Int)).1)) w) := by
  have HL := Lib.hid h.len
  have hm := h.max
  have H := Lib.hid h; have HOK := Lib.hid hok
  clear h hok
  obtain ⟨rd, hrd⟩ : ∃ d, d = rootAtF x (r : Int) := ⟨_, rfl⟩
  rw [← hrd]
  have HRD := Lib.hid hrd; clear hrd
  go_enter Tryz.func26, Tryz.ntmps26
  go_wp2_with fail
  obtain ⟨w1, hW⟩ : ∃ w1, w1 = ((w.alloc (.cells #[.slice A n c] 36)).alloc (.cells #[.int .i64 0, .int .i64 0, .int .i64 0, .int .i64 0, .int .i64 0, .int .i64 0, .int .i64 0, .int .i64 0] 31)).alloc (.cells #[.int .i64 0, .int .i64 0, .int .i64 0, .int .i64 0, .int .i64 0, .int .i64 0, .int .i64 0, .int .i64 0] 31) := ⟨_, rfl⟩
  have X1 : Below w.heap.size w w1 := by rw [hW]; exact bel3
  have z1 : w1.heap.size = w.heap.size + 3 := by rw [hW]; simp
  have k0 : w1.heap[w.heap.size]? = some (.cells #[.slice A n c] 36 (0, 0)) := by rw [hW]; exact al3_0
  have k1 : w1.heap[w.heap.size + 1]? = some (.cells #[.int .i64 0, .int .i64 0, .int .i64 0, .int .i64 0, .int .i64 0, .int .i64 0, .int .i64 0, .int .i64 0] 31 (0, 0)) := by rw [hW]; exact al3_1
  have k2 : w1.heap[w.heap.size + 1 + 1]? = some (.cells #[.int .i64 0, .int .i64 0, .int .i64 0, .int .i64 0, .int .i64 0, .int .i64 0, .int .i64 0, .int .i64 0] 31 (0, 0)) := by rw [hW]; exact al3_2
  rw [← hW]; clear hW
  have HX1 := Lib.hid X1; have K0 := Lib.hid k0; have K1 := Lib.hid k1; have K2 := Lib.hid k2
  clear X1 k0 k1 k2
  go_loopw [7] (fun i wr => ∃ k : Nat, k ≤ n ∧ i = .int .i64 (k : Int) ∧ w.heap.size + 3 ≤ wr.heap.size ∧ Hid (Below w.heap.size w wr) ∧ Hid (wr.heap[w.heap.size]? = some (.cells #[.slice A n c] 36 (0, 0))) ∧ Hid (wr.heap[w.heap.size + 1]? = some (.cells #[.int .i64 0, .int .i64 0, .int .i64 0, .int .i64 0, .int .i64 0, .int .i64 0, .int .i64 0, .int .i64 0] 31 (0, 0))) ∧ Hid (wr.heap[w.heap.size + 1 + 1]? = some (.cells (rcA (rootAtF (x.take k) (r : Int))) 31 (0, 0)))) (fun i _ => n - (RowKit.intOf i).toNat)
  case atStart => exact ⟨0, Nat.zero_le _, rfl, by omega, HX1, K0, K1, Lib.hid (by rw [K2.out]; rfl)⟩
  case round =>
    clear HX1 K0 K1 K2 z1
    obtain ⟨k, hk, rfl, hz, HB, R0, R1, R2⟩ := hrel
    have l2 : w.heap.size + 1 + 1 < wr.heap.size := by omega
    have l0 : w.heap.size < wr.heap.size := by omega
    have q := cell_of_row _ _ 0 _ _ (0, 0) R0.out
    by_cases hlt : k < n
    · obtain ⟨d, hx⟩ : ∃ d, x[k]? = some d := ⟨x[k]'(by rw [HL.out]; exact hlt), List.getElem?_eq_getElem _⟩
      have hdk := HOK.out d (List.mem_of_getElem? hx)
      have HS := Lib.hid (rootAt_take (row := (r : Int)) hx)
      obtain ⟨best, hbest⟩ : ∃ b, b = rootAtF (x.take k) (r : Int) := ⟨_, rfl⟩
      have HG := Lib.hid (show GoodR (r : Int) best from hbest ▸ rootAt_good _ _)
      rw [← hbest] at HS R2
      have HBEST := Lib.hid hbest; clear hbest
      obtain ⟨bt, ⟨ba, bb, bs, bm, bl⟩, bd, bn⟩ := best
      have R2' : Hid (wr.heap[w.heap.size + 1 + 1]? = some (.cells #[.int .i64 bt, .int .i64 ba, .int .i64 bb, .int .i64 bs, .int .i64 bm, .int .i64 bl, .int .i64 bd, .int .i64 bn] 31 (0, 0))) := Lib.hid R2.out
      obtain ⟨b, off, rfl, _, _, bl_, hc⟩ := (SliceR.below H.out HB.out (DiskR.below HB.out H.out.lo_le)).at_ (by omega)
      obtain ⟨cs, hcl, hcc, hD⟩ := hc k d hx
      have hhi : hi ≤ wr.heap.size := Nat.le_trans H.out.lo_le HB.out.size
      have HD := Lib.hid hD
      clear hc
      have HDK := Lib.hid hdk; clear hdk hx
      obtain ⟨gone, hgone⟩ : ∃ g, g = d.2.2 := ⟨_, rfl⟩
      have HGN := Lib.hid hgone.symm
      obtain ⟨A0, n0, c0, A1, n1, c1, rfl, h0, h1⟩ := hD
      rw [← hgone] at HD hcc
      clear hgone h0 h1
      have q0 := hcc 0 _ rfl
      have q1 := hcc 1 _ rfl
      have q2 := hcc 2 _ rfl
      simp only [Nat.add_zero] at q0
      clear hcc hcl
      have kk0 : (0 : Int) ≤ (k : Int) := by omega
      have kk1 : (k : Int) < (n : Int) := by omega
      cases gone
      rotate_left
      · have HF := Lib.hid (HS.out.trans (stepR_gone HGN.out))
        go_wp2_with fail
        go_roundw
        case rel => exact ⟨k + 1, by omega, by go_num, hz, HB, R0, R1, Lib.hid (by rw [HF.out]; exact R2'.out)⟩
        case measure => simp [RowKit.intOf]; omega
      go_wp2_with fail
      refine (l3Read_any _ d r _ _ _ HD.out (by have := diskOk_64 HDK.out; omega)).mono ?_
      rintro e w2 ⟨rfl, hb2⟩
      have hbw : Below wr.heap.size wr w2 := hb2
      obtain ⟨y, hy⟩ : ∃ y : Str, lookD d (r : Int) = strB y := ⟨(lookD d (r : Int)).data.toList, (strB_data _).symm⟩
      have hys : y.length ≤ 200 := by have h1 := look_size HDK.out (r : Int); rw [hy] at h1; exact h1
      rw [hy]
      have HY := Lib.hid hy; clear hy hb2
      have HBW := Lib.hid hbw
      have HB2 : Below w.heap.size w w2 := HB.out.trans (hbw.mono HB.out.size)
      have z2 := hbw.size
      clear hbw q0 q1 q2 q
      go_wp2_with fail
      refine (spRootGet_any y _ (by omega)).mono ?_
      rintro e w3 ⟨t, a, b_, s_, m_, l_, d_, n_, ok, rfl, RI, hb3⟩
      have HRF := Lib.hid (rootOfT_eq RI)
      have hti : ok = true → 1 ≤ t ∧ t ≤ 900 := fun hk => by
        rcases RI with ⟨_, h1, _⟩ | ⟨h1, _⟩
        · exact (rootOk_parts h1).1
        · rw [hk] at h1; cases h1
      have HBW3 : Hid (Below wr.heap.size wr w3) := Lib.hid (HBW.out.trans (hb3.mono z2))
      have HB3 : Hid (Below w.heap.size w w3) := Lib.hid (HB2.trans (hb3.mono HB2.size))
      have z3 := hb3.size
      clear RI hb3 HBW HB2
      have R03 : Hid (w3.heap[w.heap.size]? = some (.cells #[.slice (some ⟨b, off, none⟩) n c] 36 (0, 0))) := Lib.hid ((HBW3.out.block _ l0).trans R0.out)
      have R13 : Hid (w3.heap[w.heap.size + 1]? = some (.cells #[.int .i64 0, .int .i64 0, .int .i64 0, .int .i64 0, .int .i64 0, .int .i64 0, .int .i64 0, .int .i64 0] 31 (0, 0))) := Lib.hid ((HBW3.out.block _ (by omega)).trans R1.out)
      have R23 : Hid (w3.heap[w.heap.size + 1 + 1]? = some (.cells #[.int .i64 bt, .int .i64 ba, .int .i64 bb, .int .i64 bs, .int .i64 bm, .int .i64 bl, .int .i64 bd, .int .i64 bn] 31 (0, 0))) := Lib.hid ((HBW3.out.block _ l2).trans R2'.out)
      have lw3 : w.heap.size + 1 + 1 < w3.heap.size := by omega
      cases ok
      · have HF := Lib.hid (HS.out.trans (stepR_no HGN.out HY.out HRF.out (by simp)))
        go_wp2_with fail
        go_roundw
        case rel => exact ⟨k + 1, by omega, by go_num, by simp; omega, Lib.hid (HB3.out.alloc HB3.out.size _), Lib.hid ((Below.heap_alloc _ _ _ (by omega)).trans R03.out), Lib.hid ((Below.heap_alloc _ _ _ (by omega)).trans R13.out), Lib.hid (by rw [HF.out]; exact (Below.heap_alloc _ _ _ lw3).trans R23.out)⟩
        case measure => simp [RowKit.intOf]; omega
      have hti := hti rfl
      have hrem : IntKind.i64.wrap (t.tmod 4) = t % 4 := by rw [Int.tmod_eq_emod_of_nonneg (by omega), IntWalk.i64_in _ (by omega)]
      have r0 := cell_of_row _ _ 0 _ _ (0, 0) R23.out
      by_cases h4 : t % 4 = (r : Int)
      rotate_left
      · have HF := Lib.hid (HS.out.trans (stepR_no HGN.out HY.out HRF.out (fun h => h4 h.2.1)))
        have d4 : (t % 4 == (r : Int)) = false := by simpa using h4
        go_wp2_with fail
        go_roundw
        case rel => exact ⟨k + 1, by omega, by go_num, by simp; omega, Lib.hid (HB3.out.alloc HB3.out.size _), Lib.hid ((Below.heap_alloc _ _ _ (by omega)).trans R03.out), Lib.hid ((Below.heap_alloc _ _ _ (by omega)).trans R13.out), Lib.hid (by rw [HF.out]; exact (Below.heap_alloc _ _ _ lw3).trans R23.out)⟩
        case measure => simp [RowKit.intOf]; omega
      have d4 : (t % 4 == (r : Int)) = true := by simpa using h4
      by_cases hgt : bt < t
      rotate_left
      · have HF := Lib.hid (HS.out.trans (stepR_no HGN.out HY.out HRF.out (fun h => hgt h.2.2)))
        go_wp2_with fail
        go_roundw
        case rel => exact ⟨k + 1, by omega, by go_num, by simp; omega, Lib.hid (HB3.out.alloc HB3.out.size _), Lib.hid ((Below.heap_alloc _ _ _ (by omega)).trans R03.out), Lib.hid ((Below.heap_alloc _ _ _ (by omega)).trans R13.out), Lib.hid (by rw [HF.out]; exact (Below.heap_alloc _ _ _ lw3).trans R23.out)⟩
        case measure => simp [RowKit.intOf]; omega
      have HF := Lib.hid (HS.out.trans (stepR_yes HGN.out HY.out HRF.out ⟨h4, hgt⟩))
      have f0 := block_free R23.out 0; have f1 := block_free R23.out 1; have f2 := block_free R23.out 2; have f3 := block_free R23.out 3
      have f4 := block_free R23.out 4; have f5 := block_free R23.out 5; have f6 := block_free R23.out 6; have f7 := block_free R23.out 7
      have r1 := cell_of_row _ _ 1 _ _ (0, 0) R23.out; have r2 := cell_of_row _ _ 2 _ _ (0, 0) R23.out; have r3 := cell_of_row _ _ 3 _ _ (0, 0) R23.out
      have r4 := cell_of_row _ _ 4 _ _ (0, 0) R23.out; have r5 := cell_of_row _ _ 5 _ _ (0, 0) R23.out; have r6 := cell_of_row _ _ 6 _ _ (0, 0) R23.out; have r7 := cell_of_row _ _ 7 _ _ (0, 0) R23.out
      go_wp2_with fail
      go_roundw
      case rel => exact ⟨k + 1, by omega, by go_num, Nat.le_trans (Nat.le_trans (show w.heap.size + 3 ≤ w3.heap.size by omega) (Nat.le_of_eq size8.symm)) bel1.size, Lib.hid (Below.alloc (below8 HB3.out (by omega)) (by rw [size8]; omega) _), Lib.hid ((Below.heap_alloc _ _ _ (by rw [size8]; omega)).trans ((far8 (by omega)).trans R03.out)), Lib.hid ((Below.heap_alloc _ _ _ (by rw [size8]; omega)).trans ((far8 (by omega)).trans R13.out)), Lib.hid (by rw [HF.out]; exact (Below.heap_alloc _ _ _ (by rw [size8]; omega)).trans (set_8 R23.out))⟩
      case measure => simp [RowKit.intOf]; omega
    · obtain rfl : k = n := by omega
      rw [List.take_of_length_le (Nat.le_of_eq HL.out), ← HRD.out] at R2
      obtain ⟨bt, ⟨ba, bb, bs, bm, bl⟩, bd, bn⟩ := rd
      have R2' : Hid (wr.heap[w.heap.size + 1 + 1]? = some (.cells #[.int .i64 bt, .int .i64 ba, .int .i64 bb, .int .i64 bs, .int .i64 bm, .int .i64 bl, .int .i64 bd, .int .i64 bn] 31 (0, 0))) := Lib.hid R2.out
      have r0 := cell_of_row _ _ 0 _ _ (0, 0) R2'.out; have r1 := cell_of_row _ _ 1 _ _ (0, 0) R2'.out; have r2 := cell_of_row _ _ 2 _ _ (0, 0) R2'.out; have r3 := cell_of_row _ _ 3 _ _ (0, 0) R2'.out
      have r4 := cell_of_row _ _ 4 _ _ (0, 0) R2'.out; have r5 := cell_of_row _ _ 5 _ _ (0, 0) R2'.out; have r6 := cell_of_row _ _ 6 _ _ (0, 0) R2'.out; have r7 := cell_of_row _ _ 7 _ _ (0, 0) R2'.out
      have l1 : w.heap.size + 1 < wr.heap.size := by omega
      go_wp2_with fail
      apply wp_region_rgz (Chg (· ∈ [w.heap.size + 1])) (Ext) (fun y w' k' => (k' < 1000 → w'.heap[w.heap.size + 1]? = some (.cells #[.int .i64 0, .int .i64 0, .int .i64 0, .int .i64 0, .int .i64 0, .int .i64 0, .int .i64 0, .int .i64 0] 31 (0, 0))) ∧ (1000 ≤ k' → w'.heap[w.heap.size + 1]? = some (.cells #[.int .i64 bt, .int .i64 ba, .int .i64 bb, .int .i64 bs, .int .i64 bm, .int .i64 bl, .int .i64 bd, .int .i64 bn] 31 (0, 0)))) [0, 0, 0, 0, 1000, 0] [1000, 0, 0, 0, 1000, 0] (by kernel_rfl) (false :: false :: false :: false :: false :: true :: false :: false :: false :: false :: false :: false :: false :: false :: false :: false :: false :: false :: false :: false :: false :: false :: false :: false :: false :: false :: false :: false :: false :: false :: false :: false :: false :: false :: false :: false :: false :: false :: false :: false :: false :: false :: false :: false :: false :: false :: false :: false :: false :: false :: false :: true :: true :: true :: true :: []) [some 51, some 52, some 53, some 54, none, some 5] [[], [], [1], [2], [0], [3]] [false, false, false, false, true, false] [true, true, true, true, true, true] [5] [MStP.is _, MStP.is _, MStP.is _, MStP.is _, MStP.is _, MStP.is _] (by kernel_rfl) (by kernel_rfl) (by kernel_rfl) (by kernel_rfl)
      case hobs =>
        refine ⟨fun y w' k hS hj hk hF K hK => ?_, ?_⟩
        · skip -- 0: load
          simp only [fillL, cond_true, cond_false, List.getD_cons_zero, List.getD_cons_succ, StP.is, Act.put, List.setIfInBounds_toArray, List.set_cons_zero, List.set_cons_succ, Nat.reduceAdd, MStP.is, Option.isSome_some, Option.isSome_none] at hK ⊢
          simp only [List.sum_cons, List.sum_nil, List.getD_cons_zero, List.getD_cons_succ, Nat.reduceAdd, Nat.add_zero] at hk
          refine rg_yes (by kernel_rfl) ?_
          clear hF
          have hsw := hS.size
          have q0_ := (World.cell?_of_block (a := ⟨w.heap.size + 1 + 1, 0, none⟩) (hS.block _ l2 (by simp))).trans r0
          have q1_ := (World.cell?_of_block (a := ⟨w.heap.size + 1 + 1, 1, none⟩) (hS.block _ l2 (by simp))).trans r1
          have q2_ := (World.cell?_of_block (a := ⟨w.heap.size + 1 + 1, 2, none⟩) (hS.block _ l2 (by simp))).trans r2
          have q3_ := (World.cell?_of_block (a := ⟨w.heap.size + 1 + 1, 3, none⟩) (hS.block _ l2 (by simp))).trans r3
          have q4_ := (World.cell?_of_block (a := ⟨w.heap.size + 1 + 1, 4, none⟩) (hS.block _ l2 (by simp))).trans r4
          have q5_ := (World.cell?_of_block (a := ⟨w.heap.size + 1 + 1, 5, none⟩) (hS.block _ l2 (by simp))).trans r5
          have q6_ := (World.cell?_of_block (a := ⟨w.heap.size + 1 + 1, 6, none⟩) (hS.block _ l2 (by simp))).trans r6
          have q7_ := (World.cell?_of_block (a := ⟨w.heap.size + 1 + 1, 7, none⟩) (hS.block _ l2 (by simp))).trans r7
          have lq_ : w.heap.size + 1 + 1 < w'.heap.size := by omega
          go_simp
          exact hK _ _ (Ext.refl _) ⟨fun h => hj.1 (by omega), fun h => hj.2 (by omega)⟩ rfl
        refine ⟨fun y w' k hS hj hk hF K hK => ?_, ?_⟩
        · skip -- 1: fieldAddr
          simp only [fillL, cond_true, cond_false, List.getD_cons_zero, List.getD_cons_succ, StP.is, Act.put, List.setIfInBounds_toArray, List.set_cons_zero, List.set_cons_succ, Nat.reduceAdd, MStP.is, Option.isSome_some, Option.isSome_none] at hK ⊢
          simp only [List.sum_cons, List.sum_nil, List.getD_cons_zero, List.getD_cons_succ, Nat.reduceAdd, Nat.add_zero] at hk
          refine rg_yes (by kernel_rfl) ?_
          clear hF
          go_simp
          exact hK _ _ (Ext.refl _) ⟨fun h => hj.1 (by omega), fun h => hj.2 (by omega)⟩ rfl
        refine ⟨fun y w' k hS hj hk hF K hK => ?_, ?_⟩
        · skip -- 2: load
          have e52 : y 52 = _ := hF.1
          have e52' := Lib.hid e52
          simp only [fillL, cond_true, cond_false, List.getD_cons_zero, List.getD_cons_succ, StP.is, Act.put, List.setIfInBounds_toArray, List.set_cons_zero, List.set_cons_succ, Nat.reduceAdd, e52, MStP.is, Option.isSome_some, Option.isSome_none] at hK ⊢
          simp only [List.sum_cons, List.sum_nil, List.getD_cons_zero, List.getD_cons_succ, Nat.reduceAdd, Nat.add_zero] at hk
          refine rg_yes (by kernel_rfl) ?_
          clear e52
          clear hF
          have hsw := hS.size
          have q0_ := (World.cell?_of_block (a := ⟨w.heap.size + 1 + 1, 0, none⟩) (hS.block _ l2 (by simp))).trans r0
          have lq_ : w.heap.size + 1 + 1 < w'.heap.size := by omega
          go_simp
          exact hK _ _ (Ext.refl _) ⟨fun h => hj.1 (by omega), fun h => hj.2 (by omega)⟩ rfl
        refine ⟨fun y w' k hS hj hk hF K hK => ?_, ?_⟩
        · skip -- 3: binOp
          have e53 : y 53 = _ := hF.1
          have e53' := Lib.hid e53
          simp only [fillL, cond_true, cond_false, List.getD_cons_zero, List.getD_cons_succ, StP.is, Act.put, List.setIfInBounds_toArray, List.set_cons_zero, List.set_cons_succ, Nat.reduceAdd, e53, MStP.is, Option.isSome_some, Option.isSome_none] at hK ⊢
          simp only [List.sum_cons, List.sum_nil, List.getD_cons_zero, List.getD_cons_succ, Nat.reduceAdd, Nat.add_zero] at hk
          refine rg_yes (by kernel_rfl) ?_
          clear e53
          clear hF
          go_simp
          exact hK _ _ (Ext.refl _) ⟨fun h => hj.1 (by omega), fun h => hj.2 (by omega)⟩ rfl
        refine ⟨fun y w' k hS hj hk hF K hK => ?_, ?_⟩
        · skip -- 4: store
          have e51 : y 51 = _ := hF.1
          have e51' := Lib.hid e51
          simp only [fillL, cond_true, cond_false, List.getD_cons_zero, List.getD_cons_succ, StP.is, Act.put, List.setIfInBounds_toArray, List.set_cons_zero, List.set_cons_succ, Nat.reduceAdd, e51, MStP.is, Option.isSome_some, Option.isSome_none] at hK ⊢
          simp only [List.sum_cons, List.sum_nil, List.getD_cons_zero, List.getD_cons_succ, Nat.reduceAdd, Nat.add_zero] at hk
          refine rg_yes (by kernel_rfl) ?_
          clear e51
          clear hF
          have hb := hj.1 (by omega)
          have HBB := Lib.hid hb
          have s0 := cell_of_row _ _ 0 _ _ (0, 0) hb; have g0 := block_free hb 0
          have s1 := cell_of_row _ _ 1 _ _ (0, 0) hb; have g1 := block_free hb 1
          have s2 := cell_of_row _ _ 2 _ _ (0, 0) hb; have g2 := block_free hb 2
          have s3 := cell_of_row _ _ 3 _ _ (0, 0) hb; have g3 := block_free hb 3
          have s4 := cell_of_row _ _ 4 _ _ (0, 0) hb; have g4 := block_free hb 4
          have s5 := cell_of_row _ _ 5 _ _ (0, 0) hb; have g5 := block_free hb 5
          have s6 := cell_of_row _ _ 6 _ _ (0, 0) hb; have g6 := block_free hb 6
          have s7 := cell_of_row _ _ 7 _ _ (0, 0) hb; have g7 := block_free hb 7
          clear hb
          go_simp
          exact hK undef _ (Chg.setCell (p := ⟨w.heap.size + 1, 7, none⟩) (Chg.setCell (p := ⟨w.heap.size + 1, 6, none⟩) (Chg.setCell (p := ⟨w.heap.size + 1, 5, none⟩) (Chg.setCell (p := ⟨w.heap.size + 1, 4, none⟩) (Chg.setCell (p := ⟨w.heap.size + 1, 3, none⟩) (Chg.setCell (p := ⟨w.heap.size + 1, 2, none⟩) (Chg.setCell (p := ⟨w.heap.size + 1, 1, none⟩) (Chg.setCell (p := ⟨w.heap.size + 1, 0, none⟩) (Chg.refl _ _) (.inl (by simp)) _) (.inl (by simp)) _) (.inl (by simp)) _) (.inl (by simp)) _) (.inl (by simp)) _) (.inl (by simp)) _) (.inl (by simp)) _) (.inl (by simp)) _) ⟨fun h => absurd h (by omega), fun _ => set_8 HBB.out⟩ rfl
        refine ⟨fun y w' k hS hj hk hF K hK => ?_, ?_⟩
        · skip -- 5: assign
          have e54 : y 54 = _ := hF.1
          have e54' := Lib.hid e54
          simp only [fillL, cond_true, cond_false, List.getD_cons_zero, List.getD_cons_succ, StP.is, Act.put, List.setIfInBounds_toArray, List.set_cons_zero, List.set_cons_succ, Nat.reduceAdd, e54, MStP.is, Option.isSome_some, Option.isSome_none] at hK ⊢
          simp only [List.sum_cons, List.sum_nil, List.getD_cons_zero, List.getD_cons_succ, Nat.reduceAdd, Nat.add_zero] at hk
          refine rg_yes (by kernel_rfl) ?_
          clear e54
          clear hF
          go_simp
          exact hK _ _ (Ext.refl _) ⟨fun h => hj.1 (by omega), fun h => hj.2 (by omega)⟩ rfl
        trivial
      case hH => rfl
      case hNS => exact fun _ _ h => Chg.of_below h _
      case hSt => exact fun a b => Chg.trans a b
      case hb => rfl
      case hdrew => exact (Chg.refl _ _).drewN 1
      case hj0 => exact fun y => ⟨fun _ => R1.out, fun h => absurd h (by omega)⟩
      case hend =>
        intro y w6 hS hJ hF
        have hst := hJ.2 (by decide)
        have e5 : y 5 = _ := hF.1
        have HB6 : Below w.heap.size w w6 := HB.out.trans (hS.below (B := w.heap.size) (fun k _ hk => by simp at hk; omega) (by omega))
        have t0 := cell_of_row _ _ 0 _ _ (0, 0) hst; have t1 := cell_of_row _ _ 1 _ _ (0, 0) hst; have t2 := cell_of_row _ _ 2 _ _ (0, 0) hst; have t3 := cell_of_row _ _ 3 _ _ (0, 0) hst
        have t4 := cell_of_row _ _ 4 _ _ (0, 0) hst; have t5 := cell_of_row _ _ 5 _ _ (0, 0) hst; have t6 := cell_of_row _ _ 6 _ _ (0, 0) hst; have t7 := cell_of_row _ _ 7 _ _ (0, 0) hst
        clear hJ hF hS hst
        simp only [fillL, cond_true, cond_false, Nat.reduceAdd, e5]
        clear e5
        go_wp2_with fail
        refine bodyPost_ret (v := .tuple #[.agg #[.int .i64 bt, .int .i64 ba, .int .i64 bb, .int .i64 bs, .int .i64 bm, .int .i64 bl, .int .i64 bd, .int .i64 bn], .bool (decide (0 < bt))]) (by simp [results, Tryz.results26, go_sem, t0, t1, t2, t3, t4, t5, t6, t7]) rfl ⟨rfl, HB6⟩
set_option maxRecDepth 100000 in
set_option maxHeartbeats 4000000 in
theorem rootAtW_any (cs : List Value) (x : RaidD) (row : Int) (w : World) (lo hi : Nat) (he : Env w) (h : RaidR w lo hi cs x) :
    Calls Tryz.prog 10 #[.agg cs.toArray, .int .i64 row] w (GotAt (rootAtR x row) (rootAtB x row) w) := by
  obtain ⟨A, n, c, rfl, h0⟩ := h
  obtain ⟨rd, hrd⟩ : ∃ d, d = rootAtR x row := ⟨_, rfl⟩
  obtain ⟨rb, hrb⟩ : ∃ d, d = rootAtB x row := ⟨_, rfl⟩
  rw [← hrd, ← hrb]
  have HRD := Lib.hid hrd; have HRB := Lib.hid hrb
  obtain ⟨ok, hok⟩ : ∃ b, b = raidOk x := ⟨_, rfl⟩
  obtain ⟨ib, hib⟩ : ∃ b, b = inB row 0 3 := ⟨_, rfl⟩
  have R1 := Lib.hid (fun w => within_any row 0 3 w)
  rw [← hib] at R1
  have HOK := Lib.hid hok; have HIB := Lib.hid hib
  have HLE := Lib.hid h0.lo_le
  have H := Lib.hid h0
  clear h0 hrd hrb hok hib
  show Calls Tryz.prog 10 #[.agg #[.slice A n c], .int .i64 row] w _
  go_enter Tryz.func10, Tryz.ntmps10
  go_wp2_with fail
  obtain ⟨w0, hW⟩ : ∃ w0, w0 = (w.alloc (.cells #[.slice A n c] 36)).alloc (.cells #[.int .i64 0, .int .i64 0, .int .i64 0, .int .i64 0, .int .i64 0, .int .i64 0, .int .i64 0, .int .i64 0] 31) := ⟨_, rfl⟩
  have X0 : Below w.heap.size w w0 := by rw [hW]; exact bel2
  have z0 : w0.heap.size = w.heap.size + 2 := by rw [hW]; simp
  have k0 : w0.heap[w.heap.size]? = some (.cells #[.slice A n c] 36 (0, 0)) := by rw [hW]; exact (Below.heap_alloc _ _ _ (by simp)).trans (heap_alloc_new _ _)
  have k1 : w0.heap[w.heap.size + 1]? = some (.cells #[.int .i64 0, .int .i64 0, .int .i64 0, .int .i64 0, .int .i64 0, .int .i64 0, .int .i64 0, .int .i64 0] 31 (0, 0)) := by
    rw [hW]
    have := heap_alloc_new (w.alloc (.cells #[.slice A n c] 36)) (.cells #[.int .i64 0, .int .i64 0, .int .i64 0, .int .i64 0, .int .i64 0, .int .i64 0, .int .i64 0, .int .i64 0] 31)
    simpa using this
  rw [← hW]; clear hW
  have q0 := cell_of_row _ _ 0 _ _ (0, 0) k0
  go_wp2_with fail
  refine (raidOk_any _ x _ lo hi ⟨A, n, c, rfl, SliceR.below H.out X0 (DiskR.below X0 HLE.out)⟩).mono ?_
  rw [← HOK.out]
  rintro e w1 ⟨rfl, hb1⟩
  have z1 := hb1.size
  have HX1 : Hid (Below w.heap.size w w1) := Lib.hid (X0.trans (hb1.mono X0.size))
  have B0 : Hid (w1.heap[w.heap.size]? = some (.cells #[.slice A n c] 36 (0, 0))) := Lib.hid ((hb1.block _ (by omega)).trans k0)
  have B1 : Hid (w1.heap[w.heap.size + 1]? = some (.cells #[.int .i64 0, .int .i64 0, .int .i64 0, .int .i64 0, .int .i64 0, .int .i64 0, .int .i64 0, .int .i64 0] 31 (0, 0))) := Lib.hid ((hb1.block _ (by omega)).trans k1)
  clear hb1 k0 k1 X0 q0
  have l1 : w.heap.size + 1 < w1.heap.size := by omega
  have l0 : w.heap.size < w1.heap.size := by omega
  have a0 := cell_of_row _ _ 0 _ _ (0, 0) B0.out
  have f0 := block_free B1.out 0; have f1 := block_free B1.out 1; have f2 := block_free B1.out 2; have f3 := block_free B1.out 3; have f4 := block_free B1.out 4; have f5 := block_free B1.out 5; have f6 := block_free B1.out 6; have f7 := block_free B1.out 7
  have s0 := cell_of_row _ _ 0 _ _ (0, 0) B1.out; have s1 := cell_of_row _ _ 1 _ _ (0, 0) B1.out; have s2 := cell_of_row _ _ 2 _ _ (0, 0) B1.out; have s3 := cell_of_row _ _ 3 _ _ (0, 0) B1.out; have s4 := cell_of_row _ _ 4 _ _ (0, 0) B1.out; have s5 := cell_of_row _ _ 5 _ _ (0, 0) B1.out; have s6 := cell_of_row _ _ 6 _ _ (0, 0) B1.out; have s7 := cell_of_row _ _ 7 _ _ (0, 0) B1.out
  have hst := set_8 (x0 := .int .i64 0) (x1 := .int .i64 0) (x2 := .int .i64 0) (x3 := .int .i64 0) (x4 := .int .i64 0) (x5 := .int .i64 0) (x6 := .int .i64 0) (x7 := .int .i64 0) B1.out
  have t0 := cell_of_row _ _ 0 _ _ (0, 0) hst; have t1 := cell_of_row _ _ 1 _ _ (0, 0) hst; have t2 := cell_of_row _ _ 2 _ _ (0, 0) hst; have t3 := cell_of_row _ _ 3 _ _ (0, 0) hst; have t4 := cell_of_row _ _ 4 _ _ (0, 0) hst; have t5 := cell_of_row _ _ 5 _ _ (0, 0) hst; have t6 := cell_of_row _ _ 6 _ _ (0, 0) hst; have t7 := cell_of_row _ _ 7 _ _ (0, 0) hst
  clear hst
  have hbad : atOk x row = false → rd = zeroR ∧ rb = false := fun h => ⟨by rw [HRD.out]; unfold rootAtR; rw [h]; rfl, by rw [HRB.out]; unfold rootAtB; rw [h]; rfl⟩
  cases ok
  · have HF := hbad (by unfold atOk; rw [← HOK.out]; rfl)
    clear hbad
    go_wp2_with fail
    refine bodyPost_ret (v := .tuple #[.agg #[.int .i64 0, .int .i64 0, .int .i64 0, .int .i64 0, .int .i64 0, .int .i64 0, .int .i64 0, .int .i64 0], .bool false]) (by simp [results, Tryz.results10, go_sem, *]) rfl ⟨by rw [HF.1, HF.2]; rfl, below8 HX1.out (by omega)⟩
  cases ib
  · have HF := hbad (by unfold atOk; rw [← HOK.out, ← HIB.out]; rfl)
    clear hbad
    go_wp2_with (go_at_call 29; with_reducible refine (R1.out _).mono ?_; rintro e w' ⟨rfl, rfl⟩)
    refine bodyPost_ret (v := .tuple #[.agg #[.int .i64 0, .int .i64 0, .int .i64 0, .int .i64 0, .int .i64 0, .int .i64 0, .int .i64 0, .int .i64 0], .bool false]) (by simp [results, Tryz.results10, go_sem, *]) rfl ⟨by rw [HF.1, HF.2]; rfl, below8 HX1.out (by omega)⟩
  clear hbad
  have HAT : Hid (atOk x row = true) := Lib.hid (by unfold atOk; rw [← HOK.out, ← HIB.out]; rfl)
  obtain ⟨j, rfl, hjz⟩ : ∃ j : Nat, row = (j : Int) ∧ j < 4 := by
    have h1 := HIB.out.symm
    unfold inB at h1
    have := of_decide_eq_true h1
    exact ⟨row.toNat, by omega, by omega⟩
  have HF1 : Hid (rd = rootAtF x (j : Int)) := Lib.hid (by rw [HRD.out]; unfold rootAtR; rw [if_pos HAT.out])
  have HF2 : Hid (rb = decide (0 < rd.1)) := Lib.hid (by rw [HRB.out, HF1.out]; unfold rootAtB; rw [HAT.out]; simp)
  clear t0 t1 t2 t3 t4 t5 t6 t7 s0 s1 s2 s3 s4 s5 s6 s7 f0 f1 f2 f3 f4 f5 f6 f7
  go_wp2_with (go_at_call 29; with_reducible refine (R1.out _).mono ?_; rintro e w' ⟨rfl, rfl⟩)
  refine (rootAt_any A n c x j _ lo hi (he.below HX1.out) (SliceR.below H.out HX1.out (DiskR.below HX1.out HLE.out)) (raidOk_all HOK.out.symm) hjz).mono ?_
  rw [← HF1.out, ← HF2.out]
  rintro e w2 ⟨rfl, hb2⟩
  obtain ⟨bt, ⟨ba, bb, bs, bm, bl⟩, bd, bn⟩ := rd
  have HB2 : Hid (w2.heap[w.heap.size + 1]? = some (.cells #[.int .i64 0, .int .i64 0, .int .i64 0, .int .i64 0, .int .i64 0, .int .i64 0, .int .i64 0, .int .i64 0] 31 (0, 0))) := Lib.hid ((hb2.block _ l1).trans B1.out)
  have HX2 : Hid (Below w.heap.size w w2) := Lib.hid (HX1.out.trans (hb2.mono HX1.out.size))
  have z2 := hb2.size
  clear hb2 a0
  have f0 := block_free HB2.out 0; have f1 := block_free HB2.out 1; have f2 := block_free HB2.out 2; have f3 := block_free HB2.out 3; have f4 := block_free HB2.out 4; have f5 := block_free HB2.out 5; have f6 := block_free HB2.out 6; have f7 := block_free HB2.out 7
  have s0 := cell_of_row _ _ 0 _ _ (0, 0) HB2.out; have s1 := cell_of_row _ _ 1 _ _ (0, 0) HB2.out; have s2 := cell_of_row _ _ 2 _ _ (0, 0) HB2.out; have s3 := cell_of_row _ _ 3 _ _ (0, 0) HB2.out; have s4 := cell_of_row _ _ 4 _ _ (0, 0) HB2.out; have s5 := cell_of_row _ _ 5 _ _ (0, 0) HB2.out; have s6 := cell_of_row _ _ 6 _ _ (0, 0) HB2.out; have s7 := cell_of_row _ _ 7 _ _ (0, 0) HB2.out
  have hst := set_8 (x0 := .int .i64 bt) (x1 := .int .i64 ba) (x2 := .int .i64 bb) (x3 := .int .i64 bs) (x4 := .int .i64 bm) (x5 := .int .i64 bl) (x6 := .int .i64 bd) (x7 := .int .i64 bn) HB2.out
  have t0 := cell_of_row _ _ 0 _ _ (0, 0) hst; have t1 := cell_of_row _ _ 1 _ _ (0, 0) hst; have t2 := cell_of_row _ _ 2 _ _ (0, 0) hst; have t3 := cell_of_row _ _ 3 _ _ (0, 0) hst; have t4 := cell_of_row _ _ 4 _ _ (0, 0) hst; have t5 := cell_of_row _ _ 5 _ _ (0, 0) hst; have t6 := cell_of_row _ _ 6 _ _ (0, 0) hst; have t7 := cell_of_row _ _ 7 _ _ (0, 0) hst
  clear hst
  have l12 : w.heap.size + 1 < w2.heap.size := by omega
  unfold rcA
  go_wp2_with fail
  refine bodyPost_ret (v := .tuple #[.agg #[.int .i64 bt, .int .i64 ba, .int .i64 bb, .int .i64 bs, .int .i64 bm, .int .i64 bl, .int .i64 bd, .int .i64 bn], .bool rb]) (by simp [results, Tryz.results10, go_sem, t0, t1, t2, t3, t4, t5, t6, t7]) rfl ⟨rfl, below8 HX2.out (by omega)⟩
end Go.Proofs.YtcfgbeajdkbbcaaGreatDoor
