/- RaidNew of the reference: three new disks. No condition. -/
import Derived.Test.YtfokpjoeankobaaRaidEach
import Derived.Test.YtfokpjoeankobaaDiskLose
import Derived.Test.YtfokpjoeankobaaLib
namespace Go.Proofs.Ytfokpjoeankobaa
set_option linter.unnecessarySimpa false
open Go.RowKit
set_option linter.unusedVariables false
set_option linter.unusedSimpArgs false

def newR : RaidD := [newD, newD, newD]
theorem newR_get {r : Nat} (h : r < 3) : newR[r]? = some newD := by
  unfold newR
  match r, h with
  | 0, _ => rfl
  | 1, _ => rfl
  | 2, _ => rfl
theorem info_DiskNewS : (Try.prog.info? 45).map (fun i => (i.zero, i.size, i.bytes)) = some (some (.agg #[.slice none 0 0, .slice none 0 0, .bool false]), 3, 56) := by kernel_rfl
set_option maxRecDepth 100000 in
set_option maxHeartbeats 4000000 in
theorem spRaidNew_any (w : World) :
    Calls Try.prog 42 #[] w (NewR RaidN w newR) := by
  obtain ⟨iD, hiD, hz0D, hz1D, hz2D⟩ := info_parts info_DiskNewS
  go_enter Try.func42, Try.ntmps42
  go_wp2_with fail
  obtain ⟨w1, hW⟩ : ∃ w1, w1 = ((w.alloc (.cells #[.slice none 0 0] 35)).alloc (.cells #[] 45)).alloc (.cells #[.slice (some ⟨w.heap.size + 1, 0, none⟩) 0 0] 35) := ⟨_, rfl⟩
  have X1 : Below w.heap.size w w1 := by rw [hW]; exact bel3
  have z1 : w1.heap.size = w.heap.size + 3 := by rw [hW]; simp
  have k1 : w1.heap[w.heap.size]? = some (.cells #[.slice none 0 0] 35 (0, 0)) := by rw [hW]; exact al3_0
  have k3 : w1.heap[w.heap.size + 2]? = some (.cells #[.slice (some ⟨w.heap.size + 1, 0, none⟩) 0 0] 35 (0, 0)) := by rw [hW]; exact al3_2
  rw [← hW]; clear hW
  have HX1 := Lib.hid X1; have K1 := Lib.hid k1; have K3 := Lib.hid k3
  clear X1 k1 k3
  go_loopw [2] (fun i wr => ∃ (r : Nat) (A' : Option Addr) (c' : Nat), r ≤ 3 ∧ i = .int .i64 (r : Int) ∧ w.heap.size + 3 ≤ wr.heap.size ∧ Hid (Below w.heap.size w wr) ∧ Hid (wr.heap[w.heap.size]? = some (.cells #[.slice none 0 0] 35 (0, 0))) ∧ Hid (wr.heap[w.heap.size + 2]? = some (.cells #[.slice A' r c'] 35 (0, 0))) ∧ Hid (EachI (fun _ x => x) newR w wr (w.heap.size + 3) r A' c')) (fun i _ => 3 - (intOf i).toNat)
  case atStart => exact ⟨0, _, 0, Nat.zero_le _, rfl, by omega, HX1, K1, K3, Lib.hid EachI.zero⟩
  case round =>
    clear HX1 K1 K3 z1
    obtain ⟨r, A', c', hk, rfl, hz, HB, R1, R3, HI⟩ := hrel
    by_cases hlt : r < 3
    · have HX := Lib.hid (newR_get hlt)
      have lb3 : w.heap.size + 2 < wr.heap.size := by omega
      have k1 : (r : Int) < 3 := by omega
      obtain ⟨S, vs, o, hO, hvl, hS, hrow, hone⟩ := HI.out
      have HO := Lib.hid hO; have HV := Lib.hid hvl; have HS := Lib.hid hS; have HROW := Lib.hid hrow; have HON := Lib.hid hone
      clear hO hvl hS hrow hone
      go_wp2_with fail
      apply wp_region_rgz (Chg (fun b => b ∈ S ∨ b = w.heap.size + 2)) (Ext) (fun y w' k' => (k' < 1000 → Below wr.heap.size wr w') ∧ (3000 ≤ k' → ∃ A2 c2, EachI (fun _ x => x) newR w w' (w.heap.size + 3) (r + 1) A2 c2 ∧ w'.heap[w.heap.size + 2]? = some (.cells #[.slice A2 (r + 1) c2] 35 (0, 0)))) [0, 0, 0, 0, 1000, 0, 2000] [3000, 3000, 3000, 3000, 3000, 2000, 2000] (by kernel_rfl) (false :: false :: false :: false :: false :: false :: false :: false :: false :: true :: true :: true :: true :: true :: true :: false :: []) [some 9, some 10, some 11, some 12, some 13, some 14, none] [[], [0], [], [2], [1, 3], [], [4, 5]] [false, false, false, false, true, false, true] [true, true, false, false, false, true, true] [] [MStP.is _, MStP.is _, ⟨fun v w' => ∃ cs lo2 hi2, v = .agg (List.toArray cs) ∧ wr.heap.size ≤ lo2 ∧ lo2 ≤ hi2 ∧ hi2 ≤ w'.heap.size ∧ DiskN w' lo2 hi2 cs newD, false, fun v w' w'' hs h => by obtain ⟨cs, lo2, hi2, e, h1, h2, h3, h4⟩ := h; exact ⟨cs, lo2, hi2, e, h1, h2, Nat.le_trans h3 (Below.size hs), DiskN.below hs h3 _ _ h4⟩, fun h => by cases h⟩, ⟨fun v w' => ∃ q cs lo2 hi2, v = .slice (some ⟨q, 0, none⟩) 1 1 ∧ wr.heap.size ≤ lo2 ∧ lo2 ≤ hi2 ∧ hi2 ≤ w'.heap.size ∧ DiskN w' lo2 hi2 cs newD ∧ w'.heap[q]? = some (.cells (List.toArray cs) 45 (0, 0)), false, fun v w' w'' hs h => by obtain ⟨q, cs, lo2, hi2, e, h1, h2, h3, h4, h5⟩ := h; exact ⟨q, cs, lo2, hi2, e, h1, h2, Nat.le_trans h3 (Below.size hs), DiskN.below hs h3 _ _ h4, (Below.block hs q (Array.getElem?_eq_some_iff.1 h5).1).trans h5⟩, fun h => by cases h⟩, ⟨fun v w' => ∃ A2 c2, v = .slice A2 (r + 1) c2 ∧ EachI (fun _ x => x) newR w w' (w.heap.size + 3) (r + 1) A2 c2 ∧ w'.heap[w.heap.size + 2]? = some (.cells #[.slice A' r c'] 35 (0, 0)), false, fun v w' w'' hs h => by obtain ⟨A2, c2, e, h1, h2⟩ := h; exact ⟨A2, c2, e, h1.below hs, (Below.block hs _ (Array.getElem?_eq_some_iff.1 h2).1).trans h2⟩, fun h => by cases h⟩, MStP.is _, MStP.is _] (by kernel_rfl) (by kernel_rfl) (by kernel_rfl) (by kernel_rfl)
      case hobs =>
        refine ⟨fun y w' k hS hj hk hF K hK => ?_, ?_⟩
        · skip -- 0: fieldAddr
          simp only [fillL, cond_true, cond_false, List.getD_cons_zero, List.getD_cons_succ, StP.is, Act.put, List.setIfInBounds_toArray, List.set_cons_zero, List.set_cons_succ, Nat.reduceAdd, MStP.is, Option.isSome_some, Option.isSome_none] at hK ⊢
          simp only [List.sum_cons, List.sum_nil, List.getD_cons_zero, List.getD_cons_succ, Nat.reduceAdd, Nat.add_zero] at hk
          refine rg_yes (by kernel_rfl) ?_
          clear hF
          go_simp
          exact hK _ _ (Ext.refl _) ⟨fun h => (hj.1 (by omega)), fun h => absurd h (by omega)⟩ rfl
        refine ⟨fun y w' k hS hj hk hF K hK => ?_, ?_⟩
        · skip -- 1: load
          have e9 : y 9 = _ := hF.1
          have e9' := Lib.hid e9
          simp only [fillL, cond_true, cond_false, List.getD_cons_zero, List.getD_cons_succ, StP.is, Act.put, List.setIfInBounds_toArray, List.set_cons_zero, List.set_cons_succ, Nat.reduceAdd, e9, MStP.is, Option.isSome_some, Option.isSome_none] at hK ⊢
          simp only [List.sum_cons, List.sum_nil, List.getD_cons_zero, List.getD_cons_succ, Nat.reduceAdd, Nat.add_zero] at hk
          refine rg_yes (by kernel_rfl) ?_
          clear e9
          clear hF
          have hE := hj.1 (by omega)
          have hsw := hE.size
          have q0_ := (World.cell?_of_block (a := ⟨w.heap.size + 2, _, none⟩) (hE.block _ lb3)).trans (cell_of_row _ _ 0 _ _ (0, 0) R3.out)
          go_simp
          exact hK _ _ (Ext.refl _) ⟨fun h => hE, fun h => absurd h (by omega)⟩ rfl
        refine ⟨fun y w' k hS hj hk hF K hK => ?_, ?_⟩
        · skip -- 2: call
          simp only [fillL, cond_true, cond_false, List.getD_cons_zero, List.getD_cons_succ, StP.is, Act.put, List.setIfInBounds_toArray, List.set_cons_zero, List.set_cons_succ, Nat.reduceAdd, MStP.is, Option.isSome_some, Option.isSome_none] at hK ⊢
          simp only [List.sum_cons, List.sum_nil, List.getD_cons_zero, List.getD_cons_succ, Nat.reduceAdd, Nat.add_zero] at hk
          refine rg_yes (by kernel_rfl) ?_
          clear hF
          have hE := hj.1 (by omega)
          go_simp
          go_at_call 55
          refine (spDiskNew_any _).mono ?_
          rintro e w'' ⟨csd, rfl, hr, hb⟩
          exact hK _ _ hb ⟨fun h => hE.trans (hb.mono hE.size), fun h => absurd h (by omega)⟩ ⟨csd, w'.heap.size, w''.heap.size, rfl, hE.size, hb.size, Nat.le_refl _, hr⟩
        refine ⟨fun y w' k hS hj hk hF K hK => ?_, ?_⟩
        · skip -- 3: buildSlice
          obtain ⟨csd, lo2, hi2, e11, hlo2, hlh2, hhi2, hd⟩ := hF.1
          have HD := Lib.hid hd
          obtain ⟨D0, d0_, dc0, D1, d1_, dc1, rfl, -⟩ := hd
          have e11' := Lib.hid e11
          simp only [fillL, cond_true, cond_false, List.getD_cons_zero, List.getD_cons_succ, StP.is, Act.put, List.setIfInBounds_toArray, List.set_cons_zero, List.set_cons_succ, Nat.reduceAdd, e11, MStP.is, Option.isSome_some, Option.isSome_none] at hK ⊢
          simp only [List.sum_cons, List.sum_nil, List.getD_cons_zero, List.getD_cons_succ, Nat.reduceAdd, Nat.add_zero] at hk
          refine rg_yes (by kernel_rfl) ?_
          clear e11
          clear hF
          have hE := hj.1 (by omega)
          go_simp
          exact hK _ _ (Ext.alloc _ _) ⟨fun h => hE.alloc hE.size _, fun h => absurd h (by omega)⟩ ⟨w'.heap.size, _, lo2, hi2, rfl, hlo2, hlh2, by simp; omega, DiskN.below bel1 hhi2 _ _ HD.out, heap_alloc_new _ _⟩
        refine ⟨fun y w' k hS hj hk hF K hK => ?_, ?_⟩
        · skip -- 4: call
          have e10 : y 10 = _ := hF.1
          obtain ⟨q, csd, lo2, hi2, e12, hlo2, hlh2, hhi2, hd, hlq⟩ := hF.2.1
          have e10' := Lib.hid e10
          have e12' := Lib.hid e12
          simp only [fillL, cond_true, cond_false, List.getD_cons_zero, List.getD_cons_succ, StP.is, Act.put, List.setIfInBounds_toArray, List.set_cons_zero, List.set_cons_succ, Nat.reduceAdd, e10, e12, MStP.is, Option.isSome_some, Option.isSome_none] at hK ⊢
          simp only [List.sum_cons, List.sum_nil, List.getD_cons_zero, List.getD_cons_succ, Nat.reduceAdd, Nat.add_zero] at hk
          refine rg_yes (by kernel_rfl) ?_
          clear e10 e12
          clear hF
          have hE := hj.1 (by omega)
          have hOA := HO.out.below hE
          have hcl3 := hd.len
          have hRow : RowAt w' (some ⟨q, 0, none⟩) (1 * 3) csd := ⟨by omega, fun _ => ⟨q, 0, rfl, fun j hj => by rw [Nat.zero_add, cell_of_row _ _ _ _ _ (0, 0) hlq]; simp⟩⟩
          refine wp_append_row (.tmp 10) (.tmp 12) 33 rfl 45 iD (.agg #[.slice none 0 0, .slice none 0 0, .bool false]) 3 56 Try.underlying33 hiD hz0D hz1D hz2D rfl (by decide) S A' (some ⟨q, 0, none⟩) r c' 1 1 vs csd rfl rfl hOA hRow hd.one (by unfold maxLen; omega) (by omega) ?_
          intro A2 c2 S2 w'' hO2 hS2 hC2
          have hI := EachI.step (w := w) (F := fun _ x => x) HX.out HV.out HROW.out HON.out HS.out hE (DiskN.wide hlo2 hhi2 (Nat.le_refl _) _ _ hd) hz (Below.refl _ w') hOA hO2 (fun g hg => (hS2 g hg).imp id (fun h => by have := hE.size; omega)) hC2
          refine hK _ _ (hC2.mono fun b _ hb => .inl hb) ⟨fun h => absurd h (by omega), fun h => absurd h (by omega)⟩ ⟨A2, c2, rfl, hI, ?_⟩
          exact (hC2.block _ (by have := hE.size; omega) (fun hb => by have := HS.out _ hb; omega)).trans ((hE.block _ (by omega)).trans R3.out)
        refine ⟨fun y w' k hS hj hk hF K hK => ?_, ?_⟩
        · skip -- 5: fieldAddr
          simp only [fillL, cond_true, cond_false, List.getD_cons_zero, List.getD_cons_succ, StP.is, Act.put, List.setIfInBounds_toArray, List.set_cons_zero, List.set_cons_succ, Nat.reduceAdd, MStP.is, Option.isSome_some, Option.isSome_none] at hK ⊢
          simp only [List.sum_cons, List.sum_nil, List.getD_cons_zero, List.getD_cons_succ, Nat.reduceAdd, Nat.add_zero] at hk
          refine rg_yes (by kernel_rfl) ?_
          clear hF
          go_simp
          exact hK _ _ (Ext.refl _) ⟨fun h => (hj.1 (by omega)), fun h => absurd h (by omega)⟩ rfl
        refine ⟨fun y w' k hS hj hk hF K hK => ?_, ?_⟩
        · skip -- 6: store
          obtain ⟨A2, c2, e13, hI9, hbx9⟩ := hF.1
          have e14 : y 14 = _ := hF.2.1
          have e13' := Lib.hid e13
          have e14' := Lib.hid e14
          simp only [fillL, cond_true, cond_false, List.getD_cons_zero, List.getD_cons_succ, StP.is, Act.put, List.setIfInBounds_toArray, List.set_cons_zero, List.set_cons_succ, Nat.reduceAdd, e13, e14, MStP.is, Option.isSome_some, Option.isSome_none] at hK ⊢
          simp only [List.sum_cons, List.sum_nil, List.getD_cons_zero, List.getD_cons_succ, Nat.reduceAdd, Nat.add_zero] at hk
          refine rg_yes (by kernel_rfl) ?_
          clear e13 e14
          clear hF
          have q0_ := cell_of_row _ _ 0 _ _ (0, 0) hbx9
          have f0_ := block_free hbx9 0
          have HBX9 := Lib.hid hbx9; clear hbx9
          go_simp
          exact hK undef _ ((Chg.refl _ _).setCell (.inl (.inr rfl)) _) ⟨fun h => absurd h (by omega), fun _ => ⟨A2, c2, hI9.far (by omega), block_set HBX9.out⟩⟩ rfl
        trivial
      case hH => rfl
      case hNS => exact fun _ _ h => Chg.of_below h _
      case hSt => exact fun a b => Chg.trans a b
      case hb => rfl
      case hdrew => exact (Chg.refl _ _).drewN 1
      case hj0 => exact fun y => ⟨fun _ => below_drewN (Below.refl _ _) 1, fun h => absurd h (by omega)⟩
      case hend =>
        intro y w6 hSS hJ hF
        obtain ⟨A2, c2, hI, hbx⟩ := hJ.2 (by decide)
        have HI6 := Lib.hid hI
        have z6 := hSS.size
        have hns : ∀ b, b < w.heap.size + 2 → ¬ (b ∈ S ∨ b = w.heap.size + 2) := fun b hb h => by
          rcases h with h | h
          · have := HS.out b h; omega
          · omega
        have HB6 : Hid (Below w.heap.size w w6) := Lib.hid (HB.out.trans (hSS.below (B := w.heap.size) (fun b _ h => Nat.le_of_not_lt fun hb => hns b (by omega) h) (by omega)))
        have R16 : Hid (w6.heap[w.heap.size]? = some (.cells #[.slice none 0 0] 35 (0, 0))) := Lib.hid ((hSS.block _ (by omega) (hns _ (by omega))).trans R1.out)
        have HBX6 := Lib.hid hbx
        clear hJ hF hSS hI hbx hns
        simp only [fillL, cond_true, cond_false, Nat.reduceAdd]
        go_wp2_with fail
        go_roundw
        case rel => exact ⟨r + 1, A2, c2, by omega, by go_num, by omega, HB6, R16, HBX6, HI6⟩
        case measure => simp [intOf]; omega
    · obtain rfl : r = 3 := by omega
      have s0 := cell_of_row _ _ 0 _ _ (0, 0) R1.out
      have f0 := block_free R1.out 0
      have s1 := cell_of_row _ _ 0 _ _ (0, 0) R3.out
      have l1 : w.heap.size < wr.heap.size := by omega
      have l3 : w.heap.size + 2 < wr.heap.size := by omega
      have t0 := cell_of_row _ _ 0 _ _ (0, 0) (block_set (o := 0) (v := .slice A' 3 c') R1.out)
      go_wp2_with fail
      refine bodyPost_ret (v := .agg #[.slice A' 3 c']) (by simp [results, Try.results42, go_sem, t0]) rfl ⟨_, rfl, ?_, Below.setCell (p := ⟨w.heap.size, 0, none⟩) HB.out (by simp) _⟩
      obtain ⟨S, vs, o, hO, hvl, hS, hrow, hone⟩ := HI.out
      have hsl := OwnA.slice (R := DiskO o) (lo := w.heap.size + 3) (hi := wr.heap.size) hO (xs := newR.zipIdx) (by rfl) (by simpa [newR] using hrow) (fun g hg => ⟨hS g hg, hO.lt g hg⟩) (Nat.le_refl _)
      have hR : RaidN wr (w.heap.size + 3) wr.heap.size [.slice A' 3 c'] newR := ⟨_, _, _, o, rfl, hsl.1, hsl.2⟩
      exact RaidN.wide (by omega) (by simp [World.setCell]) (Nat.le_refl _) _ _ (RaidN.keep (Same.setCell (p := ⟨w.heap.size, 0, none⟩) (Same.refl _ _ _) (.inl (by simp)) _) (by simp [World.setCell]) _ _ hR)
end Go.Proofs.Ytfokpjoeankobaa
