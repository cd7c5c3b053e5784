/- l93Roots: drawn disks with roots. No condition. -/
import Derived.Test.YtcfgbeajdkbbcaaGreatDoorRaidW
import Derived.Test.YtcfgbeajdkbbcaaGreatDoorDrawRoots
import Derived.Test.YtcfgbeajdkbbcaaGreatDoorLib
namespace Go.Proofs.YtcfgbeajdkbbcaaGreatDoor
set_option linter.unnecessarySimpa false
open Go Go.Lib Go.RowKit
set_option linter.unusedVariables false
set_option linter.unusedSimpArgs false

theorem B93.lay {M p bx g c lo k lo2 : Nat} {w W : World} {v0 v1 v2 : Value} {x : DiskD} (h : B93 M w p bx g c lo W) (hM : M ≤ 1000000) (hd : DiskR W lo2 W.heap.size [v0, v1, v2] x) (h2 : lo ≤ lo2) (h3 : g < lo2) (hlo : w.heap.size < lo) (hg : lo ≤ g) :
    A93 w p bx g c lo (((W.setCell ⟨g, k * 3, none⟩ v0).setCell ⟨g, k * 3 + 1, none⟩ v1).setCell ⟨g, k * 3 + 2, none⟩ v2) := by
  have hne : bx ≠ g := by
    rintro rfl
    obtain ⟨cur, h1, _⟩ := h.raid
    have := h1.symm.trans h.box
    simp at this
  refine ⟨Chg.setCell (p := ⟨g, k * 3 + 2, none⟩) (Chg.setCell (p := ⟨g, k * 3 + 1, none⟩) (Chg.setCell (p := ⟨g, k * 3, none⟩) h.chg (.inr (by show w.heap.size ≤ g; omega)) _) (.inr (by show w.heap.size ≤ g; omega)) _) (.inr (by show w.heap.size ≤ g; omega)) _,
    (set3_far (by omega)).trans h.res, (set3_far hne).trans h.box, ?_⟩
  exact RaidW.put h.raid hM hd h2 h3 (by simp [World.setCell]) (fun i hi => set3_far hi) (fun cur h => set3 h)
theorem B93.mono {M N p bx g c lo : Nat} {w wr : World} (h : B93 M w p bx g c lo wr) (hM : M ≤ N) : B93 N w p bx g c lo wr := ⟨h.chg, h.res, h.box, h.raid.mono hM⟩
/-- Disks drawn. -/
def PickedRaid (d : Nat) (w : World) (p : Nat) (A : Option Addr) (n c : Nat) (zs : List Int) (k : Nat) (e : Ending) (w' : World) : Prop :=
  ∃ (g c3 : Nat) (x : RaidD) (k' : Nat), e = .returned (.agg #[.slice (some ⟨g, 0, none⟩) 3 c3]) ∧ RaidR w' w.heap.size w'.heap.size [.slice (some ⟨g, 0, none⟩) 3 c3] x ∧ k' ≤ k + d ∧ Rd w' p A n c zs k' ∧ Chg (· ∈ [p]) w w'
theorem tmod4 (t : Int) : IntKind.i64.wrap (t.tmod 4) = t.tmod 4 ∧ -4 < t.tmod 4 ∧ t.tmod 4 < 4 := by
  have h1 := Int.tmod_lt_of_pos t (b := 4) (by decide)
  have h2 := Int.lt_tmod_of_pos t (b := 4) (by decide)
  exact ⟨IntWalk.i64_in _ (by omega), by omega, h1⟩
set_option maxRecDepth 100000 in
set_option maxHeartbeats 8000000 in
theorem l93Roots_any (w : World) (p : Nat) (A : Option Addr) (n c : Nat) (zs : List Int) (k : Nat) (h : Rd w p A n c zs k) (hk : k ≤ 300000) :
    Calls Tryz.prog 34 #[.pointer (some ⟨p, 0, none⟩)] w (PickedRaid 1100 w p A n c zs k) := by
  have hp := h.2.2.2.1
  go_enter Tryz.func34, Tryz.ntmps34
  go_wp2_with fail
  refine (spRaidNew_any _).mono ?_
  rintro e w1 ⟨cs, rfl, hN, hb1⟩
  have hN2 := hN
  obtain ⟨A3, n3, c3, o3, rfl, hs3, hw3⟩ := hN2
  obtain ⟨g, rfl, rfl, hc3, hcm, hg1, hg2, hW⟩ := hN.w
  clear hs3 hw3 hN
  obtain ⟨lo, hlo⟩ : ∃ lo, lo = w.heap.size + 1 := ⟨_, rfl⟩
  have hW : RaidW 10000 g lo w1 := by rw [hlo]; simpa using hW
  have hg1 : lo ≤ g := by rw [hlo]; simpa using hg1
  have zz1 : lo ≤ w1.heap.size := by have := hb1.size; simp at this; omega
  have res1 : w1.heap[w.heap.size]? = some (.cells #[.slice none 0 0] 36 (0, 0)) := (hb1.block _ (by simp)).trans (heap_alloc_new _ _)
  have X1 : Chg (· ∈ [p]) w w1 := ((Chg.refl _ _).alloc _).trans (Chg.of_below hb1 _)
  have rd1 := Rd.below (Rd.below h bel1) hb1
  have hlo' : w.heap.size < lo := by omega
  obtain ⟨bx, hbx⟩ : ∃ b, b = w1.heap.size := ⟨_, rfl⟩
  have HB0 : Hid (∀ W, Chg (· ∈ [p]) (w1.alloc (.cells #[.slice (some ⟨g, 0, none⟩) 3 c3] 36)) W → B93 10000 w p bx g c3 lo W) := Lib.hid (fun W hW2 =>
    B93.step (wr := w1.alloc (.cells #[.slice (some ⟨g, 0, none⟩) 3 c3] 36)) ⟨X1.alloc _, (Below.heap_alloc _ _ _ (by omega)).trans res1, (by rw [hbx]; exact heap_alloc_new _ _), hW.keep hg1 (fun b _ h2 => Below.heap_alloc _ _ _ h2)⟩ hW2 hp hlo' hg1 (by omega))
  have hbl : lo ≤ bx := by omega
  clear hW res1 X1 hb1 hlo
  go_wp2_with fail
  refine (pick_any _ p A n c zs k 6 (Rd.below rd1 bel1) (by omega) (by omega) (by omega)).mono ?_
  rintro e w2 ⟨q0, rfl, hq0, rd2, hc2, hz2⟩
  have hq0 := hq0 (by omega)
  have HB := Lib.hid (HB0.out w2 hc2)
  rw [← hbx]
  clear HB0 hz2 hc2 rd1 hbx zz1 hg2
  go_wp2_with fail
  go_loopw [4] (fun i wr => ∃ (j k0 : Nat), i = .int .i64 (j : Int) ∧ j ≤ 5 ∧ k0 + 60 * j ≤ k + 1 + 60 * 5 ∧ Hid (Rd wr p A n c zs k0) ∧ Hid (B93 10000 w p bx g c3 lo wr)) (fun i _ => (RowKit.intOf i).toNat)
  case atStart => exact ⟨q0, k + 1, rfl, by omega, by omega, Lib.hid rd2, HB⟩
  case round =>
    clear HB rd2
    obtain ⟨j, k0, rfl, hj, hk0, HR, HB⟩ := hrel
    by_cases hj0 : 0 < j
    · have j0 : (0 : Int) < (j : Int) := by omega
      go_wp2_with fail
      refine (l93Root_any wr p A n c zs k0 HR.out (by omega)).mono ?_
      rintro e w3 ⟨t, a, b, s, m, l, d, y, k1, rfl, hk1, rd3, hc3'⟩
      have HB3 := Lib.hid (HB.out.step hc3' hp hlo' hg1 hbl)
      have lbx3 : bx < w3.heap.size := (Array.getElem?_eq_some_iff.1 HB3.out.box).1
      obtain ⟨hrem, r6l, r6u⟩ := tmod4 t
      clear hc3' HB HR
      go_wp2_with fail
      refine (pick_any _ p A n c zs k1 8 (Rd.below rd3 bel1) (by omega) (by omega) (by omega)).mono ?_
      rintro e w4 ⟨q8, rfl, hq8, rd4, hc4, hz4⟩
      have z4 : w3.heap.size + 1 ≤ w4.heap.size := by have := hc4.size; simp at this; omega
      have R8 : Hid (w4.heap[w3.heap.size]? = some (.cells #[.int .i64 t, .int .i64 a, .int .i64 b, .int .i64 s, .int .i64 m, .int .i64 l, .int .i64 d, .int .i64 y] 31 (0, 0))) := Lib.hid ((hc4.block _ (by simp) (by simp; omega)).trans (heap_alloc_new _ _))
      have HB4 := Lib.hid ((HB3.out.step (Chg.of_below bel1 _) hp hlo' hg1 hbl).step hc4 hp hlo' hg1 hbl)
      clear hc4 hz4 rd3 HB3
      by_cases h8 : q8 = 0
      case pos =>
        have e0 : ((q8 : Int) == 0) = true := by simp [h8]
        clear h8
        go_wp2_with fail
        refine (pick_any _ p A n c zs (k1 + 1) 4 rd4 (by omega) (by omega) (by omega)).mono ?_
        rintro e w5 ⟨q4, rfl, hq4, rd5, hc5, hz5⟩
        have hq4 := hq4 (by omega)
        have R85 := Lib.hid ((hc5.block _ (by omega) (by simp; omega)).trans R8.out)
        have HB5 := Lib.hid (HB4.out.step hc5 hp hlo' hg1 hbl)
        clear hc5 hz5 rd4 HB4 R8
        have HRr := Lib.hid rd5
        have tl : w3.heap.size < w5.heap.size := (Array.getElem?_eq_some_iff.1 R85.out).1
        have c0 := cell_of_row _ _ 0 _ _ (0, 0) R85.out; have c1 := cell_of_row _ _ 1 _ _ (0, 0) R85.out; have c2 := cell_of_row _ _ 2 _ _ (0, 0) R85.out; have c3 := cell_of_row _ _ 3 _ _ (0, 0) R85.out; have c4 := cell_of_row _ _ 4 _ _ (0, 0) R85.out; have c5 := cell_of_row _ _ 5 _ _ (0, 0) R85.out; have c6 := cell_of_row _ _ 6 _ _ (0, 0) R85.out; have c7 := cell_of_row _ _ 7 _ _ (0, 0) R85.out
        go_wp2_with fail
        refine (spRootPut_any t a b s m l d y _).mono ?_
        have hsm := rootS_small t a b s m l d y
        unfold TextR
        generalize rootS t a b s m l d y = xx at hsm ⊢
        rintro e w6 ⟨rfl, hb6⟩
        have HB6 := Lib.hid (HB5.out.step (Chg.of_below hb6 _) hp hlo' hg1 hbl)
        have HR6 := Lib.hid (HRr.out.below hb6)
        have hsx : (strB xx).size ≤ 10000 := hsm
        clear hb6 HRr HB5 R85 tl c0 c1 c2 c3 c4 c5 c6 c7
        go_wp2_with fail
        go_loopw [8] (fun i wr2 => ∃ (i2 k2 : Nat), i = .int .i64 (i2 : Int) ∧ i2 ≤ 3 ∧ k2 ≤ (k1 + 2) + i2 ∧ Hid (Rd wr2 p A n c zs k2) ∧ Hid (B93 10000 w p bx g c3 lo wr2)) (fun i _ => 3 - (RowKit.intOf i).toNat)
        case atStart => exact ⟨0, (k1 + 2), rfl, by omega, by omega, HR6, HB6⟩
        case round =>
          clear HB6 HR6
          obtain ⟨i2, k2, rfl, hi2, hk2, HR, HB⟩ := hrel
          have lbx : bx < wr.heap.size := (Array.getElem?_eq_some_iff.1 HB.out.box).1
          by_cases hi3 : i2 < 3
          · have i20 : (0 : Int) ≤ (i2 : Int) := by omega
            have i21 : (i2 : Int) < 3 := by omega
            by_cases hrow : 0 ≤ (q4 : Int)
            · go_wp2_with fail
              refine (pick_any wr p A n c zs k2 4 HR.out (by omega) (by omega) (by omega)).mono ?_
              rintro e w7 ⟨q4b, rfl, hq4b, rd7, hc7, hz7⟩
              have HB7 := Lib.hid (HB.out.step hc7 hp hlo' hg1 hbl)
              have lbx7 : bx < w7.heap.size := (Array.getElem?_eq_some_iff.1 HB7.out.box).1
              have HR7 := Lib.hid rd7
              clear hc7 hz7 rd7
              by_cases h4 : q4b = 0
              · have d4 : ¬ (0 : Int) < (q4b : Int) := by omega
                have d5 : ¬ (1 : Int) ≤ (q4b : Int) := by omega
                go_wp2_with fail
                go_roundw
                case rel => exact ⟨i2 + 1, k2 + 1, by go_num, by omega, by omega, HR7, HB7⟩
                case measure => simp [RowKit.intOf]; omega
              · have d4 : (0 : Int) < (q4b : Int) := by omega
                obtain ⟨gi, ci, hcell, hC, hlg, hne⟩ := HB7.out.raid.at_ hi3
                obtain ⟨s0, hs0, hfz, -⟩ := hC.at_ (r := q4) (by omega)
                have HC := Lib.hid hC; clear hC
                have HCELL := Lib.hid hcell
                have cb0 := cell_of_row _ _ 0 _ _ (0, 0) HB7.out.box
                have rr1 : (q4 : Int) < 64 := by omega
                go_wp2_with fail
                go_roundw
                case rel => exact ⟨i2 + 1, k2 + 1, by go_num, by omega, by omega, Lib.hid (Rd.setOld h HR7.out (a := ⟨gi, _, none⟩) (by show w.heap.size ≤ gi; omega) _), Lib.hid (HB7.out.put hi3 HCELL.out HC.out hsx hlo' hlg)⟩
                case measure => simp [RowKit.intOf]; omega
            · have d4 : ¬ 0 ≤ (q4 : Int) := hrow
              go_wp2_with fail
              go_roundw
              case rel => exact ⟨i2 + 1, k2, by go_num, by omega, by omega, HR, HB⟩
              case measure => simp [RowKit.intOf]; omega
          · obtain rfl : i2 = 3 := by omega
            go_wp2_with fail
            go_roundw
            case rel => exact ⟨j - 1, k2, by go_num, by omega, by omega, HR, HB⟩
            case measure => simp [RowKit.intOf]; omega
      case neg =>
        have e0 : ((q8 : Int) == 0) = false := by simp [h8]
        clear h8
        have HRr := Lib.hid rd4
        have tl : w3.heap.size < w4.heap.size := (Array.getElem?_eq_some_iff.1 R8.out).1
        have c0 := cell_of_row _ _ 0 _ _ (0, 0) R8.out; have c1 := cell_of_row _ _ 1 _ _ (0, 0) R8.out; have c2 := cell_of_row _ _ 2 _ _ (0, 0) R8.out; have c3 := cell_of_row _ _ 3 _ _ (0, 0) R8.out; have c4 := cell_of_row _ _ 4 _ _ (0, 0) R8.out; have c5 := cell_of_row _ _ 5 _ _ (0, 0) R8.out; have c6 := cell_of_row _ _ 6 _ _ (0, 0) R8.out; have c7 := cell_of_row _ _ 7 _ _ (0, 0) R8.out
        go_wp2_with fail
        refine (spRootPut_any t a b s m l d y _).mono ?_
        have hsm := rootS_small t a b s m l d y
        unfold TextR
        generalize rootS t a b s m l d y = xx at hsm ⊢
        rintro e w6 ⟨rfl, hb6⟩
        have HB6 := Lib.hid (HB4.out.step (Chg.of_below hb6 _) hp hlo' hg1 hbl)
        have HR6 := Lib.hid (HRr.out.below hb6)
        have hsx : (strB xx).size ≤ 10000 := hsm
        clear hb6 HRr HB4 R8 tl c0 c1 c2 c3 c4 c5 c6 c7
        go_wp2_with fail
        go_loopw [8] (fun i wr2 => ∃ (i2 k2 : Nat), i = .int .i64 (i2 : Int) ∧ i2 ≤ 3 ∧ k2 ≤ (k1 + 1) + i2 ∧ Hid (Rd wr2 p A n c zs k2) ∧ Hid (B93 10000 w p bx g c3 lo wr2)) (fun i _ => 3 - (RowKit.intOf i).toNat)
        case atStart => exact ⟨0, (k1 + 1), rfl, by omega, by omega, HR6, HB6⟩
        case round =>
          clear HB6 HR6
          obtain ⟨i2, k2, rfl, hi2, hk2, HR, HB⟩ := hrel
          have lbx : bx < wr.heap.size := (Array.getElem?_eq_some_iff.1 HB.out.box).1
          by_cases hi3 : i2 < 3
          · have i20 : (0 : Int) ≤ (i2 : Int) := by omega
            have i21 : (i2 : Int) < 3 := by omega
            by_cases hrow : 0 ≤ (t.tmod 4)
            · go_wp2_with fail
              refine (pick_any wr p A n c zs k2 4 HR.out (by omega) (by omega) (by omega)).mono ?_
              rintro e w7 ⟨q4b, rfl, hq4b, rd7, hc7, hz7⟩
              have HB7 := Lib.hid (HB.out.step hc7 hp hlo' hg1 hbl)
              have lbx7 : bx < w7.heap.size := (Array.getElem?_eq_some_iff.1 HB7.out.box).1
              have HR7 := Lib.hid rd7
              clear hc7 hz7 rd7
              by_cases h4 : q4b = 0
              · have d4 : ¬ (0 : Int) < (q4b : Int) := by omega
                have d5 : ¬ (1 : Int) ≤ (q4b : Int) := by omega
                go_wp2_with fail
                go_roundw
                case rel => exact ⟨i2 + 1, k2 + 1, by go_num, by omega, by omega, HR7, HB7⟩
                case measure => simp [RowKit.intOf]; omega
              · have d4 : (0 : Int) < (q4b : Int) := by omega
                obtain ⟨gi, ci, hcell, hC, hlg, hne⟩ := HB7.out.raid.at_ hi3
                obtain ⟨s0, hs0, hfz, -⟩ := hC.at_ (r := (t.tmod 4).toNat) (by omega)
                have HC := Lib.hid hC; clear hC
                have HCELL := Lib.hid hcell
                have cb0 := cell_of_row _ _ 0 _ _ (0, 0) HB7.out.box
                have rr1 : (t.tmod 4) < 64 := by omega
                go_wp2_with fail
                go_roundw
                case rel => exact ⟨i2 + 1, k2 + 1, by go_num, by omega, by omega, Lib.hid (Rd.setOld h HR7.out (a := ⟨gi, _, none⟩) (by show w.heap.size ≤ gi; omega) _), Lib.hid (HB7.out.put hi3 HCELL.out HC.out hsx hlo' hlg)⟩
                case measure => simp [RowKit.intOf]; omega
            · have d4 : ¬ 0 ≤ (t.tmod 4) := hrow
              go_wp2_with fail
              go_roundw
              case rel => exact ⟨i2 + 1, k2, by go_num, by omega, by omega, HR, HB⟩
              case measure => simp [RowKit.intOf]; omega
          · obtain rfl : i2 = 3 := by omega
            go_wp2_with fail
            go_roundw
            case rel => exact ⟨j - 1, k2, by go_num, by omega, by omega, HR, HB⟩
            case measure => simp [RowKit.intOf]; omega
    · obtain rfl : j = 0 := by omega
      go_wp2_with fail
      refine (pick_any wr p A n c zs k0 8 HR.out (by omega) (by omega) (by omega)).mono ?_
      rintro e w3 ⟨qq, rfl, hqq, rd3, hc3', hz3⟩
      have HB3 := Lib.hid (HB.out.step hc3' hp hlo' hg1 hbl)
      have HR3 := Lib.hid rd3
      clear hc3' hz3 rd3 HB HR
      by_cases h0 : qq = 0
      case pos =>
        have e0 : ((qq : Int) == 0) = true := by simp [h0]
        clear h0
        go_wp2_with fail
        apply wp_region_rgz (Chg (· ∈ [p, g])) (Chg (· ∈ [p])) (fun y w' k' => (k' < 5000 → (∃ k1, k1 ≤ (k0 + 1) + k' ∧ Rd w' p A n c zs k1) ∧ B93 10000 w p bx g c3 lo w') ∧ (5000 ≤ k' → (∃ k1, k1 ≤ (k0 + 1) + 1 ∧ Rd w' p A n c zs k1) ∧ A93 w p bx g c3 lo w')) [0, 0, 0, 1, 0, 0, 5000] [5000, 5000, 5000, 5000, 5000, 5000, 5000] (by kernel_rfl) (false :: false :: false :: false :: false :: false :: false :: false :: false :: false :: false :: false :: false :: false :: false :: false :: false :: false :: false :: false :: false :: false :: false :: false :: false :: false :: false :: false :: false :: false :: false :: false :: false :: false :: false :: false :: false :: false :: false :: false :: false :: false :: false :: false :: false :: false :: false :: false :: false :: false :: false :: false :: false :: false :: true :: true :: true :: true :: true :: true :: false :: false :: false :: false :: false :: false :: false :: false :: false :: false :: false :: false :: false :: false :: false :: false :: false :: false :: false :: false :: false :: false :: false :: false :: false :: false :: false :: false :: false :: false :: false :: false :: false :: false :: false :: []) [some 54, some 55, some 56, some 57, some 58, some 59, none] [[], [0], [], [2], [], [1, 3], [4, 5]] [false, false, false, false, false, false, true] [true, true, true, true, false, true, true] [] [MStP.is _, MStP.is _, MStP.is _, ⟨fun v _ => ∃ r : Nat, v = .int .i64 (r : Int) ∧ r < 3, true, fun _ _ _ _ h => h, fun _ _ _ _ _ h => h⟩, ⟨fun v w' => ∃ cs lo2 x, v = .agg (List.toArray cs) ∧ g < lo2 ∧ lo ≤ lo2 ∧ DiskR w' lo2 w'.heap.size cs x, false, fun v w' w'' hs h => by obtain ⟨cs, lo2, x, e, h1, h2, h3⟩ := h; exact ⟨cs, lo2, x, e, h1, h2, DiskR.wide (Nat.le_refl _) (Chg.size hs) (Nat.le_refl _) _ _ (DiskR.keep (fun b b1 b2 => Chg.block hs b b2 (by simp; omega)) (Chg.size hs) _ _ h3)⟩, fun h => by cases h⟩, ⟨fun v _ => ∃ r : Nat, v = .pointer (some ⟨g, r * 3, none⟩) ∧ r < 3, true, fun _ _ _ _ h => h, fun _ _ _ _ _ h => h⟩, MStP.is _] (by kernel_rfl) (by kernel_rfl) (by kernel_rfl) (by kernel_rfl)
        case hobs =>
          refine ⟨fun y w' k hS hj hk hF K hK => ?_, ?_⟩
          · skip -- 0: fieldAddr
            simp only [fillL, cond_true, cond_false, List.getD_cons_zero, List.getD_cons_succ, StP.is, Act.put, List.setIfInBounds_toArray, List.set_cons_zero, List.set_cons_succ, Nat.reduceAdd, MStP.is, Option.isSome_some, Option.isSome_none] at hK ⊢
            simp only [List.sum_cons, List.sum_nil, List.getD_cons_zero, List.getD_cons_succ, Nat.reduceAdd, Nat.add_zero] at hk
            refine rg_yes (by kernel_rfl) ?_
            clear hF
            go_simp
            exact hK _ _ ((Chg.refl _ _)) ⟨fun h => hj.1 (by omega), fun h => absurd h (by omega)⟩ rfl
          refine ⟨fun y w' k hS hj hk hF K hK => ?_, ?_⟩
          · skip -- 1: load
            have e54 : y 54 = _ := hF.1
            have e54' := Lib.hid e54
            simp only [fillL, cond_true, cond_false, List.getD_cons_zero, List.getD_cons_succ, StP.is, Act.put, List.setIfInBounds_toArray, List.set_cons_zero, List.set_cons_succ, Nat.reduceAdd, e54, MStP.is, Option.isSome_some, Option.isSome_none] at hK ⊢
            simp only [List.sum_cons, List.sum_nil, List.getD_cons_zero, List.getD_cons_succ, Nat.reduceAdd, Nat.add_zero] at hk
            refine rg_yes (by kernel_rfl) ?_
            clear e54
            clear hF
            obtain ⟨hrd, hB⟩ := hj.1 (by omega)
            have HBj := Lib.hid hB
            have qb := cell_of_row _ _ 0 _ _ (0, 0) hB.box
            have lqb := (Array.getElem?_eq_some_iff.1 hB.box).1
            clear hB
            go_simp
            exact hK _ _ (Chg.refl _ _) ⟨fun h => hj.1 (by omega), fun h => absurd h (by omega)⟩ rfl
          refine ⟨fun y w' k hS hj hk hF K hK => ?_, ?_⟩
          · skip -- 2: move
            simp only [fillL, cond_true, cond_false, List.getD_cons_zero, List.getD_cons_succ, StP.is, Act.put, List.setIfInBounds_toArray, List.set_cons_zero, List.set_cons_succ, Nat.reduceAdd, MStP.is, Option.isSome_some, Option.isSome_none] at hK ⊢
            simp only [List.sum_cons, List.sum_nil, List.getD_cons_zero, List.getD_cons_succ, Nat.reduceAdd, Nat.add_zero] at hk
            refine rg_yes (by kernel_rfl) ?_
            clear hF
            go_simp
            exact hK _ _ ((Chg.refl _ _)) ⟨fun h => hj.1 (by omega), fun h => absurd h (by omega)⟩ rfl
          refine ⟨fun y w' k hS hj hk hF K hK => ?_, ?_⟩
          · skip -- 3: call
            have e56 : y 56 = _ := hF.1
            have e56' := Lib.hid e56
            simp only [fillL, cond_true, cond_false, List.getD_cons_zero, List.getD_cons_succ, StP.is, Act.put, List.setIfInBounds_toArray, List.set_cons_zero, List.set_cons_succ, Nat.reduceAdd, e56, MStP.is, Option.isSome_some, Option.isSome_none] at hK ⊢
            simp only [List.sum_cons, List.sum_nil, List.getD_cons_zero, List.getD_cons_succ, Nat.reduceAdd, Nat.add_zero] at hk
            refine rg_yes (by kernel_rfl) ?_
            clear e56
            clear hF
            obtain ⟨⟨k1, hk1, hrd⟩, hB⟩ := hj.1 (by omega)
            have HBj := Lib.hid hB; clear hB
            go_simp
            go_at_call 35
            refine (pick_any w' p A n c zs k1 3 hrd (by omega) (by omega) (by omega)).mono ?_
            rintro e w'' ⟨r, rfl, hr1, rd1, hc1, hz1⟩
            exact hK _ _ hc1 ⟨fun h => ⟨⟨k1 + 1, by omega, rd1⟩, HBj.out.step hc1 hp hlo' hg1 hbl⟩, fun h => absurd h (by omega)⟩ ⟨r, rfl, by have := hr1 (by omega); omega⟩
          refine ⟨fun y w' k hS hj hk hF K hK => ?_, ?_⟩
          · skip -- 4: call
            simp only [fillL, cond_true, cond_false, List.getD_cons_zero, List.getD_cons_succ, StP.is, Act.put, List.setIfInBounds_toArray, List.set_cons_zero, List.set_cons_succ, Nat.reduceAdd, MStP.is, Option.isSome_some, Option.isSome_none] at hK ⊢
            simp only [List.sum_cons, List.sum_nil, List.getD_cons_zero, List.getD_cons_succ, Nat.reduceAdd, Nat.add_zero] at hk
            refine rg_yes (by kernel_rfl) ?_
            clear hF
            obtain ⟨⟨k1, hk1, hrd⟩, hB⟩ := hj.1 (by omega)
            have hgw := hB.raid.lt
            have HBj := Lib.hid hB; clear hB
            go_simp
            go_at_call 56
            refine (spDiskLose_any _).mono ?_
            rintro e w'' ⟨csd, rfl, hr, hb⟩
            exact hK _ _ (Chg.of_below hb _) ⟨fun h => ⟨⟨k1, by omega, hrd.below hb⟩, HBj.out.step (Chg.of_below hb _) hp hlo' hg1 hbl⟩, fun h => absurd h (by omega)⟩ ⟨csd, w'.heap.size, _, rfl, hgw, by omega, hr.r⟩
          refine ⟨fun y w' k hS hj hk hF K hK => ?_, ?_⟩
          · skip -- 5: indexAddr
            have e55 : y 55 = _ := hF.1
            obtain ⟨r, e57, hr3⟩ := hF.2.1
            have r30 : (0 : Int) ≤ (r : Int) := by omega
            have r31 : (r : Int) < 3 := by omega
            have e55' := Lib.hid e55
            have e57' := Lib.hid e57
            simp only [fillL, cond_true, cond_false, List.getD_cons_zero, List.getD_cons_succ, StP.is, Act.put, List.setIfInBounds_toArray, List.set_cons_zero, List.set_cons_succ, Nat.reduceAdd, e55, e57, MStP.is, Option.isSome_some, Option.isSome_none] at hK ⊢
            simp only [List.sum_cons, List.sum_nil, List.getD_cons_zero, List.getD_cons_succ, Nat.reduceAdd, Nat.add_zero] at hk
            refine rg_yes (by kernel_rfl) ?_
            clear e55 e57
            clear hF
            go_simp
            exact hK _ _ (Chg.refl _ _) ⟨fun h => hj.1 (by omega), fun h => absurd h (by omega)⟩ ⟨r, rfl, hr3⟩
          refine ⟨fun y w' k hS hj hk hF K hK => ?_, ?_⟩
          · skip -- 6: store
            obtain ⟨csd, lo2, xd, e58, hgl2, hll2, hd⟩ := hF.1
            have HD := Lib.hid hd
            obtain ⟨D0, d0_, dc0, D1, d1_, dc1, rfl, -⟩ := hd
            obtain ⟨rp, e59, hrp⟩ := hF.2.1
            have e58' := Lib.hid e58
            have e59' := Lib.hid e59
            simp only [fillL, cond_true, cond_false, List.getD_cons_zero, List.getD_cons_succ, StP.is, Act.put, List.setIfInBounds_toArray, List.set_cons_zero, List.set_cons_succ, Nat.reduceAdd, e58, e59, MStP.is, Option.isSome_some, Option.isSome_none] at hK ⊢
            simp only [List.sum_cons, List.sum_nil, List.getD_cons_zero, List.getD_cons_succ, Nat.reduceAdd, Nat.add_zero] at hk
            refine rg_yes (by kernel_rfl) ?_
            clear e58 e59
            clear hF
            obtain ⟨⟨k1, hk1, hrd⟩, hB⟩ := hj.1 (by omega)
            obtain ⟨cur, hgc, hgs, -⟩ := hB.raid
            have HBj := Lib.hid hB; clear hB
            have t0 : w'.cell? ⟨g, rp * 3, none⟩ = some _ := block_cell hgc (by omega)
            have t1 : w'.cell? ⟨g, rp * 3 + 1, none⟩ = some _ := block_cell hgc (by omega)
            have t2 : w'.cell? ⟨g, rp * 3 + 2, none⟩ = some _ := block_cell hgc (by omega)
            have fr0 : w'.frozen? ⟨g, rp * 3, none⟩ = false := block_free hgc _
            have fr1 : w'.frozen? ⟨g, rp * 3 + 1, none⟩ = false := block_free hgc _
            have fr2 : w'.frozen? ⟨g, rp * 3 + 2, none⟩ = false := block_free hgc _
            generalize cur[rp * 3]'_ = y0_ at t0
            generalize cur[rp * 3 + 1]'_ = y1_ at t1
            generalize cur[rp * 3 + 2]'_ = y2_ at t2
            clear hgc hgs
            go_simp
            refine hK undef _ (Chg.setCell (p := ⟨g, _, none⟩) (Chg.setCell (p := ⟨g, _, none⟩) (Chg.setCell (p := ⟨g, _, none⟩) (Chg.refl _ _) (.inl (by simp)) _) (.inl (by simp)) _) (.inl (by simp)) _) ⟨fun h => absurd h (by omega), fun _ => ⟨⟨k1, by omega, ?_⟩, ?_⟩⟩ rfl
            · exact Rd.setOld h (Rd.setOld h (Rd.setOld h hrd (a := ⟨g, _, none⟩) (by show w.heap.size ≤ g; omega) _) (a := ⟨g, _, none⟩) (by show w.heap.size ≤ g; omega) _) (a := ⟨g, _, none⟩) (by show w.heap.size ≤ g; omega) _
            · exact HBj.out.lay (by omega) HD.out hll2 hgl2 hlo' hg1
          trivial
        case hH => rfl
        case hNS => exact fun _ _ h => h.mono (fun b _ hb => by simp at hb ⊢; exact .inl hb)
        case hSt => exact fun a b => Chg.trans a b
        case hb => rfl
        case hdrew => exact (Chg.refl _ _).drewN 1
        case hj0 => exact fun y => ⟨fun _ => ⟨⟨_, Nat.le_refl _, HR3.out.below (below_drewN (Below.refl _ _) 1)⟩, HB3.out.step ((Chg.refl _ _).drewN 1) hp hlo' hg1 hbl⟩, fun h => absurd h (by omega)⟩
        case hend =>
          intro y w9 hS hJ hF
          obtain ⟨⟨k9, hk9, rd9⟩, hA⟩ := hJ.2 (by decide)
          have HA9 := Lib.hid hA; have HR9 := Lib.hid rd9
          clear hJ hF hS hA rd9
          simp only [fillL, cond_true, cond_false, Nat.reduceAdd]
          have HAf := HA9
          have HRf := HR9
          have rb := HAf.out.box
          have b0 := cell_of_row _ _ 0 _ _ (0, 0) rb
          have rr := HAf.out.res
          have r0 := cell_of_row _ _ 0 _ _ (0, 0) rr
          have f0 := block_free rr 0
          have s0 := cell_of_row _ _ 0 _ _ (0, 0) (block_set (o := 0) (v := .slice (some ⟨g, 0, none⟩) 3 c3) rr)
          have lb := (Array.getElem?_eq_some_iff.1 rb).1
          have lr := (Array.getElem?_eq_some_iff.1 rr).1
          clear rb rr
          go_wp2_with fail
          obtain ⟨x, -, hx⟩ := (HAf.out.raid.far (a := ⟨w.heap.size, 0, none⟩) hg1 hlo' (.slice (some ⟨g, 0, none⟩) 3 c3)).r hg1 hc3 hcm
          refine bodyPost_ret (v := .agg #[.slice (some ⟨g, 0, none⟩) 3 c3]) (by simp [results, Tryz.results34, go_sem, s0]) rfl ⟨g, c3, x, k9, rfl, RaidR.wide (by omega) (Nat.le_refl _) (Nat.le_refl _) _ _ hx, by omega, Rd.setOld h HRf.out (a := ⟨w.heap.size, 0, none⟩) (Nat.le_refl _) _, Chg.setCell (p := ⟨w.heap.size, 0, none⟩) HAf.out.chg (.inr (Nat.le_refl _)) _⟩
      have e0 : ((qq : Int) == 0) = false := by rw [beq_eq_false_iff_ne]; omega
      have e0' : ¬ (qq : Int) = 0 := by omega
      by_cases h1 : qq = 1
      case pos =>
        have e1 : ((qq : Int) == 1) = true := by simp [h1]
        have e1' : (qq : Int) = 1 := by omega
        clear h1 h0
        go_wp2_with fail
        refine (pick_any w3 p A n c zs (k0 + 1) 3 HR3.out (by omega) (by omega) (by omega)).mono ?_
        rintro e w4 ⟨dk, rfl, hdk, rd4, hc4, hz4⟩
        have hdk : dk < 3 := by have := hdk (by omega); omega
        have HB4 := Lib.hid (HB3.out.step hc4 hp hlo' hg1 hbl)
        clear hc4 hz4 HB3 HR3
        go_wp2_with fail
        refine (pick_any w4 p A n c zs (k0 + 2) 4 rd4 (by omega) (by omega) (by omega)).mono ?_
        rintro e w5 ⟨kk, rfl, hkk, rd5, hc5, hz5⟩
        have hkk : kk < 4 := by have := hkk (by omega); omega
        have HB5 := Lib.hid (HB4.out.step hc5 hp hlo' hg1 hbl)
        have HR5 := Lib.hid rd5
        clear hc5 hz5 HB4 rd4 rd5
        obtain ⟨gi, ci, hcell, hC, hlg, hne⟩ := HB5.out.raid.at_ hdk
        have HCELL := Lib.hid hcell; have HC := Lib.hid hC
        have hgw := HB5.out.raid.lt
        have hpg : g ≠ p := by omega
        have hpi : gi ≠ p := by omega
        have dd0 : (0 : Int) ≤ (dk : Int) := by omega
        have dd1 : (dk : Int) < 3 := by omega
        have kk0 : (0 : Int) ≤ (kk : Int) := by omega
        have kk1 : (kk : Int) < 64 := by omega
        clear hcell hC
        go_wp2_with fail
        apply wp_region_rgz (Chg (· ∈ [p, gi])) (Chg (· ∈ [p])) (fun y w' k' => (k' < 5000 → (∃ k1, k1 ≤ k0 + 3 + k' ∧ Rd w' p A n c zs k1) ∧ B93 10000 w p bx g c3 lo w' ∧ CellsB 10000 gi w') ∧ (5000 ≤ k' → (∃ k1, k1 ≤ k0 + 50 ∧ Rd w' p A n c zs k1) ∧ B93 10010 w p bx g c3 lo w')) (0 :: 0 :: 0 :: 0 :: 0 :: 0 :: 0 :: 0 :: 0 :: 0 :: 0 :: 0 :: 0 :: 0 :: 0 :: 0 :: 0 :: 14 :: 0 :: 5000 :: []) (5000 :: 5000 :: 5000 :: 5000 :: 5000 :: 5000 :: 5000 :: 5000 :: 5000 :: 5000 :: 5000 :: 5000 :: 5000 :: 5000 :: 5000 :: 5000 :: 5000 :: 5000 :: 5000 :: 5000 :: []) (by kernel_rfl) (false :: false :: false :: false :: false :: false :: false :: false :: false :: false :: false :: false :: false :: false :: false :: false :: false :: false :: false :: false :: false :: false :: false :: false :: false :: false :: false :: false :: false :: false :: false :: false :: false :: false :: false :: false :: false :: false :: false :: false :: false :: false :: false :: false :: false :: false :: false :: false :: false :: false :: false :: false :: false :: false :: false :: false :: false :: false :: false :: false :: false :: false :: false :: false :: false :: false :: true :: true :: true :: true :: true :: true :: true :: true :: true :: true :: true :: true :: true :: true :: true :: true :: true :: true :: true :: false :: false :: false :: false :: false :: false :: false :: false :: false :: false :: []) (some 66 :: some 67 :: some 68 :: some 69 :: some 70 :: some 71 :: some 72 :: some 73 :: some 74 :: some 75 :: some 76 :: some 77 :: some 78 :: some 79 :: some 80 :: some 81 :: some 82 :: some 83 :: some 84 :: none :: []) ([] :: [0] :: [] :: [1, 2] :: [3] :: [4] :: [] :: [] :: [] :: [8] :: [] :: [9, 10] :: [11] :: [12] :: [] :: [13, 14] :: [15] :: [7, 16] :: [5, 6] :: [17, 18] :: []) (false :: false :: false :: false :: false :: false :: false :: false :: false :: false :: false :: false :: false :: false :: false :: false :: false :: false :: false :: true :: []) (true :: true :: true :: true :: true :: true :: true :: true :: true :: true :: true :: true :: true :: true :: true :: true :: true :: true :: true :: true :: []) [] (MStP.is _ :: MStP.is _ :: MStP.is _ :: MStP.is _ :: MStP.is _ :: MStP.is _ :: MStP.is _ :: MStP.is _ :: MStP.is _ :: MStP.is _ :: MStP.is _ :: MStP.is _ :: MStP.is _ :: MStP.is _ :: MStP.is _ :: MStP.is _ :: ⟨fun v _ => ∃ s : ByteArray, v = .string s ∧ s.size ≤ 10000, true, fun _ _ _ _ h => h, fun _ _ _ _ _ h => h⟩ :: ⟨fun v _ => ∃ s : ByteArray, v = .string s ∧ s.size ≤ 10010, true, fun _ _ _ _ h => h, fun _ _ _ _ _ h => h⟩ :: MStP.is _ :: MStP.is _ :: []) (by kernel_rfl) (by kernel_rfl) (by kernel_rfl) (by kernel_rfl)
        case hobs =>
          refine ⟨fun y w' k hS hj hk hF K hK => ?_, ?_⟩
          · skip -- 0: fieldAddr
            simp only [fillL, cond_true, cond_false, List.getD_cons_zero, List.getD_cons_succ, StP.is, Act.put, List.setIfInBounds_toArray, List.set_cons_zero, List.set_cons_succ, Nat.reduceAdd, MStP.is, Option.isSome_some, Option.isSome_none] at hK ⊢
            simp only [List.sum_cons, List.sum_nil, List.getD_cons_zero, List.getD_cons_succ, Nat.reduceAdd, Nat.add_zero] at hk
            refine rg_yes (by kernel_rfl) ?_
            clear hF
            go_simp
            exact hK _ _ (Chg.refl _ _) ⟨fun h => hj.1 (by omega), fun h => absurd h (by omega)⟩ rfl
          refine ⟨fun y w' k hS hj hk hF K hK => ?_, ?_⟩
          · skip -- 1: load
            have e66 : y 66 = _ := hF.1
            have e66' := Lib.hid e66
            simp only [fillL, cond_true, cond_false, List.getD_cons_zero, List.getD_cons_succ, StP.is, Act.put, List.setIfInBounds_toArray, List.set_cons_zero, List.set_cons_succ, Nat.reduceAdd, e66, MStP.is, Option.isSome_some, Option.isSome_none] at hK ⊢
            simp only [List.sum_cons, List.sum_nil, List.getD_cons_zero, List.getD_cons_succ, Nat.reduceAdd, Nat.add_zero] at hk
            refine rg_yes (by kernel_rfl) ?_
            clear e66
            clear hF
            obtain ⟨hrd, hB, hCC⟩ := hj.1 (by omega)
            have qb := cell_of_row _ _ 0 _ _ (0, 0) hB.box
            have lqb := (Array.getElem?_eq_some_iff.1 hB.box).1
            clear hB hCC hrd
            go_simp
            exact hK _ _ (Chg.refl _ _) ⟨fun h => hj.1 (by omega), fun h => absurd h (by omega)⟩ rfl
          refine ⟨fun y w' k hS hj hk hF K hK => ?_, ?_⟩
          · skip -- 2: move
            simp only [fillL, cond_true, cond_false, List.getD_cons_zero, List.getD_cons_succ, StP.is, Act.put, List.setIfInBounds_toArray, List.set_cons_zero, List.set_cons_succ, Nat.reduceAdd, MStP.is, Option.isSome_some, Option.isSome_none] at hK ⊢
            simp only [List.sum_cons, List.sum_nil, List.getD_cons_zero, List.getD_cons_succ, Nat.reduceAdd, Nat.add_zero] at hk
            refine rg_yes (by kernel_rfl) ?_
            clear hF
            go_simp
            exact hK _ _ (Chg.refl _ _) ⟨fun h => hj.1 (by omega), fun h => absurd h (by omega)⟩ rfl
          refine ⟨fun y w' k hS hj hk hF K hK => ?_, ?_⟩
          · skip -- 3: indexAddr
            have e67 : y 67 = _ := hF.1
            have e68 : y 68 = _ := hF.2.1
            have e67' := Lib.hid e67
            have e68' := Lib.hid e68
            simp only [fillL, cond_true, cond_false, List.getD_cons_zero, List.getD_cons_succ, StP.is, Act.put, List.setIfInBounds_toArray, List.set_cons_zero, List.set_cons_succ, Nat.reduceAdd, e67, e68, MStP.is, Option.isSome_some, Option.isSome_none] at hK ⊢
            simp only [List.sum_cons, List.sum_nil, List.getD_cons_zero, List.getD_cons_succ, Nat.reduceAdd, Nat.add_zero] at hk
            refine rg_yes (by kernel_rfl) ?_
            clear e67 e68
            clear hF
            go_simp
            exact hK _ _ (Chg.refl _ _) ⟨fun h => hj.1 (by omega), fun h => absurd h (by omega)⟩ rfl
          refine ⟨fun y w' k hS hj hk hF K hK => ?_, ?_⟩
          · skip -- 4: fieldAddr
            have e69 : y 69 = _ := hF.1
            have e69' := Lib.hid e69
            simp only [fillL, cond_true, cond_false, List.getD_cons_zero, List.getD_cons_succ, StP.is, Act.put, List.setIfInBounds_toArray, List.set_cons_zero, List.set_cons_succ, Nat.reduceAdd, e69, MStP.is, Option.isSome_some, Option.isSome_none] at hK ⊢
            simp only [List.sum_cons, List.sum_nil, List.getD_cons_zero, List.getD_cons_succ, Nat.reduceAdd, Nat.add_zero] at hk
            refine rg_yes (by kernel_rfl) ?_
            clear e69
            clear hF
            go_simp
            exact hK _ _ (Chg.refl _ _) ⟨fun h => hj.1 (by omega), fun h => absurd h (by omega)⟩ rfl
          refine ⟨fun y w' k hS hj hk hF K hK => ?_, ?_⟩
          · skip -- 5: load
            have e70 : y 70 = _ := hF.1
            have e70' := Lib.hid e70
            simp only [fillL, cond_true, cond_false, List.getD_cons_zero, List.getD_cons_succ, StP.is, Act.put, List.setIfInBounds_toArray, List.set_cons_zero, List.set_cons_succ, Nat.reduceAdd, e70, MStP.is, Option.isSome_some, Option.isSome_none] at hK ⊢
            simp only [List.sum_cons, List.sum_nil, List.getD_cons_zero, List.getD_cons_succ, Nat.reduceAdd, Nat.add_zero] at hk
            refine rg_yes (by kernel_rfl) ?_
            clear e70
            clear hF
            have qc := (World.cell?_of_block (a := ⟨g, dk * 3, none⟩) (hS.block g hgw (by simp; exact ⟨hpg, fun e => hne e.symm⟩))).trans HCELL.out
            have lqc : g < w'.heap.size := Nat.lt_of_lt_of_le hgw hS.size
            go_simp
            exact hK _ _ (Chg.refl _ _) ⟨fun h => hj.1 (by omega), fun h => absurd h (by omega)⟩ rfl
          refine ⟨fun y w' k hS hj hk hF K hK => ?_, ?_⟩
          · skip -- 6: move
            simp only [fillL, cond_true, cond_false, List.getD_cons_zero, List.getD_cons_succ, StP.is, Act.put, List.setIfInBounds_toArray, List.set_cons_zero, List.set_cons_succ, Nat.reduceAdd, MStP.is, Option.isSome_some, Option.isSome_none] at hK ⊢
            simp only [List.sum_cons, List.sum_nil, List.getD_cons_zero, List.getD_cons_succ, Nat.reduceAdd, Nat.add_zero] at hk
            refine rg_yes (by kernel_rfl) ?_
            clear hF
            go_simp
            exact hK _ _ (Chg.refl _ _) ⟨fun h => hj.1 (by omega), fun h => absurd h (by omega)⟩ rfl
          refine ⟨fun y w' k hS hj hk hF K hK => ?_, ?_⟩
          · skip -- 7: move
            simp only [fillL, cond_true, cond_false, List.getD_cons_zero, List.getD_cons_succ, StP.is, Act.put, List.setIfInBounds_toArray, List.set_cons_zero, List.set_cons_succ, Nat.reduceAdd, MStP.is, Option.isSome_some, Option.isSome_none] at hK ⊢
            simp only [List.sum_cons, List.sum_nil, List.getD_cons_zero, List.getD_cons_succ, Nat.reduceAdd, Nat.add_zero] at hk
            refine rg_yes (by kernel_rfl) ?_
            clear hF
            go_simp
            exact hK _ _ (Chg.refl _ _) ⟨fun h => hj.1 (by omega), fun h => absurd h (by omega)⟩ rfl
          refine ⟨fun y w' k hS hj hk hF K hK => ?_, ?_⟩
          · skip -- 8: fieldAddr
            simp only [fillL, cond_true, cond_false, List.getD_cons_zero, List.getD_cons_succ, StP.is, Act.put, List.setIfInBounds_toArray, List.set_cons_zero, List.set_cons_succ, Nat.reduceAdd, MStP.is, Option.isSome_some, Option.isSome_none] at hK ⊢
            simp only [List.sum_cons, List.sum_nil, List.getD_cons_zero, List.getD_cons_succ, Nat.reduceAdd, Nat.add_zero] at hk
            refine rg_yes (by kernel_rfl) ?_
            clear hF
            go_simp
            exact hK _ _ (Chg.refl _ _) ⟨fun h => hj.1 (by omega), fun h => absurd h (by omega)⟩ rfl
          refine ⟨fun y w' k hS hj hk hF K hK => ?_, ?_⟩
          · skip -- 9: load
            have e74 : y 74 = _ := hF.1
            have e74' := Lib.hid e74
            simp only [fillL, cond_true, cond_false, List.getD_cons_zero, List.getD_cons_succ, StP.is, Act.put, List.setIfInBounds_toArray, List.set_cons_zero, List.set_cons_succ, Nat.reduceAdd, e74, MStP.is, Option.isSome_some, Option.isSome_none] at hK ⊢
            simp only [List.sum_cons, List.sum_nil, List.getD_cons_zero, List.getD_cons_succ, Nat.reduceAdd, Nat.add_zero] at hk
            refine rg_yes (by kernel_rfl) ?_
            clear e74
            clear hF
            obtain ⟨hrd, hB, hCC⟩ := hj.1 (by omega)
            have qb := cell_of_row _ _ 0 _ _ (0, 0) hB.box
            have lqb := (Array.getElem?_eq_some_iff.1 hB.box).1
            clear hB hCC hrd
            go_simp
            exact hK _ _ (Chg.refl _ _) ⟨fun h => hj.1 (by omega), fun h => absurd h (by omega)⟩ rfl
          refine ⟨fun y w' k hS hj hk hF K hK => ?_, ?_⟩
          · skip -- 10: move
            simp only [fillL, cond_true, cond_false, List.getD_cons_zero, List.getD_cons_succ, StP.is, Act.put, List.setIfInBounds_toArray, List.set_cons_zero, List.set_cons_succ, Nat.reduceAdd, MStP.is, Option.isSome_some, Option.isSome_none] at hK ⊢
            simp only [List.sum_cons, List.sum_nil, List.getD_cons_zero, List.getD_cons_succ, Nat.reduceAdd, Nat.add_zero] at hk
            refine rg_yes (by kernel_rfl) ?_
            clear hF
            go_simp
            exact hK _ _ (Chg.refl _ _) ⟨fun h => hj.1 (by omega), fun h => absurd h (by omega)⟩ rfl
          refine ⟨fun y w' k hS hj hk hF K hK => ?_, ?_⟩
          · skip -- 11: indexAddr
            have e75 : y 75 = _ := hF.1
            have e76 : y 76 = _ := hF.2.1
            have e75' := Lib.hid e75
            have e76' := Lib.hid e76
            simp only [fillL, cond_true, cond_false, List.getD_cons_zero, List.getD_cons_succ, StP.is, Act.put, List.setIfInBounds_toArray, List.set_cons_zero, List.set_cons_succ, Nat.reduceAdd, e75, e76, MStP.is, Option.isSome_some, Option.isSome_none] at hK ⊢
            simp only [List.sum_cons, List.sum_nil, List.getD_cons_zero, List.getD_cons_succ, Nat.reduceAdd, Nat.add_zero] at hk
            refine rg_yes (by kernel_rfl) ?_
            clear e75 e76
            clear hF
            go_simp
            exact hK _ _ (Chg.refl _ _) ⟨fun h => hj.1 (by omega), fun h => absurd h (by omega)⟩ rfl
          refine ⟨fun y w' k hS hj hk hF K hK => ?_, ?_⟩
          · skip -- 12: fieldAddr
            have e77 : y 77 = _ := hF.1
            have e77' := Lib.hid e77
            simp only [fillL, cond_true, cond_false, List.getD_cons_zero, List.getD_cons_succ, StP.is, Act.put, List.setIfInBounds_toArray, List.set_cons_zero, List.set_cons_succ, Nat.reduceAdd, e77, MStP.is, Option.isSome_some, Option.isSome_none] at hK ⊢
            simp only [List.sum_cons, List.sum_nil, List.getD_cons_zero, List.getD_cons_succ, Nat.reduceAdd, Nat.add_zero] at hk
            refine rg_yes (by kernel_rfl) ?_
            clear e77
            clear hF
            go_simp
            exact hK _ _ (Chg.refl _ _) ⟨fun h => hj.1 (by omega), fun h => absurd h (by omega)⟩ rfl
          refine ⟨fun y w' k hS hj hk hF K hK => ?_, ?_⟩
          · skip -- 13: load
            have e78 : y 78 = _ := hF.1
            have e78' := Lib.hid e78
            simp only [fillL, cond_true, cond_false, List.getD_cons_zero, List.getD_cons_succ, StP.is, Act.put, List.setIfInBounds_toArray, List.set_cons_zero, List.set_cons_succ, Nat.reduceAdd, e78, MStP.is, Option.isSome_some, Option.isSome_none] at hK ⊢
            simp only [List.sum_cons, List.sum_nil, List.getD_cons_zero, List.getD_cons_succ, Nat.reduceAdd, Nat.add_zero] at hk
            refine rg_yes (by kernel_rfl) ?_
            clear e78
            clear hF
            have qc := (World.cell?_of_block (a := ⟨g, dk * 3, none⟩) (hS.block g hgw (by simp; exact ⟨hpg, fun e => hne e.symm⟩))).trans HCELL.out
            have lqc : g < w'.heap.size := Nat.lt_of_lt_of_le hgw hS.size
            go_simp
            exact hK _ _ (Chg.refl _ _) ⟨fun h => hj.1 (by omega), fun h => absurd h (by omega)⟩ rfl
          refine ⟨fun y w' k hS hj hk hF K hK => ?_, ?_⟩
          · skip -- 14: move
            simp only [fillL, cond_true, cond_false, List.getD_cons_zero, List.getD_cons_succ, StP.is, Act.put, List.setIfInBounds_toArray, List.set_cons_zero, List.set_cons_succ, Nat.reduceAdd, MStP.is, Option.isSome_some, Option.isSome_none] at hK ⊢
            simp only [List.sum_cons, List.sum_nil, List.getD_cons_zero, List.getD_cons_succ, Nat.reduceAdd, Nat.add_zero] at hk
            refine rg_yes (by kernel_rfl) ?_
            clear hF
            go_simp
            exact hK _ _ (Chg.refl _ _) ⟨fun h => hj.1 (by omega), fun h => absurd h (by omega)⟩ rfl
          refine ⟨fun y w' k hS hj hk hF K hK => ?_, ?_⟩
          · skip -- 15: indexAddr
            have e79 : y 79 = _ := hF.1
            have e80 : y 80 = _ := hF.2.1
            have e79' := Lib.hid e79
            have e80' := Lib.hid e80
            simp only [fillL, cond_true, cond_false, List.getD_cons_zero, List.getD_cons_succ, StP.is, Act.put, List.setIfInBounds_toArray, List.set_cons_zero, List.set_cons_succ, Nat.reduceAdd, e79, e80, MStP.is, Option.isSome_some, Option.isSome_none] at hK ⊢
            simp only [List.sum_cons, List.sum_nil, List.getD_cons_zero, List.getD_cons_succ, Nat.reduceAdd, Nat.add_zero] at hk
            refine rg_yes (by kernel_rfl) ?_
            clear e79 e80
            clear hF
            go_simp
            exact hK _ _ (Chg.refl _ _) ⟨fun h => hj.1 (by omega), fun h => absurd h (by omega)⟩ rfl
          refine ⟨fun y w' k hS hj hk hF K hK => ?_, ?_⟩
          · skip -- 16: load
            have e81 : y 81 = _ := hF.1
            have e81' := Lib.hid e81
            simp only [fillL, cond_true, cond_false, List.getD_cons_zero, List.getD_cons_succ, StP.is, Act.put, List.setIfInBounds_toArray, List.set_cons_zero, List.set_cons_succ, Nat.reduceAdd, e81, MStP.is, Option.isSome_some, Option.isSome_none] at hK ⊢
            simp only [List.sum_cons, List.sum_nil, List.getD_cons_zero, List.getD_cons_succ, Nat.reduceAdd, Nat.add_zero] at hk
            refine rg_yes (by kernel_rfl) ?_
            clear e81
            clear hF
            obtain ⟨hrd, hB, hCC⟩ := hj.1 (by omega)
            obtain ⟨sa, hcs, hfz, hsa⟩ := hCC.at_ (r := kk) (by omega)
            have lqc := hCC.lt
            clear hB hCC hrd
            go_simp
            exact hK _ _ (Chg.refl _ _) ⟨fun h => hj.1 (by omega), fun h => absurd h (by omega)⟩ ⟨sa, rfl, hsa⟩
          refine ⟨fun y w' k hS hj hk hF K hK => ?_, ?_⟩
          · skip -- 17: call
            have e73 : y 73 = _ := hF.1
            obtain ⟨sa, e82, hsa⟩ := hF.2.1
            have e73' := Lib.hid e73
            have e82' := Lib.hid e82
            simp only [fillL, cond_true, cond_false, List.getD_cons_zero, List.getD_cons_succ, StP.is, Act.put, List.setIfInBounds_toArray, List.set_cons_zero, List.set_cons_succ, Nat.reduceAdd, e73, e82, MStP.is, Option.isSome_some, Option.isSome_none] at hK ⊢
            simp only [List.sum_cons, List.sum_nil, List.getD_cons_zero, List.getD_cons_succ, Nat.reduceAdd, Nat.add_zero] at hk
            refine rg_yes (by kernel_rfl) ?_
            clear e73 e82
            clear hF
            obtain ⟨⟨k1, hk1, hrd⟩, hB, hCC⟩ := hj.1 (by omega)
            have HBj := Lib.hid hB; have HCj := Lib.hid hCC; clear hB hCC
            go_simp
            go_at_call 57
            refine (l91Spoil_any w' p A n c zs k1 sa hrd (by omega) (by omega)).mono ?_
            rintro e w'' ⟨sb, k2, rfl, hsb, hk2, rd2, hc2⟩
            exact hK _ _ hc2 ⟨fun h => ⟨⟨k2, by omega, rd2⟩, HBj.out.step hc2 hp hlo' hg1 hbl, HCj.out.keep (hc2.block gi HCj.out.lt (by simp; omega))⟩, fun h => absurd h (by omega)⟩ ⟨sb, rfl, by omega⟩
          refine ⟨fun y w' k hS hj hk hF K hK => ?_, ?_⟩
          · skip -- 18: indexAddr
            have e71 : y 71 = _ := hF.1
            have e72 : y 72 = _ := hF.2.1
            have e71' := Lib.hid e71
            have e72' := Lib.hid e72
            simp only [fillL, cond_true, cond_false, List.getD_cons_zero, List.getD_cons_succ, StP.is, Act.put, List.setIfInBounds_toArray, List.set_cons_zero, List.set_cons_succ, Nat.reduceAdd, e71, e72, MStP.is, Option.isSome_some, Option.isSome_none] at hK ⊢
            simp only [List.sum_cons, List.sum_nil, List.getD_cons_zero, List.getD_cons_succ, Nat.reduceAdd, Nat.add_zero] at hk
            refine rg_yes (by kernel_rfl) ?_
            clear e71 e72
            clear hF
            go_simp
            exact hK _ _ (Chg.refl _ _) ⟨fun h => hj.1 (by omega), fun h => absurd h (by omega)⟩ rfl
          refine ⟨fun y w' k hS hj hk hF K hK => ?_, ?_⟩
          · skip -- 19: store
            obtain ⟨sb, e83, hsb⟩ := hF.1
            have e84 : y 84 = _ := hF.2.1
            have e83' := Lib.hid e83
            have e84' := Lib.hid e84
            simp only [fillL, cond_true, cond_false, List.getD_cons_zero, List.getD_cons_succ, StP.is, Act.put, List.setIfInBounds_toArray, List.set_cons_zero, List.set_cons_succ, Nat.reduceAdd, e83, e84, MStP.is, Option.isSome_some, Option.isSome_none] at hK ⊢
            simp only [List.sum_cons, List.sum_nil, List.getD_cons_zero, List.getD_cons_succ, Nat.reduceAdd, Nat.add_zero] at hk
            refine rg_yes (by kernel_rfl) ?_
            clear e83 e84
            clear hF
            obtain ⟨⟨k1, hk1, hrd⟩, hB, hCC⟩ := hj.1 (by omega)
            obtain ⟨s0, hcs, hfz, -⟩ := hCC.at_ (r := kk) (by omega)
            have qc := Lib.hid ((World.cell?_of_block (a := ⟨g, dk * 3, none⟩) (hS.block g hgw (by simp; exact ⟨hpg, fun e => hne e.symm⟩))).trans HCELL.out)
            have HBj := Lib.hid hB; have HCj := Lib.hid hCC; clear hB hCC
            go_simp
            refine hK undef _ (Chg.setCell (p := ⟨gi, _, none⟩) (Chg.refl _ _) (.inl (by simp)) _) ⟨fun h => absurd h (by omega), fun _ => ⟨⟨k1, by omega, ?_⟩, ?_⟩⟩ rfl
            · exact Rd.setOld h hrd (a := ⟨gi, _, none⟩) (by show w.heap.size ≤ gi; omega) _
            · exact (HBj.out.mono (by omega)).put hdk qc.out (HCj.out.mono (by omega)) hsb hlo' hlg
          trivial
        case hH => rfl
        case hNS => exact fun _ _ h => h.mono (fun b _ hb => by simp at hb ⊢; exact .inl hb)
        case hSt => exact fun a b => Chg.trans a b
        case hb => rfl
        case hdrew => exact (Chg.refl _ _).drewN 1
        case hj0 => exact fun y => ⟨fun _ => ⟨⟨k0 + 3, by omega, HR5.out.below (below_drewN (Below.refl _ _) 1)⟩, HB5.out.step ((Chg.refl _ _).drewN 1) hp hlo' hg1 hbl, HC.out⟩, fun h => absurd h (by omega)⟩
        case hend =>
          intro y w9 hS hJ hF
          obtain ⟨⟨k9, hk9, rd9⟩, hA⟩ := hJ.2 (by decide)
          have HA9 := Lib.hid (hA.a (by omega)); have HR9 := Lib.hid rd9
          clear hJ hF hS hA rd9
          simp only [fillL, cond_true, cond_false, Nat.reduceAdd]
          have HAf := HA9
          have HRf := HR9
          have rb := HAf.out.box
          have b0 := cell_of_row _ _ 0 _ _ (0, 0) rb
          have rr := HAf.out.res
          have r0 := cell_of_row _ _ 0 _ _ (0, 0) rr
          have f0 := block_free rr 0
          have s0 := cell_of_row _ _ 0 _ _ (0, 0) (block_set (o := 0) (v := .slice (some ⟨g, 0, none⟩) 3 c3) rr)
          have lb := (Array.getElem?_eq_some_iff.1 rb).1
          have lr := (Array.getElem?_eq_some_iff.1 rr).1
          clear rb rr
          go_wp2_with fail
          obtain ⟨x, -, hx⟩ := (HAf.out.raid.far (a := ⟨w.heap.size, 0, none⟩) hg1 hlo' (.slice (some ⟨g, 0, none⟩) 3 c3)).r hg1 hc3 hcm
          refine bodyPost_ret (v := .agg #[.slice (some ⟨g, 0, none⟩) 3 c3]) (by simp [results, Tryz.results34, go_sem, s0]) rfl ⟨g, c3, x, k9, rfl, RaidR.wide (by omega) (Nat.le_refl _) (Nat.le_refl _) _ _ hx, by omega, Rd.setOld h HRf.out (a := ⟨w.heap.size, 0, none⟩) (Nat.le_refl _) _, Chg.setCell (p := ⟨w.heap.size, 0, none⟩) HAf.out.chg (.inr (Nat.le_refl _)) _⟩
      have e1 : ((qq : Int) == 1) = false := by rw [beq_eq_false_iff_ne]; omega
      have e1' : ¬ (qq : Int) = 1 := by omega
      by_cases h2 : qq = 2
      case pos =>
        have e2 : ((qq : Int) == 2) = true := by simp [h2]
        have e2' : (qq : Int) = 2 := by omega
        clear h2 h1 h0
        go_wp2_with fail
        apply wp_region_rgz (Chg (· ∈ [p, g])) (Chg (· ∈ [p])) (fun y w' k' => (k' < 5000 → (∃ k1, k1 ≤ (k0 + 1) + k' ∧ Rd w' p A n c zs k1) ∧ B93 10000 w p bx g c3 lo w') ∧ (5000 ≤ k' → (∃ k1, k1 ≤ (k0 + 1) + 601 ∧ Rd w' p A n c zs k1) ∧ A93 w p bx g c3 lo w')) [0, 0, 0, 1, 0, 600, 0, 5000] [5000, 5000, 5000, 5000, 5000, 5000, 5000, 5000] (by kernel_rfl) (false :: false :: false :: false :: false :: false :: false :: false :: false :: false :: false :: false :: false :: false :: false :: false :: false :: false :: false :: false :: false :: false :: false :: false :: false :: false :: false :: false :: false :: false :: false :: false :: false :: false :: false :: false :: false :: false :: false :: false :: false :: false :: false :: false :: false :: false :: false :: false :: false :: false :: false :: false :: false :: false :: false :: false :: false :: false :: false :: false :: false :: false :: false :: false :: false :: false :: false :: false :: false :: false :: false :: false :: false :: false :: false :: false :: false :: false :: false :: false :: false :: false :: false :: false :: false :: false :: false :: true :: true :: true :: true :: true :: true :: true :: false :: []) [some 87, some 88, some 89, some 90, some 91, some 92, some 93, none] [[], [0], [], [2], [], [4], [1, 3], [5, 6]] [false, false, false, false, false, false, false, true] [true, true, true, true, true, false, true, true] [] [MStP.is _, MStP.is _, MStP.is _, ⟨fun v _ => ∃ r : Nat, v = .int .i64 (r : Int) ∧ r < 3, true, fun _ _ _ _ h => h, fun _ _ _ _ _ h => h⟩, MStP.is _, ⟨fun v w' => ∃ cs lo2 x, v = .agg (List.toArray cs) ∧ g < lo2 ∧ lo ≤ lo2 ∧ DiskR w' lo2 w'.heap.size cs x, false, fun v w' w'' hs h => by obtain ⟨cs, lo2, x, e, h1, h2, h3⟩ := h; exact ⟨cs, lo2, x, e, h1, h2, DiskR.wide (Nat.le_refl _) (Chg.size hs) (Nat.le_refl _) _ _ (DiskR.keep (fun b b1 b2 => Chg.block hs b b2 (by simp; omega)) (Chg.size hs) _ _ h3)⟩, fun h => by cases h⟩, ⟨fun v _ => ∃ r : Nat, v = .pointer (some ⟨g, r * 3, none⟩) ∧ r < 3, true, fun _ _ _ _ h => h, fun _ _ _ _ _ h => h⟩, MStP.is _] (by kernel_rfl) (by kernel_rfl) (by kernel_rfl) (by kernel_rfl)
        case hobs =>
          refine ⟨fun y w' k hS hj hk hF K hK => ?_, ?_⟩
          · skip -- 0: fieldAddr
            simp only [fillL, cond_true, cond_false, List.getD_cons_zero, List.getD_cons_succ, StP.is, Act.put, List.setIfInBounds_toArray, List.set_cons_zero, List.set_cons_succ, Nat.reduceAdd, MStP.is, Option.isSome_some, Option.isSome_none] at hK ⊢
            simp only [List.sum_cons, List.sum_nil, List.getD_cons_zero, List.getD_cons_succ, Nat.reduceAdd, Nat.add_zero] at hk
            refine rg_yes (by kernel_rfl) ?_
            clear hF
            go_simp
            exact hK _ _ ((Chg.refl _ _)) ⟨fun h => hj.1 (by omega), fun h => absurd h (by omega)⟩ rfl
          refine ⟨fun y w' k hS hj hk hF K hK => ?_, ?_⟩
          · skip -- 1: load
            have e87 : y 87 = _ := hF.1
            have e87' := Lib.hid e87
            simp only [fillL, cond_true, cond_false, List.getD_cons_zero, List.getD_cons_succ, StP.is, Act.put, List.setIfInBounds_toArray, List.set_cons_zero, List.set_cons_succ, Nat.reduceAdd, e87, MStP.is, Option.isSome_some, Option.isSome_none] at hK ⊢
            simp only [List.sum_cons, List.sum_nil, List.getD_cons_zero, List.getD_cons_succ, Nat.reduceAdd, Nat.add_zero] at hk
            refine rg_yes (by kernel_rfl) ?_
            clear e87
            clear hF
            obtain ⟨hrd, hB⟩ := hj.1 (by omega)
            have HBj := Lib.hid hB
            have qb := cell_of_row _ _ 0 _ _ (0, 0) hB.box
            have lqb := (Array.getElem?_eq_some_iff.1 hB.box).1
            clear hB
            go_simp
            exact hK _ _ (Chg.refl _ _) ⟨fun h => hj.1 (by omega), fun h => absurd h (by omega)⟩ rfl
          refine ⟨fun y w' k hS hj hk hF K hK => ?_, ?_⟩
          · skip -- 2: move
            simp only [fillL, cond_true, cond_false, List.getD_cons_zero, List.getD_cons_succ, StP.is, Act.put, List.setIfInBounds_toArray, List.set_cons_zero, List.set_cons_succ, Nat.reduceAdd, MStP.is, Option.isSome_some, Option.isSome_none] at hK ⊢
            simp only [List.sum_cons, List.sum_nil, List.getD_cons_zero, List.getD_cons_succ, Nat.reduceAdd, Nat.add_zero] at hk
            refine rg_yes (by kernel_rfl) ?_
            clear hF
            go_simp
            exact hK _ _ ((Chg.refl _ _)) ⟨fun h => hj.1 (by omega), fun h => absurd h (by omega)⟩ rfl
          refine ⟨fun y w' k hS hj hk hF K hK => ?_, ?_⟩
          · skip -- 3: call
            have e89 : y 89 = _ := hF.1
            have e89' := Lib.hid e89
            simp only [fillL, cond_true, cond_false, List.getD_cons_zero, List.getD_cons_succ, StP.is, Act.put, List.setIfInBounds_toArray, List.set_cons_zero, List.set_cons_succ, Nat.reduceAdd, e89, MStP.is, Option.isSome_some, Option.isSome_none] at hK ⊢
            simp only [List.sum_cons, List.sum_nil, List.getD_cons_zero, List.getD_cons_succ, Nat.reduceAdd, Nat.add_zero] at hk
            refine rg_yes (by kernel_rfl) ?_
            clear e89
            clear hF
            obtain ⟨⟨k1, hk1, hrd⟩, hB⟩ := hj.1 (by omega)
            have HBj := Lib.hid hB; clear hB
            go_simp
            go_at_call 35
            refine (pick_any w' p A n c zs k1 3 hrd (by omega) (by omega) (by omega)).mono ?_
            rintro e w'' ⟨r, rfl, hr1, rd1, hc1, hz1⟩
            exact hK _ _ hc1 ⟨fun h => ⟨⟨k1 + 1, by omega, rd1⟩, HBj.out.step hc1 hp hlo' hg1 hbl⟩, fun h => absurd h (by omega)⟩ ⟨r, rfl, by have := hr1 (by omega); omega⟩
          refine ⟨fun y w' k hS hj hk hF K hK => ?_, ?_⟩
          · skip -- 4: move
            simp only [fillL, cond_true, cond_false, List.getD_cons_zero, List.getD_cons_succ, StP.is, Act.put, List.setIfInBounds_toArray, List.set_cons_zero, List.set_cons_succ, Nat.reduceAdd, MStP.is, Option.isSome_some, Option.isSome_none] at hK ⊢
            simp only [List.sum_cons, List.sum_nil, List.getD_cons_zero, List.getD_cons_succ, Nat.reduceAdd, Nat.add_zero] at hk
            refine rg_yes (by kernel_rfl) ?_
            clear hF
            go_simp
            exact hK _ _ ((Chg.refl _ _)) ⟨fun h => hj.1 (by omega), fun h => absurd h (by omega)⟩ rfl
          refine ⟨fun y w' k hS hj hk hF K hK => ?_, ?_⟩
          · skip -- 5: call
            have e91 : y 91 = _ := hF.1
            have e91' := Lib.hid e91
            simp only [fillL, cond_true, cond_false, List.getD_cons_zero, List.getD_cons_succ, StP.is, Act.put, List.setIfInBounds_toArray, List.set_cons_zero, List.set_cons_succ, Nat.reduceAdd, e91, MStP.is, Option.isSome_some, Option.isSome_none] at hK ⊢
            simp only [List.sum_cons, List.sum_nil, List.getD_cons_zero, List.getD_cons_succ, Nat.reduceAdd, Nat.add_zero] at hk
            refine rg_yes (by kernel_rfl) ?_
            clear e91
            clear hF
            obtain ⟨⟨k1, hk1, hrd⟩, hB⟩ := hj.1 (by omega)
            have hgw := hB.raid.lt
            have HBj := Lib.hid hB; clear hB
            go_simp
            go_at_call 58
            refine (l91Disk_any w' p A n c zs k1 hrd (by omega)).mono ?_
            rintro e w'' ⟨csd, xd, k2, rfl, hr, hl1, hl2, hk2, rd2, hc2⟩
            exact hK _ _ hc2 ⟨fun h => ⟨⟨k2, by omega, rd2⟩, HBj.out.step hc2 hp hlo' hg1 hbl⟩, fun h => absurd h (by omega)⟩ ⟨csd, w'.heap.size, _, rfl, hgw, by omega, hr⟩
          refine ⟨fun y w' k hS hj hk hF K hK => ?_, ?_⟩
          · skip -- 6: indexAddr
            have e88 : y 88 = _ := hF.1
            obtain ⟨r, e90, hr3⟩ := hF.2.1
            have r30 : (0 : Int) ≤ (r : Int) := by omega
            have r31 : (r : Int) < 3 := by omega
            have e88' := Lib.hid e88
            have e90' := Lib.hid e90
            simp only [fillL, cond_true, cond_false, List.getD_cons_zero, List.getD_cons_succ, StP.is, Act.put, List.setIfInBounds_toArray, List.set_cons_zero, List.set_cons_succ, Nat.reduceAdd, e88, e90, MStP.is, Option.isSome_some, Option.isSome_none] at hK ⊢
            simp only [List.sum_cons, List.sum_nil, List.getD_cons_zero, List.getD_cons_succ, Nat.reduceAdd, Nat.add_zero] at hk
            refine rg_yes (by kernel_rfl) ?_
            clear e88 e90
            clear hF
            go_simp
            exact hK _ _ (Chg.refl _ _) ⟨fun h => hj.1 (by omega), fun h => absurd h (by omega)⟩ ⟨r, rfl, hr3⟩
          refine ⟨fun y w' k hS hj hk hF K hK => ?_, ?_⟩
          · skip -- 7: store
            obtain ⟨csd, lo2, xd, e92, hgl2, hll2, hd⟩ := hF.1
            have HD := Lib.hid hd
            obtain ⟨D0, d0_, dc0, D1, d1_, dc1, rfl, -⟩ := hd
            obtain ⟨rp, e93, hrp⟩ := hF.2.1
            have e92' := Lib.hid e92
            have e93' := Lib.hid e93
            simp only [fillL, cond_true, cond_false, List.getD_cons_zero, List.getD_cons_succ, StP.is, Act.put, List.setIfInBounds_toArray, List.set_cons_zero, List.set_cons_succ, Nat.reduceAdd, e92, e93, MStP.is, Option.isSome_some, Option.isSome_none] at hK ⊢
            simp only [List.sum_cons, List.sum_nil, List.getD_cons_zero, List.getD_cons_succ, Nat.reduceAdd, Nat.add_zero] at hk
            refine rg_yes (by kernel_rfl) ?_
            clear e92 e93
            clear hF
            obtain ⟨⟨k1, hk1, hrd⟩, hB⟩ := hj.1 (by omega)
            obtain ⟨cur, hgc, hgs, -⟩ := hB.raid
            have HBj := Lib.hid hB; clear hB
            have t0 : w'.cell? ⟨g, rp * 3, none⟩ = some _ := block_cell hgc (by omega)
            have t1 : w'.cell? ⟨g, rp * 3 + 1, none⟩ = some _ := block_cell hgc (by omega)
            have t2 : w'.cell? ⟨g, rp * 3 + 2, none⟩ = some _ := block_cell hgc (by omega)
            have fr0 : w'.frozen? ⟨g, rp * 3, none⟩ = false := block_free hgc _
            have fr1 : w'.frozen? ⟨g, rp * 3 + 1, none⟩ = false := block_free hgc _
            have fr2 : w'.frozen? ⟨g, rp * 3 + 2, none⟩ = false := block_free hgc _
            generalize cur[rp * 3]'_ = y0_ at t0
            generalize cur[rp * 3 + 1]'_ = y1_ at t1
            generalize cur[rp * 3 + 2]'_ = y2_ at t2
            clear hgc hgs
            go_simp
            refine hK undef _ (Chg.setCell (p := ⟨g, _, none⟩) (Chg.setCell (p := ⟨g, _, none⟩) (Chg.setCell (p := ⟨g, _, none⟩) (Chg.refl _ _) (.inl (by simp)) _) (.inl (by simp)) _) (.inl (by simp)) _) ⟨fun h => absurd h (by omega), fun _ => ⟨⟨k1, by omega, ?_⟩, ?_⟩⟩ rfl
            · exact Rd.setOld h (Rd.setOld h (Rd.setOld h hrd (a := ⟨g, _, none⟩) (by show w.heap.size ≤ g; omega) _) (a := ⟨g, _, none⟩) (by show w.heap.size ≤ g; omega) _) (a := ⟨g, _, none⟩) (by show w.heap.size ≤ g; omega) _
            · exact HBj.out.lay (by omega) HD.out hll2 hgl2 hlo' hg1
          trivial
        case hH => rfl
        case hNS => exact fun _ _ h => h.mono (fun b _ hb => by simp at hb ⊢; exact .inl hb)
        case hSt => exact fun a b => Chg.trans a b
        case hb => rfl
        case hdrew => exact (Chg.refl _ _).drewN 1
        case hj0 => exact fun y => ⟨fun _ => ⟨⟨_, Nat.le_refl _, HR3.out.below (below_drewN (Below.refl _ _) 1)⟩, HB3.out.step ((Chg.refl _ _).drewN 1) hp hlo' hg1 hbl⟩, fun h => absurd h (by omega)⟩
        case hend =>
          intro y w9 hS hJ hF
          obtain ⟨⟨k9, hk9, rd9⟩, hA⟩ := hJ.2 (by decide)
          have HA9 := Lib.hid hA; have HR9 := Lib.hid rd9
          clear hJ hF hS hA rd9
          simp only [fillL, cond_true, cond_false, Nat.reduceAdd]
          have HAf := HA9
          have HRf := HR9
          have rb := HAf.out.box
          have b0 := cell_of_row _ _ 0 _ _ (0, 0) rb
          have rr := HAf.out.res
          have r0 := cell_of_row _ _ 0 _ _ (0, 0) rr
          have f0 := block_free rr 0
          have s0 := cell_of_row _ _ 0 _ _ (0, 0) (block_set (o := 0) (v := .slice (some ⟨g, 0, none⟩) 3 c3) rr)
          have lb := (Array.getElem?_eq_some_iff.1 rb).1
          have lr := (Array.getElem?_eq_some_iff.1 rr).1
          clear rb rr
          go_wp2_with fail
          obtain ⟨x, -, hx⟩ := (HAf.out.raid.far (a := ⟨w.heap.size, 0, none⟩) hg1 hlo' (.slice (some ⟨g, 0, none⟩) 3 c3)).r hg1 hc3 hcm
          refine bodyPost_ret (v := .agg #[.slice (some ⟨g, 0, none⟩) 3 c3]) (by simp [results, Tryz.results34, go_sem, s0]) rfl ⟨g, c3, x, k9, rfl, RaidR.wide (by omega) (Nat.le_refl _) (Nat.le_refl _) _ _ hx, by omega, Rd.setOld h HRf.out (a := ⟨w.heap.size, 0, none⟩) (Nat.le_refl _) _, Chg.setCell (p := ⟨w.heap.size, 0, none⟩) HAf.out.chg (.inr (Nat.le_refl _)) _⟩
      have e2 : ((qq : Int) == 2) = false := by rw [beq_eq_false_iff_ne]; omega
      have e2' : ¬ (qq : Int) = 2 := by omega
      clear h2 h1 h0
      have HAx := Lib.hid (HB3.out.a (by omega))
      have HAf := HAx
      have HRf := HR3
      have rb := HAf.out.box
      have b0 := cell_of_row _ _ 0 _ _ (0, 0) rb
      have rr := HAf.out.res
      have r0 := cell_of_row _ _ 0 _ _ (0, 0) rr
      have f0 := block_free rr 0
      have s0 := cell_of_row _ _ 0 _ _ (0, 0) (block_set (o := 0) (v := .slice (some ⟨g, 0, none⟩) 3 c3) rr)
      have lb := (Array.getElem?_eq_some_iff.1 rb).1
      have lr := (Array.getElem?_eq_some_iff.1 rr).1
      clear rb rr
      go_wp2_with fail
      obtain ⟨x, -, hx⟩ := (HAf.out.raid.far (a := ⟨w.heap.size, 0, none⟩) hg1 hlo' (.slice (some ⟨g, 0, none⟩) 3 c3)).r hg1 hc3 hcm
      refine bodyPost_ret (v := .agg #[.slice (some ⟨g, 0, none⟩) 3 c3]) (by simp [results, Tryz.results34, go_sem, s0]) rfl ⟨g, c3, x, (k0 + 1), rfl, RaidR.wide (by omega) (Nat.le_refl _) (Nat.le_refl _) _ _ hx, by omega, Rd.setOld h HRf.out (a := ⟨w.heap.size, 0, none⟩) (Nat.le_refl _) _, Chg.setCell (p := ⟨w.heap.size, 0, none⟩) HAf.out.chg (.inr (Nat.le_refl _)) _⟩
end Go.Proofs.YtcfgbeajdkbbcaaGreatDoor
