/- l93Logs: drawn disks with intents. No condition. -/
import Derived.Test.YtggdjiklgakfnaaGreatDoorRaidW
import Derived.Test.YtggdjiklgakfnaaGreatDoorDrawInt
import Derived.Test.YtggdjiklgakfnaaGreatDoorIntPut
import Derived.Test.YtggdjiklgakfnaaGreatDoorDrawSpoil
namespace Go.Proofs.YtggdjiklgakfnaaGreatDoor
set_option linter.unnecessarySimpa false
open Go Go.Lib Go.RowKit
set_option linter.unusedVariables false
set_option linter.unusedSimpArgs false

theorem B93.lay {M p bx g c lo k lo2 : Nat} {w W : World} {v0 v1 v2 : Value} {x : DiskD} (h : B93 M w p bx g c lo W) (hM : M ≤ 1000000) (hd : DiskR W lo2 W.heap.size [v0, v1, v2] x) (h2 : lo ≤ lo2) (h3 : g < lo2) (hlo : w.heap.size < lo) (hg : lo ≤ g) :
    A93 w p bx g c lo (((W.setCell ⟨g, k * 3, none⟩ v0).setCell ⟨g, k * 3 + 1, none⟩ v1).setCell ⟨g, k * 3 + 2, none⟩ v2) := by
  have hne : bx ≠ g := by
    rintro rfl
    obtain ⟨cur, h1, _⟩ := h.raid
    have := h1.symm.trans h.box
    simp at this
  refine ⟨Chg.setCell (p := ⟨g, k * 3 + 2, none⟩) (Chg.setCell (p := ⟨g, k * 3 + 1, none⟩) (Chg.setCell (p := ⟨g, k * 3, none⟩) h.chg (.inr (by show w.heap.size ≤ g; omega)) _) (.inr (by show w.heap.size ≤ g; omega)) _) (.inr (by show w.heap.size ≤ g; omega)) _,
    (set3_far (by omega)).trans h.res, (set3_far hne).trans h.box, ?_⟩
  exact RaidW.put h.raid hM hd h2 h3 (by simp [World.setCell]) (fun i hi => set3_far hi) (fun cur h => set3 h)
theorem B93.mono {M N p bx g c lo : Nat} {w wr : World} (h : B93 M w p bx g c lo wr) (hM : M ≤ N) : B93 N w p bx g c lo wr := ⟨h.chg, h.res, h.box, h.raid.mono hM⟩
/-- Disks drawn. -/
def PickedRaid (d : Nat) (w : World) (p : Nat) (A : Option Addr) (n c : Nat) (zs : List Int) (k : Nat) (e : Ending) (w' : World) : Prop :=
  ∃ (g c3 : Nat) (x : RaidD) (k' : Nat), e = .returned (.agg #[.slice (some ⟨g, 0, none⟩) 3 c3]) ∧ RaidR w' w.heap.size w'.heap.size [.slice (some ⟨g, 0, none⟩) 3 c3] x ∧ k' ≤ k + d ∧ Rd w' p A n c zs k' ∧ Chg (· ∈ [p]) w w'
theorem lit5 {w : World} {b q : Nat} {v0 v1 v2 v3 v4 : Int} (h : w.heap[b]? = some (.cells #[.int .i64 v0, .int .i64 v1, .int .i64 v2, .int .i64 v3, .int .i64 v4] 3 (0, 0))) (hq : q < 5) : ∃ v : Int, w.cell? ⟨b, q, none⟩ = some (.int .i64 v) := by
  match q, hq with
  | 0, _ => exact ⟨v0, cell_of_row _ _ 0 _ _ (0, 0) h⟩
  | 1, _ => exact ⟨v1, cell_of_row _ _ 1 _ _ (0, 0) h⟩
  | 2, _ => exact ⟨v2, cell_of_row _ _ 2 _ _ (0, 0) h⟩
  | 3, _ => exact ⟨v3, cell_of_row _ _ 3 _ _ (0, 0) h⟩
  | 4, _ => exact ⟨v4, cell_of_row _ _ 4 _ _ (0, 0) h⟩
theorem cellsB_ne {M gi b : Nat} {wr : World} {A : Array Value} {T : TypeId} (hT : T ≠ 9) (hC : CellsB M gi wr) (hb : wr.heap[b]? = some (.cells A T (0, 0))) : b ≠ gi := by
  rintro rfl
  obtain ⟨cur, h1, _⟩ := hC
  have := h1.symm.trans hb
  simp at this
  exact hT this.2.symm
set_option maxRecDepth 100000 in
set_option maxHeartbeats 8000000 in
theorem l93Logs_any (w : World) (p : Nat) (A : Option Addr) (n c : Nat) (zs : List Int) (k : Nat) (h : Rd w p A n c zs k) (hk : k ≤ 300000) :
    Calls Tryz.prog 18 #[.pointer (some ⟨p, 0, none⟩)] w (PickedRaid 7000 w p A n c zs k) := by
  have hp := h.2.2.2.1
  go_enter Tryz.func18, Tryz.ntmps18
  go_wp2_with fail
  refine (spRaidNew_any _).mono ?_
  rintro e w1 ⟨cs, rfl, hN, hb1⟩
  have hN2 := hN
  obtain ⟨A3, n3, c3, o3, rfl, hs3, hw3⟩ := hN2
  obtain ⟨g, rfl, rfl, hc3, hcm, hg1, hg2, hW⟩ := hN.w
  clear hs3 hw3 hN
  obtain ⟨lo, hlo⟩ : ∃ lo, lo = w.heap.size + 1 := ⟨_, rfl⟩
  have hW : RaidW 10000 g lo w1 := by rw [hlo]; simpa using hW
  have hg1 : lo ≤ g := by rw [hlo]; simpa using hg1
  have zz1 : lo ≤ w1.heap.size := by have := hb1.size; simp at this; omega
  have res1 : w1.heap[w.heap.size]? = some (.cells #[.slice none 0 0] 25 (0, 0)) := (hb1.block _ (by simp)).trans (heap_alloc_new _ _)
  have X1 : Chg (· ∈ [p]) w w1 := ((Chg.refl _ _).alloc _).trans (Chg.of_below hb1 _)
  have rd1 := Rd.below (Rd.below h bel1) hb1
  have hlo' : w.heap.size < lo := by omega
  obtain ⟨bx, hbx⟩ : ∃ b, b = w1.heap.size := ⟨_, rfl⟩
  have HB0 : Hid (∀ W, Chg (· ∈ [p]) (w1.alloc (.cells #[.slice (some ⟨g, 0, none⟩) 3 c3] 25)) W → B93 10000 w p bx g c3 lo W) := Lib.hid (fun W hW2 =>
    B93.step (wr := w1.alloc (.cells #[.slice (some ⟨g, 0, none⟩) 3 c3] 25)) ⟨X1.alloc _, (Below.heap_alloc _ _ _ (by omega)).trans res1, (by rw [hbx]; exact heap_alloc_new _ _), hW.keep hg1 (fun b _ h2 => Below.heap_alloc _ _ _ h2)⟩ hW2 hp hlo' hg1 (by omega))
  have hbl : lo ≤ bx := by omega
  clear hW res1 X1 hb1 hlo
  go_wp2_with fail
  refine (pick_any _ p A n c zs k 5 (Rd.below (Rd.below rd1 bel1) bel1) (by omega) (by omega) (by omega)).mono ?_
  rintro e w2 ⟨q0, rfl, hq0, rd2, hc2, hz2⟩
  have hq0 : q0 < 5 := by have := hq0 (by omega); omega
  have HB := Lib.hid (HB0.out w2 ((Chg.of_below bel1 _).trans hc2))
  have hlit : w2.heap[w1.heap.size + 1]? = some (.cells #[.int .i64 1, .int .i64 1, .int .i64 1, .int .i64 2, .int .i64 3] 3 (0, 0)) := (hc2.block _ (by simp) (by simp; omega)).trans (by have := heap_alloc_new (w1.alloc (.cells #[.slice (some ⟨g, 0, none⟩) 3 c3] 25)) (.cells #[.int .i64 1, .int .i64 1, .int .i64 1, .int .i64 2, .int .i64 3] 3); simpa using this)
  obtain ⟨tx, htx⟩ := lit5 hlit hq0
  have llit := (Array.getElem?_eq_some_iff.1 hlit).1
  rw [← hbx] at htx llit ⊢
  have q00 : (0 : Int) ≤ (q0 : Int) := by omega
  have q01 : (q0 : Int) < 5 := by omega
  clear HB0 hz2 hc2 rd1 hbx zz1 hg2 hlit
  go_wp2_with fail
  go_loopw [5] (fun i wr => ∃ (j : Nat) (q : Int) (k0 : Nat), i = .int .i64 q ∧ Hid (q = (j : Int) + 1) ∧ j ≤ 4 ∧ k0 ≤ k + 1 + 1510 * j ∧ Hid (Rd wr p A n c zs k0) ∧ Hid (B93 10000 w p bx g c3 lo wr)) (fun i _ => 6 - (RowKit.intOf i).toNat)
  case atStart => exact ⟨0, 1, k + 1, rfl, Lib.hid rfl, by omega, by omega, Lib.hid rd2, HB⟩
  case round =>
    clear HB rd2 htx llit
    obtain ⟨j, q, k0, rfl, HQ, hj, hk0, HR, HB⟩ := hrel
    have nu3 : IntKind.i64.wrap (q + 1) = q + 1 := IntWalk.i64_in _ (by have := HQ.out; omega)
    have hq1 : 1 ≤ q := by have := HQ.out; omega
    by_cases hj4 : j < 4
    · have q4 : q ≤ 4 := by have := HQ.out; omega
      obtain ⟨r, hr⟩ : ∃ r, r = 4 + q := ⟨_, rfl⟩
      obtain ⟨s, hs⟩ : ∃ s : Nat, s = 4 + j := ⟨_, rfl⟩
      have nu1 : IntKind.i64.wrap (4 + q) = r := by rw [IntWalk.i64_in _ (by omega)]; omega
      have nu2 : IntKind.i64.wrap (r - 1) = (s : Int) := by rw [IntWalk.i64_in _ (by omega)]; have := HQ.out; omega
      have s0 : (0 : Int) ≤ (s : Int) := by omega
      have s1 : (s : Int) < 64 := by omega
      have s2 : s < 64 := by omega
      clear hs hr
      go_wp2_with fail
      refine (l93Intent_any _ p A n c zs k0 HR.out (by omega)).mono ?_
      rintro e w3 ⟨t, u, h_, kd, s_, t_, a_, x_, k1, rfl, zh, zs_, zt, zx, hk1, rd3, hc3'⟩
      obtain ⟨h_, rfl⟩ : ∃ z, h_ = strB z := ⟨h_.data.toList, (strB_data _).symm⟩
      obtain ⟨s_, rfl⟩ : ∃ z, s_ = strB z := ⟨s_.data.toList, (strB_data _).symm⟩
      obtain ⟨t_, rfl⟩ : ∃ z, t_ = strB z := ⟨t_.data.toList, (strB_data _).symm⟩
      obtain ⟨x_, rfl⟩ : ∃ z, x_ = strB z := ⟨x_.data.toList, (strB_data _).symm⟩
      rw [strB_size] at zh zs_ zt zx
      have HB3 := Lib.hid (HB.out.step hc3' hp hlo' hg1 hbl)
      have lbx3 : bx < w3.heap.size := (Array.getElem?_eq_some_iff.1 HB3.out.box).1
      clear hc3' HB HR
      go_wp2_with fail
      obtain ⟨w4, hw4⟩ : ∃ W, W = w3.alloc (.cells #[.int .i64 tx, .int .i64 q, .string (strB h_), .int .i64 kd, .string (strB s_), .string (strB t_), .int .i64 a_, .string (strB x_)] 34) := ⟨_, rfl⟩
      have R4 : Hid (w4.heap[w3.heap.size]? = some (.cells #[.int .i64 tx, .int .i64 q, .string (strB h_), .int .i64 kd, .string (strB s_), .string (strB t_), .int .i64 a_, .string (strB x_)] 34 (0, 0))) := Lib.hid (by rw [hw4]; exact heap_alloc_new _ _)
      have C4 : Hid (Chg (· ∈ [p]) w3 w4) := Lib.hid (by rw [hw4]; exact (Chg.refl _ _).alloc _)
      have lw3 : w.heap.size ≤ w3.heap.size := HB3.out.chg.size
      have D4 : Hid (Rd w4 p A n c zs k1) := Lib.hid (by rw [hw4]; exact Rd.below rd3 bel1)
      rw [← hw4]
      clear hw4 rd3
      refine (pick_any w4 p A n c zs k1 8 D4.out (by omega) (by omega) (by omega)).mono ?_
      rintro e w5 ⟨q8, rfl, hq8, rd5, hc5, hz5⟩
      have R5 := Lib.hid ((hc5.block _ (Array.getElem?_eq_some_iff.1 R4.out).1 (by simp; omega)).trans R4.out)
      have C5 := Lib.hid (C4.out.trans hc5)
      have D5 := Lib.hid rd5
      clear hc5 hz5 rd5 R4 C4 D4
      by_cases h8 : q8 = 0
      case pos =>
        have e0 : ((q8 : Int) == 0) = true := by simp [h8]
        clear h8
        go_wp2_with fail
        refine (pick_any w5 p A n c zs (k1 + 1) 5 D5.out (by omega) (by omega) (by omega)).mono ?_
        rintro e w6 ⟨q5, rfl, hq5, rd6, hc6, hz6⟩
        have R6 := Lib.hid ((hc6.block _ (Array.getElem?_eq_some_iff.1 R5.out).1 (by simp; omega)).trans R5.out)
        have C6 := Lib.hid (C5.out.trans hc6)
        obtain ⟨tv, htv⟩ : ∃ tv : Int, tv = 1 + (q5 : Int) := ⟨_, rfl⟩
        have nv : IntKind.i64.wrap (1 + (q5 : Int)) = tv := by rw [htv]; exact IntWalk.i64_in _ (by have := hq5 (by omega); omega)
        have f60 := block_free R6.out 0
        have x60 := cell_of_row _ _ 0 _ _ (0, 0) R6.out
        have l6 := (Array.getElem?_eq_some_iff.1 R6.out).1
        clear hc6 hz6 R5 C5 D5 htv
        have R7 : Hid ((w6.setCell ⟨w3.heap.size, 0, none⟩ (.int .i64 tv)).heap[w3.heap.size]? = some (.cells #[.int .i64 tv, .int .i64 q, .string (strB h_), .int .i64 kd, .string (strB s_), .string (strB t_), .int .i64 a_, .string (strB x_)] 34 (0, 0))) := Lib.hid (block_set (o := 0) (v := .int .i64 tv) R6.out)
        have C7 : Hid (Chg (· ∈ [p]) w3 (w6.setCell ⟨w3.heap.size, 0, none⟩ (.int .i64 tv))) := Lib.hid (Chg.setCell (p := ⟨w3.heap.size, 0, none⟩) C6.out (.inr (Nat.le_refl _)) _)
        have D7 : Hid (Rd (w6.setCell ⟨w3.heap.size, 0, none⟩ (.int .i64 tv)) p A n c zs (k1 + 2)) := Lib.hid (Rd.setOld h rd6 (a := ⟨w3.heap.size, 0, none⟩) lw3 _)
        obtain ⟨w7, hw7⟩ : ∃ W, W = w6.setCell ⟨w3.heap.size, 0, none⟩ (.int .i64 tv) := ⟨_, rfl⟩
        rw [← hw7] at R7 C7 D7
        clear R6 C6 rd6
        go_wp2_with fail
        rw [← hw7]
        clear hw7 f60 x60 l6 nv
        have tl : w3.heap.size < w7.heap.size := (Array.getElem?_eq_some_iff.1 R7.out).1
        have HBs := Lib.hid (HB3.out.step C7.out hp hlo' hg1 hbl)
        clear HB3 C7
        go_wp2_with fail
        go_loopw [7] (fun i wr2 => ∃ (i2 k2 : Nat), i = .int .i64 (i2 : Int) ∧ i2 ≤ 3 ∧ k2 ≤ (k1 + 2) + i2 ∧ Hid (Rd wr2 p A n c zs k2) ∧ Hid (B93 10000 w p bx g c3 lo wr2) ∧ Hid (wr2.heap[w3.heap.size]? = some (.cells #[.int .i64 tv, .int .i64 q, .string (strB h_), .int .i64 kd, .string (strB s_), .string (strB t_), .int .i64 a_, .string (strB x_)] 34 (0, 0)))) (fun i _ => 3 - (RowKit.intOf i).toNat)
        case atStart => exact ⟨0, (k1 + 2), rfl, by omega, by omega, D7, HBs, R7⟩
        case round =>
          clear HBs D7 R7 tl
          obtain ⟨i2, k2, rfl, hi2, hk2, HR, HB, RX⟩ := hrel
          by_cases hi3 : i2 < 3
          · have i20 : (0 : Int) ≤ (i2 : Int) := by omega
            have i21 : (i2 : Int) < 3 := by omega
            go_wp2_with fail
            refine (pick_any _ p A n c zs k2 5 HR.out (by omega) (by omega) (by omega)).mono ?_
            rintro e w7 ⟨q5, rfl, hq5, rd7, hc7, hz7⟩
            have HB7 := Lib.hid (HB.out.step hc7 hp hlo' hg1 hbl)
            have lbx7 : bx < w7.heap.size := (Array.getElem?_eq_some_iff.1 HB7.out.box).1
            have RX7 := Lib.hid ((hc7.block _ (Array.getElem?_eq_some_iff.1 RX.out).1 (by simp; omega)).trans RX.out)
            have HR7 := Lib.hid rd7
            clear hc7 hz7 rd7 HB HR RX
            by_cases h5 : q5 = 0
            · have d5 : ¬ (0 : Int) < (q5 : Int) := by omega
              have d5n : ¬ 0 < q5 := by omega
              go_wp2_with fail
              go_roundw
              case rel => exact ⟨i2 + 1, k2 + 1, by go_num, by omega, by omega, HR7, HB7, RX7⟩
              case measure => simp [RowKit.intOf]; omega
            have d5 : (0 : Int) < (q5 : Int) := by omega
            have d5n : 0 < q5 := by omega
            obtain ⟨gi, ci, hcell, hC, hlg, hne⟩ := HB7.out.raid.at_ hi3
            have HCELL := Lib.hid hcell; have HC := Lib.hid hC
            have hgw := HB7.out.raid.lt
            have hpg : g ≠ p := by omega
            have hpi : gi ≠ p := by omega
            have hbi : w3.heap.size ≠ gi := cellsB_ne (by decide) hC RX7.out
            clear hcell hC
            go_wp2_with fail
            apply wp_region_rgz (Chg (· ∈ [p, gi])) (Chg (· ∈ [p])) (fun y w' k' => (k' < 5000 → Rd w' p A n c zs (k2 + 1) ∧ B93 10000 w p bx g c3 lo w' ∧ CellsB 10000 gi w' ∧ w'.heap[w3.heap.size]? = some (.cells #[.int .i64 tv, .int .i64 q, .string (strB h_), .int .i64 kd, .string (strB s_), .string (strB t_), .int .i64 a_, .string (strB x_)] 34 (0, 0))) ∧ (5000 ≤ k' → Rd w' p A n c zs (k2 + 1) ∧ B93 10000 w p bx g c3 lo w' ∧ w'.heap[w3.heap.size]? = some (.cells #[.int .i64 tv, .int .i64 q, .string (strB h_), .int .i64 kd, .string (strB s_), .string (strB t_), .int .i64 a_, .string (strB x_)] 34 (0, 0)))) (0 :: 0 :: 0 :: 0 :: 0 :: 0 :: 0 :: 0 :: 0 :: 0 :: 0 :: 0 :: 5000 :: []) (5000 :: 5000 :: 5000 :: 5000 :: 5000 :: 5000 :: 5000 :: 5000 :: 5000 :: 5000 :: 5000 :: 5000 :: 5000 :: []) (by kernel_rfl) (false :: false :: false :: false :: false :: false :: false :: false :: false :: false :: false :: false :: false :: false :: false :: false :: false :: false :: false :: false :: false :: false :: false :: false :: false :: false :: false :: false :: false :: false :: false :: false :: false :: false :: false :: false :: false :: false :: false :: false :: true :: true :: true :: true :: true :: true :: true :: true :: true :: true :: true :: true :: false :: false :: false :: false :: false :: false :: false :: false :: false :: false :: false :: false :: false :: false :: false :: false :: false :: false :: false :: false :: false :: false :: false :: false :: false :: false :: false :: false :: false :: false :: false :: false :: false :: false :: false :: false :: false :: []) (some 40 :: some 41 :: some 42 :: some 43 :: some 44 :: some 45 :: some 46 :: some 47 :: some 48 :: some 49 :: some 50 :: some 51 :: none :: []) ([] :: [0] :: [] :: [1, 2] :: [3] :: [4] :: [] :: [6] :: [7] :: [] :: [9] :: [5, 8] :: [10, 11] :: []) (false :: false :: false :: false :: false :: false :: false :: false :: false :: false :: false :: false :: true :: []) (true :: true :: true :: true :: true :: true :: true :: true :: true :: true :: true :: true :: true :: []) [] (MStP.is _ :: MStP.is _ :: MStP.is _ :: MStP.is _ :: MStP.is _ :: MStP.is _ :: MStP.is _ :: MStP.is _ :: MStP.is _ :: MStP.is _ :: ⟨fun v _ => ∃ s : ByteArray, v = .string s ∧ s.size ≤ 10000, true, fun _ _ _ _ h => h, fun _ _ _ _ _ h => h⟩ :: MStP.is _ :: MStP.is _ :: []) (by kernel_rfl) (by kernel_rfl) (by kernel_rfl) (by kernel_rfl)
            case hobs =>
              refine ⟨fun y w' k hS hj hk hF K hK => ?_, ?_⟩
              · skip -- 0: fieldAddr
                simp only [fillL, cond_true, cond_false, List.getD_cons_zero, List.getD_cons_succ, StP.is, Act.put, List.setIfInBounds_toArray, List.set_cons_zero, List.set_cons_succ, Nat.reduceAdd, MStP.is, Option.isSome_some, Option.isSome_none] at hK ⊢
                simp only [List.sum_cons, List.sum_nil, List.getD_cons_zero, List.getD_cons_succ, Nat.reduceAdd, Nat.add_zero] at hk
                refine rg_yes (by kernel_rfl) ?_
                clear hF
                go_simp
                exact hK _ _ (Chg.refl _ _) ⟨fun h => hj.1 (by omega), fun h => absurd h (by omega)⟩ rfl
              refine ⟨fun y w' k hS hj hk hF K hK => ?_, ?_⟩
              · skip -- 1: load
                have e40 : y 40 = _ := hF.1
                have e40' := Lib.hid e40
                simp only [fillL, cond_true, cond_false, List.getD_cons_zero, List.getD_cons_succ, StP.is, Act.put, List.setIfInBounds_toArray, List.set_cons_zero, List.set_cons_succ, Nat.reduceAdd, e40, MStP.is, Option.isSome_some, Option.isSome_none] at hK ⊢
                simp only [List.sum_cons, List.sum_nil, List.getD_cons_zero, List.getD_cons_succ, Nat.reduceAdd, Nat.add_zero] at hk
                refine rg_yes (by kernel_rfl) ?_
                clear e40
                clear hF
                obtain ⟨hrd, hB, hCC, hX⟩ := hj.1 (by omega)
                have qb := cell_of_row _ _ 0 _ _ (0, 0) hB.box
                have lqb := (Array.getElem?_eq_some_iff.1 hB.box).1
                clear hB hCC hrd hX
                go_simp
                exact hK _ _ (Chg.refl _ _) ⟨fun h => hj.1 (by omega), fun h => absurd h (by omega)⟩ rfl
              refine ⟨fun y w' k hS hj hk hF K hK => ?_, ?_⟩
              · skip -- 2: move
                simp only [fillL, cond_true, cond_false, List.getD_cons_zero, List.getD_cons_succ, StP.is, Act.put, List.setIfInBounds_toArray, List.set_cons_zero, List.set_cons_succ, Nat.reduceAdd, MStP.is, Option.isSome_some, Option.isSome_none] at hK ⊢
                simp only [List.sum_cons, List.sum_nil, List.getD_cons_zero, List.getD_cons_succ, Nat.reduceAdd, Nat.add_zero] at hk
                refine rg_yes (by kernel_rfl) ?_
                clear hF
                go_simp
                exact hK _ _ (Chg.refl _ _) ⟨fun h => hj.1 (by omega), fun h => absurd h (by omega)⟩ rfl
              refine ⟨fun y w' k hS hj hk hF K hK => ?_, ?_⟩
              · skip -- 3: indexAddr
                have e41 : y 41 = _ := hF.1
                have e42 : y 42 = _ := hF.2.1
                have e41' := Lib.hid e41
                have e42' := Lib.hid e42
                simp only [fillL, cond_true, cond_false, List.getD_cons_zero, List.getD_cons_succ, StP.is, Act.put, List.setIfInBounds_toArray, List.set_cons_zero, List.set_cons_succ, Nat.reduceAdd, e41, e42, MStP.is, Option.isSome_some, Option.isSome_none] at hK ⊢
                simp only [List.sum_cons, List.sum_nil, List.getD_cons_zero, List.getD_cons_succ, Nat.reduceAdd, Nat.add_zero] at hk
                refine rg_yes (by kernel_rfl) ?_
                clear e41 e42
                clear hF
                go_simp
                exact hK _ _ (Chg.refl _ _) ⟨fun h => hj.1 (by omega), fun h => absurd h (by omega)⟩ rfl
              refine ⟨fun y w' k hS hj hk hF K hK => ?_, ?_⟩
              · skip -- 4: fieldAddr
                have e43 : y 43 = _ := hF.1
                have e43' := Lib.hid e43
                simp only [fillL, cond_true, cond_false, List.getD_cons_zero, List.getD_cons_succ, StP.is, Act.put, List.setIfInBounds_toArray, List.set_cons_zero, List.set_cons_succ, Nat.reduceAdd, e43, MStP.is, Option.isSome_some, Option.isSome_none] at hK ⊢
                simp only [List.sum_cons, List.sum_nil, List.getD_cons_zero, List.getD_cons_succ, Nat.reduceAdd, Nat.add_zero] at hk
                refine rg_yes (by kernel_rfl) ?_
                clear e43
                clear hF
                go_simp
                exact hK _ _ (Chg.refl _ _) ⟨fun h => hj.1 (by omega), fun h => absurd h (by omega)⟩ rfl
              refine ⟨fun y w' k hS hj hk hF K hK => ?_, ?_⟩
              · skip -- 5: load
                have e44 : y 44 = _ := hF.1
                have e44' := Lib.hid e44
                simp only [fillL, cond_true, cond_false, List.getD_cons_zero, List.getD_cons_succ, StP.is, Act.put, List.setIfInBounds_toArray, List.set_cons_zero, List.set_cons_succ, Nat.reduceAdd, e44, MStP.is, Option.isSome_some, Option.isSome_none] at hK ⊢
                simp only [List.sum_cons, List.sum_nil, List.getD_cons_zero, List.getD_cons_succ, Nat.reduceAdd, Nat.add_zero] at hk
                refine rg_yes (by kernel_rfl) ?_
                clear e44
                clear hF
                have qc := (World.cell?_of_block (a := ⟨g, i2 * 3, none⟩) (hS.block g hgw (by simp; exact ⟨hpg, fun e => hne e.symm⟩))).trans HCELL.out
                have lqc : g < w'.heap.size := Nat.lt_of_lt_of_le hgw hS.size
                go_simp
                exact hK _ _ (Chg.refl _ _) ⟨fun h => hj.1 (by omega), fun h => absurd h (by omega)⟩ rfl
              refine ⟨fun y w' k hS hj hk hF K hK => ?_, ?_⟩
              · skip -- 6: move
                simp only [fillL, cond_true, cond_false, List.getD_cons_zero, List.getD_cons_succ, StP.is, Act.put, List.setIfInBounds_toArray, List.set_cons_zero, List.set_cons_succ, Nat.reduceAdd, MStP.is, Option.isSome_some, Option.isSome_none] at hK ⊢
                simp only [List.sum_cons, List.sum_nil, List.getD_cons_zero, List.getD_cons_succ, Nat.reduceAdd, Nat.add_zero] at hk
                refine rg_yes (by kernel_rfl) ?_
                clear hF
                go_simp
                exact hK _ _ (Chg.refl _ _) ⟨fun h => hj.1 (by omega), fun h => absurd h (by omega)⟩ rfl
              refine ⟨fun y w' k hS hj hk hF K hK => ?_, ?_⟩
              · skip -- 7: binOp
                have e46 : y 46 = _ := hF.1
                have e46' := Lib.hid e46
                simp only [fillL, cond_true, cond_false, List.getD_cons_zero, List.getD_cons_succ, StP.is, Act.put, List.setIfInBounds_toArray, List.set_cons_zero, List.set_cons_succ, Nat.reduceAdd, e46, MStP.is, Option.isSome_some, Option.isSome_none] at hK ⊢
                simp only [List.sum_cons, List.sum_nil, List.getD_cons_zero, List.getD_cons_succ, Nat.reduceAdd, Nat.add_zero] at hk
                refine rg_yes (by kernel_rfl) ?_
                clear e46
                clear hF
                go_simp
                exact hK _ _ (Chg.refl _ _) ⟨fun h => hj.1 (by omega), fun h => absurd h (by omega)⟩ rfl
              refine ⟨fun y w' k hS hj hk hF K hK => ?_, ?_⟩
              · skip -- 8: binOp
                have e47 : y 47 = _ := hF.1
                have e47' := Lib.hid e47
                simp only [fillL, cond_true, cond_false, List.getD_cons_zero, List.getD_cons_succ, StP.is, Act.put, List.setIfInBounds_toArray, List.set_cons_zero, List.set_cons_succ, Nat.reduceAdd, e47, MStP.is, Option.isSome_some, Option.isSome_none] at hK ⊢
                simp only [List.sum_cons, List.sum_nil, List.getD_cons_zero, List.getD_cons_succ, Nat.reduceAdd, Nat.add_zero] at hk
                refine rg_yes (by kernel_rfl) ?_
                clear e47
                clear hF
                go_simp
                exact hK _ _ (Chg.refl _ _) ⟨fun h => hj.1 (by omega), fun h => absurd h (by omega)⟩ rfl
              refine ⟨fun y w' k hS hj hk hF K hK => ?_, ?_⟩
              · skip -- 9: load
                simp only [fillL, cond_true, cond_false, List.getD_cons_zero, List.getD_cons_succ, StP.is, Act.put, List.setIfInBounds_toArray, List.set_cons_zero, List.set_cons_succ, Nat.reduceAdd, MStP.is, Option.isSome_some, Option.isSome_none] at hK ⊢
                simp only [List.sum_cons, List.sum_nil, List.getD_cons_zero, List.getD_cons_succ, Nat.reduceAdd, Nat.add_zero] at hk
                refine rg_yes (by kernel_rfl) ?_
                clear hF
                obtain ⟨hrd, hB, hCC, hX⟩ := hj.1 (by omega)
                have x0 := cell_of_row _ _ 0 _ _ (0, 0) hX
                have x1 := cell_of_row _ _ 1 _ _ (0, 0) hX
                have x2 := cell_of_row _ _ 2 _ _ (0, 0) hX
                have x3 := cell_of_row _ _ 3 _ _ (0, 0) hX
                have x4 := cell_of_row _ _ 4 _ _ (0, 0) hX
                have x5 := cell_of_row _ _ 5 _ _ (0, 0) hX
                have x6 := cell_of_row _ _ 6 _ _ (0, 0) hX
                have x7 := cell_of_row _ _ 7 _ _ (0, 0) hX
                have lx := (Array.getElem?_eq_some_iff.1 hX).1
                clear hB hCC hrd hX
                go_simp
                exact hK _ _ (Chg.refl _ _) ⟨fun h => hj.1 (by omega), fun h => absurd h (by omega)⟩ rfl
              refine ⟨fun y w' k hS hj hk hF K hK => ?_, ?_⟩
              · skip -- 10: call
                have e49 : y 49 = _ := hF.1
                have e49' := Lib.hid e49
                simp only [fillL, cond_true, cond_false, List.getD_cons_zero, List.getD_cons_succ, StP.is, Act.put, List.setIfInBounds_toArray, List.set_cons_zero, List.set_cons_succ, Nat.reduceAdd, e49, MStP.is, Option.isSome_some, Option.isSome_none] at hK ⊢
                simp only [List.sum_cons, List.sum_nil, List.getD_cons_zero, List.getD_cons_succ, Nat.reduceAdd, Nat.add_zero] at hk
                refine rg_yes (by kernel_rfl) ?_
                clear e49
                clear hF
                obtain ⟨hrd, hB, hCC, hX⟩ := hj.1 (by omega)
                have HBj := Lib.hid hB; have HCj := Lib.hid hCC; have HXj := Lib.hid hX; have HRj := Lib.hid hrd; clear hB hCC hX hrd
                go_simp
                go_at_call 35
                refine (spIntPut_any _ q h_ kd s_ t_ a_ x_ w' (by omega) (by omega) (by omega) (by omega)).mono ?_
                have hsm := intS_len (tv, q, h_, kd, s_, t_, a_, x_)
                unfold TextR
                generalize intS (tv, q, h_, kd, s_, t_, a_, x_) = xx at hsm ⊢
                rintro e w'' ⟨rfl, hb⟩
                exact hK _ _ (Chg.of_below hb _) ⟨fun h => ⟨HRj.out.below hb, HBj.out.step (Chg.of_below hb _) hp hlo' hg1 hbl, HCj.out.keep (hb.block gi HCj.out.lt), (hb.block _ (Array.getElem?_eq_some_iff.1 HXj.out).1).trans HXj.out⟩, fun h => absurd h (by omega)⟩ ⟨_, rfl, by rw [strB_size]; omega⟩
              refine ⟨fun y w' k hS hj hk hF K hK => ?_, ?_⟩
              · skip -- 11: indexAddr
                have e45 : y 45 = _ := hF.1
                have e48 : y 48 = _ := hF.2.1
                have e45' := Lib.hid e45
                have e48' := Lib.hid e48
                simp only [fillL, cond_true, cond_false, List.getD_cons_zero, List.getD_cons_succ, StP.is, Act.put, List.setIfInBounds_toArray, List.set_cons_zero, List.set_cons_succ, Nat.reduceAdd, e45, e48, MStP.is, Option.isSome_some, Option.isSome_none] at hK ⊢
                simp only [List.sum_cons, List.sum_nil, List.getD_cons_zero, List.getD_cons_succ, Nat.reduceAdd, Nat.add_zero] at hk
                refine rg_yes (by kernel_rfl) ?_
                clear e45 e48
                clear hF
                go_simp
                exact hK _ _ (Chg.refl _ _) ⟨fun h => hj.1 (by omega), fun h => absurd h (by omega)⟩ rfl
              refine ⟨fun y w' k hS hj hk hF K hK => ?_, ?_⟩
              · skip -- 12: store
                obtain ⟨sb, e50, hsb⟩ := hF.1
                have e51 : y 51 = _ := hF.2.1
                have e50' := Lib.hid e50
                have e51' := Lib.hid e51
                simp only [fillL, cond_true, cond_false, List.getD_cons_zero, List.getD_cons_succ, StP.is, Act.put, List.setIfInBounds_toArray, List.set_cons_zero, List.set_cons_succ, Nat.reduceAdd, e50, e51, MStP.is, Option.isSome_some, Option.isSome_none] at hK ⊢
                simp only [List.sum_cons, List.sum_nil, List.getD_cons_zero, List.getD_cons_succ, Nat.reduceAdd, Nat.add_zero] at hk
                refine rg_yes (by kernel_rfl) ?_
                clear e50 e51
                clear hF
                obtain ⟨hrd, hB, hCC, hX⟩ := hj.1 (by omega)
                obtain ⟨s0_, hcs, hfz, -⟩ := hCC.at_ (r := s) s2
                have qc := Lib.hid ((World.cell?_of_block (a := ⟨g, i2 * 3, none⟩) (hS.block g hgw (by simp; exact ⟨hpg, fun e => hne e.symm⟩))).trans HCELL.out)
                have HBj := Lib.hid hB; have HCj := Lib.hid hCC; have HXj := Lib.hid hX; clear hB hCC hX
                go_simp
                refine hK undef _ (Chg.setCell (p := ⟨gi, _, none⟩) (Chg.refl _ _) (.inl (by simp)) _) ⟨fun h => absurd h (by omega), fun _ => ⟨?_, ?_, ?_⟩⟩ rfl
                · exact Rd.setOld h hrd (a := ⟨gi, _, none⟩) (by show w.heap.size ≤ gi; omega) _
                · exact HBj.out.put hi3 qc.out HCj.out hsb hlo' hlg
                · exact (heap_far (p := ⟨gi, _, none⟩) hbi).trans HXj.out
              trivial
            case hH => rfl
            case hNS => exact fun _ _ h => h.mono (fun b _ hb => by simp at hb ⊢; exact .inl hb)
            case hSt => exact fun a b => Chg.trans a b
            case hb => rfl
            case hdrew => exact (Chg.refl _ _).drewN 1
            case hj0 => exact fun y => ⟨fun _ => ⟨HR7.out.below (below_drewN (Below.refl _ _) 1), HB7.out.step ((Chg.refl _ _).drewN 1) hp hlo' hg1 hbl, HC.out, RX7.out⟩, fun h => absurd h (by omega)⟩
            case hend =>
              intro y w9 hS hJ hF
              obtain ⟨rd9, hB9, hX9⟩ := hJ.2 (by decide)
              have HR9 := Lib.hid rd9; have HB9 := Lib.hid hB9; have RX9 := Lib.hid hX9
              clear hJ hF hS rd9 hB9 hX9
              simp only [fillL, cond_true, cond_false, Nat.reduceAdd]
              go_wp2_with fail
              go_roundw
              case rel => exact ⟨i2 + 1, k2 + 1, by go_num, by omega, by omega, HR9, HB9, RX9⟩
              case measure => simp [RowKit.intOf]; omega
          · obtain rfl : i2 = 3 := by omega
            go_wp2_with fail
            go_roundw
            case rel => exact ⟨j + 1, q + 1, k2, rfl, Lib.hid (by have := HQ.out; omega), by omega, by omega, HR, HB⟩
            case measure => simp [RowKit.intOf]; omega
      case neg =>
        have e0 : ((q8 : Int) == 0) = false := by simp [h8]
        clear h8
        have tl : w3.heap.size < w5.heap.size := (Array.getElem?_eq_some_iff.1 R5.out).1
        have HBs := Lib.hid (HB3.out.step C5.out hp hlo' hg1 hbl)
        clear HB3 C5
        go_wp2_with fail
        go_loopw [7] (fun i wr2 => ∃ (i2 k2 : Nat), i = .int .i64 (i2 : Int) ∧ i2 ≤ 3 ∧ k2 ≤ (k1 + 1) + i2 ∧ Hid (Rd wr2 p A n c zs k2) ∧ Hid (B93 10000 w p bx g c3 lo wr2) ∧ Hid (wr2.heap[w3.heap.size]? = some (.cells #[.int .i64 tx, .int .i64 q, .string (strB h_), .int .i64 kd, .string (strB s_), .string (strB t_), .int .i64 a_, .string (strB x_)] 34 (0, 0)))) (fun i _ => 3 - (RowKit.intOf i).toNat)
        case atStart => exact ⟨0, (k1 + 1), rfl, by omega, by omega, D5, HBs, R5⟩
        case round =>
          clear HBs D5 R5 tl
          obtain ⟨i2, k2, rfl, hi2, hk2, HR, HB, RX⟩ := hrel
          by_cases hi3 : i2 < 3
          · have i20 : (0 : Int) ≤ (i2 : Int) := by omega
            have i21 : (i2 : Int) < 3 := by omega
            go_wp2_with fail
            refine (pick_any _ p A n c zs k2 5 HR.out (by omega) (by omega) (by omega)).mono ?_
            rintro e w7 ⟨q5, rfl, hq5, rd7, hc7, hz7⟩
            have HB7 := Lib.hid (HB.out.step hc7 hp hlo' hg1 hbl)
            have lbx7 : bx < w7.heap.size := (Array.getElem?_eq_some_iff.1 HB7.out.box).1
            have RX7 := Lib.hid ((hc7.block _ (Array.getElem?_eq_some_iff.1 RX.out).1 (by simp; omega)).trans RX.out)
            have HR7 := Lib.hid rd7
            clear hc7 hz7 rd7 HB HR RX
            by_cases h5 : q5 = 0
            · have d5 : ¬ (0 : Int) < (q5 : Int) := by omega
              have d5n : ¬ 0 < q5 := by omega
              go_wp2_with fail
              go_roundw
              case rel => exact ⟨i2 + 1, k2 + 1, by go_num, by omega, by omega, HR7, HB7, RX7⟩
              case measure => simp [RowKit.intOf]; omega
            have d5 : (0 : Int) < (q5 : Int) := by omega
            have d5n : 0 < q5 := by omega
            obtain ⟨gi, ci, hcell, hC, hlg, hne⟩ := HB7.out.raid.at_ hi3
            have HCELL := Lib.hid hcell; have HC := Lib.hid hC
            have hgw := HB7.out.raid.lt
            have hpg : g ≠ p := by omega
            have hpi : gi ≠ p := by omega
            have hbi : w3.heap.size ≠ gi := cellsB_ne (by decide) hC RX7.out
            clear hcell hC
            go_wp2_with fail
            apply wp_region_rgz (Chg (· ∈ [p, gi])) (Chg (· ∈ [p])) (fun y w' k' => (k' < 5000 → Rd w' p A n c zs (k2 + 1) ∧ B93 10000 w p bx g c3 lo w' ∧ CellsB 10000 gi w' ∧ w'.heap[w3.heap.size]? = some (.cells #[.int .i64 tx, .int .i64 q, .string (strB h_), .int .i64 kd, .string (strB s_), .string (strB t_), .int .i64 a_, .string (strB x_)] 34 (0, 0))) ∧ (5000 ≤ k' → Rd w' p A n c zs (k2 + 1) ∧ B93 10000 w p bx g c3 lo w' ∧ w'.heap[w3.heap.size]? = some (.cells #[.int .i64 tx, .int .i64 q, .string (strB h_), .int .i64 kd, .string (strB s_), .string (strB t_), .int .i64 a_, .string (strB x_)] 34 (0, 0)))) (0 :: 0 :: 0 :: 0 :: 0 :: 0 :: 0 :: 0 :: 0 :: 0 :: 0 :: 0 :: 5000 :: []) (5000 :: 5000 :: 5000 :: 5000 :: 5000 :: 5000 :: 5000 :: 5000 :: 5000 :: 5000 :: 5000 :: 5000 :: 5000 :: []) (by kernel_rfl) (false :: false :: false :: false :: false :: false :: false :: false :: false :: false :: false :: false :: false :: false :: false :: false :: false :: false :: false :: false :: false :: false :: false :: false :: false :: false :: false :: false :: false :: false :: false :: false :: false :: false :: false :: false :: false :: false :: false :: false :: true :: true :: true :: true :: true :: true :: true :: true :: true :: true :: true :: true :: false :: false :: false :: false :: false :: false :: false :: false :: false :: false :: false :: false :: false :: false :: false :: false :: false :: false :: false :: false :: false :: false :: false :: false :: false :: false :: false :: false :: false :: false :: false :: false :: false :: false :: false :: false :: false :: []) (some 40 :: some 41 :: some 42 :: some 43 :: some 44 :: some 45 :: some 46 :: some 47 :: some 48 :: some 49 :: some 50 :: some 51 :: none :: []) ([] :: [0] :: [] :: [1, 2] :: [3] :: [4] :: [] :: [6] :: [7] :: [] :: [9] :: [5, 8] :: [10, 11] :: []) (false :: false :: false :: false :: false :: false :: false :: false :: false :: false :: false :: false :: true :: []) (true :: true :: true :: true :: true :: true :: true :: true :: true :: true :: true :: true :: true :: []) [] (MStP.is _ :: MStP.is _ :: MStP.is _ :: MStP.is _ :: MStP.is _ :: MStP.is _ :: MStP.is _ :: MStP.is _ :: MStP.is _ :: MStP.is _ :: ⟨fun v _ => ∃ s : ByteArray, v = .string s ∧ s.size ≤ 10000, true, fun _ _ _ _ h => h, fun _ _ _ _ _ h => h⟩ :: MStP.is _ :: MStP.is _ :: []) (by kernel_rfl) (by kernel_rfl) (by kernel_rfl) (by kernel_rfl)
            case hobs =>
              refine ⟨fun y w' k hS hj hk hF K hK => ?_, ?_⟩
              · skip -- 0: fieldAddr
                simp only [fillL, cond_true, cond_false, List.getD_cons_zero, List.getD_cons_succ, StP.is, Act.put, List.setIfInBounds_toArray, List.set_cons_zero, List.set_cons_succ, Nat.reduceAdd, MStP.is, Option.isSome_some, Option.isSome_none] at hK ⊢
                simp only [List.sum_cons, List.sum_nil, List.getD_cons_zero, List.getD_cons_succ, Nat.reduceAdd, Nat.add_zero] at hk
                refine rg_yes (by kernel_rfl) ?_
                clear hF
                go_simp
                exact hK _ _ (Chg.refl _ _) ⟨fun h => hj.1 (by omega), fun h => absurd h (by omega)⟩ rfl
              refine ⟨fun y w' k hS hj hk hF K hK => ?_, ?_⟩
              · skip -- 1: load
                have e40 : y 40 = _ := hF.1
                have e40' := Lib.hid e40
                simp only [fillL, cond_true, cond_false, List.getD_cons_zero, List.getD_cons_succ, StP.is, Act.put, List.setIfInBounds_toArray, List.set_cons_zero, List.set_cons_succ, Nat.reduceAdd, e40, MStP.is, Option.isSome_some, Option.isSome_none] at hK ⊢
                simp only [List.sum_cons, List.sum_nil, List.getD_cons_zero, List.getD_cons_succ, Nat.reduceAdd, Nat.add_zero] at hk
                refine rg_yes (by kernel_rfl) ?_
                clear e40
                clear hF
                obtain ⟨hrd, hB, hCC, hX⟩ := hj.1 (by omega)
                have qb := cell_of_row _ _ 0 _ _ (0, 0) hB.box
                have lqb := (Array.getElem?_eq_some_iff.1 hB.box).1
                clear hB hCC hrd hX
                go_simp
                exact hK _ _ (Chg.refl _ _) ⟨fun h => hj.1 (by omega), fun h => absurd h (by omega)⟩ rfl
              refine ⟨fun y w' k hS hj hk hF K hK => ?_, ?_⟩
              · skip -- 2: move
                simp only [fillL, cond_true, cond_false, List.getD_cons_zero, List.getD_cons_succ, StP.is, Act.put, List.setIfInBounds_toArray, List.set_cons_zero, List.set_cons_succ, Nat.reduceAdd, MStP.is, Option.isSome_some, Option.isSome_none] at hK ⊢
                simp only [List.sum_cons, List.sum_nil, List.getD_cons_zero, List.getD_cons_succ, Nat.reduceAdd, Nat.add_zero] at hk
                refine rg_yes (by kernel_rfl) ?_
                clear hF
                go_simp
                exact hK _ _ (Chg.refl _ _) ⟨fun h => hj.1 (by omega), fun h => absurd h (by omega)⟩ rfl
              refine ⟨fun y w' k hS hj hk hF K hK => ?_, ?_⟩
              · skip -- 3: indexAddr
                have e41 : y 41 = _ := hF.1
                have e42 : y 42 = _ := hF.2.1
                have e41' := Lib.hid e41
                have e42' := Lib.hid e42
                simp only [fillL, cond_true, cond_false, List.getD_cons_zero, List.getD_cons_succ, StP.is, Act.put, List.setIfInBounds_toArray, List.set_cons_zero, List.set_cons_succ, Nat.reduceAdd, e41, e42, MStP.is, Option.isSome_some, Option.isSome_none] at hK ⊢
                simp only [List.sum_cons, List.sum_nil, List.getD_cons_zero, List.getD_cons_succ, Nat.reduceAdd, Nat.add_zero] at hk
                refine rg_yes (by kernel_rfl) ?_
                clear e41 e42
                clear hF
                go_simp
                exact hK _ _ (Chg.refl _ _) ⟨fun h => hj.1 (by omega), fun h => absurd h (by omega)⟩ rfl
              refine ⟨fun y w' k hS hj hk hF K hK => ?_, ?_⟩
              · skip -- 4: fieldAddr
                have e43 : y 43 = _ := hF.1
                have e43' := Lib.hid e43
                simp only [fillL, cond_true, cond_false, List.getD_cons_zero, List.getD_cons_succ, StP.is, Act.put, List.setIfInBounds_toArray, List.set_cons_zero, List.set_cons_succ, Nat.reduceAdd, e43, MStP.is, Option.isSome_some, Option.isSome_none] at hK ⊢
                simp only [List.sum_cons, List.sum_nil, List.getD_cons_zero, List.getD_cons_succ, Nat.reduceAdd, Nat.add_zero] at hk
                refine rg_yes (by kernel_rfl) ?_
                clear e43
                clear hF
                go_simp
                exact hK _ _ (Chg.refl _ _) ⟨fun h => hj.1 (by omega), fun h => absurd h (by omega)⟩ rfl
              refine ⟨fun y w' k hS hj hk hF K hK => ?_, ?_⟩
              · skip -- 5: load
                have e44 : y 44 = _ := hF.1
                have e44' := Lib.hid e44
                simp only [fillL, cond_true, cond_false, List.getD_cons_zero, List.getD_cons_succ, StP.is, Act.put, List.setIfInBounds_toArray, List.set_cons_zero, List.set_cons_succ, Nat.reduceAdd, e44, MStP.is, Option.isSome_some, Option.isSome_none] at hK ⊢
                simp only [List.sum_cons, List.sum_nil, List.getD_cons_zero, List.getD_cons_succ, Nat.reduceAdd, Nat.add_zero] at hk
                refine rg_yes (by kernel_rfl) ?_
                clear e44
                clear hF
                have qc := (World.cell?_of_block (a := ⟨g, i2 * 3, none⟩) (hS.block g hgw (by simp; exact ⟨hpg, fun e => hne e.symm⟩))).trans HCELL.out
                have lqc : g < w'.heap.size := Nat.lt_of_lt_of_le hgw hS.size
                go_simp
                exact hK _ _ (Chg.refl _ _) ⟨fun h => hj.1 (by omega), fun h => absurd h (by omega)⟩ rfl
              refine ⟨fun y w' k hS hj hk hF K hK => ?_, ?_⟩
              · skip -- 6: move
                simp only [fillL, cond_true, cond_false, List.getD_cons_zero, List.getD_cons_succ, StP.is, Act.put, List.setIfInBounds_toArray, List.set_cons_zero, List.set_cons_succ, Nat.reduceAdd, MStP.is, Option.isSome_some, Option.isSome_none] at hK ⊢
                simp only [List.sum_cons, List.sum_nil, List.getD_cons_zero, List.getD_cons_succ, Nat.reduceAdd, Nat.add_zero] at hk
                refine rg_yes (by kernel_rfl) ?_
                clear hF
                go_simp
                exact hK _ _ (Chg.refl _ _) ⟨fun h => hj.1 (by omega), fun h => absurd h (by omega)⟩ rfl
              refine ⟨fun y w' k hS hj hk hF K hK => ?_, ?_⟩
              · skip -- 7: binOp
                have e46 : y 46 = _ := hF.1
                have e46' := Lib.hid e46
                simp only [fillL, cond_true, cond_false, List.getD_cons_zero, List.getD_cons_succ, StP.is, Act.put, List.setIfInBounds_toArray, List.set_cons_zero, List.set_cons_succ, Nat.reduceAdd, e46, MStP.is, Option.isSome_some, Option.isSome_none] at hK ⊢
                simp only [List.sum_cons, List.sum_nil, List.getD_cons_zero, List.getD_cons_succ, Nat.reduceAdd, Nat.add_zero] at hk
                refine rg_yes (by kernel_rfl) ?_
                clear e46
                clear hF
                go_simp
                exact hK _ _ (Chg.refl _ _) ⟨fun h => hj.1 (by omega), fun h => absurd h (by omega)⟩ rfl
              refine ⟨fun y w' k hS hj hk hF K hK => ?_, ?_⟩
              · skip -- 8: binOp
                have e47 : y 47 = _ := hF.1
                have e47' := Lib.hid e47
                simp only [fillL, cond_true, cond_false, List.getD_cons_zero, List.getD_cons_succ, StP.is, Act.put, List.setIfInBounds_toArray, List.set_cons_zero, List.set_cons_succ, Nat.reduceAdd, e47, MStP.is, Option.isSome_some, Option.isSome_none] at hK ⊢
                simp only [List.sum_cons, List.sum_nil, List.getD_cons_zero, List.getD_cons_succ, Nat.reduceAdd, Nat.add_zero] at hk
                refine rg_yes (by kernel_rfl) ?_
                clear e47
                clear hF
                go_simp
                exact hK _ _ (Chg.refl _ _) ⟨fun h => hj.1 (by omega), fun h => absurd h (by omega)⟩ rfl
              refine ⟨fun y w' k hS hj hk hF K hK => ?_, ?_⟩
              · skip -- 9: load
                simp only [fillL, cond_true, cond_false, List.getD_cons_zero, List.getD_cons_succ, StP.is, Act.put, List.setIfInBounds_toArray, List.set_cons_zero, List.set_cons_succ, Nat.reduceAdd, MStP.is, Option.isSome_some, Option.isSome_none] at hK ⊢
                simp only [List.sum_cons, List.sum_nil, List.getD_cons_zero, List.getD_cons_succ, Nat.reduceAdd, Nat.add_zero] at hk
                refine rg_yes (by kernel_rfl) ?_
                clear hF
                obtain ⟨hrd, hB, hCC, hX⟩ := hj.1 (by omega)
                have x0 := cell_of_row _ _ 0 _ _ (0, 0) hX
                have x1 := cell_of_row _ _ 1 _ _ (0, 0) hX
                have x2 := cell_of_row _ _ 2 _ _ (0, 0) hX
                have x3 := cell_of_row _ _ 3 _ _ (0, 0) hX
                have x4 := cell_of_row _ _ 4 _ _ (0, 0) hX
                have x5 := cell_of_row _ _ 5 _ _ (0, 0) hX
                have x6 := cell_of_row _ _ 6 _ _ (0, 0) hX
                have x7 := cell_of_row _ _ 7 _ _ (0, 0) hX
                have lx := (Array.getElem?_eq_some_iff.1 hX).1
                clear hB hCC hrd hX
                go_simp
                exact hK _ _ (Chg.refl _ _) ⟨fun h => hj.1 (by omega), fun h => absurd h (by omega)⟩ rfl
              refine ⟨fun y w' k hS hj hk hF K hK => ?_, ?_⟩
              · skip -- 10: call
                have e49 : y 49 = _ := hF.1
                have e49' := Lib.hid e49
                simp only [fillL, cond_true, cond_false, List.getD_cons_zero, List.getD_cons_succ, StP.is, Act.put, List.setIfInBounds_toArray, List.set_cons_zero, List.set_cons_succ, Nat.reduceAdd, e49, MStP.is, Option.isSome_some, Option.isSome_none] at hK ⊢
                simp only [List.sum_cons, List.sum_nil, List.getD_cons_zero, List.getD_cons_succ, Nat.reduceAdd, Nat.add_zero] at hk
                refine rg_yes (by kernel_rfl) ?_
                clear e49
                clear hF
                obtain ⟨hrd, hB, hCC, hX⟩ := hj.1 (by omega)
                have HBj := Lib.hid hB; have HCj := Lib.hid hCC; have HXj := Lib.hid hX; have HRj := Lib.hid hrd; clear hB hCC hX hrd
                go_simp
                go_at_call 35
                refine (spIntPut_any _ q h_ kd s_ t_ a_ x_ w' (by omega) (by omega) (by omega) (by omega)).mono ?_
                have hsm := intS_len (tx, q, h_, kd, s_, t_, a_, x_)
                unfold TextR
                generalize intS (tx, q, h_, kd, s_, t_, a_, x_) = xx at hsm ⊢
                rintro e w'' ⟨rfl, hb⟩
                exact hK _ _ (Chg.of_below hb _) ⟨fun h => ⟨HRj.out.below hb, HBj.out.step (Chg.of_below hb _) hp hlo' hg1 hbl, HCj.out.keep (hb.block gi HCj.out.lt), (hb.block _ (Array.getElem?_eq_some_iff.1 HXj.out).1).trans HXj.out⟩, fun h => absurd h (by omega)⟩ ⟨_, rfl, by rw [strB_size]; omega⟩
              refine ⟨fun y w' k hS hj hk hF K hK => ?_, ?_⟩
              · skip -- 11: indexAddr
                have e45 : y 45 = _ := hF.1
                have e48 : y 48 = _ := hF.2.1
                have e45' := Lib.hid e45
                have e48' := Lib.hid e48
                simp only [fillL, cond_true, cond_false, List.getD_cons_zero, List.getD_cons_succ, StP.is, Act.put, List.setIfInBounds_toArray, List.set_cons_zero, List.set_cons_succ, Nat.reduceAdd, e45, e48, MStP.is, Option.isSome_some, Option.isSome_none] at hK ⊢
                simp only [List.sum_cons, List.sum_nil, List.getD_cons_zero, List.getD_cons_succ, Nat.reduceAdd, Nat.add_zero] at hk
                refine rg_yes (by kernel_rfl) ?_
                clear e45 e48
                clear hF
                go_simp
                exact hK _ _ (Chg.refl _ _) ⟨fun h => hj.1 (by omega), fun h => absurd h (by omega)⟩ rfl
              refine ⟨fun y w' k hS hj hk hF K hK => ?_, ?_⟩
              · skip -- 12: store
                obtain ⟨sb, e50, hsb⟩ := hF.1
                have e51 : y 51 = _ := hF.2.1
                have e50' := Lib.hid e50
                have e51' := Lib.hid e51
                simp only [fillL, cond_true, cond_false, List.getD_cons_zero, List.getD_cons_succ, StP.is, Act.put, List.setIfInBounds_toArray, List.set_cons_zero, List.set_cons_succ, Nat.reduceAdd, e50, e51, MStP.is, Option.isSome_some, Option.isSome_none] at hK ⊢
                simp only [List.sum_cons, List.sum_nil, List.getD_cons_zero, List.getD_cons_succ, Nat.reduceAdd, Nat.add_zero] at hk
                refine rg_yes (by kernel_rfl) ?_
                clear e50 e51
                clear hF
                obtain ⟨hrd, hB, hCC, hX⟩ := hj.1 (by omega)
                obtain ⟨s0_, hcs, hfz, -⟩ := hCC.at_ (r := s) s2
                have qc := Lib.hid ((World.cell?_of_block (a := ⟨g, i2 * 3, none⟩) (hS.block g hgw (by simp; exact ⟨hpg, fun e => hne e.symm⟩))).trans HCELL.out)
                have HBj := Lib.hid hB; have HCj := Lib.hid hCC; have HXj := Lib.hid hX; clear hB hCC hX
                go_simp
                refine hK undef _ (Chg.setCell (p := ⟨gi, _, none⟩) (Chg.refl _ _) (.inl (by simp)) _) ⟨fun h => absurd h (by omega), fun _ => ⟨?_, ?_, ?_⟩⟩ rfl
                · exact Rd.setOld h hrd (a := ⟨gi, _, none⟩) (by show w.heap.size ≤ gi; omega) _
                · exact HBj.out.put hi3 qc.out HCj.out hsb hlo' hlg
                · exact (heap_far (p := ⟨gi, _, none⟩) hbi).trans HXj.out
              trivial
            case hH => rfl
            case hNS => exact fun _ _ h => h.mono (fun b _ hb => by simp at hb ⊢; exact .inl hb)
            case hSt => exact fun a b => Chg.trans a b
            case hb => rfl
            case hdrew => exact (Chg.refl _ _).drewN 1
            case hj0 => exact fun y => ⟨fun _ => ⟨HR7.out.below (below_drewN (Below.refl _ _) 1), HB7.out.step ((Chg.refl _ _).drewN 1) hp hlo' hg1 hbl, HC.out, RX7.out⟩, fun h => absurd h (by omega)⟩
            case hend =>
              intro y w9 hS hJ hF
              obtain ⟨rd9, hB9, hX9⟩ := hJ.2 (by decide)
              have HR9 := Lib.hid rd9; have HB9 := Lib.hid hB9; have RX9 := Lib.hid hX9
              clear hJ hF hS rd9 hB9 hX9
              simp only [fillL, cond_true, cond_false, Nat.reduceAdd]
              go_wp2_with fail
              go_roundw
              case rel => exact ⟨i2 + 1, k2 + 1, by go_num, by omega, by omega, HR9, HB9, RX9⟩
              case measure => simp [RowKit.intOf]; omega
          · obtain rfl : i2 = 3 := by omega
            go_wp2_with fail
            go_roundw
            case rel => exact ⟨j + 1, q + 1, k2, rfl, Lib.hid (by have := HQ.out; omega), by omega, by omega, HR, HB⟩
            case measure => simp [RowKit.intOf]; omega
    · obtain rfl : j = 4 := by omega
      have q4 : ¬ q ≤ 4 := by have := HQ.out; omega
      go_wp2_with fail
      refine (pick_any _ p A n c zs k0 8 HR.out (by omega) (by omega) (by omega)).mono ?_
      rintro e w3 ⟨qq, rfl, hqq, rd3, hc3', hz3⟩
      have HB3 := Lib.hid (HB.out.step hc3' hp hlo' hg1 hbl)
      have HR3 := Lib.hid rd3
      clear hc3' hz3 rd3 HB HR
      by_cases h0 : qq = 0
      case pos =>
        have e0 : ((qq : Int) == 0) = true := by simp [h0]
        clear h0
        go_wp2_with fail
        apply wp_region_rgz (Chg (· ∈ [p, g])) (Chg (· ∈ [p])) (fun y w' k' => (k' < 5000 → (∃ k1, k1 ≤ (k0 + 1) + k' ∧ Rd w' p A n c zs k1) ∧ B93 10000 w p bx g c3 lo w') ∧ (5000 ≤ k' → (∃ k1, k1 ≤ (k0 + 1) + 1 ∧ Rd w' p A n c zs k1) ∧ A93 w p bx g c3 lo w')) [0, 0, 0, 1, 0, 0, 5000] [5000, 5000, 5000, 5000, 5000, 5000, 5000] (by kernel_rfl) (false :: false :: false :: false :: false :: false :: false :: false :: false :: false :: false :: false :: false :: false :: false :: false :: false :: false :: false :: false :: false :: false :: false :: false :: false :: false :: false :: false :: false :: false :: false :: false :: false :: false :: false :: false :: false :: false :: false :: false :: false :: false :: false :: false :: false :: false :: false :: false :: false :: false :: false :: false :: false :: false :: false :: false :: true :: true :: true :: true :: true :: true :: false :: false :: false :: false :: false :: false :: false :: false :: false :: false :: false :: false :: false :: false :: false :: false :: false :: false :: false :: false :: false :: false :: false :: false :: false :: false :: false :: []) [some 56, some 57, some 58, some 59, some 60, some 61, none] [[], [0], [], [2], [], [1, 3], [4, 5]] [false, false, false, false, false, false, true] [true, true, true, true, false, true, true] [] [MStP.is _, MStP.is _, MStP.is _, ⟨fun v _ => ∃ r : Nat, v = .int .i64 (r : Int) ∧ r < 3, true, fun _ _ _ _ h => h, fun _ _ _ _ _ h => h⟩, ⟨fun v w' => ∃ cs lo2 x, v = .agg (List.toArray cs) ∧ g < lo2 ∧ lo ≤ lo2 ∧ DiskR w' lo2 w'.heap.size cs x, false, fun v w' w'' hs h => by obtain ⟨cs, lo2, x, e, h1, h2, h3⟩ := h; exact ⟨cs, lo2, x, e, h1, h2, DiskR.wide (Nat.le_refl _) (Chg.size hs) (Nat.le_refl _) _ _ (DiskR.keep (fun b b1 b2 => Chg.block hs b b2 (by simp; omega)) (Chg.size hs) _ _ h3)⟩, fun h => by cases h⟩, ⟨fun v _ => ∃ r : Nat, v = .pointer (some ⟨g, r * 3, none⟩) ∧ r < 3, true, fun _ _ _ _ h => h, fun _ _ _ _ _ h => h⟩, MStP.is _] (by kernel_rfl) (by kernel_rfl) (by kernel_rfl) (by kernel_rfl)
        case hobs =>
          refine ⟨fun y w' k hS hj hk hF K hK => ?_, ?_⟩
          · skip -- 0: fieldAddr
            simp only [fillL, cond_true, cond_false, List.getD_cons_zero, List.getD_cons_succ, StP.is, Act.put, List.setIfInBounds_toArray, List.set_cons_zero, List.set_cons_succ, Nat.reduceAdd, MStP.is, Option.isSome_some, Option.isSome_none] at hK ⊢
            simp only [List.sum_cons, List.sum_nil, List.getD_cons_zero, List.getD_cons_succ, Nat.reduceAdd, Nat.add_zero] at hk
            refine rg_yes (by kernel_rfl) ?_
            clear hF
            go_simp
            exact hK _ _ ((Chg.refl _ _)) ⟨fun h => hj.1 (by omega), fun h => absurd h (by omega)⟩ rfl
          refine ⟨fun y w' k hS hj hk hF K hK => ?_, ?_⟩
          · skip -- 1: load
            have e56 : y 56 = _ := hF.1
            have e56' := Lib.hid e56
            simp only [fillL, cond_true, cond_false, List.getD_cons_zero, List.getD_cons_succ, StP.is, Act.put, List.setIfInBounds_toArray, List.set_cons_zero, List.set_cons_succ, Nat.reduceAdd, e56, MStP.is, Option.isSome_some, Option.isSome_none] at hK ⊢
            simp only [List.sum_cons, List.sum_nil, List.getD_cons_zero, List.getD_cons_succ, Nat.reduceAdd, Nat.add_zero] at hk
            refine rg_yes (by kernel_rfl) ?_
            clear e56
            clear hF
            obtain ⟨hrd, hB⟩ := hj.1 (by omega)
            have HBj := Lib.hid hB
            have qb := cell_of_row _ _ 0 _ _ (0, 0) hB.box
            have lqb := (Array.getElem?_eq_some_iff.1 hB.box).1
            clear hB
            go_simp
            exact hK _ _ (Chg.refl _ _) ⟨fun h => hj.1 (by omega), fun h => absurd h (by omega)⟩ rfl
          refine ⟨fun y w' k hS hj hk hF K hK => ?_, ?_⟩
          · skip -- 2: move
            simp only [fillL, cond_true, cond_false, List.getD_cons_zero, List.getD_cons_succ, StP.is, Act.put, List.setIfInBounds_toArray, List.set_cons_zero, List.set_cons_succ, Nat.reduceAdd, MStP.is, Option.isSome_some, Option.isSome_none] at hK ⊢
            simp only [List.sum_cons, List.sum_nil, List.getD_cons_zero, List.getD_cons_succ, Nat.reduceAdd, Nat.add_zero] at hk
            refine rg_yes (by kernel_rfl) ?_
            clear hF
            go_simp
            exact hK _ _ ((Chg.refl _ _)) ⟨fun h => hj.1 (by omega), fun h => absurd h (by omega)⟩ rfl
          refine ⟨fun y w' k hS hj hk hF K hK => ?_, ?_⟩
          · skip -- 3: call
            have e58 : y 58 = _ := hF.1
            have e58' := Lib.hid e58
            simp only [fillL, cond_true, cond_false, List.getD_cons_zero, List.getD_cons_succ, StP.is, Act.put, List.setIfInBounds_toArray, List.set_cons_zero, List.set_cons_succ, Nat.reduceAdd, e58, MStP.is, Option.isSome_some, Option.isSome_none] at hK ⊢
            simp only [List.sum_cons, List.sum_nil, List.getD_cons_zero, List.getD_cons_succ, Nat.reduceAdd, Nat.add_zero] at hk
            refine rg_yes (by kernel_rfl) ?_
            clear e58
            clear hF
            obtain ⟨⟨k1, hk1, hrd⟩, hB⟩ := hj.1 (by omega)
            have HBj := Lib.hid hB; clear hB
            go_simp
            go_at_call 19
            refine (pick_any w' p A n c zs k1 3 hrd (by omega) (by omega) (by omega)).mono ?_
            rintro e w'' ⟨r, rfl, hr1, rd1, hc1, hz1⟩
            exact hK _ _ hc1 ⟨fun h => ⟨⟨k1 + 1, by omega, rd1⟩, HBj.out.step hc1 hp hlo' hg1 hbl⟩, fun h => absurd h (by omega)⟩ ⟨r, rfl, by have := hr1 (by omega); omega⟩
          refine ⟨fun y w' k hS hj hk hF K hK => ?_, ?_⟩
          · skip -- 4: call
            simp only [fillL, cond_true, cond_false, List.getD_cons_zero, List.getD_cons_succ, StP.is, Act.put, List.setIfInBounds_toArray, List.set_cons_zero, List.set_cons_succ, Nat.reduceAdd, MStP.is, Option.isSome_some, Option.isSome_none] at hK ⊢
            simp only [List.sum_cons, List.sum_nil, List.getD_cons_zero, List.getD_cons_succ, Nat.reduceAdd, Nat.add_zero] at hk
            refine rg_yes (by kernel_rfl) ?_
            clear hF
            obtain ⟨⟨k1, hk1, hrd⟩, hB⟩ := hj.1 (by omega)
            have hgw := hB.raid.lt
            have HBj := Lib.hid hB; clear hB
            go_simp
            go_at_call 36
            refine (spDiskLose_any _).mono ?_
            rintro e w'' ⟨csd, rfl, hr, hb⟩
            exact hK _ _ (Chg.of_below hb _) ⟨fun h => ⟨⟨k1, by omega, hrd.below hb⟩, HBj.out.step (Chg.of_below hb _) hp hlo' hg1 hbl⟩, fun h => absurd h (by omega)⟩ ⟨csd, w'.heap.size, _, rfl, hgw, by omega, hr.r⟩
          refine ⟨fun y w' k hS hj hk hF K hK => ?_, ?_⟩
          · skip -- 5: indexAddr
            have e57 : y 57 = _ := hF.1
            obtain ⟨r, e59, hr3⟩ := hF.2.1
            have r30 : (0 : Int) ≤ (r : Int) := by omega
            have r31 : (r : Int) < 3 := by omega
            have e57' := Lib.hid e57
            have e59' := Lib.hid e59
            simp only [fillL, cond_true, cond_false, List.getD_cons_zero, List.getD_cons_succ, StP.is, Act.put, List.setIfInBounds_toArray, List.set_cons_zero, List.set_cons_succ, Nat.reduceAdd, e57, e59, MStP.is, Option.isSome_some, Option.isSome_none] at hK ⊢
            simp only [List.sum_cons, List.sum_nil, List.getD_cons_zero, List.getD_cons_succ, Nat.reduceAdd, Nat.add_zero] at hk
            refine rg_yes (by kernel_rfl) ?_
            clear e57 e59
            clear hF
            go_simp
            exact hK _ _ (Chg.refl _ _) ⟨fun h => hj.1 (by omega), fun h => absurd h (by omega)⟩ ⟨r, rfl, hr3⟩
          refine ⟨fun y w' k hS hj hk hF K hK => ?_, ?_⟩
          · skip -- 6: store
            obtain ⟨csd, lo2, xd, e60, hgl2, hll2, hd⟩ := hF.1
            have HD := Lib.hid hd
            obtain ⟨D0, d0_, dc0, D1, d1_, dc1, rfl, -⟩ := hd
            obtain ⟨rp, e61, hrp⟩ := hF.2.1
            have e60' := Lib.hid e60
            have e61' := Lib.hid e61
            simp only [fillL, cond_true, cond_false, List.getD_cons_zero, List.getD_cons_succ, StP.is, Act.put, List.setIfInBounds_toArray, List.set_cons_zero, List.set_cons_succ, Nat.reduceAdd, e60, e61, MStP.is, Option.isSome_some, Option.isSome_none] at hK ⊢
            simp only [List.sum_cons, List.sum_nil, List.getD_cons_zero, List.getD_cons_succ, Nat.reduceAdd, Nat.add_zero] at hk
            refine rg_yes (by kernel_rfl) ?_
            clear e60 e61
            clear hF
            obtain ⟨⟨k1, hk1, hrd⟩, hB⟩ := hj.1 (by omega)
            obtain ⟨cur, hgc, hgs, -⟩ := hB.raid
            have HBj := Lib.hid hB; clear hB
            have t0 : w'.cell? ⟨g, rp * 3, none⟩ = some _ := block_cell hgc (by omega)
            have t1 : w'.cell? ⟨g, rp * 3 + 1, none⟩ = some _ := block_cell hgc (by omega)
            have t2 : w'.cell? ⟨g, rp * 3 + 2, none⟩ = some _ := block_cell hgc (by omega)
            have fr0 : w'.frozen? ⟨g, rp * 3, none⟩ = false := block_free hgc _
            have fr1 : w'.frozen? ⟨g, rp * 3 + 1, none⟩ = false := block_free hgc _
            have fr2 : w'.frozen? ⟨g, rp * 3 + 2, none⟩ = false := block_free hgc _
            generalize cur[rp * 3]'_ = y0_ at t0
            generalize cur[rp * 3 + 1]'_ = y1_ at t1
            generalize cur[rp * 3 + 2]'_ = y2_ at t2
            clear hgc hgs
            go_simp
            refine hK undef _ (Chg.setCell (p := ⟨g, _, none⟩) (Chg.setCell (p := ⟨g, _, none⟩) (Chg.setCell (p := ⟨g, _, none⟩) (Chg.refl _ _) (.inl (by simp)) _) (.inl (by simp)) _) (.inl (by simp)) _) ⟨fun h => absurd h (by omega), fun _ => ⟨⟨k1, by omega, ?_⟩, ?_⟩⟩ rfl
            · exact Rd.setOld h (Rd.setOld h (Rd.setOld h hrd (a := ⟨g, _, none⟩) (by show w.heap.size ≤ g; omega) _) (a := ⟨g, _, none⟩) (by show w.heap.size ≤ g; omega) _) (a := ⟨g, _, none⟩) (by show w.heap.size ≤ g; omega) _
            · exact HBj.out.lay (by omega) HD.out hll2 hgl2 hlo' hg1
          trivial
        case hH => rfl
        case hNS => exact fun _ _ h => h.mono (fun b _ hb => by simp at hb ⊢; exact .inl hb)
        case hSt => exact fun a b => Chg.trans a b
        case hb => rfl
        case hdrew => exact (Chg.refl _ _).drewN 1
        case hj0 => exact fun y => ⟨fun _ => ⟨⟨_, Nat.le_refl _, HR3.out.below (below_drewN (Below.refl _ _) 1)⟩, HB3.out.step ((Chg.refl _ _).drewN 1) hp hlo' hg1 hbl⟩, fun h => absurd h (by omega)⟩
        case hend =>
          intro y w9 hS hJ hF
          obtain ⟨⟨k9, hk9, rd9⟩, hA⟩ := hJ.2 (by decide)
          have HA9 := Lib.hid hA; have HR9 := Lib.hid rd9
          clear hJ hF hS hA rd9
          simp only [fillL, cond_true, cond_false, Nat.reduceAdd]
          have HAf := HA9
          have HRf := HR9
          have rb := HAf.out.box
          have b0 := cell_of_row _ _ 0 _ _ (0, 0) rb
          have rr := HAf.out.res
          have r0 := cell_of_row _ _ 0 _ _ (0, 0) rr
          have f0 := block_free rr 0
          have s0 := cell_of_row _ _ 0 _ _ (0, 0) (block_set (o := 0) (v := .slice (some ⟨g, 0, none⟩) 3 c3) rr)
          have lb := (Array.getElem?_eq_some_iff.1 rb).1
          have lr := (Array.getElem?_eq_some_iff.1 rr).1
          clear rb rr
          go_wp2_with fail
          obtain ⟨x, -, hx⟩ := (HAf.out.raid.far (a := ⟨w.heap.size, 0, none⟩) hg1 hlo' (.slice (some ⟨g, 0, none⟩) 3 c3)).r hg1 hc3 hcm
          refine bodyPost_ret (v := .agg #[.slice (some ⟨g, 0, none⟩) 3 c3]) (by simp [results, Tryz.results18, go_sem, s0]) rfl ⟨g, c3, x, k9, rfl, RaidR.wide (by omega) (Nat.le_refl _) (Nat.le_refl _) _ _ hx, by omega, Rd.setOld h HRf.out (a := ⟨w.heap.size, 0, none⟩) (Nat.le_refl _) _, Chg.setCell (p := ⟨w.heap.size, 0, none⟩) HAf.out.chg (.inr (Nat.le_refl _)) _⟩
      have e0 : ((qq : Int) == 0) = false := by rw [beq_eq_false_iff_ne]; omega
      have e0' : ¬ (qq : Int) = 0 := by omega
      by_cases h1 : qq = 1
      case pos =>
        have e1 : ((qq : Int) == 1) = true := by simp [h1]
        have e1' : (qq : Int) = 1 := by omega
        clear h1 h0
        go_wp2_with fail
        refine (pick_any w3 p A n c zs (k0 + 1) 3 HR3.out (by omega) (by omega) (by omega)).mono ?_
        rintro e w4 ⟨dk, rfl, hdk, rd4, hc4, hz4⟩
        have hdk : dk < 3 := by have := hdk (by omega); omega
        have HB4 := Lib.hid (HB3.out.step hc4 hp hlo' hg1 hbl)
        clear hc4 hz4 HB3 HR3
        go_wp2_with fail
        refine (pick_any w4 p A n c zs (k0 + 2) 4 rd4 (by omega) (by omega) (by omega)).mono ?_
        rintro e w5 ⟨kk, rfl, hkk, rd5, hc5, hz5⟩
        have hkk : kk < 4 := by have := hkk (by omega); omega
        obtain ⟨kr, hkr⟩ : ∃ kr, kr = 4 + kk := ⟨_, rfl⟩
        have nuk : IntKind.i64.wrap (4 + (kk : Int)) = (kr : Int) := by rw [IntWalk.i64_in _ (by omega)]; omega
        have hkr8 : kr < 8 := by omega
        clear hkr
        have HB5 := Lib.hid (HB4.out.step hc5 hp hlo' hg1 hbl)
        have HR5 := Lib.hid rd5
        clear hc5 hz5 HB4 rd4 rd5
        obtain ⟨gi, ci, hcell, hC, hlg, hne⟩ := HB5.out.raid.at_ hdk
        have HCELL := Lib.hid hcell; have HC := Lib.hid hC
        have hgw := HB5.out.raid.lt
        have hpg : g ≠ p := by omega
        have hpi : gi ≠ p := by omega
        have dd0 : (0 : Int) ≤ (dk : Int) := by omega
        have dd1 : (dk : Int) < 3 := by omega
        have kk0 : (0 : Int) ≤ (kr : Int) := by omega
        have kk1 : (kr : Int) < 64 := by omega
        clear hcell hC
        go_wp2_with fail
        apply wp_region_rgz (Chg (· ∈ [p, gi])) (Chg (· ∈ [p])) (fun y w' k' => (k' < 5000 → (∃ k1, k1 ≤ k0 + 3 + k' ∧ Rd w' p A n c zs k1) ∧ B93 10000 w p bx g c3 lo w' ∧ CellsB 10000 gi w') ∧ (5000 ≤ k' → (∃ k1, k1 ≤ k0 + 50 ∧ Rd w' p A n c zs k1) ∧ B93 10010 w p bx g c3 lo w')) (0 :: 0 :: 0 :: 0 :: 0 :: 0 :: 0 :: 0 :: 0 :: 0 :: 0 :: 0 :: 0 :: 0 :: 0 :: 0 :: 0 :: 14 :: 0 :: 5000 :: []) (5000 :: 5000 :: 5000 :: 5000 :: 5000 :: 5000 :: 5000 :: 5000 :: 5000 :: 5000 :: 5000 :: 5000 :: 5000 :: 5000 :: 5000 :: 5000 :: 5000 :: 5000 :: 5000 :: 5000 :: []) (by kernel_rfl) (false :: false :: false :: false :: false :: false :: false :: false :: false :: false :: false :: false :: false :: false :: false :: false :: false :: false :: false :: false :: false :: false :: false :: false :: false :: false :: false :: false :: false :: false :: false :: false :: false :: false :: false :: false :: false :: false :: false :: false :: false :: false :: false :: false :: false :: false :: false :: false :: false :: false :: false :: false :: false :: false :: false :: false :: false :: false :: false :: false :: false :: false :: false :: false :: false :: false :: false :: false :: false :: true :: true :: true :: true :: true :: true :: true :: true :: true :: true :: true :: true :: true :: true :: true :: true :: true :: true :: true :: false :: []) (some 69 :: some 70 :: some 71 :: some 72 :: some 73 :: some 74 :: some 75 :: some 76 :: some 77 :: some 78 :: some 79 :: some 80 :: some 81 :: some 82 :: some 83 :: some 84 :: some 85 :: some 86 :: some 87 :: none :: []) ([] :: [0] :: [] :: [1, 2] :: [3] :: [4] :: [] :: [] :: [] :: [8] :: [] :: [9, 10] :: [11] :: [12] :: [] :: [13, 14] :: [15] :: [7, 16] :: [5, 6] :: [17, 18] :: []) (false :: false :: false :: false :: false :: false :: false :: false :: false :: false :: false :: false :: false :: false :: false :: false :: false :: false :: false :: true :: []) (true :: true :: true :: true :: true :: true :: true :: true :: true :: true :: true :: true :: true :: true :: true :: true :: true :: true :: true :: true :: []) [] (MStP.is _ :: MStP.is _ :: MStP.is _ :: MStP.is _ :: MStP.is _ :: MStP.is _ :: MStP.is _ :: MStP.is _ :: MStP.is _ :: MStP.is _ :: MStP.is _ :: MStP.is _ :: MStP.is _ :: MStP.is _ :: MStP.is _ :: MStP.is _ :: ⟨fun v _ => ∃ s : ByteArray, v = .string s ∧ s.size ≤ 10000, true, fun _ _ _ _ h => h, fun _ _ _ _ _ h => h⟩ :: ⟨fun v _ => ∃ s : ByteArray, v = .string s ∧ s.size ≤ 10010, true, fun _ _ _ _ h => h, fun _ _ _ _ _ h => h⟩ :: MStP.is _ :: MStP.is _ :: []) (by kernel_rfl) (by kernel_rfl) (by kernel_rfl) (by kernel_rfl)
        case hobs =>
          refine ⟨fun y w' k hS hj hk hF K hK => ?_, ?_⟩
          · skip -- 0: fieldAddr
            simp only [fillL, cond_true, cond_false, List.getD_cons_zero, List.getD_cons_succ, StP.is, Act.put, List.setIfInBounds_toArray, List.set_cons_zero, List.set_cons_succ, Nat.reduceAdd, MStP.is, Option.isSome_some, Option.isSome_none] at hK ⊢
            simp only [List.sum_cons, List.sum_nil, List.getD_cons_zero, List.getD_cons_succ, Nat.reduceAdd, Nat.add_zero] at hk
            refine rg_yes (by kernel_rfl) ?_
            clear hF
            go_simp
            exact hK _ _ (Chg.refl _ _) ⟨fun h => hj.1 (by omega), fun h => absurd h (by omega)⟩ rfl
          refine ⟨fun y w' k hS hj hk hF K hK => ?_, ?_⟩
          · skip -- 1: load
            have e69 : y 69 = _ := hF.1
            have e69' := Lib.hid e69
            simp only [fillL, cond_true, cond_false, List.getD_cons_zero, List.getD_cons_succ, StP.is, Act.put, List.setIfInBounds_toArray, List.set_cons_zero, List.set_cons_succ, Nat.reduceAdd, e69, MStP.is, Option.isSome_some, Option.isSome_none] at hK ⊢
            simp only [List.sum_cons, List.sum_nil, List.getD_cons_zero, List.getD_cons_succ, Nat.reduceAdd, Nat.add_zero] at hk
            refine rg_yes (by kernel_rfl) ?_
            clear e69
            clear hF
            obtain ⟨hrd, hB, hCC⟩ := hj.1 (by omega)
            have qb := cell_of_row _ _ 0 _ _ (0, 0) hB.box
            have lqb := (Array.getElem?_eq_some_iff.1 hB.box).1
            clear hB hCC hrd
            go_simp
            exact hK _ _ (Chg.refl _ _) ⟨fun h => hj.1 (by omega), fun h => absurd h (by omega)⟩ rfl
          refine ⟨fun y w' k hS hj hk hF K hK => ?_, ?_⟩
          · skip -- 2: move
            simp only [fillL, cond_true, cond_false, List.getD_cons_zero, List.getD_cons_succ, StP.is, Act.put, List.setIfInBounds_toArray, List.set_cons_zero, List.set_cons_succ, Nat.reduceAdd, MStP.is, Option.isSome_some, Option.isSome_none] at hK ⊢
            simp only [List.sum_cons, List.sum_nil, List.getD_cons_zero, List.getD_cons_succ, Nat.reduceAdd, Nat.add_zero] at hk
            refine rg_yes (by kernel_rfl) ?_
            clear hF
            go_simp
            exact hK _ _ (Chg.refl _ _) ⟨fun h => hj.1 (by omega), fun h => absurd h (by omega)⟩ rfl
          refine ⟨fun y w' k hS hj hk hF K hK => ?_, ?_⟩
          · skip -- 3: indexAddr
            have e70 : y 70 = _ := hF.1
            have e71 : y 71 = _ := hF.2.1
            have e70' := Lib.hid e70
            have e71' := Lib.hid e71
            simp only [fillL, cond_true, cond_false, List.getD_cons_zero, List.getD_cons_succ, StP.is, Act.put, List.setIfInBounds_toArray, List.set_cons_zero, List.set_cons_succ, Nat.reduceAdd, e70, e71, MStP.is, Option.isSome_some, Option.isSome_none] at hK ⊢
            simp only [List.sum_cons, List.sum_nil, List.getD_cons_zero, List.getD_cons_succ, Nat.reduceAdd, Nat.add_zero] at hk
            refine rg_yes (by kernel_rfl) ?_
            clear e70 e71
            clear hF
            go_simp
            exact hK _ _ (Chg.refl _ _) ⟨fun h => hj.1 (by omega), fun h => absurd h (by omega)⟩ rfl
          refine ⟨fun y w' k hS hj hk hF K hK => ?_, ?_⟩
          · skip -- 4: fieldAddr
            have e72 : y 72 = _ := hF.1
            have e72' := Lib.hid e72
            simp only [fillL, cond_true, cond_false, List.getD_cons_zero, List.getD_cons_succ, StP.is, Act.put, List.setIfInBounds_toArray, List.set_cons_zero, List.set_cons_succ, Nat.reduceAdd, e72, MStP.is, Option.isSome_some, Option.isSome_none] at hK ⊢
            simp only [List.sum_cons, List.sum_nil, List.getD_cons_zero, List.getD_cons_succ, Nat.reduceAdd, Nat.add_zero] at hk
            refine rg_yes (by kernel_rfl) ?_
            clear e72
            clear hF
            go_simp
            exact hK _ _ (Chg.refl _ _) ⟨fun h => hj.1 (by omega), fun h => absurd h (by omega)⟩ rfl
          refine ⟨fun y w' k hS hj hk hF K hK => ?_, ?_⟩
          · skip -- 5: load
            have e73 : y 73 = _ := hF.1
            have e73' := Lib.hid e73
            simp only [fillL, cond_true, cond_false, List.getD_cons_zero, List.getD_cons_succ, StP.is, Act.put, List.setIfInBounds_toArray, List.set_cons_zero, List.set_cons_succ, Nat.reduceAdd, e73, MStP.is, Option.isSome_some, Option.isSome_none] at hK ⊢
            simp only [List.sum_cons, List.sum_nil, List.getD_cons_zero, List.getD_cons_succ, Nat.reduceAdd, Nat.add_zero] at hk
            refine rg_yes (by kernel_rfl) ?_
            clear e73
            clear hF
            have qc := (World.cell?_of_block (a := ⟨g, dk * 3, none⟩) (hS.block g hgw (by simp; exact ⟨hpg, fun e => hne e.symm⟩))).trans HCELL.out
            have lqc : g < w'.heap.size := Nat.lt_of_lt_of_le hgw hS.size
            go_simp
            exact hK _ _ (Chg.refl _ _) ⟨fun h => hj.1 (by omega), fun h => absurd h (by omega)⟩ rfl
          refine ⟨fun y w' k hS hj hk hF K hK => ?_, ?_⟩
          · skip -- 6: move
            simp only [fillL, cond_true, cond_false, List.getD_cons_zero, List.getD_cons_succ, StP.is, Act.put, List.setIfInBounds_toArray, List.set_cons_zero, List.set_cons_succ, Nat.reduceAdd, MStP.is, Option.isSome_some, Option.isSome_none] at hK ⊢
            simp only [List.sum_cons, List.sum_nil, List.getD_cons_zero, List.getD_cons_succ, Nat.reduceAdd, Nat.add_zero] at hk
            refine rg_yes (by kernel_rfl) ?_
            clear hF
            go_simp
            exact hK _ _ (Chg.refl _ _) ⟨fun h => hj.1 (by omega), fun h => absurd h (by omega)⟩ rfl
          refine ⟨fun y w' k hS hj hk hF K hK => ?_, ?_⟩
          · skip -- 7: move
            simp only [fillL, cond_true, cond_false, List.getD_cons_zero, List.getD_cons_succ, StP.is, Act.put, List.setIfInBounds_toArray, List.set_cons_zero, List.set_cons_succ, Nat.reduceAdd, MStP.is, Option.isSome_some, Option.isSome_none] at hK ⊢
            simp only [List.sum_cons, List.sum_nil, List.getD_cons_zero, List.getD_cons_succ, Nat.reduceAdd, Nat.add_zero] at hk
            refine rg_yes (by kernel_rfl) ?_
            clear hF
            go_simp
            exact hK _ _ (Chg.refl _ _) ⟨fun h => hj.1 (by omega), fun h => absurd h (by omega)⟩ rfl
          refine ⟨fun y w' k hS hj hk hF K hK => ?_, ?_⟩
          · skip -- 8: fieldAddr
            simp only [fillL, cond_true, cond_false, List.getD_cons_zero, List.getD_cons_succ, StP.is, Act.put, List.setIfInBounds_toArray, List.set_cons_zero, List.set_cons_succ, Nat.reduceAdd, MStP.is, Option.isSome_some, Option.isSome_none] at hK ⊢
            simp only [List.sum_cons, List.sum_nil, List.getD_cons_zero, List.getD_cons_succ, Nat.reduceAdd, Nat.add_zero] at hk
            refine rg_yes (by kernel_rfl) ?_
            clear hF
            go_simp
            exact hK _ _ (Chg.refl _ _) ⟨fun h => hj.1 (by omega), fun h => absurd h (by omega)⟩ rfl
          refine ⟨fun y w' k hS hj hk hF K hK => ?_, ?_⟩
          · skip -- 9: load
            have e77 : y 77 = _ := hF.1
            have e77' := Lib.hid e77
            simp only [fillL, cond_true, cond_false, List.getD_cons_zero, List.getD_cons_succ, StP.is, Act.put, List.setIfInBounds_toArray, List.set_cons_zero, List.set_cons_succ, Nat.reduceAdd, e77, MStP.is, Option.isSome_some, Option.isSome_none] at hK ⊢
            simp only [List.sum_cons, List.sum_nil, List.getD_cons_zero, List.getD_cons_succ, Nat.reduceAdd, Nat.add_zero] at hk
            refine rg_yes (by kernel_rfl) ?_
            clear e77
            clear hF
            obtain ⟨hrd, hB, hCC⟩ := hj.1 (by omega)
            have qb := cell_of_row _ _ 0 _ _ (0, 0) hB.box
            have lqb := (Array.getElem?_eq_some_iff.1 hB.box).1
            clear hB hCC hrd
            go_simp
            exact hK _ _ (Chg.refl _ _) ⟨fun h => hj.1 (by omega), fun h => absurd h (by omega)⟩ rfl
          refine ⟨fun y w' k hS hj hk hF K hK => ?_, ?_⟩
          · skip -- 10: move
            simp only [fillL, cond_true, cond_false, List.getD_cons_zero, List.getD_cons_succ, StP.is, Act.put, List.setIfInBounds_toArray, List.set_cons_zero, List.set_cons_succ, Nat.reduceAdd, MStP.is, Option.isSome_some, Option.isSome_none] at hK ⊢
            simp only [List.sum_cons, List.sum_nil, List.getD_cons_zero, List.getD_cons_succ, Nat.reduceAdd, Nat.add_zero] at hk
            refine rg_yes (by kernel_rfl) ?_
            clear hF
            go_simp
            exact hK _ _ (Chg.refl _ _) ⟨fun h => hj.1 (by omega), fun h => absurd h (by omega)⟩ rfl
          refine ⟨fun y w' k hS hj hk hF K hK => ?_, ?_⟩
          · skip -- 11: indexAddr
            have e78 : y 78 = _ := hF.1
            have e79 : y 79 = _ := hF.2.1
            have e78' := Lib.hid e78
            have e79' := Lib.hid e79
            simp only [fillL, cond_true, cond_false, List.getD_cons_zero, List.getD_cons_succ, StP.is, Act.put, List.setIfInBounds_toArray, List.set_cons_zero, List.set_cons_succ, Nat.reduceAdd, e78, e79, MStP.is, Option.isSome_some, Option.isSome_none] at hK ⊢
            simp only [List.sum_cons, List.sum_nil, List.getD_cons_zero, List.getD_cons_succ, Nat.reduceAdd, Nat.add_zero] at hk
            refine rg_yes (by kernel_rfl) ?_
            clear e78 e79
            clear hF
            go_simp
            exact hK _ _ (Chg.refl _ _) ⟨fun h => hj.1 (by omega), fun h => absurd h (by omega)⟩ rfl
          refine ⟨fun y w' k hS hj hk hF K hK => ?_, ?_⟩
          · skip -- 12: fieldAddr
            have e80 : y 80 = _ := hF.1
            have e80' := Lib.hid e80
            simp only [fillL, cond_true, cond_false, List.getD_cons_zero, List.getD_cons_succ, StP.is, Act.put, List.setIfInBounds_toArray, List.set_cons_zero, List.set_cons_succ, Nat.reduceAdd, e80, MStP.is, Option.isSome_some, Option.isSome_none] at hK ⊢
            simp only [List.sum_cons, List.sum_nil, List.getD_cons_zero, List.getD_cons_succ, Nat.reduceAdd, Nat.add_zero] at hk
            refine rg_yes (by kernel_rfl) ?_
            clear e80
            clear hF
            go_simp
            exact hK _ _ (Chg.refl _ _) ⟨fun h => hj.1 (by omega), fun h => absurd h (by omega)⟩ rfl
          refine ⟨fun y w' k hS hj hk hF K hK => ?_, ?_⟩
          · skip -- 13: load
            have e81 : y 81 = _ := hF.1
            have e81' := Lib.hid e81
            simp only [fillL, cond_true, cond_false, List.getD_cons_zero, List.getD_cons_succ, StP.is, Act.put, List.setIfInBounds_toArray, List.set_cons_zero, List.set_cons_succ, Nat.reduceAdd, e81, MStP.is, Option.isSome_some, Option.isSome_none] at hK ⊢
            simp only [List.sum_cons, List.sum_nil, List.getD_cons_zero, List.getD_cons_succ, Nat.reduceAdd, Nat.add_zero] at hk
            refine rg_yes (by kernel_rfl) ?_
            clear e81
            clear hF
            have qc := (World.cell?_of_block (a := ⟨g, dk * 3, none⟩) (hS.block g hgw (by simp; exact ⟨hpg, fun e => hne e.symm⟩))).trans HCELL.out
            have lqc : g < w'.heap.size := Nat.lt_of_lt_of_le hgw hS.size
            go_simp
            exact hK _ _ (Chg.refl _ _) ⟨fun h => hj.1 (by omega), fun h => absurd h (by omega)⟩ rfl
          refine ⟨fun y w' k hS hj hk hF K hK => ?_, ?_⟩
          · skip -- 14: move
            simp only [fillL, cond_true, cond_false, List.getD_cons_zero, List.getD_cons_succ, StP.is, Act.put, List.setIfInBounds_toArray, List.set_cons_zero, List.set_cons_succ, Nat.reduceAdd, MStP.is, Option.isSome_some, Option.isSome_none] at hK ⊢
            simp only [List.sum_cons, List.sum_nil, List.getD_cons_zero, List.getD_cons_succ, Nat.reduceAdd, Nat.add_zero] at hk
            refine rg_yes (by kernel_rfl) ?_
            clear hF
            go_simp
            exact hK _ _ (Chg.refl _ _) ⟨fun h => hj.1 (by omega), fun h => absurd h (by omega)⟩ rfl
          refine ⟨fun y w' k hS hj hk hF K hK => ?_, ?_⟩
          · skip -- 15: indexAddr
            have e82 : y 82 = _ := hF.1
            have e83 : y 83 = _ := hF.2.1
            have e82' := Lib.hid e82
            have e83' := Lib.hid e83
            simp only [fillL, cond_true, cond_false, List.getD_cons_zero, List.getD_cons_succ, StP.is, Act.put, List.setIfInBounds_toArray, List.set_cons_zero, List.set_cons_succ, Nat.reduceAdd, e82, e83, MStP.is, Option.isSome_some, Option.isSome_none] at hK ⊢
            simp only [List.sum_cons, List.sum_nil, List.getD_cons_zero, List.getD_cons_succ, Nat.reduceAdd, Nat.add_zero] at hk
            refine rg_yes (by kernel_rfl) ?_
            clear e82 e83
            clear hF
            go_simp
            exact hK _ _ (Chg.refl _ _) ⟨fun h => hj.1 (by omega), fun h => absurd h (by omega)⟩ rfl
          refine ⟨fun y w' k hS hj hk hF K hK => ?_, ?_⟩
          · skip -- 16: load
            have e84 : y 84 = _ := hF.1
            have e84' := Lib.hid e84
            simp only [fillL, cond_true, cond_false, List.getD_cons_zero, List.getD_cons_succ, StP.is, Act.put, List.setIfInBounds_toArray, List.set_cons_zero, List.set_cons_succ, Nat.reduceAdd, e84, MStP.is, Option.isSome_some, Option.isSome_none] at hK ⊢
            simp only [List.sum_cons, List.sum_nil, List.getD_cons_zero, List.getD_cons_succ, Nat.reduceAdd, Nat.add_zero] at hk
            refine rg_yes (by kernel_rfl) ?_
            clear e84
            clear hF
            obtain ⟨hrd, hB, hCC⟩ := hj.1 (by omega)
            obtain ⟨sa, hcs, hfz, hsa⟩ := hCC.at_ (r := kr) (by omega)
            have lqc := hCC.lt
            clear hB hCC hrd
            go_simp
            exact hK _ _ (Chg.refl _ _) ⟨fun h => hj.1 (by omega), fun h => absurd h (by omega)⟩ ⟨sa, rfl, hsa⟩
          refine ⟨fun y w' k hS hj hk hF K hK => ?_, ?_⟩
          · skip -- 17: call
            have e76 : y 76 = _ := hF.1
            obtain ⟨sa, e85, hsa⟩ := hF.2.1
            have e76' := Lib.hid e76
            have e85' := Lib.hid e85
            simp only [fillL, cond_true, cond_false, List.getD_cons_zero, List.getD_cons_succ, StP.is, Act.put, List.setIfInBounds_toArray, List.set_cons_zero, List.set_cons_succ, Nat.reduceAdd, e76, e85, MStP.is, Option.isSome_some, Option.isSome_none] at hK ⊢
            simp only [List.sum_cons, List.sum_nil, List.getD_cons_zero, List.getD_cons_succ, Nat.reduceAdd, Nat.add_zero] at hk
            refine rg_yes (by kernel_rfl) ?_
            clear e76 e85
            clear hF
            obtain ⟨⟨k1, hk1, hrd⟩, hB, hCC⟩ := hj.1 (by omega)
            have HBj := Lib.hid hB; have HCj := Lib.hid hCC; clear hB hCC
            go_simp
            go_at_call 37
            refine (l91Spoil_any w' p A n c zs k1 sa hrd (by omega) (by omega)).mono ?_
            rintro e w'' ⟨sb, k2, rfl, hsb, hk2, rd2, hc2⟩
            exact hK _ _ hc2 ⟨fun h => ⟨⟨k2, by omega, rd2⟩, HBj.out.step hc2 hp hlo' hg1 hbl, HCj.out.keep (hc2.block gi HCj.out.lt (by simp; omega))⟩, fun h => absurd h (by omega)⟩ ⟨sb, rfl, by omega⟩
          refine ⟨fun y w' k hS hj hk hF K hK => ?_, ?_⟩
          · skip -- 18: indexAddr
            have e74 : y 74 = _ := hF.1
            have e75 : y 75 = _ := hF.2.1
            have e74' := Lib.hid e74
            have e75' := Lib.hid e75
            simp only [fillL, cond_true, cond_false, List.getD_cons_zero, List.getD_cons_succ, StP.is, Act.put, List.setIfInBounds_toArray, List.set_cons_zero, List.set_cons_succ, Nat.reduceAdd, e74, e75, MStP.is, Option.isSome_some, Option.isSome_none] at hK ⊢
            simp only [List.sum_cons, List.sum_nil, List.getD_cons_zero, List.getD_cons_succ, Nat.reduceAdd, Nat.add_zero] at hk
            refine rg_yes (by kernel_rfl) ?_
            clear e74 e75
            clear hF
            go_simp
            exact hK _ _ (Chg.refl _ _) ⟨fun h => hj.1 (by omega), fun h => absurd h (by omega)⟩ rfl
          refine ⟨fun y w' k hS hj hk hF K hK => ?_, ?_⟩
          · skip -- 19: store
            obtain ⟨sb, e86, hsb⟩ := hF.1
            have e87 : y 87 = _ := hF.2.1
            have e86' := Lib.hid e86
            have e87' := Lib.hid e87
            simp only [fillL, cond_true, cond_false, List.getD_cons_zero, List.getD_cons_succ, StP.is, Act.put, List.setIfInBounds_toArray, List.set_cons_zero, List.set_cons_succ, Nat.reduceAdd, e86, e87, MStP.is, Option.isSome_some, Option.isSome_none] at hK ⊢
            simp only [List.sum_cons, List.sum_nil, List.getD_cons_zero, List.getD_cons_succ, Nat.reduceAdd, Nat.add_zero] at hk
            refine rg_yes (by kernel_rfl) ?_
            clear e86 e87
            clear hF
            obtain ⟨⟨k1, hk1, hrd⟩, hB, hCC⟩ := hj.1 (by omega)
            obtain ⟨s0, hcs, hfz, -⟩ := hCC.at_ (r := kr) (by omega)
            have qc := Lib.hid ((World.cell?_of_block (a := ⟨g, dk * 3, none⟩) (hS.block g hgw (by simp; exact ⟨hpg, fun e => hne e.symm⟩))).trans HCELL.out)
            have HBj := Lib.hid hB; have HCj := Lib.hid hCC; clear hB hCC
            go_simp
            refine hK undef _ (Chg.setCell (p := ⟨gi, _, none⟩) (Chg.refl _ _) (.inl (by simp)) _) ⟨fun h => absurd h (by omega), fun _ => ⟨⟨k1, by omega, ?_⟩, ?_⟩⟩ rfl
            · exact Rd.setOld h hrd (a := ⟨gi, _, none⟩) (by show w.heap.size ≤ gi; omega) _
            · exact (HBj.out.mono (by omega)).put hdk qc.out (HCj.out.mono (by omega)) hsb hlo' hlg
          trivial
        case hH => rfl
        case hNS => exact fun _ _ h => h.mono (fun b _ hb => by simp at hb ⊢; exact .inl hb)
        case hSt => exact fun a b => Chg.trans a b
        case hb => rfl
        case hdrew => exact (Chg.refl _ _).drewN 1
        case hj0 => exact fun y => ⟨fun _ => ⟨⟨k0 + 3, by omega, HR5.out.below (below_drewN (Below.refl _ _) 1)⟩, HB5.out.step ((Chg.refl _ _).drewN 1) hp hlo' hg1 hbl, HC.out⟩, fun h => absurd h (by omega)⟩
        case hend =>
          intro y w9 hS hJ hF
          obtain ⟨⟨k9, hk9, rd9⟩, hA⟩ := hJ.2 (by decide)
          have HA9 := Lib.hid (hA.a (by omega)); have HR9 := Lib.hid rd9
          clear hJ hF hS hA rd9
          simp only [fillL, cond_true, cond_false, Nat.reduceAdd]
          have HAf := HA9
          have HRf := HR9
          have rb := HAf.out.box
          have b0 := cell_of_row _ _ 0 _ _ (0, 0) rb
          have rr := HAf.out.res
          have r0 := cell_of_row _ _ 0 _ _ (0, 0) rr
          have f0 := block_free rr 0
          have s0 := cell_of_row _ _ 0 _ _ (0, 0) (block_set (o := 0) (v := .slice (some ⟨g, 0, none⟩) 3 c3) rr)
          have lb := (Array.getElem?_eq_some_iff.1 rb).1
          have lr := (Array.getElem?_eq_some_iff.1 rr).1
          clear rb rr
          go_wp2_with fail
          obtain ⟨x, -, hx⟩ := (HAf.out.raid.far (a := ⟨w.heap.size, 0, none⟩) hg1 hlo' (.slice (some ⟨g, 0, none⟩) 3 c3)).r hg1 hc3 hcm
          refine bodyPost_ret (v := .agg #[.slice (some ⟨g, 0, none⟩) 3 c3]) (by simp [results, Tryz.results18, go_sem, s0]) rfl ⟨g, c3, x, k9, rfl, RaidR.wide (by omega) (Nat.le_refl _) (Nat.le_refl _) _ _ hx, by omega, Rd.setOld h HRf.out (a := ⟨w.heap.size, 0, none⟩) (Nat.le_refl _) _, Chg.setCell (p := ⟨w.heap.size, 0, none⟩) HAf.out.chg (.inr (Nat.le_refl _)) _⟩
      have e1 : ((qq : Int) == 1) = false := by rw [beq_eq_false_iff_ne]; omega
      have e1' : ¬ (qq : Int) = 1 := by omega
      clear h1 h0
      have HAx := Lib.hid (HB3.out.a (by omega))
      have HAf := HAx
      have HRf := HR3
      have rb := HAf.out.box
      have b0 := cell_of_row _ _ 0 _ _ (0, 0) rb
      have rr := HAf.out.res
      have r0 := cell_of_row _ _ 0 _ _ (0, 0) rr
      have f0 := block_free rr 0
      have s0 := cell_of_row _ _ 0 _ _ (0, 0) (block_set (o := 0) (v := .slice (some ⟨g, 0, none⟩) 3 c3) rr)
      have lb := (Array.getElem?_eq_some_iff.1 rb).1
      have lr := (Array.getElem?_eq_some_iff.1 rr).1
      clear rb rr
      go_wp2_with fail
      obtain ⟨x, -, hx⟩ := (HAf.out.raid.far (a := ⟨w.heap.size, 0, none⟩) hg1 hlo' (.slice (some ⟨g, 0, none⟩) 3 c3)).r hg1 hc3 hcm
      refine bodyPost_ret (v := .agg #[.slice (some ⟨g, 0, none⟩) 3 c3]) (by simp [results, Tryz.results18, go_sem, s0]) rfl ⟨g, c3, x, (k0 + 1), rfl, RaidR.wide (by omega) (Nat.le_refl _) (Nat.le_refl _) _ _ hx, by omega, Rd.setOld h HRf.out (a := ⟨w.heap.size, 0, none⟩) (Nat.le_refl _) _, Chg.setCell (p := ⟨w.heap.size, 0, none⟩) HAf.out.chg (.inr (Nat.le_refl _)) _⟩
end Go.Proofs.YtggdjiklgakfnaaGreatDoor
