/- The intents of disks: intents, l23List and IntentList of the program and of the reference. Condition: the tables that strconv's functions read lie as their initialisers lay them. -/
import Derived.Test.YtggdjiklgakfnaaGreatDoorLogsPlain
import Derived.Test.YtggdjiklgakfnaaGreatDoorIntGet
import Derived.Test.YtggdjiklgakfnaaGreatDoorL3Read
namespace Go.Proofs.YtggdjiklgakfnaaGreatDoor
set_option linter.unnecessarySimpa false
open Go Go.Lib Go.RowKit
set_option linter.unusedVariables false
set_option linter.unusedSimpArgs false

/-- The intents of a group, as far as they go, in memory of the call's own. -/
def GotSeq (x : RaidD) (g : Int) (w : World) (e : Ending) (w' : World) : Prop := ∃ A c S ys, e = .returned (.slice A ys.length c) ∧ (Pre x g ys ∧ ys.length ≤ 4 ∧ (ys.length < 4 → logI x g (ys.length + 1) = none)) ∧ IntsIn w.heap.size A c S ys w' ∧ Below w.heap.size w w'
theorem IntsIn.lower {B B' : Nat} {A : Option Addr} {c : Nat} {S : List Nat} {ys : List IntS} {w : World} (h : IntsIn B A c S ys w) (hb : B' ≤ B) : IntsIn B' A c S ys w := ⟨h.1, fun g hg => Nat.le_trans hb (h.2.1 g hg), h.2.2⟩
theorem IntsIn.snoc {B : Nat} {A : Option Addr} {c : Nat} {S : List Nat} {ys : List IntS} {z : IntS} {w : World} (h : OwnA w 34 8 S A (ys.length + 1) c (ys.flatMap ivL ++ ivL z)) (hS : ∀ g ∈ S, B ≤ g) (hy : ∀ y ∈ ys, intB y = true) (hz : intB z = true) : IntsIn B A c S (ys ++ [z]) w :=
  ⟨by simpa using h, hS, fun y hm => by (rcases List.mem_append.1 hm with hm | hm <;> first | exact hy y hm | (simp at hm; subst hm; exact hz))⟩
theorem infoIntent : (Tryz.prog.info? 34).map (fun i => (i.zero, i.size, i.bytes)) = some (some (.agg #[.int .i64 0, .int .i64 0, .string ⟨#[]⟩, .int .i64 0, .string ⟨#[]⟩, .string ⟨#[]⟩, .int .i64 0, .string ⟨#[]⟩]), 8, 96) := by kernel_rfl
set_option maxRecDepth 100000 in
set_option maxHeartbeats 4000000 in
theorem intents_any (A : Option Addr) (n c : Nat) (x : RaidD) (g : Int) (w : World) (lo hi : Nat) (he : Env w) (h : SliceR DiskR 3 w lo hi A n c x) (hok : ∀ d ∈ x, diskOk d = true) :
    Calls Tryz.prog 21 #[.agg #[.slice A n c], .int .i64 g] w (GotSeq x g w) := by
  have HL := Lib.hid h.len
  have hm := h.max
  unfold maxLen at hm
  have H := Lib.hid h; have HOK := Lib.hid hok
  clear h hok
  obtain ⟨i0, hi0, hz0, hz1, hz2⟩ := info_parts infoIntent
  go_enter Tryz.func21, Tryz.ntmps21
  go_wp2_with fail
  apply wp_scope_straight
  go_wp2_with fail
  apply wp_label
  go_wp2_with fail
  go_loopw [5, 6] (fun a i wr => ∃ (k : Nat) (q : Int) (A' : Option Addr) (c' : Nat) (S : List Nat) (ys : List IntS), k ≤ 4 ∧ i = .int .i64 q ∧ Hid (q = (k : Int) + 1) ∧ a = .slice A' ys.length c' ∧ Hid (ys.length = k) ∧ Hid (Pre x g ys) ∧ Hid (IntsIn (w.heap.size + 1) A' c' S ys wr) ∧ Hid (Below w.heap.size w wr) ∧ Hid (wr.heap[w.heap.size]? = some (.cells #[.slice A n c] 25 (0, 0)))) (fun _ i _ => 5 - (RowKit.intOf i).toNat)
  case atStart => exact ⟨0, 1, _, 0, [], [], by omega, rfl, Lib.hid rfl, rfl, Lib.hid rfl, Lib.hid Pre.nil, Lib.hid IntsIn.nil, Lib.hid (by first | exact bel1 | exact bel2), Lib.hid (by first | exact heap_alloc_new _ _ | exact (Below.heap_alloc _ _ _ (by simp)).trans (heap_alloc_new _ _))⟩
  case round =>
    obtain ⟨k, q, A', c', S, ys, hk, rfl, HQ, rfl, HYK, HP, HA, HB, R0⟩ := hrel
    rename World => w1
    have l0 : w.heap.size < w1.heap.size := (Array.getElem?_eq_some_iff.1 R0.out).1
    have qb := cell_of_row _ _ 0 _ _ (0, 0) R0.out
    have nu3 : IntKind.i64.wrap (q + 1) = q + 1 := IntWalk.i64_in _ (by have := HQ.out; omega)
    by_cases hlt : k < 4
    rotate_left
    · have k4 : ¬ q ≤ 4 := by have := HQ.out; omega
      go_wp2_with fail
      go_ret
      exact ⟨A', c', S, ys, rfl, ⟨HP.out, by have := HYK.out; omega, fun h => by have := HYK.out; omega⟩, HA.out.lower (by omega), HB.out⟩
    have k4 : q ≤ 4 := by have := HQ.out; omega
    obtain ⟨r, hr⟩ : ∃ r, r = 4 + q := ⟨_, rfl⟩
    obtain ⟨s, hs⟩ : ∃ s : Nat, s = 3 + (k + 1) := ⟨_, rfl⟩
    have nu1 : IntKind.i64.wrap (4 + q) = r := by rw [IntWalk.i64_in _ (by have := HQ.out; omega)]; have := HQ.out; omega
    have hq1 : 1 ≤ q := by have := HQ.out; omega
    have nu2 : IntKind.i64.wrap (r - 1) = (s : Int) := by rw [IntWalk.i64_in _ (by have := HQ.out; omega)]; have := HQ.out; omega
    have hs7 : s ≤ 7 := by omega
    have HS_ := Lib.hid hs
    clear hs hr
    go_wp2_with fail
    go_loopw [5, 18] (fun a i w2 => ∃ j : Nat, j ≤ n ∧ i = .int .i64 (j : Int) ∧ a = .slice A' ys.length c' ∧ Hid (∀ (i : Nat) (d : DiskD), i < j → x[i]? = some d → hitI g (k + 1) d = none) ∧ Hid (Below w1.heap.size w1 w2)) (fun _ i _ => n - (RowKit.intOf i).toNat)
    case atStart => exact ⟨0, Nat.zero_le _, rfl, rfl, Lib.hid (fun i d hi => by omega), Lib.hid (Below.refl _ _)⟩
    case round =>
      rename World => w2
      obtain ⟨j, hj, rfl, rfl, HN, HB2⟩ := hrel
      have HBW := Lib.hid (HB.out.trans (HB2.out.mono HB.out.size))
      have z2 := HB2.out.size
      by_cases hjn : j < n
      rotate_left
      · obtain rfl : j = n := by omega
        have HS := Lib.hid (logI_none (q := k + 1) (g := g) (x := x) (fun i d hd => HN.out i d (by have := (List.getElem?_eq_some_iff.1 hd).1; have := HL.out; omega) hd))
        go_wp2_with fail
        go_ret
        exact ⟨A', c', S, ys, rfl, ⟨HP.out, by have := HYK.out; omega, fun _ => by rw [HYK.out]; exact HS.out⟩, (HA.out.below HB2.out).lower (by omega), HBW.out⟩
      obtain ⟨d, hx⟩ : ∃ d, x[j]? = some d := ⟨x[j]'(by rw [HL.out]; exact hjn), List.getElem?_eq_getElem _⟩
      have HDK := Lib.hid (HOK.out d (List.mem_of_getElem? hx))
      obtain ⟨b, off, rfl, _, _, bl_, hc⟩ := (SliceR.below H.out HBW.out (DiskR.below HBW.out H.out.lo_le)).at_ (by omega)
      obtain ⟨cs, hcl, hcc, hD⟩ := hc j d hx
      have hhi : hi ≤ w2.heap.size := Nat.le_trans H.out.lo_le HBW.out.size
      have HD := Lib.hid hD
      have HX := Lib.hid hx
      clear hc hx
      obtain ⟨gone, hgone⟩ : ∃ g, g = d.2.2 := ⟨_, rfl⟩
      have HGN := Lib.hid hgone.symm
      obtain ⟨A0, n0, c0, A1, n1, c1, rfl, h0, h1⟩ := hD
      rw [← hgone] at HD hcc
      clear hgone h0 h1
      have q0 := hcc 0 _ rfl
      have q1 := hcc 1 _ rfl
      have q2 := hcc 2 _ rfl
      simp only [Nat.add_zero] at q0
      clear hcc hcl
      have kk0 : (0 : Int) ≤ (j : Int) := by omega
      have kk1 : (j : Int) < (n : Int) := by omega
      have HNX : Hid (hitI g (k + 1) d = none → ∀ (i : Nat) (d : DiskD), i < j + 1 → x[i]? = some d → hitI g (k + 1) d = none) := Lib.hid (fun hh i d' hi hd' => by
        rcases Nat.lt_or_ge i j with h | h
        · exact HN.out i d' h hd'
        · obtain rfl : i = j := by omega
          rw [HX.out] at hd'; obtain rfl := Option.some.inj hd'; exact hh)
      cases gone
      rotate_left
      · have HF := Lib.hid (HNX.out (hitI_gone HGN.out))
        go_wp2_with fail
        go_roundw
        case rel => exact ⟨j + 1, by omega, by go_num, rfl, HF, Lib.hid (Below.alloc HB2.out (by omega) _)⟩
        case measure => simp [RowKit.intOf]; omega
      go_wp2_with fail
      refine (look_any _ d s _ _ _ (DiskR.below bel1 hhi _ _ HD.out) (by have := diskOk_64I HDK.out; omega)).mono ?_
      rintro e w3 ⟨rfl, hb3⟩
      have HB3 : Hid (Below w2.heap.size w2 w3) := Lib.hid (bel1.trans (hb3.mono (by simp)))
      obtain ⟨y, hy⟩ : ∃ y : Str, lookD d (s : Int) = strB y := ⟨(lookD d (s : Int)).data.toList, (strB_data _).symm⟩
      have hys : y.length ≤ 200 := by have h1 := look_sizeI HDK.out (s : Int); rw [hy] at h1; exact h1
      rw [hy]
      have HY := Lib.hid (show lookD d ((3 + (k + 1) : Nat) : Int) = strB y from HS_.out ▸ hy)
      clear hy hb3
      have z3 := HB3.out.size
      clear q0 q1 q2
      go_wp2_with fail
      refine (intGet_any y _ (he.below (HBW.out.trans (HB3.out.mono HBW.out.size))) (by omega)).mono ?_
      rintro e w4 ⟨t, u, h_, kd, p_, t_, a_, x_, ok, rfl, RI, hb4⟩
      have HRI := Lib.hid (intOfT_eq RI)
      have HIB : Hid (ok = true → intB (t, u, h_, kd, p_, t_, a_, x_) = true) := Lib.hid (fun hh => by rcases RI with ⟨_, h1, _⟩ | ⟨h1, _⟩ <;> first | exact h1 | (rw [hh] at h1; cases h1))
      have HB4 : Hid (Below w2.heap.size w2 w4) := Lib.hid (HB3.out.trans (hb4.mono z3))
      have z4 := HB4.out.size
      clear hb4 RI HB3
      cases ok
      · have HF := Lib.hid (HNX.out (hitI_no HGN.out HY.out HRI.out (by simp)))
        go_wp2_with fail
        go_roundw
        case rel => exact ⟨j + 1, by omega, by go_num, rfl, HF, Lib.hid (Below.alloc (HB2.out.trans (HB4.out.mono z2)) (by omega) _)⟩
        case measure => simp [RowKit.intOf]; omega
      by_cases ht : t = g
      rotate_left
      · have HF := Lib.hid (HNX.out (hitI_no HGN.out HY.out HRI.out (fun h => ht h.2.1)))
        have d1 : (t == g) = false := by simpa using ht
        go_wp2_with fail
        go_roundw
        case rel => exact ⟨j + 1, by omega, by go_num, rfl, HF, Lib.hid (Below.alloc (HB2.out.trans (HB4.out.mono z2)) (by omega) _)⟩
        case measure => simp [RowKit.intOf]; omega
      have d1 : (t == g) = true := by simpa using ht
      by_cases hu : u = q
      rotate_left
      · have HF := Lib.hid (HNX.out (hitI_no HGN.out HY.out HRI.out (fun h => hu (by have := h.2.2; have := HQ.out; simp at *; omega))))
        have d2 : (u == q) = false := by simpa using hu
        go_wp2_with fail
        go_roundw
        case rel => exact ⟨j + 1, by omega, by go_num, rfl, HF, Lib.hid (Below.alloc (HB2.out.trans (HB4.out.mono z2)) (by omega) _)⟩
        case measure => simp [RowKit.intOf]; omega
      have d2 : (u == q) = true := by simpa using hu
      have hyl : ys.length ≤ 4 := by have := HYK.out; omega
      have HT := Lib.hid ht; have HU_ := Lib.hid hu; clear ht hu
      have HZ := Lib.hid (logI_some HX.out (hitI_yes HGN.out HY.out HRI.out ⟨HT.out, by have := HQ.out; have := HU_.out; show u = _; simp; omega⟩) HN.out)
      have HP2 : Hid (Pre x g (ys ++ [(t, u, h_, kd, p_, t_, a_, x_)])) := Lib.hid (HP.out.snoc (by rw [HYK.out]; exact HZ.out))
      have HA4 := Lib.hid (HA.out.below (HB2.out.trans (HB4.out.mono z2)))
      have HBX : Hid (Below w.heap.size w w4) := Lib.hid (HBW.out.trans (HB4.out.mono HBW.out.size))
      have R04 := Lib.hid (((HB2.out.trans (HB4.out.mono z2)).block _ l0).trans R0.out)
      have l04 : w.heap.size < w4.heap.size := by omega
      have HOW : Hid (OwnA ((w4.alloc (.cells #[.int .i64 t, .int .i64 u, .string (strB h_), .int .i64 kd, .string (strB p_), .string (strB t_), .int .i64 a_, .string (strB x_)] 34)).alloc (.cells #[.int .i64 t, .int .i64 u, .string (strB h_), .int .i64 kd, .string (strB p_), .string (strB t_), .int .i64 a_, .string (strB x_)] 34)) 34 8 S A' ys.length c' (ys.flatMap ivL)) := Lib.hid ((HA4.out.1.below bel1).below bel1)
      have HLT : Hid (RowAt ((w4.alloc (.cells #[.int .i64 t, .int .i64 u, .string (strB h_), .int .i64 kd, .string (strB p_), .string (strB t_), .int .i64 a_, .string (strB x_)] 34)).alloc (.cells #[.int .i64 t, .int .i64 u, .string (strB h_), .int .i64 kd, .string (strB p_), .string (strB t_), .int .i64 a_, .string (strB x_)] 34)) (some ⟨w4.heap.size + 1, 0, none⟩) (1 * 8) [.int .i64 t, .int .i64 u, .string (strB h_), .int .i64 kd, .string (strB p_), .string (strB t_), .int .i64 a_, .string (strB x_)]) := Lib.hid (by have := RowAt.lit (w := w4.alloc (.cells #[.int .i64 t, .int .i64 u, .string (strB h_), .int .i64 kd, .string (strB p_), .string (strB t_), .int .i64 a_, .string (strB x_)] 34)) (e := 34) (cur := #[.int .i64 t, .int .i64 u, .string (strB h_), .int .i64 kd, .string (strB p_), .string (strB t_), .int .i64 a_, .string (strB x_)]) (m := 8) rfl; simpa using this)
      have HON : Hid (∀ u_ ∈ ([.int .i64 t, .int .i64 u, .string (strB h_), .int .i64 kd, .string (strB p_), .string (strB t_), .int .i64 a_, .string (strB x_)] : List Value), u_.oneCell' = true) := Lib.hid (by intro u_ hu_; simp at hu_; rcases hu_ with rfl | rfl | rfl | rfl | rfl | rfl | rfl | rfl <;> rfl)
      go_wp2_with (at_builtin; go_must (refine wpList_append_row rfl _ _ 28 rfl 34 i0 (.agg #[.int .i64 0, .int .i64 0, .string ⟨#[]⟩, .int .i64 0, .string ⟨#[]⟩, .string ⟨#[]⟩, .int .i64 0, .string ⟨#[]⟩]) 8 96 Tryz.underlying28 hi0 hz0 hz1 hz2 rfl (by decide) S A' (some ⟨w4.heap.size + 1, 0, none⟩) ys.length c' 1 1 (ys.flatMap ivL) [.int .i64 t, .int .i64 u, .string (strB h_), .int .i64 kd, .string (strB p_), .string (strB t_), .int .i64 a_, .string (strB x_)] rfl rfl HOW.out HLT.out HON.out (by unfold maxLen; omega) (by omega) ?_))
      intro A2 c2 S2 w5 hO2 hS2 hC2
      have hns : ∀ b, b < w.heap.size + 1 → b ∉ S := fun b hb h => by have := HA4.out.2.1 b h; omega
      have HA5 : Hid (IntsIn (w.heap.size + 1) A2 c2 S2 (ys ++ [(t, u, h_, kd, p_, t_, a_, x_)]) w5) := Lib.hid (IntsIn.snoc hO2 (fun g hg => (hS2 g hg).elim (HA4.out.2.1 g) (fun h => by first | omega | (simp at h; omega))) HA4.out.2.2 (HIB.out (by first | trivial | rfl)))
      have HB5 : Hid (Below w.heap.size w w5) := Lib.hid ((Below.alloc (Below.alloc HBX.out (by omega) _) (by simp; omega) _).trans (hC2.below (B := w.heap.size) (fun k' _ h => Nat.le_of_not_lt fun hb => hns k' (by omega) h) (by simp; omega)))
      have R05 := Lib.hid ((hC2.block _ (by simp; omega) (hns _ (by omega))).trans ((Below.heap_alloc _ _ _ (by simp; omega)).trans ((Below.heap_alloc _ _ _ l04).trans R04.out)))
      clear hO2 hS2 hC2 hns
      go_wp2_with fail
      go_roundw
      case rel => exact ⟨k + 1, q + 1, A2, c2, S2, ys ++ [(t, u, h_, kd, p_, t_, a_, x_)], by omega, rfl, Lib.hid (by have := HQ.out; omega), by simp, Lib.hid (by have := HYK.out; simp; omega), HP2, HA5, HB5, R05⟩
      case measure => simp [RowKit.intOf]; omega
set_option maxRecDepth 100000 in
set_option maxHeartbeats 4000000 in
theorem l23List_any (A : Option Addr) (n c : Nat) (x : RaidD) (g : Int) (w : World) (lo hi : Nat)  (h : SliceR DiskR 3 w lo hi A n c x) (hok : ∀ d ∈ x, diskOk d = true) :
    Calls Tryz.prog 23 #[.agg #[.slice A n c], .int .i64 g] w (GotSeq x g w) := by
  have HL := Lib.hid h.len
  have hm := h.max
  unfold maxLen at hm
  have H := Lib.hid h; have HOK := Lib.hid hok
  clear h hok
  obtain ⟨i0, hi0, hz0, hz1, hz2⟩ := info_parts infoIntent
  go_enter Tryz.func23, Tryz.ntmps23
  go_wp2_with fail
  go_loopw [5, 6] (fun a i wr => ∃ (k : Nat) (q : Int) (A' : Option Addr) (c' : Nat) (S : List Nat) (ys : List IntS), k ≤ 4 ∧ i = .int .i64 q ∧ Hid (q = (k : Int) + 1) ∧ a = .slice A' ys.length c' ∧ Hid (ys.length = k) ∧ Hid (Pre x g ys) ∧ Hid (IntsIn (w.heap.size + 1) A' c' S ys wr) ∧ Hid (Below w.heap.size w wr) ∧ Hid (wr.heap[w.heap.size]? = some (.cells #[.slice A n c] 25 (0, 0)))) (fun _ i _ => 5 - (RowKit.intOf i).toNat)
  case atStart => exact ⟨0, 1, _, 0, [], [], by omega, rfl, Lib.hid rfl, rfl, Lib.hid rfl, Lib.hid Pre.nil, Lib.hid IntsIn.nil, Lib.hid (by first | exact bel1 | exact bel2), Lib.hid (by first | exact heap_alloc_new _ _ | exact (Below.heap_alloc _ _ _ (by simp)).trans (heap_alloc_new _ _))⟩
  case round =>
    obtain ⟨k, q, A', c', S, ys, hk, rfl, HQ, rfl, HYK, HP, HA, HB, R0⟩ := hrel
    rename World => w1
    have l0 : w.heap.size < w1.heap.size := (Array.getElem?_eq_some_iff.1 R0.out).1
    have qb := cell_of_row _ _ 0 _ _ (0, 0) R0.out
    have nu3 : IntKind.i64.wrap (q + 1) = q + 1 := IntWalk.i64_in _ (by have := HQ.out; omega)
    by_cases hlt : k < 4
    rotate_left
    · have k4 : ¬ q ≤ 4 := by have := HQ.out; omega
      go_wp2_with fail
      go_ret
      exact ⟨A', c', S, ys, rfl, ⟨HP.out, by have := HYK.out; omega, fun h => by have := HYK.out; omega⟩, HA.out.lower (by omega), HB.out⟩
    have k4 : q ≤ 4 := by have := HQ.out; omega
    obtain ⟨r, hr⟩ : ∃ r, r = 4 + q := ⟨_, rfl⟩
    obtain ⟨s, hs⟩ : ∃ s : Nat, s = 3 + (k + 1) := ⟨_, rfl⟩
    have nu1 : IntKind.i64.wrap (4 + q) = r := by rw [IntWalk.i64_in _ (by have := HQ.out; omega)]; have := HQ.out; omega
    have hq1 : 1 ≤ q := by have := HQ.out; omega
    have nu2 : IntKind.i64.wrap (r - 1) = (s : Int) := by rw [IntWalk.i64_in _ (by have := HQ.out; omega)]; have := HQ.out; omega
    have hs7 : s ≤ 7 := by omega
    have HS_ := Lib.hid hs
    clear hs hr
    go_wp2_with fail
    go_loopw [5, 7] (fun a i w2 => ∃ (j : Nat) (A' : Option Addr) (c' : Nat) (S : List Nat) (ys : List IntS), j ≤ n ∧ i = .int .i64 (j : Int) ∧ a = .slice A' ys.length c' ∧ Hid (Pre x g ys) ∧ (Hid (ys.length = k) ∧ Hid (∀ (i : Nat) (d : DiskD), i < j → x[i]? = some d → hitI g (k + 1) d = none) ∨ Hid (ys.length = k + 1)) ∧ Hid (IntsIn (w.heap.size + 1) A' c' S ys w2) ∧ Hid (Below w.heap.size w w2) ∧ Hid (w2.heap[w.heap.size]? = some (.cells #[.slice A n c] 25 (0, 0)))) (fun _ i _ => n - (RowKit.intOf i).toNat)
    case atStart => exact ⟨0, A', c', S, ys, Nat.zero_le _, rfl, rfl, HP, .inl ⟨HYK, Lib.hid (fun i d hi => by omega)⟩, HA, HB, R0⟩
    case round =>
      rename World => w2
      clear HA HB R0 HP l0 qb HYK
      obtain ⟨j, A', c', S, ys, hj, rfl, rfl, HP, HD_, HA, HB, R0⟩ := hrel
      have l0 : w.heap.size < w2.heap.size := (Array.getElem?_eq_some_iff.1 R0.out).1
      have qb := cell_of_row _ _ 0 _ _ (0, 0) R0.out
      rcases HD_ with ⟨HYK, HN⟩ | HYK
      rotate_left
      · have kn : ¬ (ys.length : Int) < q := by have := HQ.out; have := HYK.out; omega
        by_cases hjn : j < n
        · have kk1 : (j : Int) < (n : Int) := by omega
          go_wp2_with fail
          go_roundw
          case rel => exact ⟨k + 1, q + 1, A', c', S, ys, by omega, rfl, Lib.hid (by have := HQ.out; omega), rfl, HYK, HP, HA, HB, R0⟩
          case measure => simp [RowKit.intOf]; omega
        · have kk1 : ¬ (j : Int) < (n : Int) := by omega
          go_wp2_with fail
          go_roundw
          case rel => exact ⟨k + 1, q + 1, A', c', S, ys, by omega, rfl, Lib.hid (by have := HQ.out; omega), rfl, HYK, HP, HA, HB, R0⟩
          case measure => simp [RowKit.intOf]; omega
      have kn : (ys.length : Int) < q := by have := HQ.out; have := HYK.out; omega
      by_cases hjn : j < n
      rotate_left
      · obtain rfl : j = n := by omega
        have HS := Lib.hid (logI_none (q := k + 1) (g := g) (x := x) (fun i d hd => HN.out i d (by have := (List.getElem?_eq_some_iff.1 hd).1; have := HL.out; omega) hd))
        go_wp2_with fail
        go_ret
        exact ⟨A', c', S, ys, rfl, ⟨HP.out, by have := HYK.out; omega, fun _ => by rw [HYK.out]; exact HS.out⟩, HA.out.lower (by omega), HB.out⟩
      obtain ⟨d, hx⟩ : ∃ d, x[j]? = some d := ⟨x[j]'(by rw [HL.out]; exact hjn), List.getElem?_eq_getElem _⟩
      have HDK := Lib.hid (HOK.out d (List.mem_of_getElem? hx))
      obtain ⟨b, off, rfl, _, _, bl_, hc⟩ := (SliceR.below H.out HB.out (DiskR.below HB.out H.out.lo_le)).at_ (by omega)
      obtain ⟨cs, hcl, hcc, hD⟩ := hc j d hx
      have hhi : hi ≤ w2.heap.size := Nat.le_trans H.out.lo_le HB.out.size
      have HD := Lib.hid hD
      have HX := Lib.hid hx
      clear hc hx
      obtain ⟨gone, hgone⟩ : ∃ g, g = d.2.2 := ⟨_, rfl⟩
      have HGN := Lib.hid hgone.symm
      obtain ⟨A0, n0, c0, A1, n1, c1, rfl, h0, h1⟩ := hD
      rw [← hgone] at HD hcc
      clear hgone h0 h1
      have q0 := hcc 0 _ rfl
      have q1 := hcc 1 _ rfl
      have q2 := hcc 2 _ rfl
      simp only [Nat.add_zero] at q0
      clear hcc hcl
      have kk0 : (0 : Int) ≤ (j : Int) := by omega
      have kk1 : (j : Int) < (n : Int) := by omega
      have HNX : Hid (hitI g (k + 1) d = none → ∀ (i : Nat) (d : DiskD), i < j + 1 → x[i]? = some d → hitI g (k + 1) d = none) := Lib.hid (fun hh i d' hi hd' => by
        rcases Nat.lt_or_ge i j with h | h
        · exact HN.out i d' h hd'
        · obtain rfl : i = j := by omega
          rw [HX.out] at hd'; obtain rfl := Option.some.inj hd'; exact hh)
      cases gone
      rotate_left
      · have HF := Lib.hid (HNX.out (hitI_gone HGN.out))
        go_wp2_with fail
        go_roundw
        case rel => exact ⟨j + 1, A', c', S, ys, by omega, by go_num, rfl, HP, .inl ⟨HYK, HF⟩, HA, HB, R0⟩
        case measure => simp [RowKit.intOf]; omega
      go_wp2_with fail
      refine (l3Read_any _ d s _ _ _ HD.out (by have := diskOk_64I HDK.out; omega)).mono ?_
      rintro e w3 ⟨rfl, hb3⟩
      have HB3 : Hid (Below w2.heap.size w2 w3) := Lib.hid hb3
      obtain ⟨y, hy⟩ : ∃ y : Str, lookD d (s : Int) = strB y := ⟨(lookD d (s : Int)).data.toList, (strB_data _).symm⟩
      have hys : y.length ≤ 200 := by have h1 := look_sizeI HDK.out (s : Int); rw [hy] at h1; exact h1
      rw [hy]
      have HY := Lib.hid (show lookD d ((3 + (k + 1) : Nat) : Int) = strB y from HS_.out ▸ hy)
      clear hy hb3
      have z3 := HB3.out.size
      clear q0 q1 q2
      go_wp2_with fail
      refine (spIntGet_any y _ (by omega)).mono ?_
      rintro e w4 ⟨t, u, h_, kd, p_, t_, a_, x_, ok, rfl, RI, hb4⟩
      have HRI := Lib.hid (intOfT_eq RI)
      have HIB : Hid (ok = true → intB (t, u, h_, kd, p_, t_, a_, x_) = true) := Lib.hid (fun hh => by rcases RI with ⟨_, h1, _⟩ | ⟨h1, _⟩ <;> first | exact h1 | (rw [hh] at h1; cases h1))
      have HB4 : Hid (Below w2.heap.size w2 w4) := Lib.hid (HB3.out.trans (hb4.mono z3))
      have z4 := HB4.out.size
      clear hb4 RI HB3
      cases ok
      · have HF := Lib.hid (HNX.out (hitI_no HGN.out HY.out HRI.out (by simp)))
        go_wp2_with fail
        go_roundw
        case rel => exact ⟨j + 1, A', c', S, ys, by omega, by go_num, rfl, HP, .inl ⟨HYK, HF⟩, Lib.hid ((HA.out.below HB4.out).below bel1), Lib.hid (Below.alloc (HB.out.trans (HB4.out.mono HB.out.size)) (by have := HB.out.size; omega) _), Lib.hid ((Below.heap_alloc _ _ _ (by omega)).trans ((HB4.out.block _ l0).trans R0.out))⟩
        case measure => simp [RowKit.intOf]; omega
      by_cases ht : t = g
      rotate_left
      · have HF := Lib.hid (HNX.out (hitI_no HGN.out HY.out HRI.out (fun h => ht h.2.1)))
        have d1 : (t == g) = false := by simpa using ht
        go_wp2_with fail
        go_roundw
        case rel => exact ⟨j + 1, A', c', S, ys, by omega, by go_num, rfl, HP, .inl ⟨HYK, HF⟩, Lib.hid ((HA.out.below HB4.out).below bel1), Lib.hid (Below.alloc (HB.out.trans (HB4.out.mono HB.out.size)) (by have := HB.out.size; omega) _), Lib.hid ((Below.heap_alloc _ _ _ (by omega)).trans ((HB4.out.block _ l0).trans R0.out))⟩
        case measure => simp [RowKit.intOf]; omega
      have d1 : (t == g) = true := by simpa using ht
      by_cases hu : u = q
      rotate_left
      · have HF := Lib.hid (HNX.out (hitI_no HGN.out HY.out HRI.out (fun h => hu (by have := h.2.2; have := HQ.out; simp at *; omega))))
        have d2 : (u == q) = false := by simpa using hu
        go_wp2_with fail
        go_roundw
        case rel => exact ⟨j + 1, A', c', S, ys, by omega, by go_num, rfl, HP, .inl ⟨HYK, HF⟩, Lib.hid ((HA.out.below HB4.out).below bel1), Lib.hid (Below.alloc (HB.out.trans (HB4.out.mono HB.out.size)) (by have := HB.out.size; omega) _), Lib.hid ((Below.heap_alloc _ _ _ (by omega)).trans ((HB4.out.block _ l0).trans R0.out))⟩
        case measure => simp [RowKit.intOf]; omega
      have d2 : (u == q) = true := by simpa using hu
      have hyl : ys.length ≤ 4 := by have := HYK.out; omega
      have HT := Lib.hid ht; have HU_ := Lib.hid hu; clear ht hu
      have HZ := Lib.hid (logI_some HX.out (hitI_yes HGN.out HY.out HRI.out ⟨HT.out, by have := HQ.out; have := HU_.out; show u = _; simp; omega⟩) HN.out)
      have HP2 : Hid (Pre x g (ys ++ [(t, u, h_, kd, p_, t_, a_, x_)])) := Lib.hid (HP.out.snoc (by rw [HYK.out]; exact HZ.out))
      have HA4 := Lib.hid (HA.out.below HB4.out)
      have HBX : Hid (Below w.heap.size w w4) := Lib.hid (HB.out.trans (HB4.out.mono HB.out.size))
      have R04 := Lib.hid ((HB4.out.block _ l0).trans R0.out)
      have l04 : w.heap.size < w4.heap.size := by omega
      have HOW : Hid (OwnA ((w4.alloc (.cells #[.int .i64 t, .int .i64 u, .string (strB h_), .int .i64 kd, .string (strB p_), .string (strB t_), .int .i64 a_, .string (strB x_)] 34)).alloc (.cells #[.int .i64 t, .int .i64 u, .string (strB h_), .int .i64 kd, .string (strB p_), .string (strB t_), .int .i64 a_, .string (strB x_)] 34)) 34 8 S A' ys.length c' (ys.flatMap ivL)) := Lib.hid ((HA4.out.1.below bel1).below bel1)
      have HLT : Hid (RowAt ((w4.alloc (.cells #[.int .i64 t, .int .i64 u, .string (strB h_), .int .i64 kd, .string (strB p_), .string (strB t_), .int .i64 a_, .string (strB x_)] 34)).alloc (.cells #[.int .i64 t, .int .i64 u, .string (strB h_), .int .i64 kd, .string (strB p_), .string (strB t_), .int .i64 a_, .string (strB x_)] 34)) (some ⟨w4.heap.size + 1, 0, none⟩) (1 * 8) [.int .i64 t, .int .i64 u, .string (strB h_), .int .i64 kd, .string (strB p_), .string (strB t_), .int .i64 a_, .string (strB x_)]) := Lib.hid (by have := RowAt.lit (w := w4.alloc (.cells #[.int .i64 t, .int .i64 u, .string (strB h_), .int .i64 kd, .string (strB p_), .string (strB t_), .int .i64 a_, .string (strB x_)] 34)) (e := 34) (cur := #[.int .i64 t, .int .i64 u, .string (strB h_), .int .i64 kd, .string (strB p_), .string (strB t_), .int .i64 a_, .string (strB x_)]) (m := 8) rfl; simpa using this)
      have HON : Hid (∀ u_ ∈ ([.int .i64 t, .int .i64 u, .string (strB h_), .int .i64 kd, .string (strB p_), .string (strB t_), .int .i64 a_, .string (strB x_)] : List Value), u_.oneCell' = true) := Lib.hid (by intro u_ hu_; simp at hu_; rcases hu_ with rfl | rfl | rfl | rfl | rfl | rfl | rfl | rfl <;> rfl)
      go_wp2_with (at_builtin; go_must (refine wpList_append_row rfl _ _ 28 rfl 34 i0 (.agg #[.int .i64 0, .int .i64 0, .string ⟨#[]⟩, .int .i64 0, .string ⟨#[]⟩, .string ⟨#[]⟩, .int .i64 0, .string ⟨#[]⟩]) 8 96 Tryz.underlying28 hi0 hz0 hz1 hz2 rfl (by decide) S A' (some ⟨w4.heap.size + 1, 0, none⟩) ys.length c' 1 1 (ys.flatMap ivL) [.int .i64 t, .int .i64 u, .string (strB h_), .int .i64 kd, .string (strB p_), .string (strB t_), .int .i64 a_, .string (strB x_)] rfl rfl HOW.out HLT.out HON.out (by unfold maxLen; omega) (by omega) ?_))
      intro A2 c2 S2 w5 hO2 hS2 hC2
      have hns : ∀ b, b < w.heap.size + 1 → b ∉ S := fun b hb h => by have := HA4.out.2.1 b h; omega
      have HA5 : Hid (IntsIn (w.heap.size + 1) A2 c2 S2 (ys ++ [(t, u, h_, kd, p_, t_, a_, x_)]) w5) := Lib.hid (IntsIn.snoc hO2 (fun g hg => (hS2 g hg).elim (HA4.out.2.1 g) (fun h => by first | omega | (simp at h; omega))) HA4.out.2.2 (HIB.out (by first | trivial | rfl)))
      have HB5 : Hid (Below w.heap.size w w5) := Lib.hid ((Below.alloc (Below.alloc HBX.out (by omega) _) (by simp; omega) _).trans (hC2.below (B := w.heap.size) (fun k' _ h => Nat.le_of_not_lt fun hb => hns k' (by omega) h) (by simp; omega)))
      have R05 := Lib.hid ((hC2.block _ (by simp; omega) (hns _ (by omega))).trans ((Below.heap_alloc _ _ _ (by simp; omega)).trans ((Below.heap_alloc _ _ _ l04).trans R04.out)))
      clear hO2 hS2 hC2 hns
      go_wp2_with fail
      go_roundw
      case rel => exact ⟨j + 1, A2, c2, S2, ys ++ [(t, u, h_, kd, p_, t_, a_, x_)], by omega, by go_num, by simp, HP2, .inr (Lib.hid (by have := HYK.out; simp; omega)), HA5, HB5, R05⟩
      case measure => simp [RowKit.intOf]; omega
set_option maxRecDepth 100000 in
set_option maxHeartbeats 2000000 in
theorem intentList_any (cs : List Value) (x : RaidD) (g : Int) (w : World) (lo hi : Nat) (he : Env w) (h : RaidR w lo hi cs x) :
    Calls Tryz.prog 6 #[.agg cs.toArray, .int .i64 g] w (GotInts x g w) := by
  obtain ⟨A, n, c, rfl, h0⟩ := h
  obtain ⟨ok, hok⟩ : ∃ b, b = raidOk x := ⟨_, rfl⟩
  have HOK := Lib.hid hok
  have HLE := Lib.hid h0.lo_le
  have H := Lib.hid h0
  clear h0 hok
  show Calls Tryz.prog 6 #[.agg #[.slice A n c], .int .i64 g] w _
  go_enter Tryz.func6, Tryz.ntmps6
  go_wp2_with fail
  refine (raidOk_any _ x _ lo hi ⟨A, n, c, rfl, SliceR.below H.out bel1 (DiskR.below bel1 HLE.out)⟩).mono ?_
  rw [← HOK.out]
  rintro e w1 ⟨rfl, hb1⟩
  have HX1 : Hid (Below w.heap.size w w1) := Lib.hid (bel1.trans (hb1.mono (by simp)))
  have B0 : Hid (w1.heap[w.heap.size]? = some (.cells #[.slice A n c] 25 (0, 0))) := Lib.hid ((hb1.block _ (by simp)).trans (heap_alloc_new _ _))
  have l1 : w.heap.size < w1.heap.size := (Array.getElem?_eq_some_iff.1 B0.out).1
  have q := cell_of_row _ _ 0 _ _ (0, 0) B0.out
  clear hb1
  cases ok
  · go_wp2_with fail
    go_ret
    exact ⟨_, 0, [], [], rfl, by unfold IntsAre; rw [← HOK.out]; rfl, IntsIn.nil, HX1.out⟩
  go_wp2_with fail
  refine (intents_any A n c x g _ lo hi (he.below HX1.out) (SliceR.below H.out HX1.out (DiskR.below HX1.out HLE.out)) (raidOk_allI HOK.out.symm)).mono ?_
  rintro e w2 ⟨A2, c2, S2, ys, rfl, hp, hi2, hb2⟩
  go_wp2_with fail
  go_ret
  exact ⟨A2, c2, S2, ys, rfl, by unfold IntsAre; rw [if_pos HOK.out.symm]; exact hp, hi2.lower HX1.out.size, HX1.out.trans (hb2.mono HX1.out.size)⟩
set_option maxRecDepth 100000 in
set_option maxHeartbeats 2000000 in
theorem spIntentList_any (cs : List Value) (x : RaidD) (g : Int) (w : World) (lo hi : Nat)  (h : RaidR w lo hi cs x) :
    Calls Tryz.prog 7 #[.agg cs.toArray, .int .i64 g] w (GotInts x g w) := by
  obtain ⟨A, n, c, rfl, h0⟩ := h
  obtain ⟨ok, hok⟩ : ∃ b, b = raidOk x := ⟨_, rfl⟩
  have HOK := Lib.hid hok
  have HLE := Lib.hid h0.lo_le
  have H := Lib.hid h0
  clear h0 hok
  show Calls Tryz.prog 7 #[.agg #[.slice A n c], .int .i64 g] w _
  go_enter Tryz.func7, Tryz.ntmps7
  go_wp2_with fail
  refine (spRaidOk_any _ x _ lo hi ⟨A, n, c, rfl, SliceR.below H.out bel1 (DiskR.below bel1 HLE.out)⟩).mono ?_
  rw [← HOK.out]
  rintro e w1 ⟨rfl, hb1⟩
  have HX1 : Hid (Below w.heap.size w w1) := Lib.hid (bel1.trans (hb1.mono (by simp)))
  have B0 : Hid (w1.heap[w.heap.size]? = some (.cells #[.slice A n c] 25 (0, 0))) := Lib.hid ((hb1.block _ (by simp)).trans (heap_alloc_new _ _))
  have l1 : w.heap.size < w1.heap.size := (Array.getElem?_eq_some_iff.1 B0.out).1
  have q := cell_of_row _ _ 0 _ _ (0, 0) B0.out
  clear hb1
  cases ok
  · go_wp2_with fail
    go_ret
    exact ⟨_, 0, [], [], rfl, by unfold IntsAre; rw [← HOK.out]; rfl, IntsIn.nil, (by first | exact HX1.out | exact Below.alloc HX1.out HX1.out.size _)⟩
  go_wp2_with fail
  refine (l23List_any A n c x g _ lo hi  (SliceR.below H.out HX1.out (DiskR.below HX1.out HLE.out)) (raidOk_allI HOK.out.symm)).mono ?_
  rintro e w2 ⟨A2, c2, S2, ys, rfl, hp, hi2, hb2⟩
  go_wp2_with fail
  go_ret
  exact ⟨A2, c2, S2, ys, rfl, by unfold IntsAre; rw [if_pos HOK.out.symm]; exact hp, hi2.lower HX1.out.size, HX1.out.trans (hb2.mono HX1.out.size)⟩
end Go.Proofs.YtggdjiklgakfnaaGreatDoor
