/- RootList of the reference. No condition. -/
import Derived.Test.YtcfgbeajdkbbcaaGreatDoorRootAt
import Derived.Test.YtcfgbeajdkbbcaaGreatDoorRgv
namespace Go.Proofs.YtcfgbeajdkbbcaaGreatDoor
set_option linter.unnecessarySimpa false
open Go Go.Lib Go.RowKit
set_option linter.unusedVariables false
set_option linter.unusedSimpArgs false

def rcL (x : RootD) : List Value := [.int .i64 x.1, .int .i64 x.2.1.1, .int .i64 x.2.1.2.1, .int .i64 x.2.1.2.2.1, .int .i64 x.2.1.2.2.2.1, .int .i64 x.2.1.2.2.2.2, .int .i64 x.2.2.1, .int .i64 x.2.2.2]
theorem row_roots {w : World} {lo hi : Nat} : ∀ ys : List RootD, RowV (RootR w lo hi) 8 (ys.flatMap rcL) ys
  | [] => RowV.nil _ _
  | x :: ys => by
    have h1 : RowV (RootR w lo hi) 8 (rcL x) [x] := RowV.one rfl rfl
    have := RowV.append h1 (row_roots ys) rfl
    simpa using this
theorem rcL_len (ys : List RootD) : (ys.flatMap rcL).length = ys.length * 8 := by
  induction ys with
  | nil => rfl
  | cons x ys ih => simp only [List.flatMap_cons, List.length_append, ih, List.length_cons]; show 8 + _ = _; omega
theorem rcL_take (ys : List RootD) : ∀ k, (ys.take k).flatMap rcL = (ys.flatMap rcL).take (k * 8) := by
  induction ys with
  | nil => intro k; simp
  | cons x ys ih =>
    intro k
    cases k with
    | zero => simp
    | succ k =>
      rw [List.take_succ_cons, List.flatMap_cons, List.flatMap_cons, ih, List.take_append, show (rcL x).length = 8 from rfl, show (k + 1) * 8 - 8 = k * 8 by omega]
      rw [List.take_of_length_le (show (rcL x).length ≤ (k + 1) * 8 by show 8 ≤ _; omega)]
theorem rcL_drop (ys : List RootD) : ∀ k, (ys.drop k).flatMap rcL = (ys.flatMap rcL).drop (k * 8) := by
  induction ys with
  | nil => intro k; simp
  | cons x ys ih =>
    intro k
    cases k with
    | zero => simp
    | succ k =>
      rw [List.drop_succ_cons, List.flatMap_cons, ih, List.drop_append, show (rcL x).length = 8 from rfl, show (k + 1) * 8 - 8 = k * 8 by omega]
      rw [List.drop_of_length_le (show (rcL x).length ≤ (k + 1) * 8 by show 8 ≤ _; omega), List.nil_append]
theorem rcL_one (ys : List RootD) : ∀ u ∈ ys.flatMap rcL, u.oneCell' = true := by
  intro u hu
  obtain ⟨x, _, hx⟩ := List.mem_flatMap.1 hu
  simp [rcL] at hx
  rcases hx with rfl | rfl | rfl | rfl | rfl | rfl | rfl | rfl <;> rfl
/-- Roots in blocks of the call's own, from B on. -/
def RootsAt (B : Nat) (A : Option Addr) (c : Nat) (S : List Nat) (ys : List RootD) (w : World) : Prop := OwnA w 31 8 S A ys.length c (ys.flatMap rcL) ∧ ∀ g ∈ S, B ≤ g
theorem RootsAt.below {B : Nat} {A : Option Addr} {c : Nat} {S : List Nat} {ys : List RootD} {w w' : World} (h : RootsAt B A c S ys w) (hb : Below w.heap.size w w') : RootsAt B A c S ys w' := ⟨h.1.below hb, h.2⟩
theorem RootsAt.chg {B : Nat} {A : Option Addr} {c : Nat} {S T : List Nat} {ys : List RootD} {w w' : World} (h : RootsAt B A c S ys w) (hc : Chg (· ∈ T) w w') (hd : ∀ g ∈ S, g ∉ T) : RootsAt B A c S ys w' := ⟨h.1.keep fun g hg => hc.block g (h.1.lt g hg) (hd g hg), h.2⟩
theorem RootsAt.slice {B : Nat} {A : Option Addr} {c : Nat} {S : List Nat} {ys : List RootD} {w : World} (h : RootsAt B A c S ys w) : SliceR RootR 8 w B w.heap.size A ys.length c ys ∧ Whole w 31 8 B w.heap.size A ys.length c :=
  h.1.slice rfl (row_roots ys) (fun g hg => ⟨h.2 g hg, h.1.lt g hg⟩) (Nat.le_refl _)
theorem RootsAt.nil {B : Nat} {A : Option Addr} {w : World} : RootsAt B A 0 [] [] w := ⟨OwnA.nil _, by simp⟩
/-- The cells of one of them. -/
theorem RootsAt.at_ {B : Nat} {A : Option Addr} {c j : Nat} {S : List Nat} {ys : List RootD} {w : World} (h : RootsAt B A c S ys w) {y : RootD} (hy : ys[j]? = some y) : ∃ g, A = some ⟨g, 0, none⟩ ∧ g < w.heap.size ∧ B ≤ g ∧ ∀ o v, (rcL y)[o]? = some v → w.cell? ⟨g, j * 8 + o, none⟩ = some v := by
  have hj := (List.getElem?_eq_some_iff.1 hy).1
  rcases h.1.1 with ⟨_, h0, _⟩ | ⟨g, cur, rfl, rfl, hl, hnc, hcm, hg, hcs, hcc⟩
  · omega
  · have hgl := (Array.getElem?_eq_some_iff.1 hg).1
    refine ⟨g, rfl, hgl, h.2 g (by simp), fun o v hv => ?_⟩
    obtain ⟨b, off, hA, _, _, hc⟩ := h.slice.1.2.2.2.2.2 (by omega)
    injection hA with e; injection e with e1 e2; subst e1 e2
    obtain ⟨cs, hcl, hcv, rfl⟩ := hc j y hy
    have := hcv o v hv
    rwa [Nat.zero_add] at this
theorem RootsAt.row {B : Nat} {A : Option Addr} {c : Nat} {S : List Nat} {ys : List RootD} {w : World} (h : RootsAt B A c S ys w) (hp : 0 < ys.length) : ∃ g, A = some ⟨g, 0, none⟩ ∧ ∀ j, j < ys.length * 8 → w.cell? ⟨g, j, none⟩ = (ys.flatMap rcL)[j]? := by
  rcases h.1.1 with ⟨_, h0, _⟩ | ⟨g, cur, rfl, rfl, hl, hnc, hcm, hg, hcs, hcc⟩
  · omega
  · exact ⟨g, rfl, fun j hj => by rw [cell_of_row _ _ _ _ _ (0, 0) hg, hcc j hj]⟩
def sliceLen (v : Value) : Nat := match v with | .slice _ n _ => n | _ => 0
theorem sliceLen_eq (A : Option Addr) (n c : Nat) : sliceLen (.slice A n c) = n := rfl
/-- The selection as it goes: zs are taken, ys are left. -/
structure SelI (M zs ys : List RootD) : Prop where
  perm : (zs ++ ys).Perm M
  desc : zs.Pairwise DescR
  over : ∀ a ∈ zs, ∀ b ∈ ys, b.1 < a.1
  apart : ys.Pairwise (fun a b => a.1 ≠ b.1)
theorem SelI.step {M zs ys : List RootD} {k : Nat} {y : RootD} (h : SelI M zs ys) (hy : ys[k]? = some y) (hmax : ∀ z ∈ ys, z.1 ≤ y.1) : SelI M (zs ++ [y]) (ys.take k ++ ys.drop (k + 1)) := by
  have hl := (List.getElem?_eq_some_iff.1 hy).1
  have he := (List.getElem?_eq_some_iff.1 hy).2
  have e : ys = ys.take k ++ y :: ys.drop (k + 1) := by rw [← he, List.getElem_cons_drop, List.take_append_drop]
  have hsub : (ys.take k ++ ys.drop (k + 1)).Sublist ys := by
    conv => rhs; rw [e]
    exact List.Sublist.append (List.Sublist.refl _) (List.sublist_cons_self _ _)
  have hne : ∀ z ∈ ys.take k ++ ys.drop (k + 1), z.1 < y.1 := by
    intro z hz
    have h1 := hmax z (hsub.subset hz)
    have ha := h.apart
    rw [e, List.pairwise_append] at ha
    obtain ⟨_, a2, a3⟩ := ha
    have : z.1 ≠ y.1 := by
      rcases List.mem_append.1 hz with hz | hz
      · exact a3 z hz y (by simp)
      · exact fun e => (List.pairwise_cons.1 a2).1 z hz e.symm
    omega
  refine ⟨?_, ?_, ?_, h.apart.sublist hsub⟩
  · refine List.Perm.trans ?_ h.perm
    rw [List.append_assoc]
    refine List.Perm.append_left zs ?_
    conv => rhs; rw [e]
    rw [List.singleton_append]
    exact List.perm_middle.symm
  · rw [List.pairwise_append]
    refine ⟨h.desc, by simp, fun a ha b hb => ?_⟩
    simp at hb; subst hb
    exact h.over a ha b (List.mem_of_getElem? hy)
  · intro a ha b hb
    rcases List.mem_append.1 ha with ha | ha
    · exact h.over a ha b (hsub.subset hb)
    · simp at ha; subst ha; exact hne b hb
def softRoots (B n : Nat) (ys : List RootD) : MStP (Own B) Ext := ⟨fun v w => ∃ A c S, v = .slice A n c ∧ OwnA w 31 8 S A n c (ys.flatMap rcL) ∧ ∀ g ∈ S, B ≤ g, false, fun _ _ _ he ⟨A, c, S, e, h, h2⟩ => ⟨A, c, S, e, h.below he, h2⟩, fun h => by cases h⟩
def hardNil : {B : Nat} → MStP (Own B) Ext := ⟨fun v _ => ∃ X, v = .slice X 0 0, true, fun _ _ _ _ h => h, fun _ _ _ _ _ h => h⟩
def GotRoots (x : RaidD) (w : World) (e : Ending) (w' : World) : Prop := ∃ A c S ys, e = .returned (.slice A ys.length c) ∧ RootsAre x ys ∧ RootsAt w.heap.size A c S ys w' ∧ Below w.heap.size w w'
theorem Own.ext_at {w w' : World} {B : Nat} (h : Own B w w') (hB : B = w.heap.size) : Below w.heap.size w w' := by subst hB; exact h (Nat.le_refl _)
theorem infoRoot : (Tryz.prog.info? 31).map (fun i => (i.zero, i.size, i.bytes)) = some (some (.agg #[.int .i64 0, .int .i64 0, .int .i64 0, .int .i64 0, .int .i64 0, .int .i64 0, .int .i64 0, .int .i64 0]), 8, 64) := by kernel_rfl
set_option maxRecDepth 100000 in
set_option maxHeartbeats 8000000 in
theorem spRootList_any (cs : List Value) (x : RaidD) (w : World) (lo hi : Nat) (h : RaidR w lo hi cs x) :
    Calls Tryz.prog 15 #[.agg cs.toArray] w (GotRoots x w) := by
  obtain ⟨A0, n0, c0, rfl, h0⟩ := h
  obtain ⟨ok, hok⟩ : ∃ b, b = raidOk x := ⟨_, rfl⟩
  have HOK := Lib.hid hok
  have HLE := Lib.hid h0.lo_le
  have H := Lib.hid h0
  clear h0 hok
  obtain ⟨i0, hi0, hz0, hz1, hz2⟩ := info_parts infoRoot
  show Calls Tryz.prog 15 #[.agg #[.slice A0 n0 c0]] w _
  go_enter Tryz.func15, Tryz.ntmps15
  go_wp2_with fail
  refine (spRaidOk_any _ x _ lo hi ⟨A0, n0, c0, rfl, SliceR.below H.out bel1 (DiskR.below bel1 HLE.out)⟩).mono ?_
  rw [← HOK.out]
  rintro e w1 ⟨rfl, hb1⟩
  have z1 := hb1.size
  have HX1 : Hid (Below w.heap.size w w1) := Lib.hid (bel1.trans (hb1.mono (by simp)))
  have B0 : Hid (w1.heap[w.heap.size]? = some (.cells #[.slice A0 n0 c0] 36 (0, 0))) := Lib.hid ((hb1.block _ (by simp)).trans (heap_alloc_new _ _))
  have l1 : w.heap.size < w1.heap.size := by simp at z1; omega
  clear hb1 z1
  cases ok
  · go_wp2_with fail
    go_ret
    exact ⟨_, 0, [], [], rfl, by unfold RootsAre; rw [← HOK.out]; rfl, RootsAt.nil, Below.alloc HX1.out (by omega) _⟩
  go_wp2_with fail
  obtain ⟨lo1, hlo1⟩ : ∃ b, b = w.heap.size := ⟨_, rfl⟩
  go_loopw [3, 4] (fun a i wr => ∃ (k : Nat) (A' : Option Addr) (c' : Nat) (S : List Nat) (ys : List RootD), k ≤ 4 ∧ i = .int .i64 (k : Int) ∧ a = .slice A' ys.length c' ∧ Hid (ys = rowsU x k) ∧ ys.length ≤ k ∧ Hid (RootsAt (w.heap.size + 1) A' c' S ys wr) ∧ Hid (Below w.heap.size w wr) ∧ Hid (wr.heap[w.heap.size]? = some (.cells #[.slice A0 n0 c0] 36 (0, 0)))) (fun _ i _ => 4 - (RowKit.intOf i).toNat)
  case atStart => exact ⟨0, _, 0, [], [], by omega, rfl, rfl, Lib.hid rfl, by simp, Lib.hid RootsAt.nil, Lib.hid (Below.alloc HX1.out (by omega) _), Lib.hid ((Below.heap_alloc _ _ _ l1).trans B0.out)⟩
  case round =>
    clear HX1 B0 l1
    obtain ⟨k, A', c', S, ys, hk, rfl, rfl, HY, hyk, HA, HB, R0⟩ := hrel
    have l0 : w.heap.size < wr.heap.size := (Array.getElem?_eq_some_iff.1 R0.out).1
    have q := cell_of_row _ _ 0 _ _ (0, 0) R0.out
    by_cases hlt : k < 4
    · have k4 : (k : Int) < 4 := by omega
      obtain ⟨rd, hrd⟩ : ∃ d, d = rootAtF x (k : Int) := ⟨_, rfl⟩
      have HRD := Lib.hid hrd; clear hrd
      go_wp2_with fail
      refine (l22At_any A0 n0 c0 x k _ lo hi (SliceR.below H.out HB.out (DiskR.below HB.out HLE.out)) (raidOk_all HOK.out.symm) hlt).mono ?_
      rw [← HRD.out]
      rintro e w3 ⟨rfl, hb3⟩
      have HA3 := Lib.hid (HA.out.below hb3)
      have HB3 := Lib.hid (HB.out.trans (hb3.mono HB.out.size))
      have R03 := Lib.hid ((hb3.block _ l0).trans R0.out)
      have l03 : w.heap.size < w3.heap.size := by have := hb3.size; omega
      clear hb3 HA HB R0 q
      obtain ⟨t, ⟨a, b, s, m, l⟩, d, y⟩ := rd
      unfold rcA
      by_cases hp : 0 < t
      · have HU : Hid (ys ++ [(t, (a, b, s, m, l), d, y)] = rowsU x (k + 1)) := Lib.hid (by rw [HY.out]; show _ = (if _ then _ else _); rw [← HRD.out, if_pos hp])
        have HOW : Hid (OwnA ((w3.alloc (.cells #[.int .i64 t, .int .i64 a, .int .i64 b, .int .i64 s, .int .i64 m, .int .i64 l, .int .i64 d, .int .i64 y] 31)).alloc (.cells #[.int .i64 t, .int .i64 a, .int .i64 b, .int .i64 s, .int .i64 m, .int .i64 l, .int .i64 d, .int .i64 y] 31)) 31 8 S A' ys.length c' (ys.flatMap rcL)) := Lib.hid ((HA3.out.1.below bel1).below bel1)
        have HLT : Hid (RowAt ((w3.alloc (.cells #[.int .i64 t, .int .i64 a, .int .i64 b, .int .i64 s, .int .i64 m, .int .i64 l, .int .i64 d, .int .i64 y] 31)).alloc (.cells #[.int .i64 t, .int .i64 a, .int .i64 b, .int .i64 s, .int .i64 m, .int .i64 l, .int .i64 d, .int .i64 y] 31)) (some ⟨w3.heap.size + 1, 0, none⟩) (1 * 8) [.int .i64 t, .int .i64 a, .int .i64 b, .int .i64 s, .int .i64 m, .int .i64 l, .int .i64 d, .int .i64 y]) := Lib.hid (by have := RowAt.lit (w := w3.alloc (.cells #[.int .i64 t, .int .i64 a, .int .i64 b, .int .i64 s, .int .i64 m, .int .i64 l, .int .i64 d, .int .i64 y] 31)) (e := 31) (cur := #[.int .i64 t, .int .i64 a, .int .i64 b, .int .i64 s, .int .i64 m, .int .i64 l, .int .i64 d, .int .i64 y]) (m := 8) rfl; simpa using this)
        have HON : Hid (∀ u ∈ ([.int .i64 t, .int .i64 a, .int .i64 b, .int .i64 s, .int .i64 m, .int .i64 l, .int .i64 d, .int .i64 y] : List Value), u.oneCell' = true) := Lib.hid (by intro u hu; simp at hu; rcases hu with rfl | rfl | rfl | rfl | rfl | rfl | rfl | rfl <;> rfl)
        go_wp2_with (at_builtin; go_must (refine wpList_append_row rfl _ _ 46 rfl 31 i0 (.agg #[.int .i64 0, .int .i64 0, .int .i64 0, .int .i64 0, .int .i64 0, .int .i64 0, .int .i64 0, .int .i64 0]) 8 64 Tryz.underlying46 hi0 hz0 hz1 hz2 rfl (by decide) S A' (some ⟨w3.heap.size + 1, 0, none⟩) ys.length c' 1 1 (ys.flatMap rcL) [.int .i64 t, .int .i64 a, .int .i64 b, .int .i64 s, .int .i64 m, .int .i64 l, .int .i64 d, .int .i64 y] rfl rfl HOW.out HLT.out HON.out (by unfold maxLen; omega) (by omega) ?_))
        intro A2 c2 S2 w5 hO2 hS2 hC2
        have hns : ∀ b, b < w.heap.size + 1 → b ∉ S := fun b hb h => by have := HA3.out.2 b h; omega
        have HA5 : Hid (RootsAt (w.heap.size + 1) A2 c2 S2 (ys ++ [(t, (a, b, s, m, l), d, y)]) w5) := Lib.hid ⟨by simpa [rcL] using hO2, fun g hg => (hS2 g hg).elim (HA3.out.2 g) (fun h => by first | omega | (simp at h; omega))⟩
        have HB5 : Hid (Below w.heap.size w w5) := Lib.hid ((Below.alloc (Below.alloc HB3.out (by omega) _) (by simp; omega) _).trans (hC2.below (B := w.heap.size) (fun k' _ h => Nat.le_of_not_lt fun hb => hns k' (by omega) h) (by simp; omega)))
        have R05 := Lib.hid ((hC2.block _ (by simp; omega) (hns _ (by omega))).trans ((Below.heap_alloc _ _ _ (by simp; omega)).trans ((Below.heap_alloc _ _ _ l03).trans R03.out)))
        clear hO2 hS2 hC2 hns
        go_wp2_with fail
        go_roundw
        case rel => exact ⟨k + 1, A2, c2, S2, _, by omega, by go_num, by simp, HU, by simp; omega, HA5, HB5, R05⟩
        case measure => simp [RowKit.intOf]; omega
      · have HU : Hid (ys = rowsU x (k + 1)) := Lib.hid (by rw [HY.out]; show _ = (if _ then _ else _); rw [← HRD.out, if_neg hp])
        go_wp2_with fail
        go_roundw
        case rel => exact ⟨k + 1, A', c', S, ys, by omega, by go_num, rfl, HU, by omega, Lib.hid (HA3.out.below bel1), Lib.hid (Below.alloc HB3.out (by omega) _), Lib.hid ((Below.heap_alloc _ _ _ l03).trans R03.out)⟩
        case measure => simp [RowKit.intOf]; omega
    · have hk4 : k = 4 := by omega
      have HY4 : Hid (ys = rowsU x 4) := Lib.hid (by rw [HY.out, hk4])
      have nk4 : ¬ (k : Int) < 4 := by omega
      go_wp2_with fail
      go_loopw [3, 7] (fun a3 a7 wr2 => ∃ (A1 A2 : Option Addr) (c1 c2 : Nat) (S1 S2 : List Nat) (ys zs : List RootD), a3 = .slice A1 ys.length c1 ∧ a7 = .slice A2 zs.length c2 ∧ ys.length ≤ 4 ∧ zs.length ≤ 4 ∧ Hid (RootsAt (w.heap.size + 1) A1 c1 S1 ys wr2) ∧ Hid (RootsAt (w.heap.size + 1) A2 c2 S2 zs wr2) ∧ Hid (∀ g ∈ S1, g ∉ S2) ∧ Hid (SelI (rowsU x 4) zs ys) ∧ Hid (Below w.heap.size w wr2)) (fun a3 _ _ => sliceLen a3)
      case atStart =>
        exact ⟨A', _, c', 0, S, [], ys, [], rfl, rfl, by omega, by simp, Lib.hid (HA.out.below bel1), Lib.hid RootsAt.nil, Lib.hid (by simp), Lib.hid ⟨by rw [← HY4.out]; exact List.Perm.refl _, by simp, by simp, by rw [HY4.out]; exact rowsU_apart x 4⟩, Lib.hid (Below.alloc HB.out (by omega) _)⟩
      case round =>
        clear HA HB R0 HY HY4 l0 q
        obtain ⟨A1, A2, c1, c2, S1, S2, ys, zs, rfl, rfl, hy4, hz4, HA1, HA2, HD, HSI, HB⟩ := hrel
        have HLEN : Hid (zs.length + ys.length ≤ 4) := Lib.hid (by have := HSI.out.perm.length_eq; have := rowsU_len x 4; simp at *; omega)
        by_cases hn : 0 < ys.length
        · obtain ⟨w7, rfl⟩ : ∃ w7, w7 = wr := ⟨_, rfl⟩
          have n0' : (0 : Int) < (ys.length : Int) := by omega
          go_wp2_with fail
          go_loopw [8, 9] (fun b i wr3 => ∃ (bb ii : Nat), b = .int .i64 (bb : Int) ∧ i = .int .i64 (ii : Int) ∧ bb < ys.length ∧ 1 ≤ ii ∧ ii ≤ ys.length ∧ Hid (∀ (j : Nat) (u v : RootD), j < ii → ys[j]? = some u → ys[bb]? = some v → u.1 ≤ v.1) ∧ Hid (Below w7.heap.size w7 wr3)) (fun _ i _ => ys.length - (RowKit.intOf i).toNat)
          case atStart => exact ⟨0, 1, rfl, rfl, hn, by omega, by omega, Lib.hid (fun j u v hj hu hv => by obtain rfl : j = 0 := (by omega); rw [hu] at hv; obtain rfl := Option.some.inj hv; exact Int.le_refl _), Lib.hid (Below.refl _ _)⟩
          case round =>
            obtain ⟨bb, ii, rfl, rfl, hbb, hi1, hi2, HM, HB7⟩ := hrel
            obtain ⟨v, hv⟩ : ∃ v, ys[bb]? = some v := ⟨ys[bb], List.getElem?_eq_getElem hbb⟩
            obtain ⟨g, hg, hgl, hgB, hcv⟩ := (HA1.out.below HB7.out).at_ hv
            obtain rfl := hg
            have b00 : (0 : Int) ≤ (bb : Int) := by omega
            have b01 : (bb : Int) < (ys.length : Int) := by omega
            have HVV := Lib.hid hv
            by_cases hii : ii < ys.length
            · obtain ⟨u, hu⟩ : ∃ u, ys[ii]? = some u := ⟨ys[ii], List.getElem?_eq_getElem hii⟩
              obtain ⟨g', hg', _, _, hcu⟩ := (HA1.out.below HB7.out).at_ hu
              injection hg' with hg'; injection hg' with hg' _; subst hg'
              have cu := hcu 0 _ rfl
              have cv := hcv 0 _ rfl
              simp only [Nat.add_zero] at cu cv
              have HUU := Lib.hid hu
              have i00 : (0 : Int) ≤ (ii : Int) := by omega
              have i01 : (ii : Int) < (ys.length : Int) := by omega
              obtain ⟨u1, hu1⟩ : ∃ u1, u1 = u.1 := ⟨_, rfl⟩
              obtain ⟨v1, hv1⟩ : ∃ v1, v1 = v.1 := ⟨_, rfl⟩
              have cu : wr.cell? ⟨g, ii * 8, none⟩ = some (.int .i64 u1) := by rw [hu1]; exact cu
              have cv : wr.cell? ⟨g, bb * 8, none⟩ = some (.int .i64 v1) := by rw [hv1]; exact cv
              have HU1 := Lib.hid hu1; have HV1 := Lib.hid hv1
              clear hu1 hv1
              clear hcu hcv hu hv
              go_wp2_with fail
              apply wp_region_rg (by kernel_rfl) (false :: false :: false :: false :: false :: false :: false :: false :: false :: false :: false :: false :: false :: false :: false :: false :: false :: false :: false :: false :: false :: false :: false :: false :: false :: false :: false :: false :: false :: false :: false :: false :: false :: false :: false :: false :: false :: false :: false :: false :: true :: true :: true :: true :: true :: true :: true :: true :: true :: true :: true :: false :: false :: false :: false :: false :: false :: false :: false :: false :: false :: false :: false :: false :: false :: false :: false :: false :: false :: false :: []) [some 40, some 41, some 42, some 43, some 44, some 45, some 46, some 47, some 48, some 49, some 50] [[], [], [0, 1], [2], [3], [], [], [5, 6], [7], [8], [4, 9]] [StP.is _, StP.is _, StP.is _, StP.is _, StP.is _, StP.is _, StP.is _, StP.is _, StP.is _, StP.is _, StP.is _] (by kernel_rfl)
              case hobs =>
                refine ⟨fun y w' hS hF K hK => ?_, ?_⟩
                · skip -- 0: move
                  simp only [fillL, cond_true, cond_false, List.getD_cons_zero, List.getD_cons_succ, StP.is, Act.put, List.setIfInBounds_toArray, List.set_cons_zero, List.set_cons_succ, Nat.reduceAdd] at hK ⊢
                  refine rg_yes (by kernel_rfl) ?_
                  clear hF
                  go_simp
                  exact hK _ _ (Ext.refl _) rfl
                refine ⟨fun y w' hS hF K hK => ?_, ?_⟩
                · skip -- 1: move
                  simp only [fillL, cond_true, cond_false, List.getD_cons_zero, List.getD_cons_succ, StP.is, Act.put, List.setIfInBounds_toArray, List.set_cons_zero, List.set_cons_succ, Nat.reduceAdd] at hK ⊢
                  refine rg_yes (by kernel_rfl) ?_
                  clear hF
                  go_simp
                  exact hK _ _ (Ext.refl _) rfl
                refine ⟨fun y w' hS hF K hK => ?_, ?_⟩
                · skip -- 2: indexAddr
                  have e40 : y 40 = _ := hF.1
                  have e41 : y 41 = _ := hF.2.1
                  simp only [fillL, cond_true, cond_false, List.getD_cons_zero, List.getD_cons_succ, StP.is, Act.put, List.setIfInBounds_toArray, List.set_cons_zero, List.set_cons_succ, Nat.reduceAdd, e40, e41] at hK ⊢
                  refine rg_yes (by kernel_rfl) ?_
                  clear e40 e41
                  clear hF
                  go_simp
                  exact hK _ _ (Ext.refl _) rfl
                refine ⟨fun y w' hS hF K hK => ?_, ?_⟩
                · skip -- 3: fieldAddr
                  have e42 : y 42 = _ := hF.1
                  simp only [fillL, cond_true, cond_false, List.getD_cons_zero, List.getD_cons_succ, StP.is, Act.put, List.setIfInBounds_toArray, List.set_cons_zero, List.set_cons_succ, Nat.reduceAdd, e42] at hK ⊢
                  refine rg_yes (by kernel_rfl) ?_
                  clear e42
                  clear hF
                  go_simp
                  exact hK _ _ (Ext.refl _) rfl
                refine ⟨fun y w' hS hF K hK => ?_, ?_⟩
                · skip -- 4: load
                  have e43 : y 43 = _ := hF.1
                  simp only [fillL, cond_true, cond_false, List.getD_cons_zero, List.getD_cons_succ, StP.is, Act.put, List.setIfInBounds_toArray, List.set_cons_zero, List.set_cons_succ, Nat.reduceAdd, e43] at hK ⊢
                  refine rg_yes (by kernel_rfl) ?_
                  have qx0_ := (Below.cell hS hgl).trans cu
                  have qx1_ := (Below.cell hS hgl).trans cv
                  clear e43
                  clear hF
                  go_simp
                  exact hK _ _ (Ext.refl _) rfl
                refine ⟨fun y w' hS hF K hK => ?_, ?_⟩
                · skip -- 5: move
                  simp only [fillL, cond_true, cond_false, List.getD_cons_zero, List.getD_cons_succ, StP.is, Act.put, List.setIfInBounds_toArray, List.set_cons_zero, List.set_cons_succ, Nat.reduceAdd] at hK ⊢
                  refine rg_yes (by kernel_rfl) ?_
                  clear hF
                  go_simp
                  exact hK _ _ (Ext.refl _) rfl
                refine ⟨fun y w' hS hF K hK => ?_, ?_⟩
                · skip -- 6: move
                  simp only [fillL, cond_true, cond_false, List.getD_cons_zero, List.getD_cons_succ, StP.is, Act.put, List.setIfInBounds_toArray, List.set_cons_zero, List.set_cons_succ, Nat.reduceAdd] at hK ⊢
                  refine rg_yes (by kernel_rfl) ?_
                  clear hF
                  go_simp
                  exact hK _ _ (Ext.refl _) rfl
                refine ⟨fun y w' hS hF K hK => ?_, ?_⟩
                · skip -- 7: indexAddr
                  have e45 : y 45 = _ := hF.1
                  have e46 : y 46 = _ := hF.2.1
                  simp only [fillL, cond_true, cond_false, List.getD_cons_zero, List.getD_cons_succ, StP.is, Act.put, List.setIfInBounds_toArray, List.set_cons_zero, List.set_cons_succ, Nat.reduceAdd, e45, e46] at hK ⊢
                  refine rg_yes (by kernel_rfl) ?_
                  clear e45 e46
                  clear hF
                  go_simp
                  exact hK _ _ (Ext.refl _) rfl
                refine ⟨fun y w' hS hF K hK => ?_, ?_⟩
                · skip -- 8: fieldAddr
                  have e47 : y 47 = _ := hF.1
                  simp only [fillL, cond_true, cond_false, List.getD_cons_zero, List.getD_cons_succ, StP.is, Act.put, List.setIfInBounds_toArray, List.set_cons_zero, List.set_cons_succ, Nat.reduceAdd, e47] at hK ⊢
                  refine rg_yes (by kernel_rfl) ?_
                  clear e47
                  clear hF
                  go_simp
                  exact hK _ _ (Ext.refl _) rfl
                refine ⟨fun y w' hS hF K hK => ?_, ?_⟩
                · skip -- 9: load
                  have e48 : y 48 = _ := hF.1
                  simp only [fillL, cond_true, cond_false, List.getD_cons_zero, List.getD_cons_succ, StP.is, Act.put, List.setIfInBounds_toArray, List.set_cons_zero, List.set_cons_succ, Nat.reduceAdd, e48] at hK ⊢
                  refine rg_yes (by kernel_rfl) ?_
                  have qx0_ := (Below.cell hS hgl).trans cu
                  have qx1_ := (Below.cell hS hgl).trans cv
                  clear e48
                  clear hF
                  go_simp
                  exact hK _ _ (Ext.refl _) rfl
                refine ⟨fun y w' hS hF K hK => ?_, ?_⟩
                · skip -- 10: binOp
                  have e44 : y 44 = _ := hF.1
                  have e49 : y 49 = _ := hF.2.1
                  simp only [fillL, cond_true, cond_false, List.getD_cons_zero, List.getD_cons_succ, StP.is, Act.put, List.setIfInBounds_toArray, List.set_cons_zero, List.set_cons_succ, Nat.reduceAdd, e44, e49] at hK ⊢
                  refine rg_yes (by kernel_rfl) ?_
                  clear e44 e49
                  clear hF
                  go_simp
                  exact hK _ _ (Ext.refl _) rfl
                trivial
              case hend =>
                intro y_ w8 hX hF
                have e50 : y_ 50 = _ := hF.2.2.2.2.2.2.2.2.2.2.1
                clear hF
                simp only [fillL, cond_true, cond_false, Nat.reduceAdd, e50]
                clear e50
                have HB8 : Hid (Below w7.heap.size w7 w8) := Lib.hid (HB7.out.trans (Below.mono hX HB7.out.size))
                clear hX cu cv
                by_cases hgt : v1 < u1
                · have HM2 : Hid (∀ (j : Nat) (p r : RootD), j < ii + 1 → ys[j]? = some p → ys[ii]? = some r → p.1 ≤ r.1) := Lib.hid (fun j p r hj hp hr => by
                    rw [HUU.out] at hr; obtain rfl := Option.some.inj hr
                    rcases Nat.lt_or_ge j ii with h | h
                    · have h1 := HM.out j p v h hp HVV.out; have h2 := HU1.out; have h3 := HV1.out; omega
                    · obtain rfl : j = ii := by omega
                      rw [HUU.out] at hp; obtain rfl := Option.some.inj hp; exact Int.le_refl _)
                  go_wp2_with fail
                  go_roundw
                  case rel => exact ⟨ii, ii + 1, rfl, by go_num, hii, by omega, by omega, HM2, HB8⟩
                  case measure => simp [RowKit.intOf]; omega
                · have HM2 : Hid (∀ (j : Nat) (p r : RootD), j < ii + 1 → ys[j]? = some p → ys[bb]? = some r → p.1 ≤ r.1) := Lib.hid (fun j p r hj hp hr => by
                    rcases Nat.lt_or_ge j ii with h | h
                    · exact HM.out j p r h hp hr
                    · obtain rfl : j = ii := by omega
                      rw [HVV.out] at hr; obtain rfl := Option.some.inj hr
                      rw [HUU.out] at hp; obtain rfl := Option.some.inj hp
                      have h2 := HU1.out; have h3 := HV1.out; omega)
                  go_wp2_with fail
                  go_roundw
                  case rel => exact ⟨bb, ii + 1, rfl, by go_num, hbb, by omega, by omega, HM2, HB8⟩
                  case measure => simp [RowKit.intOf]; omega
            · obtain rfl : ii = ys.length := by omega
              have HSI2 : Hid (SelI (rowsU x 4) (zs ++ [v]) (ys.take bb ++ ys.drop (bb + 1))) := Lib.hid (HSI.out.step HVV.out (fun z hz => by
                obtain ⟨j, hj⟩ := List.mem_iff_getElem?.1 hz
                exact HM.out j z v (List.getElem?_eq_some_iff.1 hj).1 hj HVV.out))
              have HZ := Lib.hid ((HA2.out.below HB7.out))
              have HY := Lib.hid ((HA1.out.below HB7.out))
              have HBB : Hid (Below w.heap.size w wr) := Lib.hid (HB.out.trans (HB7.out.mono HB.out.size))
              have zl := HLEN.out
              obtain ⟨vt, ⟨va, vb, vs, vm, vl⟩, vd, vy⟩ := v
              have cv0 := hcv 0 _ rfl; have cv1 := hcv 1 _ rfl; have cv2 := hcv 2 _ rfl; have cv3 := hcv 3 _ rfl; have cv4 := hcv 4 _ rfl; have cv5 := hcv 5 _ rfl; have cv6 := hcv 6 _ rfl; have cv7 := hcv 7 _ rfl
              simp only [Nat.add_zero] at cv0
              have lw : w.heap.size ≤ wr.heap.size := HBB.out.size
              clear hcv HA1 HA2 HB HB7 HM hv
              have HOW : Hid (OwnA (wr.alloc (.cells #[.int .i64 vt, .int .i64 va, .int .i64 vb, .int .i64 vs, .int .i64 vm, .int .i64 vl, .int .i64 vd, .int .i64 vy] 31)) 31 8 S2 A2 zs.length c2 (zs.flatMap rcL)) := Lib.hid (HZ.out.1.below bel1)
              have HLT : Hid (RowAt (wr.alloc (.cells #[.int .i64 vt, .int .i64 va, .int .i64 vb, .int .i64 vs, .int .i64 vm, .int .i64 vl, .int .i64 vd, .int .i64 vy] 31)) (some ⟨wr.heap.size, 0, none⟩) (1 * 8) [.int .i64 vt, .int .i64 va, .int .i64 vb, .int .i64 vs, .int .i64 vm, .int .i64 vl, .int .i64 vd, .int .i64 vy]) := Lib.hid (RowAt.lit (w := wr) (e := 31) (cur := #[.int .i64 vt, .int .i64 va, .int .i64 vb, .int .i64 vs, .int .i64 vm, .int .i64 vl, .int .i64 vd, .int .i64 vy]) (m := 8) rfl)
              have HON : Hid (∀ u ∈ ([.int .i64 vt, .int .i64 va, .int .i64 vb, .int .i64 vs, .int .i64 vm, .int .i64 vl, .int .i64 vd, .int .i64 vy] : List Value), u.oneCell' = true) := Lib.hid (by intro u hu; simp at hu; rcases hu with rfl | rfl | rfl | rfl | rfl | rfl | rfl | rfl <;> rfl)
              go_wp2_with (at_builtin; go_must (refine wpList_append_row rfl _ _ 46 rfl 31 i0 (.agg #[.int .i64 0, .int .i64 0, .int .i64 0, .int .i64 0, .int .i64 0, .int .i64 0, .int .i64 0, .int .i64 0]) 8 64 Tryz.underlying46 hi0 hz0 hz1 hz2 rfl (by decide) S2 A2 (some ⟨wr.heap.size, 0, none⟩) zs.length c2 1 1 (zs.flatMap rcL) [.int .i64 vt, .int .i64 va, .int .i64 vb, .int .i64 vs, .int .i64 vm, .int .i64 vl, .int .i64 vd, .int .i64 vy] rfl rfl HOW.out HLT.out HON.out (by unfold maxLen; omega) (by omega) ?_))
              intro A3 c3 S3 w9 hO3 hS3 hC3
              have HZ9 : Hid (RootsAt (w.heap.size + 1) A3 c3 S3 (zs ++ [(vt, (va, vb, vs, vm, vl), vd, vy)]) w9) := Lib.hid ⟨by simpa [rcL] using hO3, fun g hg => (hS3 g hg).elim (HZ.out.2 g) (fun h => by first | omega | (simp at h; omega))⟩
              have HY9 : Hid (RootsAt (w.heap.size + 1) (some ⟨g, 0, none⟩) c1 S1 ys w9) := Lib.hid ((HY.out.below bel1).chg hC3 HD.out)
              have HB9 : Hid (Below w.heap.size w w9) := Lib.hid ((Below.alloc HBB.out (by omega) _).trans (hC3.below (B := w.heap.size) (fun k' _ h => by have := HZ.out.2 k' h; omega) (by simp; omega)))
              have HS3 : Hid (∀ g ∈ S3, g < w9.heap.size) := Lib.hid (fun g hg => HZ9.out.1.lt g hg)
              have z9 : w.heap.size + 1 ≤ w9.heap.size := by have := hC3.size; simp at this; omega
              clear hO3 hS3 hC3 HZ HY HBB HOW HLT HON cv0 cv1 cv2 cv3 cv4 cv5 cv6 cv7
              have bt : ((bb : Int) + 1).toNat = bb + 1 := by omega
              have bl0 : (0 : Int) ≤ (bb : Int) + 1 := by omega
              have bl1 : (bb : Int) + 1 ≤ (ys.length : Int) := by omega
              have ww : IntKind.i64.wrap ((bb : Int) + 1) = (bb : Int) + 1 := IntWalk.i64_in _ (by omega)
              have hcap : ys.length ≤ c1 := HY9.out.1.le
              have bl2 : (bb : Int) ≤ (c1 : Int) := by omega
              have bl3 : (ys.length : Int) ≤ (c1 : Int) := by omega
              go_wp2_with fail
              apply wp_region_rgv (Own (w9.heap.size)) (Ext) (fun y w' k' => (k' < 5000 → y 3 = .slice (some ⟨g, 0, none⟩) ys.length c1)) [0, 0, 0, 0, 0, 0, 0, 0, 0, 0, 5000] [5000, 5000, 5000, 5000, 5000, 5000, 5000, 5000, 5000, 5000, 5000] (by kernel_rfl) (false :: false :: false :: true :: false :: false :: false :: false :: false :: false :: false :: false :: false :: false :: false :: false :: false :: false :: false :: false :: false :: false :: false :: false :: false :: false :: false :: false :: false :: false :: false :: false :: false :: false :: false :: false :: false :: false :: false :: false :: false :: false :: false :: false :: false :: false :: false :: false :: false :: false :: false :: false :: false :: false :: false :: false :: false :: false :: false :: true :: true :: true :: true :: true :: true :: true :: true :: true :: true :: false :: []) [some 59, some 60, some 61, some 62, some 63, some 64, some 65, some 66, some 67, some 68, some 3] [[], [], [], [1, 2], [0, 3], [], [], [6], [5, 7], [4, 8], [9]] [false, false, false, false, true, false, false, false, false, true, false] [true, true, true, true, false, true, true, true, true, false, false] [10] [hardNil, MStP.is _, MStP.is _, MStP.is _, softRoots w9.heap.size (bb) (ys.take bb), MStP.is _, MStP.is _, MStP.is _, MStP.is _, softRoots w9.heap.size (bb + (ys.length - (bb + 1))) (ys.take bb ++ ys.drop (bb + 1)), softRoots w9.heap.size (bb + (ys.length - (bb + 1))) (ys.take bb ++ ys.drop (bb + 1))] (by kernel_rfl) (by kernel_rfl) (by kernel_rfl) (by kernel_rfl)
              case hobs =>
                refine ⟨fun y w' k hS hj hk hF K hK => ?_, ?_⟩
                · skip -- 0: buildSlice
                  simp only [fillL, cond_true, cond_false, List.getD_cons_zero, List.getD_cons_succ, StP.is, Act.put, List.setIfInBounds_toArray, List.set_cons_zero, List.set_cons_succ, Nat.reduceAdd, MStP.is, Option.isSome_some, Option.isSome_none] at hK ⊢
                  simp only [List.sum_cons, List.sum_nil, List.getD_cons_zero, List.getD_cons_succ, Nat.reduceAdd, Nat.add_zero] at hk
                  refine rg_yes (by kernel_rfl) ?_
                  have hSb := Own.ext_at hS rfl
                  have hYw := HY9.out.below hSb
                  clear hF
                  go_simp
                  exact hK _ _ (Ext.alloc _ _) (fun h => by simpa [updY] using hj (by omega)) ⟨_, rfl⟩
                refine ⟨fun y w' k hS hj hk hF K hK => ?_, ?_⟩
                · skip -- 1: move
                  simp only [fillL, cond_true, cond_false, List.getD_cons_zero, List.getD_cons_succ, StP.is, Act.put, List.setIfInBounds_toArray, List.set_cons_zero, List.set_cons_succ, Nat.reduceAdd, MStP.is, Option.isSome_some, Option.isSome_none] at hK ⊢
                  simp only [List.sum_cons, List.sum_nil, List.getD_cons_zero, List.getD_cons_succ, Nat.reduceAdd, Nat.add_zero] at hk
                  refine rg_yes (by kernel_rfl) ?_
                  have hSb := Own.ext_at hS rfl
                  have hYw := HY9.out.below hSb
                  clear hF
                  have e3_ : y 3 = _ := hj (by omega)
                  simp only [e3_] at hK ⊢
                  go_simp
                  exact hK _ _ (Ext.refl _) (fun h => by simpa [updY] using hj (by omega)) rfl
                refine ⟨fun y w' k hS hj hk hF K hK => ?_, ?_⟩
                · skip -- 2: move
                  simp only [fillL, cond_true, cond_false, List.getD_cons_zero, List.getD_cons_succ, StP.is, Act.put, List.setIfInBounds_toArray, List.set_cons_zero, List.set_cons_succ, Nat.reduceAdd, MStP.is, Option.isSome_some, Option.isSome_none] at hK ⊢
                  simp only [List.sum_cons, List.sum_nil, List.getD_cons_zero, List.getD_cons_succ, Nat.reduceAdd, Nat.add_zero] at hk
                  refine rg_yes (by kernel_rfl) ?_
                  have hSb := Own.ext_at hS rfl
                  have hYw := HY9.out.below hSb
                  clear hF
                  go_simp
                  exact hK _ _ (Ext.refl _) (fun h => by simpa [updY] using hj (by omega)) rfl
                refine ⟨fun y w' k hS hj hk hF K hK => ?_, ?_⟩
                · skip -- 3: slice
                  have e60 : y 60 = _ := hF.1
                  have e61 : y 61 = _ := hF.2.1
                  have e60' := Lib.hid e60
                  have e61' := Lib.hid e61
                  simp only [fillL, cond_true, cond_false, List.getD_cons_zero, List.getD_cons_succ, StP.is, Act.put, List.setIfInBounds_toArray, List.set_cons_zero, List.set_cons_succ, Nat.reduceAdd, e60, e61, MStP.is, Option.isSome_some, Option.isSome_none] at hK ⊢
                  simp only [List.sum_cons, List.sum_nil, List.getD_cons_zero, List.getD_cons_succ, Nat.reduceAdd, Nat.add_zero] at hk
                  refine rg_yes (by kernel_rfl) ?_
                  have hSb := Own.ext_at hS rfl
                  have hYw := HY9.out.below hSb
                  clear e60 e61
                  clear hF
                  go_simp
                  exact hK _ _ (Ext.refl _) (fun h => by simpa [updY] using hj (by omega)) rfl
                refine ⟨fun y w' k hS hj hk hF K hK => ?_, ?_⟩
                · skip -- 4: call
                  obtain ⟨Xe59, e59⟩ := hF.1
                  have e62 : y 62 = _ := hF.2.1
                  have e59' := Lib.hid e59
                  have e62' := Lib.hid e62
                  simp only [fillL, cond_true, cond_false, List.getD_cons_zero, List.getD_cons_succ, StP.is, Act.put, List.setIfInBounds_toArray, List.set_cons_zero, List.set_cons_succ, Nat.reduceAdd, e59, e62, MStP.is, Option.isSome_some, Option.isSome_none] at hK ⊢
                  simp only [List.sum_cons, List.sum_nil, List.getD_cons_zero, List.getD_cons_succ, Nat.reduceAdd, Nat.add_zero] at hk
                  refine rg_yes (by kernel_rfl) ?_
                  have hSb := Own.ext_at hS rfl
                  have hYw := HY9.out.below hSb
                  clear e59 e62
                  clear hF
                  have hI : RowAt w' (some ⟨g, 0, none⟩) (bb * 8) ((ys.take bb).flatMap rcL) := by
                    refine ⟨by rw [rcL_len, List.length_take]; omega, fun hp => ?_⟩
                    obtain ⟨g2, hg2, hrow⟩ := hYw.row (by omega)
                    injection hg2 with hg2; injection hg2 with hg2 _; subst hg2
                    refine ⟨g, 0, rfl, fun j hj => ?_⟩
                    rw [Nat.zero_add, hrow j (by omega), rcL_take, List.getElem?_take, if_pos (by omega)]
                  refine wp_append_row (.tmp 59) (.tmp 62) 46 rfl 31 i0 (.agg #[.int .i64 0, .int .i64 0, .int .i64 0, .int .i64 0, .int .i64 0, .int .i64 0, .int .i64 0, .int .i64 0]) 8 64 Tryz.underlying46 hi0 hz0 hz1 hz2 rfl (by decide) [] _ (some ⟨g, 0, none⟩) 0 _ bb c1 [] ((ys.take bb).flatMap rcL) rfl rfl (OwnA.nil _) hI (rcL_one _) (by unfold maxLen; omega) (by omega) ?_
                  intro A' c' S' w'' hO' hS' hC'
                  exact hK _ _ (fun hB => hC'.below (fun g _ hg => by simp at hg) hB) (fun h => by simpa [updY] using hj (by omega)) ⟨A', c', S', by rw [Nat.zero_add], by simpa using hO', fun g hg => (hS' g hg).elim (fun h => by simp at h) (fun h => Nat.le_trans hSb.size h)⟩
                refine ⟨fun y w' k hS hj hk hF K hK => ?_, ?_⟩
                · skip -- 5: move
                  simp only [fillL, cond_true, cond_false, List.getD_cons_zero, List.getD_cons_succ, StP.is, Act.put, List.setIfInBounds_toArray, List.set_cons_zero, List.set_cons_succ, Nat.reduceAdd, MStP.is, Option.isSome_some, Option.isSome_none] at hK ⊢
                  simp only [List.sum_cons, List.sum_nil, List.getD_cons_zero, List.getD_cons_succ, Nat.reduceAdd, Nat.add_zero] at hk
                  refine rg_yes (by kernel_rfl) ?_
                  have hSb := Own.ext_at hS rfl
                  have hYw := HY9.out.below hSb
                  clear hF
                  have e3_ : y 3 = _ := hj (by omega)
                  simp only [e3_] at hK ⊢
                  go_simp
                  exact hK _ _ (Ext.refl _) (fun h => by simpa [updY] using hj (by omega)) rfl
                refine ⟨fun y w' k hS hj hk hF K hK => ?_, ?_⟩
                · skip -- 6: move
                  simp only [fillL, cond_true, cond_false, List.getD_cons_zero, List.getD_cons_succ, StP.is, Act.put, List.setIfInBounds_toArray, List.set_cons_zero, List.set_cons_succ, Nat.reduceAdd, MStP.is, Option.isSome_some, Option.isSome_none] at hK ⊢
                  simp only [List.sum_cons, List.sum_nil, List.getD_cons_zero, List.getD_cons_succ, Nat.reduceAdd, Nat.add_zero] at hk
                  refine rg_yes (by kernel_rfl) ?_
                  have hSb := Own.ext_at hS rfl
                  have hYw := HY9.out.below hSb
                  clear hF
                  go_simp
                  exact hK _ _ (Ext.refl _) (fun h => by simpa [updY] using hj (by omega)) rfl
                refine ⟨fun y w' k hS hj hk hF K hK => ?_, ?_⟩
                · skip -- 7: binOp
                  have e65 : y 65 = _ := hF.1
                  have e65' := Lib.hid e65
                  simp only [fillL, cond_true, cond_false, List.getD_cons_zero, List.getD_cons_succ, StP.is, Act.put, List.setIfInBounds_toArray, List.set_cons_zero, List.set_cons_succ, Nat.reduceAdd, e65, MStP.is, Option.isSome_some, Option.isSome_none] at hK ⊢
                  simp only [List.sum_cons, List.sum_nil, List.getD_cons_zero, List.getD_cons_succ, Nat.reduceAdd, Nat.add_zero] at hk
                  refine rg_yes (by kernel_rfl) ?_
                  have hSb := Own.ext_at hS rfl
                  have hYw := HY9.out.below hSb
                  clear e65
                  clear hF
                  go_simp
                  exact hK _ _ (Ext.refl _) (fun h => by simpa [updY] using hj (by omega)) rfl
                refine ⟨fun y w' k hS hj hk hF K hK => ?_, ?_⟩
                · skip -- 8: slice
                  have e64 : y 64 = _ := hF.1
                  have e66 : y 66 = _ := hF.2.1
                  have e64' := Lib.hid e64
                  have e66' := Lib.hid e66
                  simp only [fillL, cond_true, cond_false, List.getD_cons_zero, List.getD_cons_succ, StP.is, Act.put, List.setIfInBounds_toArray, List.set_cons_zero, List.set_cons_succ, Nat.reduceAdd, e64, e66, MStP.is, Option.isSome_some, Option.isSome_none] at hK ⊢
                  simp only [List.sum_cons, List.sum_nil, List.getD_cons_zero, List.getD_cons_succ, Nat.reduceAdd, Nat.add_zero] at hk
                  refine rg_yes (by kernel_rfl) ?_
                  have hSb := Own.ext_at hS rfl
                  have hYw := HY9.out.below hSb
                  clear e64 e66
                  clear hF
                  go_simp
                  exact hK _ _ (Ext.refl _) (fun h => by simpa [updY] using hj (by omega)) rfl
                refine ⟨fun y w' k hS hj hk hF K hK => ?_, ?_⟩
                · skip -- 9: call
                  obtain ⟨Ae63, ce63, Se63, e63, oe63, ge63⟩ := hF.1
                  have e67 : y 67 = _ := hF.2.1
                  have e63' := Lib.hid e63
                  have e67' := Lib.hid e67
                  simp only [fillL, cond_true, cond_false, List.getD_cons_zero, List.getD_cons_succ, StP.is, Act.put, List.setIfInBounds_toArray, List.set_cons_zero, List.set_cons_succ, Nat.reduceAdd, e63, e67, MStP.is, Option.isSome_some, Option.isSome_none] at hK ⊢
                  simp only [List.sum_cons, List.sum_nil, List.getD_cons_zero, List.getD_cons_succ, Nat.reduceAdd, Nat.add_zero] at hk
                  refine rg_yes (by kernel_rfl) ?_
                  have hSb := Own.ext_at hS rfl
                  have hYw := HY9.out.below hSb
                  clear e63 e67
                  clear hF
                  have hI : RowAt w' (if c1 = bb + 1 then some ⟨g, 0, none⟩ else some ⟨g, (bb + 1) * 8, none⟩) ((ys.length - (bb + 1)) * 8) ((ys.drop (bb + 1)).flatMap rcL) := by
                    refine ⟨by rw [rcL_len, List.length_drop], fun hp => ?_⟩
                    obtain ⟨g2, hg2, hrow⟩ := hYw.row (by omega)
                    injection hg2 with hg2; injection hg2 with hg2 _; subst hg2
                    refine ⟨g, (bb + 1) * 8, if_neg (by omega), fun j hj => ?_⟩
                    rw [hrow _ (by omega), rcL_drop, List.getElem?_drop]
                  refine wp_append_row (.tmp 63) (.tmp 67) 46 rfl 31 i0 (.agg #[.int .i64 0, .int .i64 0, .int .i64 0, .int .i64 0, .int .i64 0, .int .i64 0, .int .i64 0, .int .i64 0]) 8 64 Tryz.underlying46 hi0 hz0 hz1 hz2 rfl (by decide) Se63 Ae63 (if c1 = bb + 1 then some ⟨g, 0, none⟩ else some ⟨g, (bb + 1) * 8, none⟩) bb ce63 (ys.length - (bb + 1)) (c1 - (bb + 1)) ((ys.take bb).flatMap rcL) ((ys.drop (bb + 1)).flatMap rcL) rfl rfl oe63 hI (rcL_one _) (by unfold maxLen; omega) (by omega) ?_
                  intro A' c' S' w'' hO' hS' hC'
                  exact hK _ _ (fun hB => hC'.below (fun g _ hg => ge63 g hg) hB) (fun h => by simpa [updY] using hj (by omega)) ⟨A', c', S', rfl, by rw [List.flatMap_append]; exact hO', fun g hg => (hS' g hg).elim (ge63 g) (fun h => Nat.le_trans hSb.size h)⟩
                refine ⟨fun y w' k hS hj hk hF K hK => ?_, ?_⟩
                · skip -- 10: assign
                  obtain ⟨Ae68, ce68, Se68, e68, oe68, ge68⟩ := hF.1
                  have e68' := Lib.hid e68
                  simp only [fillL, cond_true, cond_false, List.getD_cons_zero, List.getD_cons_succ, StP.is, Act.put, List.setIfInBounds_toArray, List.set_cons_zero, List.set_cons_succ, Nat.reduceAdd, e68, MStP.is, Option.isSome_some, Option.isSome_none] at hK ⊢
                  simp only [List.sum_cons, List.sum_nil, List.getD_cons_zero, List.getD_cons_succ, Nat.reduceAdd, Nat.add_zero] at hk
                  refine rg_yes (by kernel_rfl) ?_
                  have hSb := Own.ext_at hS rfl
                  have hYw := HY9.out.below hSb
                  clear e68
                  clear hF
                  go_simp
                  exact hK _ _ (Ext.refl _) (fun h => absurd h (by omega)) ⟨_, _, _, rfl, oe68, ge68⟩
                trivial
              case hH => rfl
              case hNS => exact Own.of_ext _
              case hSt => exact fun a b => Own.trans a b
              case hb => rfl
              case hdrew => exact Own.drew _ _
              case hj0 => exact fun _ => rfl
              case hend =>
                intro y_ w10 hS _ hF
                obtain ⟨A4, c4, S4, e3, hO4, hG4⟩ := hF.1
                clear hF
                simp only [fillL, cond_true, cond_false, Nat.reduceAdd, e3]
                clear e3
                have hSb := Own.ext_at hS rfl
                have HZ10 := Lib.hid (HZ9.out.below hSb)
                have HB10 : Hid (Below w.heap.size w w10) := Lib.hid (HB9.out.trans (hSb.mono HB9.out.size))
                have hl4' : (ys.take bb ++ ys.drop (bb + 1)).length = bb + (ys.length - (bb + 1)) := by rw [List.length_append, List.length_take, List.length_drop]; omega
                have HY10 : Hid (RootsAt (w.heap.size + 1) A4 c4 S4 (ys.take bb ++ ys.drop (bb + 1)) w10) := Lib.hid ⟨by unfold RootsAt at *; rw [hl4']; exact hO4, fun g hg => Nat.le_trans z9 (hG4 g hg)⟩
                have HD10 : Hid (∀ g ∈ S4, g ∉ S3) := Lib.hid (fun g hg h => by have := hG4 g hg; have := HS3.out g h; omega)
                have hl4 : (ys.take bb ++ ys.drop (bb + 1)).length = ys.length - 1 := by rw [List.length_append, List.length_take, List.length_drop]; omega
                clear hS hSb hO4 hG4
                go_wp2_with fail
                go_roundw
                case rel => exact ⟨A4, A3, c4, c3, S4, S3, ys.take bb ++ ys.drop (bb + 1), zs ++ [(vt, (va, vb, vs, vm, vl), vd, vy)], by rw [hl4'], by simp, by omega, by simp; omega, HY10, HZ10, HD10, HSI2, HB10⟩
                case measure => rw [sliceLen_eq, sliceLen_eq]; omega
        · have hy0 : ys.length = 0 := by omega
          obtain rfl : ys = [] := List.eq_nil_of_length_eq_zero hy0
          have n0' : ¬ (0 : Int) < (([] : List RootD).length : Int) := by simp
          have HF : Hid (RootsAre x zs) := Lib.hid (by
            unfold RootsAre
            rw [← HOK.out, if_pos rfl]
            exact ⟨by have := HSI.out.perm; simpa using this, HSI.out.desc⟩)
          simp only [List.length_nil] at n0' ⊢
          go_wp2_with fail
          go_ret
          exact ⟨A2, c2, S2, zs, rfl, HF.out, ⟨HA2.out.1, fun g hg => by have := HA2.out.2 g hg; omega⟩, HB.out⟩
end Go.Proofs.YtcfgbeajdkbbcaaGreatDoor
