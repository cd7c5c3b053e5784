/- each of the program: the disks, each as a function makes it. No condition on the memory; at most 3 disks. -/
import Derived.Test.YtfokpjoeankobaaRaidN
import Derived.Test.YtfokpjoeankobaaLib
namespace Go.Proofs.Ytfokpjoeankobaa
set_option linter.unusedSimpArgs false
set_option linter.unnecessarySimpa false
open Go.RowKit
set_option linter.unusedVariables false
def allG (G : Nat → DiskD → Bool) (xs : RaidD) : Bool := (xs.mapIdx G).all id
def eachD (F : Nat → DiskD → DiskD) (G : Nat → DiskD → Bool) (xs : RaidD) : RaidD := if allG G xs = true then xs.mapIdx F else []
theorem allG_no {G : Nat → DiskD → Bool} {xs : RaidD} {k : Nat} {x : DiskD} (hx : xs[k]? = some x) (h : G k x = false) : allG G xs = false := by
  unfold allG
  rw [List.all_eq_false]
  exact ⟨false, List.mem_of_getElem? (i := k) (by rw [List.getElem?_mapIdx, hx]; simp [h]), by simp⟩
theorem allG_yes {G : Nat → DiskD → Bool} {xs : RaidD} {n : Nat} (hn : xs.length = n) (h : ∀ j x, j < n → xs[j]? = some x → G j x = true) : allG G xs = true := by
  unfold allG
  rw [List.all_eq_true]
  intro b hb
  obtain ⟨j, hj⟩ := List.mem_iff_getElem?.1 hb
  rw [List.getElem?_mapIdx] at hj
  cases hx : xs[j]? with
  | none => rw [hx] at hj; cases hj
  | some x =>
    rw [hx] at hj
    have e : G j x = b := by simpa using hj
    have hl := (List.getElem?_eq_some_iff.1 hx).1
    have := h j x (by omega) hx
    rw [← e]; simpa using this
theorem allG_step {G : Nat → DiskD → Bool} {xs : RaidD} {k : Nat} {x : DiskD} (hp : ∀ j y, j < k → xs[j]? = some y → G j y = true) (hx : xs[k]? = some x) (h : G k x = true) : ∀ j y, j < k + 1 → xs[j]? = some y → G j y = true := by
  intro j y hj hy
  rcases Nat.lt_or_ge j k with h1 | h1
  · exact hp j y h1 hy
  · obtain rfl : j = k := by omega
    rw [hx] at hy; obtain rfl := Option.some.inj hy; exact h
theorem RowV.imp {α : Type} {P Q : List Value → α → Prop} {sz : Nat} {vs : List Value} {xs : List α} (h : RowV P sz vs xs) (hPQ : ∀ cs x, P cs x → Q cs x) : RowV Q sz vs xs :=
  fun j x hx => (h j x hx).imp fun cs h => ⟨h.1, h.2.1, hPQ _ _ h.2.2⟩
/-- What each has made of the first k disks. -/
def EachI (F : Nat → DiskD → DiskD) (xs : RaidD) (w wr : World) (B k : Nat) (A : Option Addr) (c : Nat) : Prop :=
  ∃ S vs o, OwnA wr 45 3 S A k c vs ∧ vs.length = k * 3 ∧ (∀ g ∈ S, B ≤ g) ∧ RowV (DiskO o wr B wr.heap.size) 3 vs ((xs.mapIdx F).take k).zipIdx ∧ (∀ u ∈ vs, u.oneCell' = true)
theorem EachI.zero {F : Nat → DiskD → DiskD} {xs : RaidD} {w wr : World} {B : Nat} {X : Option Addr} : EachI F xs w wr B 0 X 0 :=
  ⟨[], [], fun _ => 0, OwnA.nil _, rfl, by simp, by simpa using RowV.nil _ _, by simp⟩
theorem DiskN.one {w : World} {lo hi : Nat} {cs : List Value} {x : DiskD} (h : DiskN w lo hi cs x) : ∀ u ∈ cs, u.oneCell' = true := by
  obtain ⟨A0, n0, c0, A1, n1, c1, rfl, _⟩ := h
  intro u hu; simp at hu; rcases hu with rfl | rfl | rfl <;> rfl
theorem DiskN.len {w : World} {lo hi : Nat} {cs : List Value} {x : DiskD} (h : DiskN w lo hi cs x) : cs.length = 3 := DiskR.len h.r
theorem EachI.far {F : Nat → DiskD → DiskD} {xs : RaidD} {w wr : World} {B k c b o : Nat} {A : Option Addr} {v : Value} (h : EachI F xs w wr B k A c) (hb : b < B) : EachI F xs w (wr.setCell ⟨b, o, none⟩ v) B k A c := by
  obtain ⟨S, vs, o', hO, hvl, hS, hrow, hone⟩ := h
  refine ⟨S, vs, o', hO.keep (fun g hg => heap_far (by have := hS g hg; simp; omega)), hvl, hS, hrow.imp (fun cs p h => ?_), hone⟩
  have h1 := DiskO.keep (Same.setCell (p := ⟨b, o, none⟩) (Same.refl _ _ _) (.inl hb) v) (by simp [World.setCell]) cs p h
  simpa [World.setCell] using h1
theorem EachI.below {F : Nat → DiskD → DiskD} {xs : RaidD} {w wr w' : World} {B k c : Nat} {A : Option Addr} (h : EachI F xs w wr B k A c) (hb : Below wr.heap.size wr w') : EachI F xs w w' B k A c := by
  obtain ⟨S, vs, o', hO, hvl, hS, hrow, hone⟩ := h
  refine ⟨S, vs, o', hO.below hb, hvl, hS, hrow.imp (fun cs p h => ?_), hone⟩
  exact DiskO.wide (Nat.le_refl _) hb.size (Nat.le_refl _) cs p (DiskO.below hb (Nat.le_refl _) cs p h)
/-- A step of each: the new disk is laid behind the others. -/
theorem EachI.step {F : Nat → DiskD → DiskD} {xs : RaidD} {w wr w2 w8 w9 : World} {B k c c' : Nat} {A A' : Option Addr} {x : DiskD} {S S' : List Nat} {vs cs2 : List Value} {o : Nat → Nat} (hx : xs[k]? = some x)
    (hv : vs.length = k * 3) (hrow : RowV (DiskO o wr B wr.heap.size) 3 vs ((xs.mapIdx F).take k).zipIdx) (hone : ∀ u ∈ vs, u.oneCell' = true) (hS : ∀ g ∈ S, B ≤ g) (hb2 : Below wr.heap.size wr w2) (hN : DiskN w2 wr.heap.size w2.heap.size cs2 (F k x)) (hB : B ≤ wr.heap.size)
    (e8 : Below w2.heap.size w2 w8) (hO8 : OwnA w8 45 3 S A k c vs) (hO : OwnA w9 45 3 S' A' (k + 1) c' (vs ++ cs2)) (hS' : ∀ g ∈ S', g ∈ S ∨ wr.heap.size ≤ g) (hC : Chg (· ∈ S) w8 w9) : EachI F xs w w9 B (k + 1) A' c' := by
  have hbw : Below wr.heap.size wr w8 := hb2.trans (e8.mono hb2.size)
  have hz8 := e8.size; have hz2 := hb2.size; have hz9 := hC.size
  have hT : ∀ i, i < w8.heap.size → (∀ cur, w8.heap[i]? ≠ some (.cells cur 45 (0, 0))) → w9.heap[i]? = w8.heap[i]? := by
    intro i hi hn
    refine hC.block i hi (fun hm => ?_)
    rcases hO8.1 with ⟨rfl, _⟩ | ⟨g, cur, rfl, _, _, _, _, hg, _⟩
    · simp at hm
    · simp at hm; subst hm; exact hn _ hg
  have hl : ((xs.mapIdx F).take k).length = k := by
    have := (List.getElem?_eq_some_iff.1 hx).1
    simp; omega
  refine ⟨S', vs ++ cs2, fun b => if b < wr.heap.size then o b else k, hO, by rw [List.length_append, hv, hN.len]; omega, fun g hg => (hS' g hg).elim (hS g) (fun h => by omega), ?_, fun u hu => (List.mem_append.1 hu).elim (hone u) (hN.one u)⟩
  have ht : (xs.mapIdx F).take (k + 1) = (xs.mapIdx F).take k ++ [F k x] := by
    rw [List.take_succ_eq_append_getElem (by have := (List.getElem?_eq_some_iff.1 hx).1; simpa using this)]
    have := (List.getElem?_eq_some_iff.1 hx).2
    simp [this]
  rw [ht, List.zipIdx_append, hl]
  refine RowV.append (hrow.imp fun cs p h => ?_) ?_ (by simp only [List.length_zipIdx]; rw [hl, hv])
  · have h1 := DiskO.relabel (o' := fun b => if b < wr.heap.size then o b else k) h (fun b h1 h2 => if_pos h2)
    have h2 := DiskO.below hbw (Nat.le_refl _) _ _ h1
    have h3 := DiskO.keepT (w' := w9) (by omega) hT _ _ h2
    exact DiskO.wide (Nat.le_refl _) (by omega) (Nat.le_refl _) _ _ h3
  · rw [show (0 + k) = k by omega]
    refine RowV.one hN.len ?_
    have h1 := DiskN.below e8 (Nat.le_refl _) _ _ hN
    have h3 := DiskN.keepT (w' := w9) (by omega) hT _ _ h1
    exact DiskO.wide hB (by omega) (Nat.le_refl _) _ _ (DiskO.of h3 (fun b h1 h2 => if_neg (by omega)))
set_option maxRecDepth 100000 in
set_option maxHeartbeats 4000000 in
theorem eachClone_any  (A : Option Addr) (n c : Nat) (xs : RaidD) (F : Nat → DiskD → DiskD) (G : Nat → DiskD → Bool) (w : World) (lo hi : Nat) (h : SliceR DiskR 3 w lo hi A n c xs) (hn : n ≤ 3)
    (hfv : ∀ (i : Nat) (x : DiskD) (cs : List Value) (w' : World) (lo' hi' : Nat), Below w.heap.size w w' → xs[i]? = some x → DiskR w' lo' hi' cs x → Calls Try.prog 51 #[.int .i64 (i : Int), .agg cs.toArray] w' (NewR2 DiskN w' (F i x) (G i x))) :
    Calls Try.prog 50 #[.agg #[.slice A n c], .func (.func 51) #[] #[]] w (NewR2 RaidN w (eachD F G xs) (allG G xs)) := by
  have HL := Lib.hid h.len
  have H := Lib.hid h; have HFV := Lib.hid hfv
  obtain ⟨rd, hrd⟩ : ∃ d, d = eachD F G xs := ⟨_, rfl⟩
  obtain ⟨rb, hrb⟩ : ∃ d, d = allG G xs := ⟨_, rfl⟩
  rw [← hrd, ← hrb]
  have HRD := Lib.hid hrd; have HRB := Lib.hid hrb
  clear h hfv hrd hrb
  obtain ⟨iD, hiD, hz0D, hz1D, hz2D⟩ := info_parts info_DiskS
  go_enter Try.func50, Try.ntmps50
  go_wp2_with fail
  obtain ⟨w1, hW⟩ : ∃ w1, w1 = ((w.alloc (.cells #[.slice A n c] 35)).alloc (.cells #[.slice none 0 0] 35)).alloc (.cells #[.slice none 0 0] 35) := ⟨_, rfl⟩
  have X1 : Below w.heap.size w w1 := by rw [hW]; exact bel3
  have z1 : w1.heap.size = w.heap.size + 3 := by rw [hW]; simp
  have k1 : w1.heap[w.heap.size + 1]? = some (.cells #[.slice none 0 0] 35 (0, 0)) := by rw [hW]; exact al3_1
  have k2 : w1.heap[w.heap.size + 2]? = some (.cells #[.slice none 0 0] 35 (0, 0)) := by rw [hW]; exact al3_2
  rw [← hW]; clear hW
  have HX1 := Lib.hid X1; have K1 := Lib.hid k1; have K2 := Lib.hid k2
  clear X1 k1 k2
  go_loopw [14] (fun i wr => ∃ (k : Nat) (A' : Option Addr) (c' : Nat), k ≤ n ∧ i = .int .i64 (k : Int) ∧ w.heap.size + 3 ≤ wr.heap.size ∧ Hid (Below w.heap.size w wr) ∧ Hid (wr.heap[w.heap.size + 1]? = some (.cells #[.slice none 0 0] 35 (0, 0))) ∧ Hid (wr.heap[w.heap.size + 2]? = some (.cells #[.slice A' k c'] 35 (0, 0))) ∧ Hid (EachI F xs w wr (w.heap.size + 3) k A' c') ∧ Hid (∀ j x, j < k → xs[j]? = some x → G j x = true)) (fun i _ => n - (intOf i).toNat)
  case atStart => exact ⟨0, none, 0, Nat.zero_le _, rfl, by omega, HX1, K1, K2, Lib.hid EachI.zero, Lib.hid (fun j x hj => absurd hj (by omega))⟩
  case round =>
    clear HX1 K1 K2 z1
    obtain ⟨k, A', c', hk, rfl, hz, HB, R1, R2, HI, HG⟩ := hrel
    by_cases hlt : k < n
    · obtain ⟨x, hx⟩ : ∃ x, xs[k]? = some x := ⟨xs[k]'(by rw [HL.out]; exact hlt), List.getElem?_eq_getElem _⟩
      obtain ⟨b, off, rfl, _, _, bl, hc⟩ := (SliceR.below H.out HB.out (DiskR.below HB.out H.out.lo_le)).at_ (by omega)
      obtain ⟨cs, hcl, hcc, hr⟩ := hc k x hx
      clear hc
      have HR := Lib.hid hr
      have hhi : hi ≤ wr.heap.size := Nat.le_trans H.out.lo_le HB.out.size
      obtain ⟨gone, hgone⟩ : ∃ g, g = x.2.2 := ⟨_, rfl⟩
      obtain ⟨A0, n0, c0, A1, n1, c1, rfl, h0, h1⟩ := hr
      rw [← hgone] at HR hcc
      have q0 := hcc 0 _ rfl
      have q1 := hcc 1 _ rfl
      have q2 := hcc 2 _ rfl
      simp only [Nat.add_zero] at q0
      clear hcc hcl h0 h1 hgone
      have HX := Lib.hid hx; clear hx
      have k0 : (0 : Int) ≤ (k : Int) := by omega
      have k1 : (k : Int) < (n : Int) := by omega
      go_wp2_with fail
      refine (HFV.out k x _ _ _ _ (HB.out.trans (Below.mono bel1 HB.out.size)) HX.out (DiskR.below bel1 hhi _ _ HR.out)).mono ?_
      obtain ⟨fd, hfd⟩ : ∃ d, d = F k x := ⟨_, rfl⟩
      obtain ⟨gb, hgb⟩ : ∃ d, d = G k x := ⟨_, rfl⟩
      rw [← hfd, ← hgb]
      have HFD := Lib.hid hfd; have HGB := Lib.hid hgb
      clear hfd hgb
      rintro e w2 ⟨cs2, rfl, hN, hb2⟩
      have hb2' : Below wr.heap.size wr w2 := bel1.trans (hb2.mono (by simp))
      have z2 : wr.heap.size + 1 ≤ w2.heap.size := by have := hb2.size; simpa using this
      have hN' : DiskN w2 wr.heap.size w2.heap.size cs2 fd := DiskN.wide (by simp) (Nat.le_refl _) (Nat.le_refl _) _ _ hN
      have HN := Lib.hid hN'; have HB2 := Lib.hid hb2'
      have HBW : Hid (Below w.heap.size w w2) := Lib.hid (HB.out.trans (hb2'.mono HB.out.size))
      have r1 := (hb2'.block (w.heap.size + 1) (by omega)).trans R1.out
      have r2 := (hb2'.block (w.heap.size + 2) (by omega)).trans R2.out
      obtain ⟨B0, m0, d0, B1, m1, d1, rfl, -⟩ := hN
      have HR1 := Lib.hid r1; have HR2 := Lib.hid r2
      clear hb2 hb2' hN' q0 q1 q2 r1 r2
      cases gb
      · have HF1 := Lib.hid (show rb = false by rw [HRB.out]; exact allG_no HX.out HGB.out.symm)
        have HF2 := Lib.hid (show rd = [] by rw [HRD.out]; unfold eachD; rw [← HRB.out, HF1.out]; rfl)
        have s0 := cell_of_row _ _ 0 _ _ (0, 0) HR1.out
        have f0 := block_free HR1.out 0
        have l0 : w.heap.size + 1 < w2.heap.size := by omega
        go_wp2_with fail
        refine bodyPost_ret (v := .tuple #[.agg #[.slice none 0 0], .bool false]) (by simp [results, Try.results50, go_sem, *]) rfl ⟨_, by rw [HF1.out], by rw [HF2.out]; exact noRaid none (Nat.le_refl _), ?_⟩
        repeat (first | exact HBW.out | refine Below.setCell ?_ (by simp <;> omega) _ | refine Below.alloc ?_ (by have := HBW.out.size; simp <;> omega) _)
      · have s0 := cell_of_row _ _ 0 _ _ (0, 0) HR2.out
        have f0 := block_free HR2.out 0
        have l0 : w.heap.size + 2 < w2.heap.size := by omega
        obtain ⟨S, vs, o, hO, hvl, hS, hrow, hone⟩ := HI.out
        obtain ⟨w8, hw8⟩ : ∃ w8, w8 = (w2.alloc (.cells #[.slice B0 m0 d0, .slice B1 m1 d1, .bool fd.2.2] 45)).alloc (.cells #[.slice B0 m0 d0, .slice B1 m1 d1, .bool fd.2.2] 45) := ⟨_, rfl⟩
        have e8 : Below w2.heap.size w2 w8 := by rw [hw8]; exact bel2
        have z8 : w8.heap.size = w2.heap.size + 2 := by rw [hw8]; simp
        have HOA : Hid (OwnA w8 45 3 S A' k c' vs) := Lib.hid (hO.below (HB2.out.trans (e8.mono HB2.out.size)))
        have HLIT : Hid (RowAt w8 (some ⟨w2.heap.size + 1, 0, none⟩) (1 * 3) [.slice B0 m0 d0, .slice B1 m1 d1, .bool fd.2.2]) := Lib.hid (by
          rw [hw8]
          have := RowAt.lit (w := w2.alloc (.cells #[.slice B0 m0 d0, .slice B1 m1 d1, .bool fd.2.2] 45)) (e := 45) (cur := #[.slice B0 m0 d0, .slice B1 m1 d1, .bool fd.2.2]) (m := 3) rfl
          simpa using this)
        have HONE : Hid (∀ u ∈ [Value.slice B0 m0 d0, .slice B1 m1 d1, .bool fd.2.2], u.oneCell' = true) := Lib.hid (HN.out.one)
        have HW8 := Lib.hid hw8; have E8 := Lib.hid e8
        have HV := Lib.hid hvl; have HS := Lib.hid hS; have HROW := Lib.hid hrow; have HON := Lib.hid hone
        clear hw8 e8 hO hvl hS hrow hone
        go_wp2_with (at_builtin; rw [← HW8.out]; go_must (refine wpList_append_row rfl _ _ 33 rfl 45 iD (.agg #[.slice none 0 0, .slice none 0 0, .bool false]) 3 56 Try.underlying33 hiD hz0D hz1D hz2D rfl (by decide) S A' (some ⟨w2.heap.size + 1, 0, none⟩) k c' 1 _ vs [.slice B0 m0 d0, .slice B1 m1 d1, .bool fd.2.2] rfl rfl HOA.out HLIT.out HONE.out (by unfold maxLen; omega) (by omega) ?_))
        intro A2 c2 S2 w9 hO2 hS2 hC2
        have HI9 : Hid (EachI F xs w w9 (w.heap.size + 3) (k + 1) A2 c2) := Lib.hid (EachI.step HX.out HV.out HROW.out HON.out HS.out HB2.out (by rw [← HFD.out]; exact HN.out) hz E8.out HOA.out hO2 (fun g hg => (hS2 g hg).imp id (fun h => by omega)) hC2)
        have z9 := hC2.size
        have hns : ∀ b, b < w.heap.size + 3 → ¬ b ∈ S := fun b hb hbs => by have := HS.out b hbs; omega
        have HB8 : Hid (Below w.heap.size w w8) := Lib.hid (HBW.out.trans (E8.out.mono HBW.out.size))
        have HB9 : Hid (Below w.heap.size w w9) := Lib.hid (HB8.out.trans (hC2.below (B := w.heap.size) (fun b _ hb => by have := HS.out b hb; omega) (by omega)))
        have R19 : Hid (w9.heap[w.heap.size + 1]? = _) := Lib.hid ((hC2.block _ (by omega) (hns _ (by omega))).trans ((E8.out.block _ (by omega)).trans HR1.out))
        have R29 : Hid (w9.heap[w.heap.size + 2]? = _) := Lib.hid ((hC2.block _ (by omega) (hns _ (by omega))).trans ((E8.out.block _ (by omega)).trans HR2.out))
        have HG9 := Lib.hid (allG_step HG.out HX.out HGB.out.symm)
        have t0 := cell_of_row _ _ 0 _ _ (0, 0) R29.out
        have g0 := block_free R29.out 0
        have lz : w.heap.size + 2 < w9.heap.size := by omega
        clear hO2 hS2 hC2 hns HOA HLIT HONE s0 f0
        go_wp2_with fail
        go_roundw
        case rel =>
          refine ⟨k + 1, A2, c2, by omega, by go_num, by simp [World.setCell]; omega, Lib.hid (Below.setCell (p := ⟨w.heap.size + 2, 0, none⟩) HB9.out (by simp) _), Lib.hid ((heap_far (by simp)).trans R19.out), Lib.hid (block_set R29.out), Lib.hid ?_, HG9⟩
          obtain ⟨S, vs, o, hO, hvl, hS, hrow, hone⟩ := HI9.out
          refine ⟨S, vs, o, hO.keep (fun g hg => heap_far (by have := hS g hg; simp; omega)), hvl, hS, hrow.imp (fun cs p h => ?_), hone⟩
          have h1 := DiskO.keep (Same.setCell (p := ⟨w.heap.size + 2, 0, none⟩) (Same.refl _ _ _) (.inl (by simp)) (.slice A2 (k + 1) c2)) (by simp [World.setCell]) cs p h
          simpa [World.setCell] using h1
        case measure => simp [intOf]; omega
    · obtain rfl : k = n := by omega
      have HF1 := Lib.hid (show rb = true by rw [HRB.out]; exact allG_yes HL.out HG.out)
      have HF2 := Lib.hid (show rd = xs.mapIdx F by rw [HRD.out]; unfold eachD; rw [← HRB.out, HF1.out]; rfl)
      have s0 := cell_of_row _ _ 0 _ _ (0, 0) R1.out
      have f0 := block_free R1.out 0
      have s1 := cell_of_row _ _ 0 _ _ (0, 0) R2.out
      have l0 : w.heap.size + 1 < wr.heap.size := by omega
      have l1 : w.heap.size + 2 < wr.heap.size := by omega
      have t0 := cell_of_row _ _ 0 _ _ (0, 0) (block_set (o := 0) (v := .slice A' k c') R1.out)
      go_wp2_with fail
      refine bodyPost_ret (v := .tuple #[.agg #[.slice A' k c'], .bool true]) (by simp [results, Try.results50, go_sem, t0]) rfl ⟨_, by rw [HF1.out], ?_, Below.setCell (p := ⟨w.heap.size + 1, 0, none⟩) HB.out (by simp) _⟩
      rw [HF2.out]
      obtain ⟨S, vs, o, hO, hvl, hS, hrow, hone⟩ := HI.out
      rw [List.take_of_length_le (by simp; exact Nat.le_of_eq HL.out)] at hrow
      have hsl := OwnA.slice (R := DiskO o) (lo := w.heap.size + 3) (hi := wr.heap.size) hO (by simpa using HL.out) hrow (fun g hg => ⟨hS g hg, hO.lt g hg⟩) (Nat.le_refl _)
      have hR : RaidN wr (w.heap.size + 3) wr.heap.size [.slice A' k c'] (xs.mapIdx F) := ⟨_, _, _, o, rfl, hsl.1, hsl.2⟩
      exact RaidN.wide (by omega) (by simp [World.setCell]) (Nat.le_refl _) _ _ (RaidN.keep (Same.setCell (p := ⟨w.heap.size + 1, 0, none⟩) (Same.refl _ _ _) (.inl (by simp)) _) (by simp [World.setCell]) _ _ hR)
end Go.Proofs.Ytfokpjoeankobaa
