/- StoreOk, the program's and the reference's. No condition. -/
import Derived.Test.YtjnhiiaejeaikaaGreatDoorRStorePlain
set_option linter.unnecessarySimpa false
set_option linter.unusedSimpArgs false
set_option linter.unusedVariables false
namespace Go.Proofs.YtjnhiiaejeaikaaGreatDoor
open Go.RowKit
def maxI (xs : List Int) : Int := xs.foldl max (xs.getD 0 0)
theorem foldl_max_le (t : Int) : ∀ (xs : List Int) (a : Int), xs.foldl max a ≤ t ↔ a ≤ t ∧ ∀ x ∈ xs, x ≤ t
 | [], a => by simp
 | y :: ys, a => by
   rw [List.foldl_cons, foldl_max_le t ys (max a y)]
   simp only [List.mem_cons, forall_eq_or_imp]
   constructor
   · rintro ⟨h1, h2⟩; exact ⟨by omega, by omega, h2⟩
   rintro ⟨h1, h2, h3⟩; exact ⟨by omega, h3⟩
theorem maxI_le {xs : List Int} (h : 0 < xs.length) (t : Int) : maxI xs ≤ t ↔ ∀ i, i < xs.length → xs.getD i 0 ≤ t := by
 unfold maxI
 rw [foldl_max_le]
 constructor
 · rintro ⟨_, h2⟩ i hi
   rw [List.getD_eq_getElem?_getD, List.getElem?_eq_getElem hi]
   exact h2 _ (List.getElem_mem hi)
 intro h2
 refine ⟨h2 0 h, fun x hx => ?_⟩
 obtain ⟨i, hi, rfl⟩ := List.mem_iff_getElem.1 hx
 have := h2 i hi
 rwa [List.getD_eq_getElem?_getD, List.getElem?_eq_getElem hi] at this
theorem maxI_step {xs : List Int} {k : Nat} (hk : k < xs.length) : (xs.take (k + 1)).foldl max (xs.getD 0 0) = max ((xs.take k).foldl max (xs.getD 0 0)) (xs.getD k 0) := by
 rw [List.take_succ_eq_append_getElem hk, List.foldl_append]
 simp [List.getD_eq_getElem?_getD, List.getElem?_eq_getElem hk]
set_option maxRecDepth 100000 in
set_option maxHeartbeats 4000000 in
theorem maxI_any (A : Option Addr) (n c : Nat) (xs : List Int) (w : World) (h : IntsAt w A n xs) (hn : 0 < n) : Calls Tryz.prog 66 #[.slice A n c] w fun e w' => e = .returned (.int .i64 (maxI xs)) ∧ w = w' := by
 have hmax := h.max
 have HL := Lib.hid h.len
 obtain ⟨b, off, rfl, hb, hc⟩ := h.at_ hn
 have HC := Lib.hid hc; clear h
 have c0 := HC.out 0 hn
 obtain ⟨x0, hx0⟩ : ∃ x, x = xs.getD 0 0 := ⟨_, rfl⟩
 rw [← hx0] at c0
 simp only [Nat.add_zero] at c0
 have n1 : ¬ (n : Int) < 1 := by omega
 have n2 : (0 : Int) < (n : Int) := by omega
 have n3 : (1 : Int) ≤ (n : Int) := by omega
 have H1 : Hid (x0 = (xs.take 1).foldl max (xs.getD 0 0)) := Lib.hid (by rw [maxI_step (by rw [HL.out]; exact hn), ← hx0]; simp)
 have HX0 := Lib.hid hx0
 clear hx0 hc
 go_enter Tryz.func66, Tryz.ntmps66
 go_wp2_with fail
 go_loopw [3, 4] (fun v i wr => ∃ (k : Nat) (m : Int), 1 ≤ k ∧ k ≤ n ∧ i = .int .i64 (k : Int) ∧ v = .int .i64 m ∧ Hid (m = (xs.take k).foldl max (xs.getD 0 0)) ∧ SameW wr w) (fun _ i _ => n - (intOf i).toNat)
 case atStart => exact ⟨1, x0, by omega, by omega, rfl, rfl, H1, SameW.refl _⟩
 obtain ⟨k, m, hk1, hk, rfl, rfl, HM, HW⟩ := hrel
 obtain rfl := HW.out
 clear HW
 by_cases hlt : k < n
 · have ck := HC.out k hlt
   obtain ⟨y, hy⟩ : ∃ y, y = xs.getD k 0 := ⟨_, rfl⟩
   rw [← hy] at ck
   have HN : Hid ((xs.take (k + 1)).foldl max (xs.getD 0 0) = max m y) := Lib.hid (by rw [maxI_step (by rw [HL.out]; exact hlt), ← HM.out, ← hy])
   have k0 : (0 : Int) ≤ (k : Int) := by omega
   have k1 : (k : Int) < (n : Int) := by omega
   clear hy
   by_cases hmy : m ≤ y
   · have HE : Hid (y = (xs.take (k + 1)).foldl max (xs.getD 0 0)) := Lib.hid (by rw [HN.out]; omega)
     go_wp2_with fail
     go_roundw
     case rel => exact ⟨k + 1, y, by omega, by omega, by go_num, by first | rfl | (congr 1; omega), HE, SameW.refl _⟩
     simp [intOf]; omega
   have HE : Hid (m = (xs.take (k + 1)).foldl max (xs.getD 0 0)) := Lib.hid (by rw [HN.out]; omega)
   go_wp2_with fail
   go_roundw
   case rel => exact ⟨k + 1, m, by omega, by omega, by go_num, by first | rfl | (congr 1; omega), HE, SameW.refl _⟩
   simp [intOf]; omega
 obtain rfl : k = n := by omega
 have HE : Hid (m = maxI xs) := Lib.hid (by rw [HM.out, List.take_of_length_le (by rw [HL.out]; omega)]; rfl)
 have nk : ¬ (k : Int) < (k : Int) := by omega
 go_wp2_with fail
 go_ret
 exact ⟨ret_int HE.out, rfl⟩
def owe1 (o : List Int) (p : PtrD) : List Int := o.set p.1.toNat (o.getD p.1.toNat 0 + 1)
def owe (o : List Int) (ps : List PtrD) : List Int := ps.foldl owe1 o
theorem owe_take {o : List Int} {ps : List PtrD} {k : Nat} {p : PtrD} (h : ps[k]? = some p) : owe o (ps.take (k + 1)) = owe1 (owe o (ps.take k)) p := by
 unfold owe
 rw [List.take_add_one, h, List.foldl_append]
 rfl
theorem owe_get : ∀ {ps : List PtrD} {o : List Int}, o.length = 64 → (∀ p ∈ ps, 8 ≤ p.1 ∧ p.1 ≤ 63) → (owe o ps).length = 64 ∧ ∀ i : Nat, (owe o ps).getD i 0 = o.getD i 0 + (cntP ps i : Int)
 | [], o, ho, _ => ⟨ho, fun i => by simp [owe, cntP_nil]⟩
 | p :: ps, o, ho, hp => by
   obtain ⟨h8, h63⟩ := hp p (by simp)
   obtain ⟨h1, h2⟩ := owe_get (ps := ps) (o := owe1 o p) (by unfold owe1; rw [List.length_set]; exact ho) (fun q hq => hp q (List.mem_cons_of_mem _ hq))
   refine ⟨h1, fun i => ?_⟩
   have e : cntP (p :: ps) i = cntP ps i + if p.1 = (i : Int) then 1 else 0 := by
    unfold cntP
    rw [List.countP_cons]
    by_cases h : p.1 = (i : Int) <;> simp [h]
   show (owe (owe1 o p) ps).getD i 0 = _
   rw [h2, e]
   unfold owe1
   rw [getD_set (by omega)]
   by_cases hi : p.1.toNat = i
   · rw [if_pos hi, if_pos (by omega), hi]; push_cast; omega
   rw [if_neg hi, if_neg (by omega)]; push_cast; omega
def countB (top : Int) (refs : List Int) (ps : List PtrD) : Bool := ps.all fun p => goodP top p && !decide (refs.getD p.1.toNat 0 = 0)
def Counted (g cg : Nat) (owed : List Int) (ps : List PtrD) (r : Bool) (w : World) (e : Ending) (w' : World) : Prop := e = .returned (.bool r) ∧ (r = true → OwnI w' g 64 cg (owe owed ps)) ∧ Chg (· ∈ [g]) w w'
set_option maxRecDepth 100000 in
set_option maxHeartbeats 4000000 in
theorem count_any (bs bo g cg : Nat) (A : Option Addr) (n c : Nat) (ps : List PtrD) (top : Int) (A1 : Option Addr) (c1 : Nat) (refs owed : List Int) (w : World) (lo hi : Nat)
 (hL : ∀ W, Chg (· ∈ [g]) w W → SliceR PtrR 5 W lo hi A n c ps) (hR : ∀ W, Chg (· ∈ [g]) w W → IntsAt W A1 64 refs)
 (hs : w.cell? ⟨bs, 1, none⟩ = some (.slice A1 64 c1)) (ho : w.cell? ⟨bo, 0, none⟩ = some (.slice (some ⟨g, 0, none⟩) 64 cg)) (hO : OwnI w g 64 cg owed) (hsg : bs ≠ g) (hog : bo ≠ g) (hnp : ∀ i : Nat, owed.getD i 0 ≤ 2000000 ∧ -2000000 ≤ owed.getD i 0) (hnn : n ≤ 4611686018427387904) :
 Calls Tryz.prog 67 #[.slice A n c, .int .i64 top, .pointer (some ⟨bs, 0, none⟩), .pointer (some ⟨bo, 0, none⟩)] w (Counted g cg owed ps (countB top refs ps) w) := by
 have lbs : bs < w.heap.size := World.block_lt_of_cell? _ _ hs
 have lbo : bo < w.heap.size := World.block_lt_of_cell? _ _ ho
 have lg : g < w.heap.size := hO.lt
 have HLen := Lib.hid (hL w (Chg.refl _ _)).len
 have HR := Lib.hid hR; have HL := Lib.hid hL; have HNP := Lib.hid hnp
 have HO := Lib.hid hO
 have HS := Lib.hid hs; have HOC := Lib.hid ho
 obtain ⟨b1, o1, rfl, -, -⟩ := (hR w (Chg.refl _ _)).at_ (show 0 < 64 by omega)
 obtain ⟨res, hres⟩ : ∃ r, r = countB top refs ps := ⟨_, rfl⟩
 rw [← hres]
 have HRES := Lib.hid hres
 clear hL hR hs ho hO hnp hres
 go_enter Tryz.func67, Tryz.ntmps67
 go_wp2_with fail
 go_loopw [11] (fun i wr => ∃ k : Nat, k ≤ n ∧ i = .int .i64 (k : Int) ∧ Hid (∀ j p, j < k → ps[j]? = some p → (goodP top p && !decide (refs.getD p.1.toNat 0 = 0)) = true) ∧ Hid (OwnI wr g 64 cg (owe owed (ps.take k))) ∧ Hid (Chg (· ∈ [g]) w wr)) (fun i _ => n - (intOf i).toNat)
 case atStart => exact ⟨0, Nat.zero_le _, rfl, Lib.hid (fun j p hj => absurd hj (by omega)), Lib.hid (by simpa [owe] using HO.out), Lib.hid (Chg.refl _ _)⟩
 obtain ⟨k, hk, rfl, HP, HOW, HC⟩ := hrel
 by_cases hlt : k < n
 · obtain ⟨p, hp⟩ : ∃ x, ps[k]? = some x := ⟨ps[k]'(by rw [HLen.out]; exact hlt), List.getElem?_eq_getElem _⟩
   obtain ⟨b, off, rfl, _, _, bl, hc⟩ := (HL.out wr HC.out).at_ (by omega)
   obtain ⟨cs, hcl, hcc, hr⟩ := hc k p hp
   obtain ⟨a, bi, sz, sm, lv⟩ := p
   obtain rfl := hr
   have q0 := hcc 0 _ rfl; have q1 := hcc 1 _ rfl; have q2 := hcc 2 _ rfl; have q3 := hcc 3 _ rfl; have q4 := hcc 4 _ rfl
   simp only [Nat.add_zero] at q0
   clear hc hcc hcl
   have k0 : (0 : Int) ≤ (k : Int) := by omega
   have k1 : (k : Int) < (n : Int) := by omega
   have HX := Lib.hid hp; clear hp
   have zr := HC.out.size
   have R1 := Lib.hid (fun W => ptrOk_any a bi sz sm lv W)
   have R2 := Lib.hid (fun W => ptrHole_any a bi sz sm lv W)
   obtain ⟨w2, hw2⟩ : ∃ W, W = wr.alloc (.cells #[.int .i64 a, .int .i64 bi, .int .i64 sz, .int .i64 sm, .int .i64 lv] 41) := ⟨_, rfl⟩
   have HB2 : Hid (Below wr.heap.size wr w2) := Lib.hid (by rw [hw2]; exact bel1)
   have hbx : Hid (w2.heap[wr.heap.size]? = some (.cells #[.int .i64 a, .int .i64 bi, .int .i64 sz, .int .i64 sm, .int .i64 lv] 41 (0, 0))) := Lib.hid (by rw [hw2]; exact heap_alloc_new _ _)
   go_wp2_with fail
   rw [← hw2]
   clear hw2 q0 q1 q2 q3 q4
   have x0 := celR 0 hbx.out; have x1 := celR 1 hbx.out; have x2 := celR 2 hbx.out; have x3 := celR 3 hbx.out; have x4 := celR 4 hbx.out
   have l2x := (Array.getElem?_eq_some_iff.1 hbx.out).1
   go_wp2_with fail
   refine (R1.out _).mono ?_
   rintro e w3 ⟨rfl, hb3⟩
   have HB3 := Lib.hid (HB2.out.trans (hb3.mono HB2.out.size))
   have hbx3 := Lib.hid ((hb3.block _ (Array.getElem?_eq_some_iff.1 hbx.out).1).trans hbx.out)
   clear hb3 HB2 hbx x0 x1 x2 x3 x4 l2x
   have y0 := celR 0 hbx3.out; have y1 := celR 1 hbx3.out; have y2 := celR 2 hbx3.out; have y3 := celR 3 hbx3.out; have y4 := celR 4 hbx3.out
   have l3x := (Array.getElem?_eq_some_iff.1 hbx3.out).1
   have HBAD : ∀ (u : (goodP top (a, bi, sz, sm, lv) && !decide (refs.getD (a, bi, sz, sm, lv).1.toNat 0 = 0)) = false), false = res := fun u => by rw [HRES.out]; unfold countB; rw [all_no HX.out u]
   have HBAD := Lib.hid HBAD
   have HCB : Hid (∀ W, Below wr.heap.size wr W → Chg (· ∈ [g]) w W) := Lib.hid (fun W h => HC.out.trans (Chg.of_below h _))
   cases e1 : ptrOkB a bi sz sm lv
   · go_wp2_with fail
     go_ret
     exact ⟨ret_bool (HBAD.out (by unfold goodP okP; simp [e1])), (fun h => by have := HBAD.out (by unfold goodP okP; simp [e1]); rw [← this] at h; cases h), HCB.out _ HB3.out⟩
   go_wp2_with fail
   refine (R2.out _).mono ?_
   rintro e w4 ⟨rfl, hb4⟩
   have HB4 := Lib.hid (HB3.out.trans (hb4.mono HB3.out.size))
   have hbx4 := Lib.hid ((hb4.block _ (Array.getElem?_eq_some_iff.1 hbx3.out).1).trans hbx3.out)
   clear hb4 HB3 hbx3 y0 y1 y2 y3 y4 l3x
   have z0 := celR 0 hbx4.out; have z1 := celR 1 hbx4.out; have z2 := celR 2 hbx4.out; have z3 := celR 3 hbx4.out; have z4 := celR 4 hbx4.out; have l4x := (Array.getElem?_eq_some_iff.1 hbx4.out).1
   cases e2 : ptrHole a bi sz sm lv
   rotate_left
   · go_wp2_with fail
     go_ret
     exact ⟨ret_bool (HBAD.out (by unfold goodP holeP; simp [e2])), (fun h => by have := HBAD.out (by unfold goodP holeP; simp [e2]); rw [← this] at h; cases h), HCB.out _ HB4.out⟩
   by_cases h3 : top < bi
   · go_wp2_with fail
     go_ret
     have hh : false = res := HBAD.out (by unfold goodP; simp; intro _ _ h; omega)
     exact ⟨ret_bool hh, (fun h => by rw [← hh] at h; cases h), HCB.out _ HB4.out⟩
   have hgp : goodP top (a, bi, sz, sm, lv) = true := by unfold goodP okP holeP; simp [e1, e2]; omega
   obtain ⟨-, -, -, ha8, ha63⟩ := goodP_parts hgp
   have ha8 : 8 ≤ a := ha8
   have ha63 : a ≤ 63 := ha63
   obtain ⟨an, rfl⟩ : ∃ m : Nat, a = (m : Int) := ⟨a.toNat, by omega⟩
   have hm64 : an < 64 := by omega
   have an0 : (0 : Int) ≤ (an : Int) := by omega
   have an1 : (an : Int) < 64 := by omega
   obtain ⟨b2, o2, hA2, hb2, hcr⟩ := (HR.out w4 (HCB.out _ HB4.out)).at_ (show 0 < 64 by omega)
   injection hA2 with hA2; injection hA2 with hA2 hA3; subst hA2 hA3
   have r0 := hcr an hm64
   obtain ⟨rv, hrv⟩ : ∃ r, r = refs.getD an 0 := ⟨_, rfl⟩
   rw [← hrv] at r0
   have c1 : w4.cell? ⟨bs, 1, none⟩ = some (.slice (some ⟨b1, o1, none⟩) 64 c1) := (World.cell?_of_block ((HCB.out _ HB4.out).block bs lbs (by simpa using hsg))).trans HS.out
   have c2 : w4.cell? ⟨bo, 0, none⟩ = some (.slice (some ⟨g, 0, none⟩) 64 cg) := (World.cell?_of_block ((HCB.out _ HB4.out).block bo lbo (by simpa using hog))).trans HOC.out
   have l4s : bs < w4.heap.size := World.block_lt_of_cell? _ _ c1
   have l4o : bo < w4.heap.size := World.block_lt_of_cell? _ _ c2
   have HO4 := Lib.hid (HOW.out.below HB4.out)
   have hgood : rv ≠ 0 → Hid (∀ j p, j < k + 1 → ps[j]? = some p → (goodP top p && !decide (refs.getD p.1.toNat 0 = 0)) = true) := fun h => Lib.hid (upto_step HP.out HX.out (by rw [hgp]; show (true && !decide (refs.getD an 0 = 0)) = true; rw [← hrv]; simpa using h))
   have HGD := Lib.hid hgood
   have HBD : Hid (rv = 0 → false = res) := Lib.hid (fun h => HBAD.out (by rw [hgp]; show (true && !decide (refs.getD an 0 = 0)) = false; rw [← hrv]; simpa using h))
   have o0 := HO4.out.cell (j := an) hm64
   have of0 := HO4.out.frozen an
   obtain ⟨ov, hov⟩ : ∃ r, r = (owe owed (ps.take k)).getD an 0 := ⟨_, rfl⟩
   rw [← hov] at o0
   have HW : Hid (owe owed (ps.take (k + 1)) = (owe owed (ps.take k)).set an (ov + 1)) := Lib.hid (by rw [owe_take HX.out, hov]; rfl)
   have hob : -2000000 ≤ ov ∧ ov ≤ 4611686018430387904 := by
    have hgg : ∀ p ∈ ps.take k, 8 ≤ p.1 ∧ p.1 ≤ 63 := by
     intro p hp
     obtain ⟨j, hj, rfl⟩ := List.mem_iff_getElem.1 hp
     have hj2 : j < k := by simp at hj; omega
     have := HP.out j _ hj2 (by rw [← List.getElem?_eq_getElem hj, List.getElem?_take, if_pos hj2])
     exact (goodP_parts ((Bool.and_eq_true _ _).mp this).1).2.2.2
    have h1 := (owe_get (o := owed) HO.out.len hgg).2 an
    have h2 := cntP_len (ps.take k) an
    have h3 := HNP.out an
    have h4 : (ps.take k).length ≤ n := by simp; omega
    rw [← hov] at h1
    omega
   have nov : IntKind.i64.wrap (ov + 1) = ov + 1 := IntWalk.i64_in _ (by omega)
   clear hcr hrv hgp ha8 ha63 hgood hov e1 e2 HBAD
   by_cases h0 : rv = 0
   · have HH := Lib.hid (HBD.out h0)
     have e0 : (rv == 0) = true := by simp [h0]
     clear h0
     go_wp2_with fail
     go_ret
     have hh := HH.out
     exact ⟨ret_bool hh, (fun h => by rw [← hh] at h; cases h), HCB.out _ HB4.out⟩
   have e0 : (rv == 0) = false := by simpa using h0
   go_wp2_with fail
   go_roundw
   case rel => exact ⟨k + 1, by omega, by go_num, HGD.out h0, Lib.hid (by rw [HW.out]; exact HO4.out.set_ hm64 _), Lib.hid (Chg.setCell (p := ⟨g, an, none⟩) (HCB.out _ HB4.out) (.inl (by simp)) _)⟩
   simp [intOf]; omega
 obtain rfl : k = n := by omega
 have hh : true = res := by rw [HRES.out]; unfold countB; rw [all_upto HLen.out HP.out]
 have HOF : Hid (OwnI wr g 64 cg (owe owed ps)) := Lib.hid (by have := HOW.out; rwa [List.take_of_length_le (by rw [HLen.out]; omega)] at this)
 go_wp2_with fail
 go_ret
 exact ⟨ret_bool hh, (fun _ => HOF.out), HC.out⟩
end Go.Proofs.YtjnhiiaejeaikaaGreatDoor
