/- StoreRoom, the program's and the reference's. Condition: fewer than 2^20 pointers given up. -/
import Derived.Test.YtffieobjcipeoaaStoreOkI
import Derived.Test.YtffieobjcipeoaaStoreCopy
namespace Go.Proofs.Ytffieobjcipeoaa
set_option linter.unnecessarySimpa false
open Go.RowKit
set_option linter.unusedVariables false
set_option linter.unusedSimpArgs false
set_option maxHeartbeats 2000000 in
theorem giveAt_any (p g k c d : Nat) (a : Nat) (xs ys : List Int) (w : World) (ha : a < 64) (h0 : w.cell? ⟨p, 1, none⟩  = some (.slice (some ⟨g, 0, none⟩) 64 c)) (h1 : w.cell? ⟨p, 2, none⟩ = some (.slice (some ⟨k, 0, none⟩) 64 d))
    (og : OwnI w g 64 c xs) (ok : OwnI w k 64 d ys) (hgk : g ≠ k) (hpg : g ≠ p) (hpk : k ≠ p) (hx : 1 ≤ xs.getD a 0 ∧ xs.getD a 0 ≤ 900) :
    Calls Try.prog 126 #[.pointer (some ⟨p, 1, none⟩ ), .int .i64 a] w fun e w' =>
      e = .returned (.tuple #[]) ∧ OwnI w' g 64 c (xs.set a (xs.getD a 0 - 1)) ∧ OwnI w' k 64 d (lastOf (xs.getD a 0) ys a) ∧ Chg (· ∈ [g, k]) w w' := by
  have xg := og.cell (j := a) ha
  have xk := ok.cell (j := a) ha
  have fg := og.frozen a
  have fk := ok.frozen a
  have n1 := hgk.symm
  have n2 := hpg.symm
  have n3 := hpk.symm
  obtain ⟨x, hxe⟩ : ∃ x, x = xs.getD a 0 := ⟨_, rfl⟩
  obtain ⟨y, hye⟩ : ∃ y, y = ys.getD a 0 := ⟨_, rfl⟩
  rw [← hxe] at xg hx ⊢
  rw [← hye] at xk
  have og2 := og.set_ (j := a) ha (x - 1)
  have ok2 := ok.setOther (p := ⟨g, a, none⟩) n1 (.int .i64 (x - 1))
  have hc1 : Chg (· ∈ [g, k]) w (w.setCell ⟨g, a, none⟩ (.int .i64 (x - 1))) := (Chg.refl _ _).setCell (.inl (by simp)) _
  obtain ⟨hx1, hx9⟩ := hx
  have OG := Lib.hid og2
  have OK := Lib.hid ok2
  have HC := Lib.hid hc1
  clear hxe hye og ok og2 ok2 hc1
  by_cases hz : x = 1
  · subst hz
    have e : lastOf 1 ys a = ys.set a 0 := by unfold lastOf; rw [if_pos (by omega)]
    have HE := Lib.hid e
    clear e
    go_enter Try.func126, Try.ntmps126
    go_wp2_with fail
    go_end0
    rw [HE.out]
    exact ⟨rfl, OG.out.setOther hgk _, OK.out.set_ ha 0, HC.out.setCell (.inl (by simp)) _⟩
  · have e : lastOf x ys a = ys := by unfold lastOf; rw [if_neg (by omega)]
    have e2 : (x - 1 == 0) = false := by simp; omega
    have HE := Lib.hid e
    clear e
    go_enter Try.func126, Try.ntmps126
    go_wp2_with fail
    go_end0
    rw [HE.out]
    exact ⟨rfl, OG.out, OK.out, HC.out⟩
set_option maxRecDepth 100000 in
set_option maxHeartbeats 4000000 in
theorem drop_any (bx r g k c0 d1 d2 : Nat) (txg : Int) (A3 : Option Addr) (n3 c3 : Nat) (keep : Int) (A4 : Option Addr) (n4 c4 : Nat) (same : Bool) (a : Nat) (xs ys : List Int) (w : World) (ha : a < 64)
    (hbx : w.heap[bx]? = some (.cells #[.slice (some ⟨r, 0, none⟩) 64 c0, .slice (some ⟨g, 0, none⟩) 64 d1, .slice (some ⟨k, 0, none⟩) 64 d2, .int .i64 txg, .slice A3 n3 c3, .int .i64 keep, .slice A4 n4 c4, .bool same] 30 (0, 0))) (hr : RowsB r w) (og : OwnI w g 64 d1 xs) (ok : OwnI w k 64 d2 ys) (hgk : g ≠ k) (hrg : r ≠ g) (hrk : r ≠ k) (br : bx ≠ r) (bg : bx ≠ g) (bk : bx ≠ k) (hx : 1 ≤ xs.getD a 0 ∧ xs.getD a 0 ≤ 900) :
    Calls Try.prog 88 #[.pointer (some ⟨bx, 0, none⟩), .int .i64 a] w fun e w' => e = .returned (.tuple #[]) ∧ RowsB r w' ∧ OwnI w' g 64 d1 (xs.set a (xs.getD a 0 - 1)) ∧ OwnI w' k 64 d2 (lastOf (xs.getD a 0) ys a) ∧ Chg (· ∈ [r, g, k]) w w' := by
  have hx2 := hx
  have x0 := og.cell (j := a) ha
  obtain ⟨xv, hxv⟩ : ∃ x, x = xs.getD a 0 := ⟨_, rfl⟩
  rw [← hxv] at x0 hx2
  have e0 : (xv == 0) = false := by simp; omega
  have lb := (Array.getElem?_eq_some_iff.1 hbx).1
  have lg := og.lt
  have a0 : (0 : Int) ≤ (a : Int) := by omega
  have a1 : (a : Int) < 64 := by omega
  have b0 := cell_of_row _ _ 0 _ _ (0, 0) hbx; have b1 := cell_of_row _ _ 1 _ _ (0, 0) hbx; have b2 := cell_of_row _ _ 2 _ _ (0, 0) hbx; have b3 := cell_of_row _ _ 3 _ _ (0, 0) hbx; have b4 := cell_of_row _ _ 4 _ _ (0, 0) hbx; have b5 := cell_of_row _ _ 5 _ _ (0, 0) hbx; have b6 := cell_of_row _ _ 6 _ _ (0, 0) hbx; have b7 := cell_of_row _ _ 7 _ _ (0, 0) hbx
  have HBX := Lib.hid hbx; have HR := Lib.hid hr; have OG := Lib.hid og; have OK := Lib.hid ok; have HXV := Lib.hid hxv
  clear hbx hr og ok hxv
  go_enter Try.func88, Try.ntmps88
  go_wp2_with fail
  refine (giveAt_any bx g k d1 d2 a xs ys w ha (cell_of_row _ _ 1 _ _ (0, 0) HBX.out) (cell_of_row _ _ 2 _ _ (0, 0) HBX.out) OG.out OK.out hgk bg.symm bk.symm hx).mono ?_
  rintro e w1 ⟨rfl, og1, ok1, hc1⟩
  clear x0 b0 b1 b2 b3 b4 b5 b6 b7
  have HBX1 := Lib.hid ((hc1.block bx lb (by simp; exact ⟨bg, bk⟩)).trans HBX.out)
  have HR1 := Lib.hid (HR.out.keep (hc1.block r HR.out.lt (by simp; exact ⟨hrg, hrk⟩)))
  have OG1 := Lib.hid og1; have OK1 := Lib.hid ok1
  have HC1 : Hid (Chg (· ∈ [r, g, k]) w w1) := Lib.hid (hc1.mono (fun b _ hb => by simp at hb ⊢; exact .inr hb))
  have x1 := og1.cell (j := a) ha
  have ev : (xs.set a (xs.getD a 0 - 1)).getD a 0 = xv - 1 := by rw [getD_set (by have := OG.out.len; omega), if_pos rfl, HXV.out]
  rw [ev] at x1
  have lb1 := (Array.getElem?_eq_some_iff.1 HBX1.out).1
  have lg1 := og1.lt
  clear hc1 og1 ok1 ev
  have b0 := cell_of_row _ _ 0 _ _ (0, 0) HBX1.out; have b1 := cell_of_row _ _ 1 _ _ (0, 0) HBX1.out; have b2 := cell_of_row _ _ 2 _ _ (0, 0) HBX1.out; have b3 := cell_of_row _ _ 3 _ _ (0, 0) HBX1.out; have b4 := cell_of_row _ _ 4 _ _ (0, 0) HBX1.out; have b5 := cell_of_row _ _ 5 _ _ (0, 0) HBX1.out; have b6 := cell_of_row _ _ 6 _ _ (0, 0) HBX1.out; have b7 := cell_of_row _ _ 7 _ _ (0, 0) HBX1.out
  by_cases h1 : xv = 1
  · have e1 : (xv - 1 == 0) = true := by simp; omega
    obtain ⟨cur, hcur, hcs⟩ := HR1.out
    obtain ⟨sv, hsv⟩ : ∃ s, cur[a]? = some s := ⟨cur[a]'(by omega), Array.getElem?_eq_getElem _⟩
    have rc : w1.cell? ⟨r, a, none⟩ = some sv := (cell_of_row _ _ _ _ _ (0, 0) hcur).trans hsv
    have rf := block_free hcur a
    have lr1 := HR1.out.lt
    clear hcur hcs hsv
    go_wp2_with fail
    go_end0
    exact ⟨rfl, HR1.out.set _, OG1.out.setOther (p := ⟨r, a, none⟩) hrg.symm _, OK1.out.setOther (p := ⟨r, a, none⟩) hrk.symm _, Chg.setCell (p := ⟨r, a, none⟩) HC1.out (.inl (by simp)) _⟩
  · have e1 : (xv - 1 == 0) = false := by simp; omega
    go_wp2_with fail
    go_end0
    exact ⟨rfl, HR1.out, OG1.out, OK1.out, HC1.out⟩
/-- A store's box. -/
def BoxS (bx r g k c0 d1 d2 : Nat) (txg : Int) (A3 : Option Addr) (n3 c3 : Nat) (keep : Int) (A4 : Option Addr) (n4 c4 : Nat) (same : Bool) (w : World) : Prop := w.heap[bx]? = some (.cells #[.slice (some ⟨r, 0, none⟩) 64 c0, .slice (some ⟨g, 0, none⟩) 64 d1, .slice (some ⟨k, 0, none⟩) 64 d2, .int .i64 txg, .slice A3 n3 c3, .int .i64 keep, .slice A4 n4 c4, .bool same] 30 (0, 0))
set_option maxRecDepth 100000 in
set_option maxHeartbeats 4000000 in
theorem next_any (x : StoreD) (hok : StoreOk x) (B bx r g k c0 d1 d2 : Nat) (A3 : Option Addr) (n3 c3 : Nat) (A4 : Option Addr) (n4 c4 : Nat) (w : World)
    (hbx : BoxS bx r g k c0 d1 d2 x.2.2.1 A3 n3 c3 x.2.2.2.2.1 A4 n4 c4 x.2.2.2.2.2.2 w) (hs : StC x B r g k d1 d2 A3 n3 c3 w) (br : bx ≠ r) (bg : bx ≠ g) (bk : bx ≠ k) (hB : B ≤ w.heap.size) :
    Calls Try.prog 44 #[.pointer (some ⟨bx, 0, none⟩)] w fun e w' => e = .returned (.tuple #[]) ∧ OwnI w' g 64 d1 (dropsS x.2.1 x.2.2.2.1).1 ∧ w'.cell? ⟨bx, 1, none⟩ = some (.slice (some ⟨g, 0, none⟩) 64 d1) ∧ w'.cell? ⟨bx, 2, none⟩ = some (.slice (some ⟨k, 0, none⟩) 64 d2) ∧ Chg (· ∈ [bx, r, g, k]) w w' := by
  obtain ⟨rows, ⟨refs, last⟩, txg, gone, keep, dead, same⟩ := x
  have HOK := Lib.hid hok
  have HBX : Hid (w.heap[bx]? = some (.cells #[.slice (some ⟨r, 0, none⟩) 64 c0, .slice (some ⟨g, 0, none⟩) 64 d1, .slice (some ⟨k, 0, none⟩) 64 d2, .int .i64 txg, .slice A3 n3 c3, .int .i64 keep, .slice A4 n4 c4, .bool same] 30 (0, 0))) := Lib.hid hbx
  obtain ⟨hR, og, ok, hG, hr, hg, hk, hgk, hrg, hrk, -⟩ := hs
  have hR2 : SliceR PtrR 5 w B w.heap.size A3 n3 c3 gone := hG
  have HL : Hid (gone.length = n3) := Lib.hid hR2.len
  have hm := hR2.max
  have HG := Lib.hid hR2; have HR := Lib.hid hR; have OG := Lib.hid og; have OK := Lib.hid ok
  have ht : 1 ≤ txg ∧ txg ≤ 900 := by have h_ : inB txg 1 900 = true := HOK.out.txg; unfold inB at h_; simpa using h_
  have nt : IntKind.i64.wrap (txg + 1) = txg + 1 := IntWalk.i64_in _ (by omega)
  have lb := (Array.getElem?_eq_some_iff.1 HBX.out).1
  have b0 := cell_of_row _ _ 0 _ _ (0, 0) HBX.out; have b1 := cell_of_row _ _ 1 _ _ (0, 0) HBX.out; have b2 := cell_of_row _ _ 2 _ _ (0, 0) HBX.out; have b3 := cell_of_row _ _ 3 _ _ (0, 0) HBX.out; have b4 := cell_of_row _ _ 4 _ _ (0, 0) HBX.out; have b5 := cell_of_row _ _ 5 _ _ (0, 0) HBX.out; have b6 := cell_of_row _ _ 6 _ _ (0, 0) HBX.out; have b7 := cell_of_row _ _ 7 _ _ (0, 0) HBX.out
  clear hok hbx hR og ok hG hR2
  go_enter Try.func44, Try.ntmps44
  go_wp2_with fail
  clear b0 b1 b2 b3 b4 b5 b6 b7
  go_loopw [9] (fun i wr => ∃ j : Nat, j ≤ n3 ∧ i = .int .i64 (j : Int) ∧ Hid (RowsB r wr) ∧ Hid (OwnI wr g 64 d1 (dropsS (refs, last) (gone.take j)).1) ∧ Hid (OwnI wr k 64 d2 (dropsS (refs, last) (gone.take j)).2) ∧ Hid (Chg (· ∈ [r, g, k]) w wr)) (fun i _ => n3 - (intOf i).toNat)
  case atStart => exact ⟨0, Nat.zero_le _, rfl, HR, OG, OK, Lib.hid (Chg.refl _ _)⟩
  case round =>
    obtain ⟨j, hj, rfl, HRr, HGr, HKr, HC⟩ := hrel
    by_cases hlt : j < n3
    · obtain ⟨u, hu⟩ : ∃ x, gone[j]? = some x := ⟨gone[j]'(by rw [HL.out]; exact hlt), List.getElem?_eq_getElem _⟩
      obtain ⟨h8, h63, h1, h900⟩ := drops_one HOK.out hu
      have hsl : SliceR PtrR 5 wr B w.heap.size A3 n3 c3 gone := HG.out.keep (fun b b1 b2 => HC.out.block b b2 (by simp; omega)) HC.out.size (fun _ _ h => h)
      obtain ⟨b, off, rfl, _, _, bl, hc⟩ := hsl.at_ (by omega)
      obtain ⟨cs, hcl, hcc, hr_⟩ := hc j u hu
      have HD := Lib.hid (dropsS_take (s := (refs, last)) hu)
      have HP := Lib.hid (And.intro h1 h900)
      obtain ⟨a, bi, sz, sm, lv⟩ := u
      obtain rfl := hr_
      have q0 := hcc 0 _ rfl; have q1 := hcc 1 _ rfl; have q2 := hcc 2 _ rfl; have q3 := hcc 3 _ rfl; have q4 := hcc 4 _ rfl
      simp only [Nat.add_zero] at q0
      have h8 : 8 ≤ a := h8
      have h63 : a ≤ 63 := h63
      obtain ⟨an, rfl⟩ : ∃ m : Nat, a = (m : Int) := ⟨a.toNat, by omega⟩
      have ha : an < 64 := by omega
      have k0 : (0 : Int) ≤ (j : Int) := by omega
      have k1 : (j : Int) < (n3 : Int) := by omega
      have HBr := Lib.hid ((HC.out.block bx lb (by simp; exact ⟨br, bg, bk⟩)).trans HBX.out)
      have lbr := (Array.getElem?_eq_some_iff.1 HBr.out).1
      obtain ⟨w2, hw2⟩ : ∃ W, W = wr.alloc (.cells #[.int .i64 (an : Int), .int .i64 bi, .int .i64 sz, .int .i64 sm, .int .i64 lv] 81) := ⟨_, rfl⟩
      have HY2 : Hid (Below wr.heap.size wr w2) := Lib.hid (by rw [hw2]; exact bel1)
      have hq : Hid (w2.heap[wr.heap.size]? = some (.cells #[.int .i64 (an : Int), .int .i64 bi, .int .i64 sz, .int .i64 sm, .int .i64 lv] 81 (0, 0))) := Lib.hid (by rw [hw2]; exact heap_alloc_new _ _)
      clear hcc hcl hc hu h1 h900 h8 h63
      go_wp2_with fail
      rw [← hw2]
      clear hw2 q0 q1 q2 q3 q4
      have x0 := cell_of_row _ _ 0 _ _ (0, 0) hq.out
      have lx := (Array.getElem?_eq_some_iff.1 hq.out).1
      go_wp2_with fail
      refine (drop_any bx r g k c0 d1 d2 txg _ n3 c3 keep A4 n4 c4 same an _ _ w2 ha ((HY2.out.block bx lbr).trans HBr.out) (HRr.out.keep (HY2.out.block r HRr.out.lt)) (HGr.out.below HY2.out) (HKr.out.below HY2.out) hgk hrg hrk br bg bk HP.out).mono ?_
      rintro e w3 ⟨rfl, hr3, og3, ok3, hc3⟩
      have HR3 := Lib.hid hr3; have OG3 := Lib.hid og3; have OK3 := Lib.hid ok3; have HC3 := Lib.hid ((HC.out.trans (Chg.of_below HY2.out _)).trans hc3)
      clear hr3 og3 ok3 hc3
      go_wp2_with fail
      go_roundw
      case rel => exact ⟨j + 1, by omega, by go_num, HR3, Lib.hid (by rw [HD.out]; exact OG3.out), Lib.hid (by rw [HD.out]; exact OK3.out), HC3⟩
      case measure => simp [intOf]; omega
    · obtain rfl : j = n3 := by omega
      have hT : gone.take j = gone := List.take_of_length_le (by rw [HL.out]; exact Nat.le_refl _)
      rw [hT] at HGr HKr
      have HBr := Lib.hid ((HC.out.block bx lb (by simp; exact ⟨br, bg, bk⟩)).trans HBX.out)
      have lbr := (Array.getElem?_eq_some_iff.1 HBr.out).1
      have b0 := cell_of_row _ _ 0 _ _ (0, 0) HBr.out; have b1 := cell_of_row _ _ 1 _ _ (0, 0) HBr.out; have b2 := cell_of_row _ _ 2 _ _ (0, 0) HBr.out; have b3 := cell_of_row _ _ 3 _ _ (0, 0) HBr.out; have b4 := cell_of_row _ _ 4 _ _ (0, 0) HBr.out; have b5 := cell_of_row _ _ 5 _ _ (0, 0) HBr.out; have b6 := cell_of_row _ _ 6 _ _ (0, 0) HBr.out; have b7 := cell_of_row _ _ 7 _ _ (0, 0) HBr.out
      have f3 := block_free HBr.out 3; have f4 := block_free HBr.out 4
      obtain ⟨wF, hwF⟩ : ∃ W, W = (wr.setCell ⟨bx, 4, none⟩ (.slice none 0 0)).setCell ⟨bx, 3, none⟩ (.int .i64 (txg + 1)) := ⟨_, rfl⟩
      have HFB : Hid (wF.heap[bx]? = some (.cells #[.slice (some ⟨r, 0, none⟩) 64 c0, .slice (some ⟨g, 0, none⟩) 64 d1, .slice (some ⟨k, 0, none⟩) 64 d2, .int .i64 (txg + 1), .slice none 0 0, .int .i64 keep, .slice A4 n4 c4, .bool same] 30 (0, 0))) := Lib.hid (by rw [hwF]; exact block_set (block_set HBr.out))
      have HFG : Hid (OwnI wF g 64 d1 (dropsS (refs, last) gone).1) := Lib.hid (by rw [hwF]; exact (HGr.out.setOther (p := ⟨bx, 4, none⟩) bg.symm _).setOther (p := ⟨bx, 3, none⟩) bg.symm _)
      have HFC : Hid (Chg (· ∈ [bx, r, g, k]) w wF) := Lib.hid (by rw [hwF]; exact Chg.setCell (p := ⟨bx, 3, none⟩) (Chg.setCell (p := ⟨bx, 4, none⟩) (HC.out.mono (fun b _ hb => by simp at hb ⊢; exact .inr hb)) (.inl (by simp)) _) (.inl (by simp)) _)
      have HWF := Lib.hid hwF; clear hwF
      go_wp2_with fail
      go_end0
      rw [← HWF.out]
      exact ⟨rfl, HFG.out, cell_of_row _ _ 1 _ _ (0, 0) HFB.out, cell_of_row _ _ 2 _ _ (0, 0) HFB.out, HFC.out⟩
end Go.Proofs.Ytffieobjcipeoaa
