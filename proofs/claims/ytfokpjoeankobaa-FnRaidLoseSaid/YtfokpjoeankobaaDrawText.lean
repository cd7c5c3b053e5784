/- A drawn text. Condition: at most 100 bytes. -/
import Derived.Test.YtfokpjoeankobaaDrawDisk
import Derived.Test.YtfokpjoeankobaaMarkText
import Derived.Test.YtfokpjoeankobaaLib
import Derived.Lib.SlBytesConst
namespace Go.Proofs.Ytfokpjoeankobaa
set_option linter.unusedVariables false
set_option linter.unusedSimpArgs false
set_option linter.unnecessarySimpa false
open Go.RowKit

theorem infoE_byte : (Try.prog.info? 5).map (fun i => (i.zero, i.size, i.bytes)) = some (some (.int .u8 0), 1, 1) := by kernel_rfl
/-- A text drawn by a reader. -/
def PickedText (m d : Nat) (w : World) (p : Nat) (A : Option Addr) (n c : Nat) (zs : List Int) (k : Nat) (e : Ending) (w' : World) : Prop :=
  ∃ (s : ByteArray) (k' : Nat), e = .returned (.string s) ∧ s.size ≤ m ∧ k' ≤ k + d ∧ Rd w' p A n c zs k' ∧ Chg (· ∈ [p]) w w'
def textLen (v : Value) : Nat := match v with | .slice _ l _ => l | _ => 0
theorem textLen_slice (A : Option Addr) (l c : Nat) : textLen (.slice A l c) = l := rfl
/-- The text as it grows: own bytes. -/
def TextSt (w : World) (p : Nat) (A : Option Addr) (n c : Nat) (zs : List Int) (k : Nat) (N : Nat) (v : Value) (wr : World) : Prop :=
  ∃ (g : Nat) (ys : List Int) (c' : Nat) (S : List Nat) (k' : Nat), v = .slice (some ⟨g, 0, none⟩) ys.length c' ∧ ys.length ≤ N ∧ OwnA wr 5 1 S (some ⟨g, 0, none⟩) ys.length c' (ys.map (Value.int .u8)) ∧ (∀ b ∈ S, w.heap.size ≤ b) ∧ k' ≤ k + 2 + 2 * ys.length ∧ Rd wr p A n c zs k' ∧ Chg (· ∈ [p]) w wr
/-- The text inside the inner loop: no more draws. -/
def TextIn (w : World) (p : Nat) (A : Option Addr) (n c : Nat) (zs : List Int) (k N l0 : Nat) (t i : Value) (wr : World) : Prop :=
  ∃ (j : Int) (g : Nat) (ys : List Int) (c' : Nat) (S : List Nat) (kk : Nat), i = .int .i64 j ∧ -1 ≤ j ∧ j ≤ 5 ∧ (j < 0 → l0 < ys.length) ∧ l0 ≤ ys.length ∧ t = .slice (some ⟨g, 0, none⟩) ys.length c' ∧ ys.length ≤ N ∧ OwnA wr 5 1 S (some ⟨g, 0, none⟩) ys.length c' (ys.map (Value.int .u8)) ∧ (∀ b ∈ S, w.heap.size ≤ b) ∧ kk ≤ k + 2 + 2 * (ys.length + 1) ∧ (l0 < ys.length → kk ≤ k + 2 + 2 * ys.length) ∧ Rd wr p A n c zs kk ∧ Chg (· ∈ [p]) w wr
def idxOf (v : Value) : Nat := match v with | .int _ j => (j + 1).toNat | _ => 0
theorem text_step {w w3 w4 : World} {p : Nat} {A : Option Addr} {n c : Nat} {zs : List Int} {k N kk : Nat} {ys : List Int} {v : Int} {S S' : List Nat} {A' : Option Addr} {c'' : Nat} (hr : Rd w p A n c zs k) (hl : ys.length < N) (hS : ∀ b ∈ S, w.heap.size ≤ b) (hk : kk ≤ k + 2 + 2 * (ys.length + 1)) (hR3 : Rd w3 p A n c zs kk) (hC3 : Chg (· ∈ [p]) w w3)
    (hO' : OwnA w4 5 1 S' A' (ys.length + 1) c'' (ys.map (Value.int .u8) ++ [.int .u8 v])) (hS' : ∀ g ∈ S', g ∈ S ∨ w3.heap.size + 1 ≤ g) (hC' : Chg (· ∈ S) (w3.alloc (.cells #[.int .u8 v] 5)) w4) :
    TextSt w p A n c zs k N (.slice A' (ys.length + 1) c'') w4 := by
  have hp := hr.2.2.2.1
  have hz3 := hC3.size
  have hzz : w3.heap.size ≤ w4.heap.size := by have := hC'.size; simp at this; omega
  rcases hO'.1 with ⟨_, h0, _⟩ | ⟨g, cur, rfl, rfl, hrest⟩
  · omega
  have hnew : ∀ b ∈ [g], w.heap.size ≤ b := fun b hb => by
    rcases hS' b hb with h | h
    · exact hS b h
    · omega
  refine ⟨g, ys ++ [v], c'', [g], kk, by simp, by simp; omega, by simpa using hO', hnew, by simpa using hk, (hR3.below bel1).keep hC'.size fun b hb hbp => hC'.block b hb fun hm => ?_, ?_⟩
  · have := hS b hm
    rcases hbp with rfl | ⟨hn, off, hA⟩
    · omega
    · have := hr.old hn hA; omega
  · exact ⟨hC'.os.trans (hC3.alloc _).os, hC'.tape.trans (hC3.alloc _).tape, hC'.output.trans (hC3.alloc _).output, by omega, fun b hb hnp => (hC'.block b (by simp; omega) (fun hm => by have := hS b hm; omega)).trans ((hC3.alloc _).block b hb hnp)⟩
set_option maxRecDepth 100000 in
set_option maxHeartbeats 4000000 in
theorem l91Text_any (w : World) (p : Nat) (A : Option Addr) (n c : Nat) (zs : List Int) (k m : Nat) (h : Rd w p A n c zs k) (hk : k ≤ 900000) (hm : m ≤ 100) :
    Calls Try.prog 43 #[.pointer (some ⟨p, 0, none⟩), .int .i64 (m : Int)] w (PickedText m (2 + 2 * m) w p A n c zs k) := by
  have hw1 : IntKind.i64.wrap ((m : Int) + 1) = (m : Int) + 1 := by rw [IntWalk.i64_in _ (by omega)]
  obtain ⟨i0, hi0, hz0, hz1, hz2⟩ := info_parts infoE_byte
  have kc := fun (w : World) (C : Array Value) (n c : Nat) => Lib.run_convert_bytes_const (P := Try.prog) w 22 5 C n c Try.underlying22 Try.underlying5
  go_enter Try.func43, Try.ntmps43
  go_wp2_with fail
  refine (pick_any (w.alloc (.cells #[] 5)) p A n c zs k ((m : Int) + 1) (h.below bel1) (by omega) (by omega) (by omega)).mono ?_
  rintro e w1 ⟨N, rfl, hN, h1, hc1, hz1⟩
  have hN := hN (by omega)
  have hp1 := h1.2.2.2.1
  have hs1 : w.heap.size + 1 ≤ w1.heap.size := by have := hc1.size; simpa using this
  clear hz1
  go_wp2_with fail
  refine (pick_any w1 p A n c zs (k + 1) 4 h1 (by omega) (by omega) (by omega)).mono ?_
  rintro e w2 ⟨r, rfl, hr, h2, hc2, hz2⟩
  have hr := hr (by omega)
  have hp2 := h2.2.2.2.1
  have hs2 : w.heap.size + 1 ≤ w2.heap.size := Nat.le_trans hs1 hc2.size
  have HC : Hid (Chg (· ∈ [p]) w w2) := Lib.hid ((((Chg.refl _ w).alloc _).trans hc1).trans hc2)
  clear hz2 hc1 hc2 h1
  go_wp2_with fail
  go_loopw [5] (fun t wr => TextSt w p A n c zs k N t wr) (fun t _ => N - textLen t)
  case atStart => exact ⟨w.heap.size, [], 0, [], k + 2, rfl, Nat.zero_le _, OwnA.nil _, by simp, by simp, h2, HC.out⟩
  case round =>
    obtain ⟨g, ys, c', S, k', rfl, hl, hO, hS, hk', hR, hCh⟩ := hrel
    have hpw : p < w.heap.size := h.2.2.2.1
    by_cases hlt : ys.length < N
    · have hd : ((ys.length : Nat) : Int) < (N : Int) := by omega
      have hr4 : r = 0 ∨ r = 1 ∨ r = 2 ∨ r = 3 := by omega
      clear hr
      rcases hr4 with rfl | rfl | rfl | rfl
      · go_wp2_with fail
        refine (pick_any wr p A n c zs k' 256 hR (by omega) (by omega) (by omega)).mono ?_
        rintro e w3 ⟨v, rfl, hv, h3, hc3, hz3⟩
        have hv := hv (by omega)
        clear hz3
        have hO3 := hO.keep (w' := w3) (fun g hg => hc3.block g (hO.lt g hg) (fun hm => by simp at hm; have := hS g hg; omega))
        obtain ⟨y, hy⟩ : ∃ y : Int, y = (v : Int) := ⟨_, rfl⟩
        have hw8 : IntKind.u8.wrap (v : Int) = y := by rw [hy, IntWalk.u8_in _ (by omega)]
        clear hy
        have HOA : Hid (OwnA (w3.alloc (.cells #[.int .u8 y] 5)) 5 1 S (some ⟨g, 0, none⟩) ys.length c' (ys.map (Value.int .u8))) := Lib.hid (hO3.below bel1)
        have HLIT : Hid (RowAt (w3.alloc (.cells #[.int .u8 y] 5)) (some ⟨w3.heap.size, 0, none⟩) (1 * 1) [.int .u8 y]) := Lib.hid (RowAt.lit (m := 1) rfl)
        have HONE : Hid (∀ u ∈ [Value.int .u8 y], u.oneCell' = true) := Lib.hid (by intro u hu; simp at hu; subst hu; rfl)
        have HC3 := Lib.hid (hCh.trans hc3)
        clear hO hO3 hCh hc3
        go_wp2_with (at_builtin; go_must (refine wpList_append_row rfl _ _ 22 rfl 5 i0 (.int .u8 0) 1 1 Try.underlying22 hi0 hz0 hz1 hz2 rfl (by decide) S (some ⟨g, 0, none⟩) (some ⟨w3.heap.size, 0, none⟩) ys.length c' 1 _ (ys.map (Value.int .u8)) [.int .u8 y] rfl rfl HOA.out HLIT.out HONE.out (by unfold maxLen; omega) (by omega) ?_))
        intro A' c'' S' w4 hO' hS' hC'
        have H4 := Lib.hid (text_step h hlt hS (by omega) h3 HC3.out hO' hS' hC')
        clear hO' hS' hC'
        go_wp2_with fail
        go_roundw
        case rel =>
          repeat apply Exists.intro
          exact ⟨H4.out, rfl⟩
        case measure => show N - (ys.length + 1) < N - ys.length; omega
      · go_wp2_with fail
        refine (pick_any (wr.alloc (.cells #[.int .u8 97, .int .u8 98, .int .u8 126, .int .u8 48, .int .u8 58, .int .u8 59, .int .u8 61] 5 (7, 8))) p A n c zs k' 7 (hR.below bel1) (by omega) (by omega) (by omega)).mono ?_
        rintro e w3 ⟨v, rfl, hv, h3, hc3, hz3⟩
        have hv := hv (by omega)
        clear hz3
        have hpr := hR.2.2.2.1
        have hO3 := (hO.below (bel1 (o := .cells #[.int .u8 97, .int .u8 98, .int .u8 126, .int .u8 48, .int .u8 58, .int .u8 59, .int .u8 61] 5 (7, 8)))).keep (w' := w3) (fun g hg => hc3.block g (Nat.lt_of_lt_of_le (hO.lt g hg) (by simp)) (fun hm => by simp at hm; have := hS g hg; omega))
        have hblk : w3.heap[wr.heap.size]? = some (.cells #[.int .u8 97, .int .u8 98, .int .u8 126, .int .u8 48, .int .u8 58, .int .u8 59, .int .u8 61] 5 (7, 8)) := (hc3.block _ (by simp) (fun hm => by simp at hm; omega)).trans (heap_alloc_new _ _)
        have hcv : ∃ y : Int, w3.cell? ⟨wr.heap.size, v, none⟩ = some (.int .u8 y) := by
          have e := cell_of_row _ _ v _ _ (7, 8) hblk
          rw [e]
          have hx : v = 0 ∨ v = 1 ∨ v = 2 ∨ v = 3 ∨ v = 4 ∨ v = 5 ∨ v = 6 := by omega
          rcases hx with rfl | rfl | rfl | rfl | rfl | rfl | rfl <;> exact ⟨_, rfl⟩
        obtain ⟨y, hy⟩ := hcv
        have hvi : (v : Int) < 7 := by omega
        have hv0 : (0 : Int) ≤ (v : Int) := by omega
        clear hblk
        have HOA : Hid (OwnA (w3.alloc (.cells #[.int .u8 y] 5)) 5 1 S (some ⟨g, 0, none⟩) ys.length c' (ys.map (Value.int .u8))) := Lib.hid (hO3.below bel1)
        have HLIT : Hid (RowAt (w3.alloc (.cells #[.int .u8 y] 5)) (some ⟨w3.heap.size, 0, none⟩) (1 * 1) [.int .u8 y]) := Lib.hid (RowAt.lit (m := 1) rfl)
        have HONE : Hid (∀ u ∈ [Value.int .u8 y], u.oneCell' = true) := Lib.hid (by intro u hu; simp at hu; subst hu; rfl)
        have HC3 := Lib.hid ((hCh.alloc _).trans hc3)
        clear hO hO3 hCh hc3
        go_wp2_with (at_builtin; go_must (refine wpList_append_row rfl _ _ 22 rfl 5 i0 (.int .u8 0) 1 1 Try.underlying22 hi0 hz0 hz1 hz2 rfl (by decide) S (some ⟨g, 0, none⟩) (some ⟨w3.heap.size, 0, none⟩) ys.length c' 1 _ (ys.map (Value.int .u8)) [.int .u8 y] rfl rfl HOA.out HLIT.out HONE.out (by unfold maxLen; omega) (by omega) ?_))
        intro A' c'' S' w4 hO' hS' hC'
        have H4 := Lib.hid (text_step h hlt hS (by omega) h3 HC3.out hO' hS' hC')
        clear hO' hS' hC'
        go_wp2_with fail
        go_roundw
        case rel =>
          repeat apply Exists.intro
          exact ⟨H4.out, rfl⟩
        case measure => show N - (ys.length + 1) < N - ys.length; omega
      · go_wp2_with fail
        refine (pick_any wr p A n c zs k' 3 hR (by omega) (by omega) (by omega)).mono ?_
        rintro e w3 ⟨v, rfl, hv, h3, hc3, hz3⟩
        have hv := hv (by omega)
        clear hz3
        have hO3 := hO.keep (w' := w3) (fun g hg => hc3.block g (hO.lt g hg) (fun hm => by simp at hm; have := hS g hg; omega))
        have hC3 := hCh.trans hc3
        clear hO hCh hc3
        obtain ⟨y, hy⟩ : ∃ y : Int, y = 97 + (v : Int) := ⟨_, rfl⟩
        have hw7 : IntKind.i64.wrap (97 + (v : Int)) = 97 + (v : Int) := by rw [IntWalk.i64_in _ (by omega)]
        have hw8 : IntKind.u8.wrap (97 + (v : Int)) = y := by rw [hy, IntWalk.u8_in _ (by omega)]
        clear hy
        go_wp2_with fail
        refine (pick_any w3 p A n c zs (k' + 1) 6 h3 (by omega) (by omega) (by omega)).mono ?_
        rintro e w5 ⟨q, rfl, hq, h5, hc5, hz5⟩
        have hq := hq (by omega)
        clear hz5
        have hO5 := hO3.keep (w' := w5) (fun g hg => hc5.block g (hO3.lt g hg) (fun hm => by simp at hm; have := hS g hg; omega))
        have hC5 := hC3.trans hc5
        clear hO3 hC3 hc5 h3 hw7 hw8
        go_wp2_with fail
        go_loopw [5, 9] (fun t i wr => TextIn w p A n c zs k N ys.length t i wr) (fun _ i _ => idxOf i)
        case atStart => exact ⟨(q : Int), g, ys, c', S, k' + 1 + 1, rfl, by omega, by omega, fun h => absurd h (by omega), Nat.le_refl _, rfl, hl, hO5, hS, by omega, fun h => absurd h (Nat.lt_irrefl _), h5, hC5⟩
        case round =>
          obtain ⟨j, g2, ys2, c2, S2, kk, rfl, hj0, hj5, hjn, hll, rfl, hl2, hO2, hS2, hb1, hb2, hR2, hCh2⟩ := hrel
          by_cases hg : 0 ≤ j ∧ ys2.length < N
          · obtain ⟨d1, hlt2⟩ := hg
            have d2 : ((ys2.length : Nat) : Int) < (N : Int) := by omega
            have hw6 : IntKind.i64.wrap (j - 1) = j - 1 := by rw [IntWalk.i64_in _ (by omega)]
            have HOA := Lib.hid (hO2.below (bel1 (o := .cells #[.int .u8 y] 5)))
            have HLIT := Lib.hid (fun (W : World) => RowAt.lit (w := W) (e := 5) (cur := #[.int .u8 y]) (m := 1) rfl)
            have HONE : Hid (∀ u ∈ [Value.int .u8 y], u.oneCell' = true) := Lib.hid (by intro u hu; simp at hu; subst hu; rfl)
            have HC3 := Lib.hid hCh2
            clear hO2 hCh2
            go_wp2_with (at_builtin; go_must (refine wpList_append_row rfl _ _ 22 rfl 5 i0 (.int .u8 0) 1 1 Try.underlying22 hi0 hz0 hz1 hz2 rfl (by decide) S2 (some ⟨g2, 0, none⟩) _ ys2.length c2 1 _ (ys2.map (Value.int .u8)) [.int .u8 y] rfl rfl HOA.out (HLIT.out _) HONE.out (by unfold maxLen; omega) (by omega) ?_))
            intro A' c'' S' w4 hO' hS' hC'
            have H4 := Lib.hid (text_step h hlt2 hS2 hb1 hR2 HC3.out hO' hS' hC')
            clear hO' hS' hC' HOA HLIT HONE HC3
            obtain ⟨g4, ys4, c4, S4, k4, e4, hl4, hO4, hS4, hk4, hR4, hC4⟩ := H4.out
            injection e4 with e5 e6 e7
            subst e5 e7
            have HT : TextIn w p A n c zs k N ys.length (.slice (some ⟨g4, 0, none⟩) (ys2.length + 1) c'') (.int .i64 (j - 1)) w4 := ⟨j - 1, g4, ys4, c'', S4, k4, rfl, by omega, by omega, fun _ => by omega, by omega, by rw [e6], hl4, hO4, hS4, by omega, fun _ => hk4, hR4, hC4⟩
            have HT := Lib.hid HT
            clear hO4 hR4 hC4 hS4 H4
            go_wp2_with fail
            go_roundw
            all_goals first | exact HT.out | (show (j - 1 + 1).toNat < (j + 1).toNat; omega) | (repeat apply Exists.intro; exact ⟨HT.out, rfl⟩)
          · have hout : ys.length < ys2.length := by omega
            have hms : N - textLen (.slice (some ⟨g2, 0, none⟩) ys2.length c2) < N - textLen (.slice (some ⟨g, 0, none⟩) ys.length c') := by show N - ys2.length < N - ys.length; omega
            have H4 : TextSt w p A n c zs k N (.slice (some ⟨g2, 0, none⟩) ys2.length c2) _ := ⟨g2, ys2, c2, S2, kk, rfl, hl2, hO2, hS2, hb2 hout, hR2, hCh2⟩
            have H4 := Lib.hid H4
            clear hO2 hR2 hCh2 hS2
            by_cases d1 : 0 ≤ j
            · have d2 : ¬ ((ys2.length : Nat) : Int) < (N : Int) := by omega
              go_wp2_with fail
            · go_wp2_with fail
      · go_wp2_with fail
        refine (pick_any wr p A n c zs k' 2 hR (by omega) (by omega) (by omega)).mono ?_
        rintro e w3 ⟨v, rfl, hv, h3, hc3, hz3⟩
        have hv := hv (by omega)
        clear hz3
        have hO3 := hO.keep (w' := w3) (fun g hg => hc3.block g (hO.lt g hg) (fun hm => by simp at hm; have := hS g hg; omega))
        obtain ⟨y, hy⟩ : ∃ y : Int, y = (v : Int) * 97 := ⟨_, rfl⟩
        have hw7 : IntKind.i64.wrap ((v : Int) * 97) = (v : Int) * 97 := by rw [IntWalk.i64_in _ (by omega)]
        have hw8 : IntKind.u8.wrap ((v : Int) * 97) = y := by rw [hy, IntWalk.u8_in _ (by omega)]
        clear hy
        have HOA : Hid (OwnA (w3.alloc (.cells #[.int .u8 y] 5)) 5 1 S (some ⟨g, 0, none⟩) ys.length c' (ys.map (Value.int .u8))) := Lib.hid (hO3.below bel1)
        have HLIT : Hid (RowAt (w3.alloc (.cells #[.int .u8 y] 5)) (some ⟨w3.heap.size, 0, none⟩) (1 * 1) [.int .u8 y]) := Lib.hid (RowAt.lit (m := 1) rfl)
        have HONE : Hid (∀ u ∈ [Value.int .u8 y], u.oneCell' = true) := Lib.hid (by intro u hu; simp at hu; subst hu; rfl)
        have HC3 := Lib.hid (hCh.trans hc3)
        clear hO hO3 hCh hc3
        go_wp2_with (at_builtin; go_must (refine wpList_append_row rfl _ _ 22 rfl 5 i0 (.int .u8 0) 1 1 Try.underlying22 hi0 hz0 hz1 hz2 rfl (by decide) S (some ⟨g, 0, none⟩) (some ⟨w3.heap.size, 0, none⟩) ys.length c' 1 _ (ys.map (Value.int .u8)) [.int .u8 y] rfl rfl HOA.out HLIT.out HONE.out (by unfold maxLen; omega) (by omega) ?_))
        intro A' c'' S' w4 hO' hS' hC'
        have H4 := Lib.hid (text_step h hlt hS (by omega) h3 HC3.out hO' hS' hC')
        clear hO' hS' hC'
        go_wp2_with fail
        go_roundw
        case rel =>
          repeat apply Exists.intro
          exact ⟨H4.out, rfl⟩
        case measure => show N - (ys.length + 1) < N - ys.length; omega
    · have hd : ¬ ((ys.length : Nat) : Int) < (N : Int) := by omega
      have hat := hO.at_
      have hcv : (convert 22 9 (.slice (some ⟨g, 0, none⟩) ys.length c')).run Try.prog wr = .ok (.string (strOfNums ys)) wr := run_convert_bytes_arg (P := Try.prog) _ 22 5 Try.underlying22 Try.underlying5 g 0 ys.length c' ys rfl (fun i hi => by
        obtain ⟨b, off, hb, hc⟩ := hat.2 (by omega)
        injection hb with e; injection e with e1 e2; subst e1 e2
        rw [hc i (by omega), List.getElem?_map, List.getD_eq_getElem?_getD, List.getElem?_eq_getElem hi]; rfl) 9 Try.underlying9
      go_wp2_with fail
      go_ret
      exact ⟨_, k', rfl, by rw [strOfNums_size]; omega, by omega, hR, hCh⟩
end Go.Proofs.Ytfokpjoeankobaa
