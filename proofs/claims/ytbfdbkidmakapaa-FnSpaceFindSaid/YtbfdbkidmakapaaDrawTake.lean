/- DrawSpaceTake: a space, a row, a group. No condition. -/
import Derived.Test.YtbfdbkidmakapaaDrawRow
import Derived.Test.YtbfdbkidmakapaaRgb
namespace Go.Proofs.Ytbfdbkidmakapaa
set_option linter.unusedVariables false
set_option linter.unusedSimpArgs false
set_option linter.unnecessarySimpa false
open Go.RowKit

/-- A space's two lists lie away from the blocks p and q. -/
def SpIn (w : World) (p q : Nat) (A : Option Addr) (n c : Nat) (B : Option Addr) (m d : Nat) (xs ys : List Int) : Prop :=
  IntsAt w A n xs ∧ IntsAt w B m ys ∧ (A = none → n = 0 ∧ c = 0) ∧ (B = none → m = 0 ∧ d = 0) ∧ n ≤ c ∧ m ≤ d ∧
  (∀ b off, A = some ⟨b, off, none⟩ → b ≠ p ∧ b ≠ q) ∧ (∀ b off, B = some ⟨b, off, none⟩ → b ≠ p ∧ b ≠ q)
theorem SpIn.keep {w w' : World} {p q : Nat} {A : Option Addr} {n c : Nat} {B : Option Addr} {m d : Nat} {xs ys : List Int} (h : SpIn w p q A n c B m d xs ys) (hc : Chg (· ∈ [p, q]) w w') : SpIn w' p q A n c B m d xs ys := by
  obtain ⟨h1, h2, h3, h4, h5, h6, h7, h8⟩ := h
  exact ⟨h1.keep fun b off hA hlt => hc.block b hlt (by have := h7 b off hA; simp; omega), h2.keep fun b off hA hlt => hc.block b hlt (by have := h8 b off hA; simp; omega), h3, h4, h5, h6, h7, h8⟩
/-- Block q has two cells. -/
def Sh (q : Nat) (w : World) : Prop := ∃ a b, w.heap[q]? = some (.cells #[a, b] 25 (0, 0))
/-- Block q holds a space. -/
def Stored (p q : Nat) (w : World) : Prop := ∃ A n c B m d xs ys, w.heap[q]? = some (.cells #[.slice A n c, .slice B m d] 25 (0, 0)) ∧ SpIn w p q A n c B m d xs ys
/-- A reader in block p goes on; a result is stored into block q. -/
def Goes (p q : Nat) (w w' : World) : Prop := Chg (· ∈ [p, q]) w w' ∧ (Sh q w → Sh q w') ∧ (Stored p q w → Stored p q w')
theorem Goes.refl (p q : Nat) (w : World) : Goes p q w w := ⟨Chg.refl _ _, id, id⟩
theorem Goes.trans {p q : Nat} {a b c : World} (h : Goes p q a b) (k : Goes p q b c) : Goes p q a c := ⟨h.1.trans k.1, fun x => k.2.1 (h.2.1 x), fun x => k.2.2 (h.2.2 x)⟩
theorem Goes.of {p q : Nat} {w w' : World} (h : Chg (· ∈ [p]) w w') (hq : q < w.heap.size) (hpq : p ≠ q) : Goes p q w w' := by
  have h2 : Chg (· ∈ [p, q]) w w' := h.mono fun k _ hk => by simp at hk ⊢; exact .inl hk
  have hb : w'.heap[q]? = w.heap[q]? := h.block q hq (by simpa using hpq.symm)
  refine ⟨h2, fun ⟨a, b, h⟩ => ⟨a, b, hb.trans h⟩, fun ⟨A, n, c, B, m, d, xs, ys, h, hs⟩ => ⟨A, n, c, B, m, d, xs, ys, hb.trans h, hs.keep h2⟩⟩
def spStP (p q : Nat) : BStP (Goes p q) := ⟨fun v w => ∃ A n c B m d xs ys, v = .agg #[.slice A n c, .slice B m d] ∧ SpIn w p q A n c B m d xs ys, fun v w w' hg ⟨A, n, c, B, m, d, xs, ys, e, h⟩ => ⟨A, n, c, B, m, d, xs, ys, e, h.keep hg.1⟩⟩
def intStP (p q : Nat) : BStP (Goes p q) := ⟨fun v _ => ∃ x : Int, v = .int .i64 x, fun _ _ _ _ h => h⟩
def natStP (p q m : Nat) : BStP (Goes p q) := ⟨fun v _ => ∃ r : Nat, v = .int .i64 (r : Int) ∧ r < m, fun _ _ _ _ h => h⟩
/-- A literal list of ints in a block of its own. -/
def LitIn (p q m : Nat) (g : Nat) (w : World) : Prop := g ≠ p ∧ g ≠ q ∧ ∃ cur, w.heap[g]? = some (.cells cur 3 (0, 0)) ∧ cur.size = m ∧ AllInts cur
theorem LitIn.keep {p q m g : Nat} {w w' : World} (h : LitIn p q m g w) (hg : Goes p q w w') : LitIn p q m g w' := by
  obtain ⟨h1, h2, cur, h3, h4⟩ := h
  have hlt : g < w.heap.size := (Array.getElem?_eq_some_iff.1 h3).1
  exact ⟨h1, h2, cur, (hg.1.block g hlt (by simp; omega)).trans h3, h4⟩
def litStP (p q m : Nat) : BStP (Goes p q) := ⟨fun v w => ∃ g : Nat, v = .slice (some ⟨g, 0, none⟩) m m ∧ LitIn p q m g w, fun _ _ _ hg ⟨g, e, h⟩ => ⟨g, e, h.keep hg⟩⟩
def ptrStP (p q m : Nat) : BStP (Goes p q) := ⟨fun v w => ∃ g r : Nat, v = .pointer (some ⟨g, r, none⟩) ∧ r < m ∧ LitIn p q m g w, fun _ _ _ hg ⟨g, r, e, hr, h⟩ => ⟨g, r, e, hr, h.keep hg⟩⟩
def storedStP (p q : Nat) : BStP (Goes p q) := ⟨fun _ w => Stored p q w, fun _ _ _ hg h => hg.2.2 h⟩
/-- A drawn space, a row and a group. -/
def DrawnTake (w : World) (e : Ending) (w' : World) : Prop :=
  ∃ A n c B m d xs ys x t, e = .returned (.tuple #[.agg #[.slice A n c, .slice B m d], .int .i64 x, .int .i64 t]) ∧ IntsAt w' A n xs ∧ IntsAt w' B m ys ∧ ((A = none → n = 0 ∧ c = 0) ∧ (B = none → m = 0 ∧ d = 0) ∧ n ≤ c ∧ m ≤ d) ∧ Below w.heap.size w w'

set_option maxRecDepth 100000 in
set_option maxHeartbeats 4000000 in
theorem drawSpaceTake_any (A : Option Addr) (n c : Nat) (zs : List Int) (w : World) (h : BytesIn w A n c zs) : Calls Try.prog 24 #[.slice A n c] w (DrawnTake w) := by
  go_enter Try.func24, Try.ntmps24
  go_wp2_with fail
  refine (l6Open_any A n c zs _ ?_).mono ?_
  · exact h.below ((Below.refl _ _).alloc (Nat.le_refl _) _)
  rintro e w1 ⟨m, c', ys, rfl, hr, hb1⟩
  have s1 := hb1.size
  have hp1 := hr.2.2.2.1
  simp at s1 hr hp1
  have hz : w.heap.size < w1.heap.size := by omega
  have hq1 : w1.heap[w.heap.size]? = some (.cells #[.slice none 0 0, .slice none 0 0] 25 (0, 0)) := (hb1.block _ (by simp)).trans (heap_alloc_new _ _)
  have hb2 : Below w.heap.size w w1 := ((Below.refl _ _).alloc (Nat.le_refl _) _).trans (hb1.mono (by simp))
  obtain ⟨q, hq⟩ : ∃ q, q = w.heap.size := ⟨_, rfl⟩
  go_wp2_with fail
  clear hq
  have Sr : ∀ a, Goes (w.heap.size + 1) w.heap.size a a := fun a => Goes.refl _ _ a
  have hpq : w.heap.size + 1 ≠ w.heap.size := by omega
  have hAq : ∀ b off, 0 < m → A = some ⟨b, off, none⟩ → b ≠ w.heap.size := by
    intro b off hm hA e
    obtain ⟨b', off', hA', _, hcc⟩ := hr.bytes hm
    obtain ⟨z, _, _, hc⟩ := hcc 0 hm
    rw [hA] at hA'
    injection hA' with e1
    injection e1 with e2 e3
    subst e2 e3 e
    rw [cell_of_row _ _ (off + 0) _ _ (0, 0) hq1] at hc
    match off, hc with
    | 0, hc => simp at hc
    | 1, hc => simp at hc
    | k + 2, hc => simp at hc
  have HAQ := Lib.hid hAq; clear hAq
  have HR := Lib.hid hr; have HB1 := Lib.hid hb1; have HQ1 := Lib.hid hq1; clear hr hb1 hq1
  apply wp_region_rgb (Goes (w.heap.size + 1) w.heap.size) (fun w' k => ∃ k0, k0 ≤ k ∧ Rd w' (w.heap.size + 1) A m c' ys k0) [0, 100, 0, 2, 0, 0, 1, 0, 0, 0, 0, 0] (by kernel_rfl) [false, false, false, true, true, false, false, false, true, true, true, true, true, true, true, true, true] [some 8, some 9, some 10, some 11, some 12, some 13, some 14, some 15, some 16, none, some 3, some 4] [[], [0], [], [2], [], [], [5], [4, 6], [7], [1], [3], [8]] [.is _, spStP (w.heap.size + 1) w.heap.size, .is _, intStP (w.heap.size + 1) w.heap.size, litStP (w.heap.size + 1) w.heap.size 8, .is _, natStP (w.heap.size + 1) w.heap.size 8, ptrStP (w.heap.size + 1) w.heap.size 8, intStP (w.heap.size + 1) w.heap.size, storedStP (w.heap.size + 1) w.heap.size, intStP (w.heap.size + 1) w.heap.size, intStP (w.heap.size + 1) w.heap.size] (by kernel_rfl)
  case hobs =>
    refine ⟨fun y w' k hS hj hk hF K hK => ?_, ?_⟩
    · skip -- 0: move
      simp only [fillL, cond_true, cond_false, List.getD_cons_zero, List.getD_cons_succ, StP.is, Act.put, List.setIfInBounds_toArray, List.set_cons_zero, List.set_cons_succ, Nat.reduceAdd, BStP.is, Option.isSome_some, Option.isSome_none] at hK ⊢
      simp only [List.sum_cons, List.sum_nil, List.getD_cons_zero, List.getD_cons_succ, Nat.reduceAdd, Nat.add_zero] at hk
      refine rg_yes (by kernel_rfl) ?_
      clear hF
      go_simp
      exact hK _ _ (Sr _) (by simpa using hj) rfl
    refine ⟨fun y w' k hS hj hk hF K hK => ?_, ?_⟩
    · skip -- 1: call
      have e8 : y 8 = _ := hF.1
      simp only [fillL, cond_true, cond_false, List.getD_cons_zero, List.getD_cons_succ, StP.is, Act.put, List.setIfInBounds_toArray, List.set_cons_zero, List.set_cons_succ, Nat.reduceAdd, e8, BStP.is, Option.isSome_some, Option.isSome_none] at hK ⊢
      simp only [List.sum_cons, List.sum_nil, List.getD_cons_zero, List.getD_cons_succ, Nat.reduceAdd, Nat.add_zero] at hk
      refine rg_yes (by kernel_rfl) ?_
      clear e8
      clear hF
      obtain ⟨k0, hk0, hrd⟩ := hj
      have hps : w.heap.size + 1 < w'.heap.size := Nat.lt_of_lt_of_le hp1 hS.1.size
      go_simp
      go_at_call 41
      refine (l91Space_any w' _ A m c' ys k0 hrd (by omega)).mono ?_
      rintro e w'' ⟨A1, n1, c1, B1, m1, d1, xs, zs2, k', rfl, h1, h2, g1, g2, l1, l2, e1, e2, hk', hr2, hc⟩
      exact hK _ _ (Goes.of hc (Nat.lt_of_lt_of_le hz hS.1.size) hpq) ⟨k', by omega, hr2⟩ ⟨A1, n1, c1, B1, m1, d1, xs, zs2, rfl, h1, h2, g1, g2, l1, l2, fun b off hA => by have := e1 b off hA; omega, fun b off hA => by have := e2 b off hA; omega⟩
    refine ⟨fun y w' k hS hj hk hF K hK => ?_, ?_⟩
    · skip -- 2: move
      simp only [fillL, cond_true, cond_false, List.getD_cons_zero, List.getD_cons_succ, StP.is, Act.put, List.setIfInBounds_toArray, List.set_cons_zero, List.set_cons_succ, Nat.reduceAdd, BStP.is, Option.isSome_some, Option.isSome_none] at hK ⊢
      simp only [List.sum_cons, List.sum_nil, List.getD_cons_zero, List.getD_cons_succ, Nat.reduceAdd, Nat.add_zero] at hk
      refine rg_yes (by kernel_rfl) ?_
      clear hF
      go_simp
      exact hK _ _ (Sr _) (by simpa using hj) rfl
    refine ⟨fun y w' k hS hj hk hF K hK => ?_, ?_⟩
    · skip -- 3: call
      have e10 : y 10 = _ := hF.1
      simp only [fillL, cond_true, cond_false, List.getD_cons_zero, List.getD_cons_succ, StP.is, Act.put, List.setIfInBounds_toArray, List.set_cons_zero, List.set_cons_succ, Nat.reduceAdd, e10, BStP.is, Option.isSome_some, Option.isSome_none] at hK ⊢
      simp only [List.sum_cons, List.sum_nil, List.getD_cons_zero, List.getD_cons_succ, Nat.reduceAdd, Nat.add_zero] at hk
      refine rg_yes (by kernel_rfl) ?_
      clear e10
      clear hF
      obtain ⟨k0, hk0, hrd⟩ := hj
      go_simp
      go_at_call 47
      refine (l91Row_any w' _ A m c' ys k0 hrd (by omega)).mono ?_
      rintro e w'' ⟨x, k2, rfl, hk2, hr3, hc3⟩
      exact hK _ _ (Goes.of hc3 (Nat.lt_of_lt_of_le hz hS.1.size) hpq) ⟨k2, by omega, hr3⟩ ⟨x, rfl⟩
    refine ⟨fun y w' k hS hj hk hF K hK => ?_, ?_⟩
    · skip -- 4: buildSlice
      simp only [fillL, cond_true, cond_false, List.getD_cons_zero, List.getD_cons_succ, StP.is, Act.put, List.setIfInBounds_toArray, List.set_cons_zero, List.set_cons_succ, Nat.reduceAdd, BStP.is, Option.isSome_some, Option.isSome_none] at hK ⊢
      simp only [List.sum_cons, List.sum_nil, List.getD_cons_zero, List.getD_cons_succ, Nat.reduceAdd, Nat.add_zero] at hk
      refine rg_yes (by kernel_rfl) ?_
      clear hF
      have hps : w.heap.size + 1 < w'.heap.size := Nat.lt_of_lt_of_le hp1 hS.1.size
      go_simp
      obtain ⟨k0, hk0, hrd⟩ := hj
      exact hK _ _ (Goes.of ((Chg.refl _ _).alloc _) (Nat.lt_of_lt_of_le hz hS.1.size) hpq) ⟨k0, by simpa using hk0, hrd.below ((Below.refl _ _).alloc (Nat.le_refl _) _)⟩ ⟨_, rfl, by omega, by omega, _, heap_alloc_new _ _, rfl, by have := allInts_of [1, 2, 3, 5, 9, 0, 900, 901]; simpa using this⟩
    refine ⟨fun y w' k hS hj hk hF K hK => ?_, ?_⟩
    · skip -- 5: move
      simp only [fillL, cond_true, cond_false, List.getD_cons_zero, List.getD_cons_succ, StP.is, Act.put, List.setIfInBounds_toArray, List.set_cons_zero, List.set_cons_succ, Nat.reduceAdd, BStP.is, Option.isSome_some, Option.isSome_none] at hK ⊢
      simp only [List.sum_cons, List.sum_nil, List.getD_cons_zero, List.getD_cons_succ, Nat.reduceAdd, Nat.add_zero] at hk
      refine rg_yes (by kernel_rfl) ?_
      clear hF
      go_simp
      exact hK _ _ (Sr _) (by simpa using hj) rfl
    refine ⟨fun y w' k hS hj hk hF K hK => ?_, ?_⟩
    · skip -- 6: call
      have e13 : y 13 = _ := hF.1
      simp only [fillL, cond_true, cond_false, List.getD_cons_zero, List.getD_cons_succ, StP.is, Act.put, List.setIfInBounds_toArray, List.set_cons_zero, List.set_cons_succ, Nat.reduceAdd, e13, BStP.is, Option.isSome_some, Option.isSome_none] at hK ⊢
      simp only [List.sum_cons, List.sum_nil, List.getD_cons_zero, List.getD_cons_succ, Nat.reduceAdd, Nat.add_zero] at hk
      refine rg_yes (by kernel_rfl) ?_
      clear e13
      clear hF
      obtain ⟨k0, hk0, hrd⟩ := hj
      go_simp
      go_at_call 48
      refine (pick_any w' _ A m c' ys k0 8 hrd (by omega) (by omega) (by omega)).mono ?_
      rintro e w'' ⟨r, rfl, hr1, rd1, hc1, hz1⟩
      exact hK _ _ (Goes.of hc1 (Nat.lt_of_lt_of_le hz hS.1.size) hpq) ⟨k0 + 1, by omega, rd1⟩ ⟨r, rfl, by have := hr1 (by omega); omega⟩
    refine ⟨fun y w' k hS hj hk hF K hK => ?_, ?_⟩
    · skip -- 7: indexAddr
      obtain ⟨g, e12, hlit⟩ := hF.1
      obtain ⟨r, e14, hr8⟩ := hF.2.1
      simp only [fillL, cond_true, cond_false, List.getD_cons_zero, List.getD_cons_succ, StP.is, Act.put, List.setIfInBounds_toArray, List.set_cons_zero, List.set_cons_succ, Nat.reduceAdd, e12, e14, BStP.is, Option.isSome_some, Option.isSome_none] at hK ⊢
      simp only [List.sum_cons, List.sum_nil, List.getD_cons_zero, List.getD_cons_succ, Nat.reduceAdd, Nat.add_zero] at hk
      refine rg_yes (by kernel_rfl) ?_
      clear e12 e14
      clear hF
      have b0 : (0 : Int) ≤ (r : Int) := by omega
      have b1 : (r : Int) < 8 := by omega
      go_simp
      exact hK _ _ (Sr _) (by simpa using hj) ⟨g, r, rfl, hr8, hlit⟩
    refine ⟨fun y w' k hS hj hk hF K hK => ?_, ?_⟩
    · skip -- 8: load
      obtain ⟨g, r, e15, hr8, hlit⟩ := hF.1
      simp only [fillL, cond_true, cond_false, List.getD_cons_zero, List.getD_cons_succ, StP.is, Act.put, List.setIfInBounds_toArray, List.set_cons_zero, List.set_cons_succ, Nat.reduceAdd, e15, BStP.is, Option.isSome_some, Option.isSome_none] at hK ⊢
      simp only [List.sum_cons, List.sum_nil, List.getD_cons_zero, List.getD_cons_succ, Nat.reduceAdd, Nat.add_zero] at hk
      refine rg_yes (by kernel_rfl) ?_
      clear e15
      clear hF
      obtain ⟨hg1, hg2, cur, hcur, hsz, hall⟩ := hlit
      obtain ⟨x, hx⟩ := hall r (by omega)
      have hc : w'.cell? ⟨g, r, none⟩ = some (.int .i64 x) := (cell_of_row _ _ r _ _ (0, 0) hcur).trans hx
      go_simp
      exact hK _ _ (Sr _) (by simpa using hj) ⟨x, rfl⟩
    refine ⟨fun y w' k hS hj hk hF K hK => ?_, ?_⟩
    · skip -- 9: store
      obtain ⟨A1, n1, c1, B1, m1, d1, xs, zs2, e9, hin⟩ := hF.1
      simp only [fillL, cond_true, cond_false, List.getD_cons_zero, List.getD_cons_succ, StP.is, Act.put, List.setIfInBounds_toArray, List.set_cons_zero, List.set_cons_succ, Nat.reduceAdd, e9, BStP.is, Option.isSome_some, Option.isSome_none] at hK ⊢
      simp only [List.sum_cons, List.sum_nil, List.getD_cons_zero, List.getD_cons_succ, Nat.reduceAdd, Nat.add_zero] at hk
      refine rg_yes (by kernel_rfl) ?_
      clear e9
      clear hF
      obtain ⟨a, b, hsh⟩ := hS.2.1 ⟨_, _, HQ1.out⟩
      have t0 : w'.cell? ⟨w.heap.size, 0, none⟩ = some a := cell_of_row _ _ 0 _ _ (0, 0) hsh
      have t1 : w'.cell? ⟨w.heap.size, 1, none⟩ = some b := cell_of_row _ _ 1 _ _ (0, 0) hsh
      have f0 : w'.frozen? ⟨w.heap.size, 0, none⟩ = false := by simp [World.frozen?, hsh]
      have f1 : w'.frozen? ⟨w.heap.size, 1, none⟩ = false := by simp [World.frozen?, hsh]
      have hst : ((w'.setCell ⟨w.heap.size, 0, none⟩ (.slice A1 n1 c1)).setCell ⟨w.heap.size, 1, none⟩ (.slice B1 m1 d1)).heap[w.heap.size]? = some (.cells #[.slice A1 n1 c1, .slice B1 m1 d1] 25 (0, 0)) := by simp [World.setCell, Array.getElem?_modify, hsh]
      have hch : Chg (· ∈ [w.heap.size + 1, w.heap.size]) w' ((w'.setCell ⟨w.heap.size, 0, none⟩ (.slice A1 n1 c1)).setCell ⟨w.heap.size, 1, none⟩ (.slice B1 m1 d1)) := ((Chg.refl _ _).setCell (.inl (by simp)) _).setCell (.inl (by simp)) _
      obtain ⟨k0, hk0, hrd⟩ := hj
      have hrd2 := Rd.keep (w' := (w'.setCell ⟨w.heap.size, 0, none⟩ (.slice A1 n1 c1)).setCell ⟨w.heap.size, 1, none⟩ (.slice B1 m1 d1)) hrd hch.size (fun b hlt hh => have hne : b ≠ w.heap.size := (by rcases hh with rfl | ⟨hm, off, hA⟩; (exact hpq); exact HAQ.out b off hm hA); (Below.heap_setCell _ ⟨w.heap.size, 1, none⟩ _ b hne).trans (Below.heap_setCell _ ⟨w.heap.size, 0, none⟩ _ b hne))
      have HH := Lib.hid (And.intro hst hch); have HRD := Lib.hid hrd2; have HIN := Lib.hid hin; clear hst hch hrd hrd2 hsh hin
      go_simp
      exact hK undef _ ⟨HH.out.2, fun _ => ⟨_, _, HH.out.1⟩, fun _ => ⟨_, _, _, _, _, _, _, _, HH.out.1, HIN.out.keep HH.out.2⟩⟩ ⟨k0, by simpa using hk0, HRD.out⟩ ⟨_, _, _, _, _, _, _, _, HH.out.1, HIN.out.keep HH.out.2⟩
    refine ⟨fun y w' k hS hj hk hF K hK => ?_, ?_⟩
    · skip -- 10: assign
      obtain ⟨xe11, e11⟩ := hF.1
      simp only [fillL, cond_true, cond_false, List.getD_cons_zero, List.getD_cons_succ, StP.is, Act.put, List.setIfInBounds_toArray, List.set_cons_zero, List.set_cons_succ, Nat.reduceAdd, e11, BStP.is, Option.isSome_some, Option.isSome_none] at hK ⊢
      simp only [List.sum_cons, List.sum_nil, List.getD_cons_zero, List.getD_cons_succ, Nat.reduceAdd, Nat.add_zero] at hk
      refine rg_yes (by kernel_rfl) ?_
      clear e11
      clear hF
      go_simp
      exact hK _ _ (Sr _) (by simpa using hj) ⟨_, rfl⟩
    refine ⟨fun y w' k hS hj hk hF K hK => ?_, ?_⟩
    · skip -- 11: assign
      obtain ⟨xe16, e16⟩ := hF.1
      simp only [fillL, cond_true, cond_false, List.getD_cons_zero, List.getD_cons_succ, StP.is, Act.put, List.setIfInBounds_toArray, List.set_cons_zero, List.set_cons_succ, Nat.reduceAdd, e16, BStP.is, Option.isSome_some, Option.isSome_none] at hK ⊢
      simp only [List.sum_cons, List.sum_nil, List.getD_cons_zero, List.getD_cons_succ, Nat.reduceAdd, Nat.add_zero] at hk
      refine rg_yes (by kernel_rfl) ?_
      clear e16
      clear hF
      go_simp
      exact hK _ _ (Sr _) (by simpa using hj) ⟨_, rfl⟩
    trivial
  case hSr => exact Sr
  case hSt => exact fun a b => Goes.trans a b
  case hJ => exact fun _ _ _ h ⟨k0, h0, hr⟩ => ⟨k0, Nat.le_trans h0 h, hr⟩
  case hdrew => exact Goes.of (Chg.of_below (Below.drew (Below.refl _ _)) _) hz hpq
  case hj0 => exact ⟨0, Nat.le_refl _, HR.out⟩
  case hend =>
    intro y w5 hS hj hF
    obtain ⟨A1, n1, c1, B1, m1, d1, xs, zs2, hst, hin⟩ := hF.2.2.2.2.2.2.2.2.2.1
    obtain ⟨x, e3⟩ := hF.2.2.2.2.2.2.2.2.2.2.1
    obtain ⟨t, e4⟩ := hF.2.2.2.2.2.2.2.2.2.2.2.1
    clear hF hj
    simp only [fillL, cond_true, cond_false, Nat.reduceAdd, e3, e4]
    clear e3 e4
    have c0 : w5.cell? ⟨w.heap.size, 0, none⟩ = some (.slice A1 n1 c1) := cell_of_row _ _ 0 _ _ (0, 0) hst
    have c1_ : w5.cell? ⟨w.heap.size, 1, none⟩ = some (.slice B1 m1 d1) := cell_of_row _ _ 1 _ _ (0, 0) hst
    have hbel : Below w.heap.size w w5 := hb2.trans (hS.1.below (fun k _ hk => by simp at hk; omega) hb2.size)
    obtain ⟨i1, i2, i3, i4, i5, i6, _, _⟩ := hin
    clear hS hst
    go_wp2_with fail
    exact bodyPost_ret (v := .tuple #[.agg #[.slice A1 n1 c1, .slice B1 m1 d1], .int .i64 x, .int .i64 t]) (by simp [results, Try.results24, go_sem, c0, c1_]) rfl ⟨_, _, _, _, _, _, _, _, _, _, rfl, i1, i2, ⟨i3, i4, i5, i6⟩, hbel⟩
end Go.Proofs.Ytbfdbkidmakapaa
