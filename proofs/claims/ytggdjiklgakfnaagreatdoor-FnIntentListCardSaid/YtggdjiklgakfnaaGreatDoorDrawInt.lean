/- Drawn intents. No condition. -/
import Derived.Test.YtggdjiklgakfnaaGreatDoorDrawSpoil
import Derived.Test.YtggdjiklgakfnaaGreatDoorDrawCells
import Derived.Test.YtggdjiklgakfnaaGreatDoorLib
import Derived.Test.YtggdjiklgakfnaaGreatDoorNames
namespace Go.Proofs.YtggdjiklgakfnaaGreatDoor
set_option linter.unnecessarySimpa false
section
open Go.RowKit
set_option linter.unusedVariables false
set_option linter.unusedSimpArgs false

def StrQ (m : Nat) (v : Value) : Prop := ∃ s : ByteArray, v = .string s ∧ s.size ≤ m
theorem litStrs {m : Nat} (xs : List ByteArray) (h : xs.all (fun s => decide (s.size ≤ m)) = true) : ∀ i, i < ((xs.map Value.string).toArray).size → ∃ v, ((xs.map Value.string).toArray)[i]? = some v ∧ StrQ m v := by
  intro i hi
  have hi : i < xs.length := by simpa using hi
  refine ⟨.string xs[i], by simp [hi], xs[i], rfl, ?_⟩
  have := List.all_eq_true.1 h xs[i] (List.getElem_mem hi)
  simpa using this
set_option maxRecDepth 100000 in
set_option maxHeartbeats 1000000 in
theorem l92Name_any (w : World) (p : Nat) (A : Option Addr) (n c : Nat) (zs : List Int) (k : Nat) (hr : Rd w p A n c zs k) (hk : k ≤ 900000) :
    Calls Tryz.prog 85 #[.pointer (some ⟨p, 0, none⟩)] w (PickedText 20 2 w p A n c zs k) := by
  have hp := hr.2.2.2.1
  go_enter Tryz.func85, Tryz.ntmps85
  go_wp2_with fail
  refine (pick_any _ p A n c zs _ 24 hr (by omega) (by omega) (by omega)).mono ?_
  rintro e w1 ⟨r, rfl, hr1, rd1, hc1, hz1⟩
  have hr1 := hr1 (by omega)
  clear hz1
  by_cases h0 : r = 0
  · have e0 : ((r : Int) == 0) = true := by simp [h0]
    clear h0
    go_wp2_with fail
    refine (pick_any _ p A n c zs _ 5 (rd1.below ((Below.refl _ _).alloc (Nat.le_refl _) _)) (by omega) (by omega) (by omega)).mono ?_
    rintro e w2 ⟨r2, rfl, hr2, rd2, hc2, hz2⟩
    have hr2 := hr2 (by omega)
    obtain ⟨v, hx, s, rfl, hs⟩ := lit_val (r := r2) (Q := StrQ 20) (litStrs [⟨#[]⟩, ⟨#[65]⟩, ⟨#[97, 98, 99, 100, 101]⟩, ⟨#[97, 47]⟩, ⟨#[109, 97, 105, 110]⟩] (by decide)) hc2 rfl (by have := rd1.2.2.2.1; omega) (by simp; omega)
    clear hz2
    go_wp2_with fail
    go_ret
    exact ⟨s, _, rfl, hs, by omega, rd2, (hc1.alloc _).trans hc2⟩
  · have e0 : ((r : Int) == 0) = false := by simp [h0]
    clear h0
    go_wp2_with fail
    refine (pick_any _ p A n c zs _ 5 (rd1.below ((Below.refl _ _).alloc (Nat.le_refl _) _)) (by omega) (by omega) (by omega)).mono ?_
    rintro e w2 ⟨r2, rfl, hr2, rd2, hc2, hz2⟩
    have hr2 := hr2 (by omega)
    obtain ⟨v, hx, s, rfl, hs⟩ := lit_val (r := r2) (Q := StrQ 20) (litStrs [⟨#[97]⟩, ⟨#[98]⟩, ⟨#[99]⟩, ⟨#[97, 98]⟩, ⟨#[122, 122]⟩] (by decide)) hc2 rfl (by have := rd1.2.2.2.1; omega) (by simp; omega)
    clear hz2
    go_wp2_with fail
    go_ret
    exact ⟨s, _, rfl, hs, by omega, rd2, (hc1.alloc _).trans hc2⟩
set_option maxRecDepth 100000 in
set_option maxHeartbeats 1000000 in
theorem l92Path_any (w : World) (p : Nat) (A : Option Addr) (n c : Nat) (zs : List Int) (k : Nat) (hr : Rd w p A n c zs k) (hk : k ≤ 900000) :
    Calls Tryz.prog 86 #[.pointer (some ⟨p, 0, none⟩)] w (PickedText 20 2 w p A n c zs k) := by
  have hp := hr.2.2.2.1
  go_enter Tryz.func86, Tryz.ntmps86
  go_wp2_with fail
  refine (pick_any _ p A n c zs _ 30 hr (by omega) (by omega) (by omega)).mono ?_
  rintro e w1 ⟨r, rfl, hr1, rd1, hc1, hz1⟩
  have hr1 := hr1 (by omega)
  clear hz1
  by_cases h0 : r = 0
  · have e0 : ((r : Int) == 0) = true := by simp [h0]
    clear h0
    go_wp2_with fail
    refine (pick_any _ p A n c zs _ 8 (rd1.below ((Below.refl _ _).alloc (Nat.le_refl _) _)) (by omega) (by omega) (by omega)).mono ?_
    rintro e w2 ⟨r2, rfl, hr2, rd2, hc2, hz2⟩
    have hr2 := hr2 (by omega)
    obtain ⟨v, hx, s, rfl, hs⟩ := lit_val (r := r2) (Q := StrQ 20) (litStrs [⟨#[]⟩, ⟨#[97]⟩, ⟨#[47, 47]⟩, ⟨#[47, 97, 47]⟩, ⟨#[47, 65]⟩, ⟨#[47, 97, 47, 98, 47, 99, 47, 97, 47, 98]⟩, ⟨#[47, 97, 98, 99, 100, 101]⟩, ⟨#[47, 97, 47, 47, 98]⟩] (by decide)) hc2 rfl (by have := rd1.2.2.2.1; omega) (by simp; omega)
    clear hz2
    go_wp2_with fail
    go_ret
    exact ⟨s, _, rfl, hs, by omega, rd2, (hc1.alloc _).trans hc2⟩
  · have e0 : ((r : Int) == 0) = false := by simp [h0]
    clear h0
    go_wp2_with fail
    refine (pick_any _ p A n c zs _ 10 (rd1.below ((Below.refl _ _).alloc (Nat.le_refl _) _)) (by omega) (by omega) (by omega)).mono ?_
    rintro e w2 ⟨r2, rfl, hr2, rd2, hc2, hz2⟩
    have hr2 := hr2 (by omega)
    obtain ⟨v, hx, s, rfl, hs⟩ := lit_val (r := r2) (Q := StrQ 20) (litStrs [⟨#[47, 97]⟩, ⟨#[47, 98]⟩, ⟨#[47, 97, 47, 98]⟩, ⟨#[47, 97, 47, 99]⟩, ⟨#[47, 98, 47, 97]⟩, ⟨#[47, 99]⟩, ⟨#[47, 97, 47, 98, 47, 99]⟩, ⟨#[47, 99, 47, 97]⟩, ⟨#[47, 97, 98]⟩, ⟨#[47]⟩] (by decide)) hc2 rfl (by have := rd1.2.2.2.1; omega) (by simp; omega)
    clear hz2
    go_wp2_with fail
    go_ret
    exact ⟨s, _, rfl, hs, by omega, rd2, (hc1.alloc _).trans hc2⟩
set_option maxRecDepth 100000 in
set_option maxHeartbeats 1000000 in
theorem l93Head_any (w : World) (p : Nat) (A : Option Addr) (n c : Nat) (zs : List Int) (k : Nat) (hr : Rd w p A n c zs k) (hk : k ≤ 800000) :
    Calls Tryz.prog 56 #[.pointer (some ⟨p, 0, none⟩)] w (PickedText 20 3 w p A n c zs k) := by
  have hp := hr.2.2.2.1
  go_enter Tryz.func56, Tryz.ntmps56
  go_wp2_with fail
  refine (pick_any _ p A n c zs _ 14 hr (by omega) (by omega) (by omega)).mono ?_
  rintro e w1 ⟨r, rfl, hr1, rd1, hc1, hz1⟩
  have hr1 := hr1 (by omega)
  clear hz1
  by_cases h0 : r = 0
  · have e0 : ((r : Int) == 0) = true := by simp [h0]
    clear h0
    go_wp2_with fail
    refine (l92Name_any w1 p A n c zs (k + 1) rd1 (by omega)).mono ?_
    rintro e w2 ⟨s, k2, rfl, hs, hk2, rd2, hc2⟩
    go_wp2_with fail
    go_ret
    exact ⟨s, k2, rfl, hs, by omega, rd2, hc1.trans hc2⟩
  · have e0 : ((r : Int) == 0) = false := by simp [h0]
    clear h0
    go_wp2_with fail
    refine (pick_any _ p A n c zs _ 5 (rd1.below ((Below.refl _ _).alloc (Nat.le_refl _) _)) (by omega) (by omega) (by omega)).mono ?_
    rintro e w2 ⟨r2, rfl, hr2, rd2, hc2, hz2⟩
    have hr2 := hr2 (by omega)
    obtain ⟨v, hx, s, rfl, hs⟩ := lit_val (r := r2) (Q := StrQ 20) (litStrs [⟨#[109, 97, 105, 110]⟩, ⟨#[109, 97, 105, 110]⟩, ⟨#[109, 97, 105, 110]⟩, ⟨#[99]⟩, ⟨#[98]⟩] (by decide)) hc2 rfl (by have := rd1.2.2.2.1; omega) (by simp; omega)
    clear hz2
    go_wp2_with fail
    go_ret
    exact ⟨s, _, rfl, hs, by omega, rd2, (hc1.alloc _).trans hc2⟩
theorem size117 : (⟨#[117]⟩ : ByteArray).size = 1 := rfl
theorem l6Many_u (x : Int) (m : Nat) (w : World) (hx : x = (m : Int)) (hm : m ≤ 201) : Calls Tryz.prog 87 #[.string ⟨#[117]⟩, .int .i64 x] w (Many m w) := by
  subst hx
  exact l6Many_any _ m m w (by rw [size117]; omega) (by omega) (by omega) (by rw [size117]; omega)
/-- In a region: what most operations do, what the store does. -/
def ZS (p B : Nat) (a b : World) : Prop := Chg (fun g => g = p ∨ B ≤ g) a b
theorem ZS.of {p B : Nat} {a b : World} (h : Chg (· ∈ [p]) a b) : ZS p B a b := Chg.mono h (fun k _ hk => .inl (by simpa using hk))
def softLitP (p B : Nat) (T : TypeId) (cur : Array Value) (n : Nat) : MStP (ZS p B) (Chg (· ∈ [p])) := ⟨fun v w => ∃ g : Nat, g ≠ p ∧ v = .slice (some ⟨g, 0, none⟩) n n ∧ w.heap[g]? = some (.cells cur T (0, 0)), false, fun v w w' hs ⟨g, hp, e, hg⟩ => ⟨g, hp, e, (hs.block g (Array.getElem?_eq_some_iff.1 hg).1 (by simpa using hp)).trans hg⟩, fun h => by cases h⟩
def softAtP (p B : Nat) (T : TypeId) (cur : Array Value) (n : Nat) : MStP (ZS p B) (Chg (· ∈ [p])) := ⟨fun v w => ∃ g r : Nat, g ≠ p ∧ r < n ∧ v = .pointer (some ⟨g, r, none⟩) ∧ w.heap[g]? = some (.cells cur T (0, 0)), false, fun v w w' hs ⟨g, r, hp, hr, e, hg⟩ => ⟨g, r, hp, hr, e, (hs.block g (Array.getElem?_eq_some_iff.1 hg).1 (by simpa using hp)).trans hg⟩, fun h => by cases h⟩
def softBoxP (p B : Nat) (T : TypeId) (cur : Array Value) : MStP (ZS p B) (Chg (· ∈ [p])) := ⟨fun v w => ∃ g : Nat, g ≠ p ∧ B ≤ g ∧ v = .pointer (some ⟨g, 0, none⟩) ∧ w.heap[g]? = some (.cells cur T (0, 0)), false, fun v w w' hs ⟨g, hp, hB, e, hg⟩ => ⟨g, hp, hB, e, (hs.block g (Array.getElem?_eq_some_iff.1 hg).1 (by simpa using hp)).trans hg⟩, fun h => by cases h⟩
def hardP {S N : World → World → Prop} (Q : Value → Prop) : MStP S N := ⟨fun v _ => Q v, true, fun _ _ _ _ h => h, fun _ _ _ _ _ h => h⟩
def NatQ (m : Nat) (v : Value) : Prop := ∃ r : Nat, v = .int .i64 (r : Int) ∧ r < m
def IntQ (v : Value) : Prop := ∃ r : Int, v = .int .i64 r
def OpQ (v : Value) : Prop := ∃ (x : Int) (s : ByteArray), v = .agg #[.int .i64 x, .string s, .string ⟨#[]⟩, .int .i64 0, .string ⟨#[]⟩] ∧ s.size ≤ 20
/-- A drawn operation. -/
def PickedOp (w : World) (p : Nat) (A : Option Addr) (n c : Nat) (zs : List Int) (k : Nat) (e : Ending) (w' : World) : Prop :=
  ∃ (x : Int) (s t : ByteArray) (a : Int) (u : ByteArray) (k' : Nat), e = .returned (.agg #[.int .i64 x, .string s, .string t, .int .i64 a, .string u]) ∧ s.size ≤ 100 ∧ t.size ≤ 100 ∧ u.size ≤ 100 ∧ k' ≤ k + 1200 ∧ Rd w' p A n c zs k' ∧ Chg (· ∈ [p]) w w'
set_option maxRecDepth 100000 in
set_option maxHeartbeats 8000000 in
theorem l92Op_any (w : World) (p : Nat) (A : Option Addr) (n c : Nat) (zs : List Int) (k : Nat) (h : Rd w p A n c zs k) (hk : k ≤ 800000) :
    Calls Tryz.prog 57 #[.pointer (some ⟨p, 0, none⟩)] w (PickedOp w p A n c zs k) := by
  have hp0 := h.2.2.2.1
  go_enter Tryz.func57, Tryz.ntmps57
  go_wp2_with fail
  obtain ⟨w1, hW⟩ : ∃ x, x = World.alloc w (.cells #[.int .i64 0, .string ⟨#[]⟩, .string ⟨#[]⟩, .int .i64 0, .string ⟨#[]⟩] 32) := ⟨_, rfl⟩
  have hb1 : Below w.heap.size w w1 := by rw [hW]; exact bel1
  have b1_0 : Hid (w1.heap[w.heap.size]? = some (.cells #[.int .i64 0, .string ⟨#[]⟩, .string ⟨#[]⟩, .int .i64 0, .string ⟨#[]⟩] 32 (0, 0))) := Lib.hid (by rw [hW]; exact heap_alloc_new _ _)
  have zz1 : w.heap.size + 1 ≤ w1.heap.size := by rw [hW]; simp
  have hX1 : Chg (· ∈ [p]) w w1 := Chg.of_below hb1 _
  have hR1 : Rd w1 p A n c zs k := h.below hb1
  rw [← hW]
  have pl1 : p < w1.heap.size := by omega
  clear hW hb1
  have Nr : ∀ a, Chg (· ∈ [p]) a a := fun a => Chg.refl _ a
  have JW : ∀ (y : Nat → Value) (w' : World) (k' k0 : Nat), Rd w' p A n c zs k0 → k0 ≤ k + k' → k' < 1000 → (fun y w' k' => (∃ k0, k0 ≤ k + k' ∧ Rd w' p A n c zs k0) ∧ (1000 ≤ k' → ∃ (g : Nat) (x : Int) (s : ByteArray), y 3 = .pointer (some ⟨g, 0, none⟩) ∧ w1.heap.size ≤ g ∧ s.size ≤ 20 ∧ w'.heap[g]? = some (.cells #[.int .i64 x, .string s, .string ⟨#[]⟩, .int .i64 0, .string ⟨#[]⟩] 32 (0, 0)))) y w' k' := fun y w' k' k0 hr h1 h2 => ⟨⟨k0, h1, hr⟩, fun h3 => absurd h3 (by omega)⟩
  apply wp_region_rgz (ZS p (w1.heap.size)) (Chg (· ∈ [p])) (fun y w' k' => (∃ k0, k0 ≤ k + k' ∧ Rd w' p A n c zs k0) ∧ (1000 ≤ k' → ∃ (g : Nat) (x : Int) (s : ByteArray), y 3 = .pointer (some ⟨g, 0, none⟩) ∧ w1.heap.size ≤ g ∧ s.size ≤ 20 ∧ w'.heap[g]? = some (.cells #[.int .i64 x, .string s, .string ⟨#[]⟩, .int .i64 0, .string ⟨#[]⟩] 32 (0, 0)))) [0, 0, 1, 0, 0, 0, 2, 0, 0, 1000] [1000, 1000, 1001, 1000, 1000, 1000, 1002, 1000, 1000, 1000] (by kernel_rfl) (false :: false :: false :: true :: true :: true :: true :: true :: true :: true :: true :: true :: false :: false :: false :: false :: false :: false :: false :: false :: false :: false :: false :: false :: false :: false :: false :: false :: false :: false :: false :: false :: false :: false :: false :: false :: false :: false :: false :: false :: false :: false :: false :: false :: false :: false :: false :: false :: false :: false :: false :: false :: false :: false :: false :: false :: false :: false :: false :: false :: false :: false :: false :: false :: false :: false :: false :: false :: false :: false :: []) [some 4, some 5, some 6, some 7, some 8, some 9, some 10, some 11, some 3, none] [[], [], [1], [0, 2], [3], [], [5], [4, 6], [], [7, 8]] [false, false, false, false, false, false, false, false, false, true] [false, true, true, false, true, true, true, true, false, true] [] [softLitP p (w1.heap.size) 3 #[.int .i64 1, .int .i64 1, .int .i64 2, .int .i64 2, .int .i64 3, .int .i64 3, .int .i64 3, .int .i64 4, .int .i64 5, .int .i64 6, .int .i64 7, .int .i64 7] 12, MStP.is _, hardP (NatQ 12), softAtP p (w1.heap.size) 3 #[.int .i64 1, .int .i64 1, .int .i64 2, .int .i64 2, .int .i64 3, .int .i64 3, .int .i64 3, .int .i64 4, .int .i64 5, .int .i64 6, .int .i64 7, .int .i64 7] 12, hardP IntQ, MStP.is _, hardP (StrQ 20), hardP OpQ, softBoxP p (w1.heap.size) 32 #[.int .i64 0, .string ⟨#[]⟩, .string ⟨#[]⟩, .int .i64 0, .string ⟨#[]⟩], MStP.is _] (by kernel_rfl) (by kernel_rfl) (by kernel_rfl) (by kernel_rfl)
  case hobs =>
    refine ⟨fun y w' k hS hj hk hF K hK => ?_, ?_⟩
    · skip -- 0: buildSlice
      simp only [fillL, cond_true, cond_false, List.getD_cons_zero, List.getD_cons_succ, StP.is, Act.put, List.setIfInBounds_toArray, List.set_cons_zero, List.set_cons_succ, Nat.reduceAdd, MStP.is, Option.isSome_some, Option.isSome_none] at hK ⊢
      simp only [List.sum_cons, List.sum_nil, List.getD_cons_zero, List.getD_cons_succ, Nat.reduceAdd, Nat.add_zero] at hk
      refine rg_yes (by kernel_rfl) ?_
      obtain ⟨⟨k0, hk0, hrd⟩, -⟩ := hj
      have hpl := hrd.2.2.2.1
      have hsz : w1.heap.size ≤ w'.heap.size := Chg.size hS
      clear hF
      go_simp
      exact hK _ _ ((Chg.refl _ _).alloc _) (JW _ _ _ _ (hrd.below bel1) (by omega) (by omega)) ⟨_, by omega, rfl, heap_alloc_new _ _⟩
    refine ⟨fun y w' k hS hj hk hF K hK => ?_, ?_⟩
    · skip -- 1: move
      simp only [fillL, cond_true, cond_false, List.getD_cons_zero, List.getD_cons_succ, StP.is, Act.put, List.setIfInBounds_toArray, List.set_cons_zero, List.set_cons_succ, Nat.reduceAdd, MStP.is, Option.isSome_some, Option.isSome_none] at hK ⊢
      simp only [List.sum_cons, List.sum_nil, List.getD_cons_zero, List.getD_cons_succ, Nat.reduceAdd, Nat.add_zero] at hk
      refine rg_yes (by kernel_rfl) ?_
      obtain ⟨⟨k0, hk0, hrd⟩, -⟩ := hj
      have hpl := hrd.2.2.2.1
      have hsz : w1.heap.size ≤ w'.heap.size := Chg.size hS
      clear hF
      go_simp
      exact hK _ _ (Nr _) (JW _ _ _ _ hrd (by omega) (by omega)) rfl
    refine ⟨fun y w' k hS hj hk hF K hK => ?_, ?_⟩
    · skip -- 2: call
      have e5 : y 5 = _ := hF.1
      have e5' := Lib.hid e5
      simp only [fillL, cond_true, cond_false, List.getD_cons_zero, List.getD_cons_succ, StP.is, Act.put, List.setIfInBounds_toArray, List.set_cons_zero, List.set_cons_succ, Nat.reduceAdd, e5, MStP.is, Option.isSome_some, Option.isSome_none] at hK ⊢
      simp only [List.sum_cons, List.sum_nil, List.getD_cons_zero, List.getD_cons_succ, Nat.reduceAdd, Nat.add_zero] at hk
      refine rg_yes (by kernel_rfl) ?_
      obtain ⟨⟨k0, hk0, hrd⟩, -⟩ := hj
      have hpl := hrd.2.2.2.1
      have hsz : w1.heap.size ≤ w'.heap.size := Chg.size hS
      clear e5
      clear hF
      go_simp
      go_at_call 19
      refine (pick_any w' p A n c zs k0 12 hrd (by omega) (by omega) (by omega)).mono ?_
      rintro e w'' ⟨r, rfl, hr1, rd1, hc1, hz1⟩
      exact hK _ _ (hc1) (JW _ _ _ _ (rd1) (by omega) (by omega)) ⟨r, rfl, by have := hr1 (by omega); omega⟩
    refine ⟨fun y w' k hS hj hk hF K hK => ?_, ?_⟩
    · skip -- 3: indexAddr
      obtain ⟨g4, hg4, e4, hl4⟩ := hF.1
      obtain ⟨r6, e6, hr6⟩ := hF.2.1
      have e4' := Lib.hid e4
      have e6' := Lib.hid e6
      simp only [fillL, cond_true, cond_false, List.getD_cons_zero, List.getD_cons_succ, StP.is, Act.put, List.setIfInBounds_toArray, List.set_cons_zero, List.set_cons_succ, Nat.reduceAdd, e4, e6, MStP.is, Option.isSome_some, Option.isSome_none] at hK ⊢
      simp only [List.sum_cons, List.sum_nil, List.getD_cons_zero, List.getD_cons_succ, Nat.reduceAdd, Nat.add_zero] at hk
      refine rg_yes (by kernel_rfl) ?_
      obtain ⟨⟨k0, hk0, hrd⟩, -⟩ := hj
      have hpl := hrd.2.2.2.1
      have hsz : w1.heap.size ≤ w'.heap.size := Chg.size hS
      clear e4 e6
      clear hF
      have u0 : (0 : Int) ≤ (r6 : Int) := by omega
      have u1 : (r6 : Int) < 12 := by omega
      go_simp
      exact hK _ _ (Nr _) (JW _ _ _ _ (hrd) (by omega) (by omega)) ⟨g4, r6, hg4, hr6, by simp, hl4⟩
    refine ⟨fun y w' k hS hj hk hF K hK => ?_, ?_⟩
    · skip -- 4: load
      obtain ⟨g7, r7, hg7, hr7, e7, hl7⟩ := hF.1
      have e7' := Lib.hid e7
      simp only [fillL, cond_true, cond_false, List.getD_cons_zero, List.getD_cons_succ, StP.is, Act.put, List.setIfInBounds_toArray, List.set_cons_zero, List.set_cons_succ, Nat.reduceAdd, e7, MStP.is, Option.isSome_some, Option.isSome_none] at hK ⊢
      simp only [List.sum_cons, List.sum_nil, List.getD_cons_zero, List.getD_cons_succ, Nat.reduceAdd, Nat.add_zero] at hk
      refine rg_yes (by kernel_rfl) ?_
      obtain ⟨⟨k0, hk0, hrd⟩, -⟩ := hj
      have hpl := hrd.2.2.2.1
      have hsz : w1.heap.size ≤ w'.heap.size := Chg.size hS
      clear e7
      clear hF
      obtain ⟨x, hx⟩ := litInts [1, 1, 2, 2, 3, 3, 3, 4, 5, 6, 7, 7] r7 (by simp; omega)
      have hcl := (cell_of_row _ _ r7 _ _ (0, 0) hl7).trans hx
      clear hx
      go_simp
      exact hK _ _ (Nr _) (JW _ _ _ _ (hrd) (by omega) (by omega)) ⟨x, rfl⟩
    refine ⟨fun y w' k hS hj hk hF K hK => ?_, ?_⟩
    · skip -- 5: move
      simp only [fillL, cond_true, cond_false, List.getD_cons_zero, List.getD_cons_succ, StP.is, Act.put, List.setIfInBounds_toArray, List.set_cons_zero, List.set_cons_succ, Nat.reduceAdd, MStP.is, Option.isSome_some, Option.isSome_none] at hK ⊢
      simp only [List.sum_cons, List.sum_nil, List.getD_cons_zero, List.getD_cons_succ, Nat.reduceAdd, Nat.add_zero] at hk
      refine rg_yes (by kernel_rfl) ?_
      obtain ⟨⟨k0, hk0, hrd⟩, -⟩ := hj
      have hpl := hrd.2.2.2.1
      have hsz : w1.heap.size ≤ w'.heap.size := Chg.size hS
      clear hF
      go_simp
      exact hK _ _ (Nr _) (JW _ _ _ _ hrd (by omega) (by omega)) rfl
    refine ⟨fun y w' k hS hj hk hF K hK => ?_, ?_⟩
    · skip -- 6: call
      have e9 : y 9 = _ := hF.1
      have e9' := Lib.hid e9
      simp only [fillL, cond_true, cond_false, List.getD_cons_zero, List.getD_cons_succ, StP.is, Act.put, List.setIfInBounds_toArray, List.set_cons_zero, List.set_cons_succ, Nat.reduceAdd, e9, MStP.is, Option.isSome_some, Option.isSome_none] at hK ⊢
      simp only [List.sum_cons, List.sum_nil, List.getD_cons_zero, List.getD_cons_succ, Nat.reduceAdd, Nat.add_zero] at hk
      refine rg_yes (by kernel_rfl) ?_
      obtain ⟨⟨k0, hk0, hrd⟩, -⟩ := hj
      have hpl := hrd.2.2.2.1
      have hsz : w1.heap.size ≤ w'.heap.size := Chg.size hS
      clear e9
      clear hF
      go_simp
      go_at_call 86
      refine (l92Path_any w' p A n c zs k0 hrd (by omega)).mono ?_
      rintro e w'' ⟨s, k2, rfl, hs, hk2, rd2, hc2⟩
      exact hK _ _ (hc2) (JW _ _ _ _ (rd2) (by omega) (by omega)) ⟨s, rfl, hs⟩
    refine ⟨fun y w' k hS hj hk hF K hK => ?_, ?_⟩
    · skip -- 7: build
      obtain ⟨x8, e8⟩ := hF.1
      obtain ⟨s10, e10, hs10⟩ := hF.2.1
      have e8' := Lib.hid e8
      have e10' := Lib.hid e10
      simp only [fillL, cond_true, cond_false, List.getD_cons_zero, List.getD_cons_succ, StP.is, Act.put, List.setIfInBounds_toArray, List.set_cons_zero, List.set_cons_succ, Nat.reduceAdd, e8, e10, MStP.is, Option.isSome_some, Option.isSome_none] at hK ⊢
      simp only [List.sum_cons, List.sum_nil, List.getD_cons_zero, List.getD_cons_succ, Nat.reduceAdd, Nat.add_zero] at hk
      refine rg_yes (by kernel_rfl) ?_
      obtain ⟨⟨k0, hk0, hrd⟩, -⟩ := hj
      have hpl := hrd.2.2.2.1
      have hsz : w1.heap.size ≤ w'.heap.size := Chg.size hS
      clear e8 e10
      clear hF
      go_simp
      exact hK _ _ (Nr _) (JW _ _ _ _ (hrd) (by omega) (by omega)) ⟨x8, s10, rfl, hs10⟩
    refine ⟨fun y w' k hS hj hk hF K hK => ?_, ?_⟩
    · skip -- 8: alloc
      simp only [fillL, cond_true, cond_false, List.getD_cons_zero, List.getD_cons_succ, StP.is, Act.put, List.setIfInBounds_toArray, List.set_cons_zero, List.set_cons_succ, Nat.reduceAdd, MStP.is, Option.isSome_some, Option.isSome_none] at hK ⊢
      simp only [List.sum_cons, List.sum_nil, List.getD_cons_zero, List.getD_cons_succ, Nat.reduceAdd, Nat.add_zero] at hk
      refine rg_yes (by kernel_rfl) ?_
      obtain ⟨⟨k0, hk0, hrd⟩, -⟩ := hj
      have hpl := hrd.2.2.2.1
      have hsz : w1.heap.size ≤ w'.heap.size := Chg.size hS
      clear hF
      go_simp
      exact hK _ _ ((Chg.refl _ _).alloc _) (JW _ _ _ _ (hrd.below bel1) (by omega) (by omega)) ⟨_, by omega, by omega, rfl, heap_alloc_new _ _⟩
    refine ⟨fun y w' k hS hj hk hF K hK => ?_, ?_⟩
    · skip -- 9: store
      obtain ⟨x11, s11, e11, hs11⟩ := hF.1
      obtain ⟨g3, hg3, hB3, e3, hl3⟩ := hF.2.1
      have e11' := Lib.hid e11
      have e3' := Lib.hid e3
      simp only [fillL, cond_true, cond_false, List.getD_cons_zero, List.getD_cons_succ, StP.is, Act.put, List.setIfInBounds_toArray, List.set_cons_zero, List.set_cons_succ, Nat.reduceAdd, e11, e3, MStP.is, Option.isSome_some, Option.isSome_none] at hK ⊢
      simp only [List.sum_cons, List.sum_nil, List.getD_cons_zero, List.getD_cons_succ, Nat.reduceAdd, Nat.add_zero] at hk
      refine rg_yes (by kernel_rfl) ?_
      obtain ⟨⟨k0, hk0, hrd⟩, -⟩ := hj
      have hpl := hrd.2.2.2.1
      have hsz : w1.heap.size ≤ w'.heap.size := Chg.size hS
      clear e11 e3
      clear hF
      have fz := fun o => block_free hl3 o
      have fz0 := fz 0; have fz1 := fz 1; have fz2 := fz 2; have fz3 := fz 3; have fz4 := fz 4
      have cz0 := cell_of_row _ _ 0 _ _ (0, 0) hl3
      have cz1 := cell_of_row _ _ 1 _ _ (0, 0) hl3
      have cz2 := cell_of_row _ _ 2 _ _ (0, 0) hl3
      have cz3 := cell_of_row _ _ 3 _ _ (0, 0) hl3
      have cz4 := cell_of_row _ _ 4 _ _ (0, 0) hl3
      clear fz
      have E3 := e3'.out
      clear e3'
      have HSET := Lib.hid (set_5 (x0 := .int .i64 x11) (x1 := .string s11) (x2 := .string ⟨#[]⟩) (x3 := .int .i64 0) (x4 := .string ⟨#[]⟩) hl3)
      have HE3 := Lib.hid E3; clear E3
      have HL3 := Lib.hid hl3; clear hl3
      go_simp
      refine hK undef _ ?_ ⟨⟨k0, by omega, ?_⟩, fun _ => ⟨g3, x11, s11, HE3.out, hB3, hs11, HSET.out⟩⟩ rfl
      · exact Chg.setCell (Chg.setCell (Chg.setCell (Chg.setCell (Chg.setCell (Chg.refl _ _) (p := ⟨g3, 0, none⟩) (.inl (.inr hB3)) _) (p := ⟨g3, 1, none⟩) (.inl (.inr hB3)) _) (p := ⟨g3, 2, none⟩) (.inl (.inr hB3)) _) (p := ⟨g3, 3, none⟩) (.inl (.inr hB3)) _) (p := ⟨g3, 4, none⟩) (.inl (.inr hB3)) _
      · exact Rd.set hR1 (Rd.set hR1 (Rd.set hR1 (Rd.set hR1 (Rd.set hR1 hrd (a := ⟨g3, 0, none⟩) hB3 _) (a := ⟨g3, 1, none⟩) hB3 _) (a := ⟨g3, 2, none⟩) hB3 _) (a := ⟨g3, 3, none⟩) hB3 _) (a := ⟨g3, 4, none⟩) hB3 _
    trivial
  case hH => rfl
  case hNS => exact fun a b h => ZS.of h
  case hSt => exact fun a b => Chg.trans a b
  case hb => rfl
  case hdrew => exact ZS.of ((Chg.refl _ _).drewN 1)
  case hj0 => exact fun y => JW _ _ _ _ hR1 (by omega) (by omega)
  case hend =>
    intro y w2 hS hJ _
    obtain ⟨⟨k1, hk1, hr2⟩, hJ2⟩ := hJ
    obtain ⟨g, x, s, e3, hB, hs, hl⟩ := hJ2 (by decide)
    clear hJ2 Nr JW
    simp only [List.sum_cons, List.sum_nil, Nat.reduceAdd, Nat.add_zero] at hk1
    simp only [fillL, cond_true, cond_false, Nat.reduceAdd, e3]
    clear e3
    have hc2 : Chg (· ∈ [p]) w1 w2 := Chg.mono hS (fun k h1 h2 => by rcases h2 with h2 | h2 <;> simp <;> omega)
    clear hS
    have hgp : g ≠ p := by omega
    have X2 : Hid (Chg (· ∈ [p]) w w2) := Lib.hid (hX1.trans hc2)
    have b2_0 : Hid (w2.heap[w.heap.size]? = some (.cells #[.int .i64 0, .string ⟨#[]⟩, .string ⟨#[]⟩, .int .i64 0, .string ⟨#[]⟩] 32 (0, 0))) := Lib.hid ((hc2.block _ (by omega) (by simp; omega)).trans b1_0.out)
    have b2_1 : Hid (w2.heap[g]? = some (.cells #[.int .i64 x, .string s, .string ⟨#[]⟩, .int .i64 0, .string ⟨#[]⟩] 32 (0, 0))) := Lib.hid hl
    have R2 : Hid (Rd w2 p A n c zs k1) := Lib.hid hr2
    have zz2 : w1.heap.size ≤ w2.heap.size := hc2.size
    have pl2 : p < w2.heap.size := by omega
    have hgl : g < w2.heap.size := (Array.getElem?_eq_some_iff.1 hl).1
    clear hX1 hc2 b1_0 hl hR1 hr2 pl1
    have l2_0 : w.heap.size < w2.heap.size := (Array.getElem?_eq_some_iff.1 b2_0.out).1
    have c2_0_0 : w2.cell? ⟨w.heap.size, 0, none⟩ = some (.int .i64 0) := cell_of_row _ _ 0 _ _ (0, 0) b2_0.out
    have f2_0_0 : w2.frozen? ⟨w.heap.size, 0, none⟩ = false := block_free b2_0.out _
    have c2_0_1 : w2.cell? ⟨w.heap.size, 1, none⟩ = some (.string ⟨#[]⟩) := cell_of_row _ _ 1 _ _ (0, 0) b2_0.out
    have f2_0_1 : w2.frozen? ⟨w.heap.size, 1, none⟩ = false := block_free b2_0.out _
    have c2_0_2 : w2.cell? ⟨w.heap.size, 2, none⟩ = some (.string ⟨#[]⟩) := cell_of_row _ _ 2 _ _ (0, 0) b2_0.out
    have f2_0_2 : w2.frozen? ⟨w.heap.size, 2, none⟩ = false := block_free b2_0.out _
    have c2_0_3 : w2.cell? ⟨w.heap.size, 3, none⟩ = some (.int .i64 0) := cell_of_row _ _ 3 _ _ (0, 0) b2_0.out
    have f2_0_3 : w2.frozen? ⟨w.heap.size, 3, none⟩ = false := block_free b2_0.out _
    have c2_0_4 : w2.cell? ⟨w.heap.size, 4, none⟩ = some (.string ⟨#[]⟩) := cell_of_row _ _ 4 _ _ (0, 0) b2_0.out
    have f2_0_4 : w2.frozen? ⟨w.heap.size, 4, none⟩ = false := block_free b2_0.out _
    have l2_1 : g < w2.heap.size := (Array.getElem?_eq_some_iff.1 b2_1.out).1
    have c2_1_0 : w2.cell? ⟨g, 0, none⟩ = some (.int .i64 x) := cell_of_row _ _ 0 _ _ (0, 0) b2_1.out
    have f2_1_0 : w2.frozen? ⟨g, 0, none⟩ = false := block_free b2_1.out _
    have c2_1_1 : w2.cell? ⟨g, 1, none⟩ = some (.string s) := cell_of_row _ _ 1 _ _ (0, 0) b2_1.out
    have f2_1_1 : w2.frozen? ⟨g, 1, none⟩ = false := block_free b2_1.out _
    have c2_1_2 : w2.cell? ⟨g, 2, none⟩ = some (.string ⟨#[]⟩) := cell_of_row _ _ 2 _ _ (0, 0) b2_1.out
    have f2_1_2 : w2.frozen? ⟨g, 2, none⟩ = false := block_free b2_1.out _
    have c2_1_3 : w2.cell? ⟨g, 3, none⟩ = some (.int .i64 0) := cell_of_row _ _ 3 _ _ (0, 0) b2_1.out
    have f2_1_3 : w2.frozen? ⟨g, 3, none⟩ = false := block_free b2_1.out _
    have c2_1_4 : w2.cell? ⟨g, 4, none⟩ = some (.string ⟨#[]⟩) := cell_of_row _ _ 4 _ _ (0, 0) b2_1.out
    have f2_1_4 : w2.frozen? ⟨g, 4, none⟩ = false := block_free b2_1.out _
    have hxc : x = 3 ∨ x = 4 ∨ x = 6 ∨ x = 7 ∨ (¬ x = 3 ∧ ¬ x = 4 ∧ ¬ x = 6 ∧ ¬ x = 7) := by omega
    rcases hxc with hx | hx | hx | hx | ⟨n3, n4, n6, n7⟩
    · skip
      have t3 : (x == 3) = true := by simp [hx]
      have t4 : (x == 4) = false := by simp [hx]
      have t6 : (x == 6) = false := by simp [hx]
      have t7 : (x == 7) = false := by simp [hx]
      clear hx
      go_wp2_with fail
      refine (pick_any _ p A n c zs (k1) 9 (Rd.below R2.out bel1) (by omega) (by omega) (by omega)).mono ?_
      rintro e w3 ⟨v1, rfl, hv1, rd3, hc3, hz3⟩
      have hv1 := hv1 (by omega)
      clear hz3
      obtain ⟨a, ha⟩ := lit_int (r := v1) (litInts [0, 1, 5, 12, 13, 24, 40, 100, 180]) hc3 rfl (by omega) (by simp; omega)
      have hv10 : (0 : Int) ≤ (v1 : Int) := by omega
      have hv11 : (v1 : Int) < 9 := by omega
      have zz3 : w2.heap.size + 1 ≤ w3.heap.size := by have := hc3.size; (try simp [World.setCell] at this); omega
      have X3 : Hid (Chg (· ∈ [p]) w w3) := Lib.hid ((Chg.alloc X2.out _).trans hc3)
      have b3_0 : Hid (w3.heap[w.heap.size]? = some (.cells #[.int .i64 0, .string ⟨#[]⟩, .string ⟨#[]⟩, .int .i64 0, .string ⟨#[]⟩] 32 (0, 0))) := Lib.hid ((hc3.block _ (by first | omega | (simp [World.setCell] <;> omega)) (by simp <;> omega)).trans ((Below.heap_alloc _ _ _ (by first | omega | (simp [World.setCell] <;> omega))).trans b2_0.out))
      have b3_1 : Hid (w3.heap[g]? = some (.cells #[.int .i64 x, .string s, .string ⟨#[]⟩, .int .i64 0, .string ⟨#[]⟩] 32 (0, 0))) := Lib.hid ((hc3.block _ (by first | omega | (simp [World.setCell] <;> omega)) (by simp <;> omega)).trans ((Below.heap_alloc _ _ _ (by first | omega | (simp [World.setCell] <;> omega))).trans b2_1.out))
      have R3 : Hid (Rd w3 p A n c zs (k1 + 1)) := Lib.hid rd3
      have pl3 : p < w3.heap.size := by omega
      clear b2_0 b2_1 X2 R2 pl2 l2_0 c2_0_0 f2_0_0 c2_0_1 f2_0_1 c2_0_2 f2_0_2 c2_0_3 f2_0_3 c2_0_4 f2_0_4 l2_1 c2_1_0 f2_1_0 c2_1_1 f2_1_1 c2_1_2 f2_1_2 c2_1_3 f2_1_3 c2_1_4 f2_1_4 hc3 rd3
      have l3_0 : w.heap.size < w3.heap.size := (Array.getElem?_eq_some_iff.1 b3_0.out).1
      have c3_0_0 : w3.cell? ⟨w.heap.size, 0, none⟩ = some (.int .i64 0) := cell_of_row _ _ 0 _ _ (0, 0) b3_0.out
      have f3_0_0 : w3.frozen? ⟨w.heap.size, 0, none⟩ = false := block_free b3_0.out _
      have c3_0_1 : w3.cell? ⟨w.heap.size, 1, none⟩ = some (.string ⟨#[]⟩) := cell_of_row _ _ 1 _ _ (0, 0) b3_0.out
      have f3_0_1 : w3.frozen? ⟨w.heap.size, 1, none⟩ = false := block_free b3_0.out _
      have c3_0_2 : w3.cell? ⟨w.heap.size, 2, none⟩ = some (.string ⟨#[]⟩) := cell_of_row _ _ 2 _ _ (0, 0) b3_0.out
      have f3_0_2 : w3.frozen? ⟨w.heap.size, 2, none⟩ = false := block_free b3_0.out _
      have c3_0_3 : w3.cell? ⟨w.heap.size, 3, none⟩ = some (.int .i64 0) := cell_of_row _ _ 3 _ _ (0, 0) b3_0.out
      have f3_0_3 : w3.frozen? ⟨w.heap.size, 3, none⟩ = false := block_free b3_0.out _
      have c3_0_4 : w3.cell? ⟨w.heap.size, 4, none⟩ = some (.string ⟨#[]⟩) := cell_of_row _ _ 4 _ _ (0, 0) b3_0.out
      have f3_0_4 : w3.frozen? ⟨w.heap.size, 4, none⟩ = false := block_free b3_0.out _
      have l3_1 : g < w3.heap.size := (Array.getElem?_eq_some_iff.1 b3_1.out).1
      have c3_1_0 : w3.cell? ⟨g, 0, none⟩ = some (.int .i64 x) := cell_of_row _ _ 0 _ _ (0, 0) b3_1.out
      have f3_1_0 : w3.frozen? ⟨g, 0, none⟩ = false := block_free b3_1.out _
      have c3_1_1 : w3.cell? ⟨g, 1, none⟩ = some (.string s) := cell_of_row _ _ 1 _ _ (0, 0) b3_1.out
      have f3_1_1 : w3.frozen? ⟨g, 1, none⟩ = false := block_free b3_1.out _
      have c3_1_2 : w3.cell? ⟨g, 2, none⟩ = some (.string ⟨#[]⟩) := cell_of_row _ _ 2 _ _ (0, 0) b3_1.out
      have f3_1_2 : w3.frozen? ⟨g, 2, none⟩ = false := block_free b3_1.out _
      have c3_1_3 : w3.cell? ⟨g, 3, none⟩ = some (.int .i64 0) := cell_of_row _ _ 3 _ _ (0, 0) b3_1.out
      have f3_1_3 : w3.frozen? ⟨g, 3, none⟩ = false := block_free b3_1.out _
      have c3_1_4 : w3.cell? ⟨g, 4, none⟩ = some (.string ⟨#[]⟩) := cell_of_row _ _ 4 _ _ (0, 0) b3_1.out
      have f3_1_4 : w3.frozen? ⟨g, 4, none⟩ = false := block_free b3_1.out _
      go_wp2_with fail
      refine (l91Text_any _ p A n c zs (k1 + 1) 24 (Rd.set h R3.out (a := ⟨g, 3, none⟩) (by first | exact Nat.le_refl _ | (dsimp only; omega)) _) (by omega) (by omega)).mono ?_
      rintro e w4 ⟨u, k4, rfl, hu, hk4, rd4, hc4⟩
      have zz4 : w3.heap.size + 0 ≤ w4.heap.size := by have := hc4.size; (try simp [World.setCell] at this); omega
      have X4 : Hid (Chg (· ∈ [p]) w w4) := Lib.hid ((Chg.setCell (p := ⟨g, 3, none⟩) X3.out (.inr (by first | exact Nat.le_refl _ | (dsimp only; omega))) _).trans hc4)
      have b4_0 : Hid (w4.heap[w.heap.size]? = some (.cells #[.int .i64 0, .string ⟨#[]⟩, .string ⟨#[]⟩, .int .i64 0, .string ⟨#[]⟩] 32 (0, 0))) := Lib.hid ((hc4.block _ (by first | omega | (simp [World.setCell] <;> omega)) (by simp <;> omega)).trans ((heap_far (by first | omega | (simp <;> omega))).trans b3_0.out))
      have b4_1 : Hid (w4.heap[g]? = some (.cells #[.int .i64 x, .string s, .string ⟨#[]⟩, .int .i64 a, .string ⟨#[]⟩] 32 (0, 0))) := Lib.hid ((hc4.block _ (by first | omega | (simp [World.setCell] <;> omega)) (by simp <;> omega)).trans (block_set b3_1.out))
      have R4 : Hid (Rd w4 p A n c zs (k4)) := Lib.hid rd4
      have pl4 : p < w4.heap.size := by omega
      clear b3_0 b3_1 X3 R3 pl3 l3_0 c3_0_0 f3_0_0 c3_0_1 f3_0_1 c3_0_2 f3_0_2 c3_0_3 f3_0_3 c3_0_4 f3_0_4 l3_1 c3_1_0 f3_1_0 c3_1_1 f3_1_1 c3_1_2 f3_1_2 c3_1_3 f3_1_3 c3_1_4 f3_1_4 hc4 rd4
      have l4_0 : w.heap.size < w4.heap.size := (Array.getElem?_eq_some_iff.1 b4_0.out).1
      have c4_0_0 : w4.cell? ⟨w.heap.size, 0, none⟩ = some (.int .i64 0) := cell_of_row _ _ 0 _ _ (0, 0) b4_0.out
      have f4_0_0 : w4.frozen? ⟨w.heap.size, 0, none⟩ = false := block_free b4_0.out _
      have c4_0_1 : w4.cell? ⟨w.heap.size, 1, none⟩ = some (.string ⟨#[]⟩) := cell_of_row _ _ 1 _ _ (0, 0) b4_0.out
      have f4_0_1 : w4.frozen? ⟨w.heap.size, 1, none⟩ = false := block_free b4_0.out _
      have c4_0_2 : w4.cell? ⟨w.heap.size, 2, none⟩ = some (.string ⟨#[]⟩) := cell_of_row _ _ 2 _ _ (0, 0) b4_0.out
      have f4_0_2 : w4.frozen? ⟨w.heap.size, 2, none⟩ = false := block_free b4_0.out _
      have c4_0_3 : w4.cell? ⟨w.heap.size, 3, none⟩ = some (.int .i64 0) := cell_of_row _ _ 3 _ _ (0, 0) b4_0.out
      have f4_0_3 : w4.frozen? ⟨w.heap.size, 3, none⟩ = false := block_free b4_0.out _
      have c4_0_4 : w4.cell? ⟨w.heap.size, 4, none⟩ = some (.string ⟨#[]⟩) := cell_of_row _ _ 4 _ _ (0, 0) b4_0.out
      have f4_0_4 : w4.frozen? ⟨w.heap.size, 4, none⟩ = false := block_free b4_0.out _
      have l4_1 : g < w4.heap.size := (Array.getElem?_eq_some_iff.1 b4_1.out).1
      have c4_1_0 : w4.cell? ⟨g, 0, none⟩ = some (.int .i64 x) := cell_of_row _ _ 0 _ _ (0, 0) b4_1.out
      have f4_1_0 : w4.frozen? ⟨g, 0, none⟩ = false := block_free b4_1.out _
      have c4_1_1 : w4.cell? ⟨g, 1, none⟩ = some (.string s) := cell_of_row _ _ 1 _ _ (0, 0) b4_1.out
      have f4_1_1 : w4.frozen? ⟨g, 1, none⟩ = false := block_free b4_1.out _
      have c4_1_2 : w4.cell? ⟨g, 2, none⟩ = some (.string ⟨#[]⟩) := cell_of_row _ _ 2 _ _ (0, 0) b4_1.out
      have f4_1_2 : w4.frozen? ⟨g, 2, none⟩ = false := block_free b4_1.out _
      have c4_1_3 : w4.cell? ⟨g, 3, none⟩ = some (.int .i64 a) := cell_of_row _ _ 3 _ _ (0, 0) b4_1.out
      have f4_1_3 : w4.frozen? ⟨g, 3, none⟩ = false := block_free b4_1.out _
      have c4_1_4 : w4.cell? ⟨g, 4, none⟩ = some (.string ⟨#[]⟩) := cell_of_row _ _ 4 _ _ (0, 0) b4_1.out
      have f4_1_4 : w4.frozen? ⟨g, 4, none⟩ = false := block_free b4_1.out _
      go_wp2_with fail
      refine (pick_any _ p A n c zs (k4) 60 (Rd.set h R4.out (a := ⟨g, 4, none⟩) (by first | exact Nat.le_refl _ | (dsimp only; omega)) _) (by omega) (by omega) (by omega)).mono ?_
      rintro e w5 ⟨v, rfl, hv, rd5, hc5, hz5⟩
      have hv := hv (by omega)
      clear hz5
      have zz5 : w4.heap.size + 0 ≤ w5.heap.size := by have := hc5.size; (try simp [World.setCell] at this); omega
      have X5 : Hid (Chg (· ∈ [p]) w w5) := Lib.hid ((Chg.setCell (p := ⟨g, 4, none⟩) X4.out (.inr (by first | exact Nat.le_refl _ | (dsimp only; omega))) _).trans hc5)
      have b5_0 : Hid (w5.heap[w.heap.size]? = some (.cells #[.int .i64 0, .string ⟨#[]⟩, .string ⟨#[]⟩, .int .i64 0, .string ⟨#[]⟩] 32 (0, 0))) := Lib.hid ((hc5.block _ (by first | omega | (simp [World.setCell] <;> omega)) (by simp <;> omega)).trans ((heap_far (by first | omega | (simp <;> omega))).trans b4_0.out))
      have b5_1 : Hid (w5.heap[g]? = some (.cells #[.int .i64 x, .string s, .string ⟨#[]⟩, .int .i64 a, .string u] 32 (0, 0))) := Lib.hid ((hc5.block _ (by first | omega | (simp [World.setCell] <;> omega)) (by simp <;> omega)).trans (block_set b4_1.out))
      have R5 : Hid (Rd w5 p A n c zs (k4 + 1)) := Lib.hid rd5
      have pl5 : p < w5.heap.size := by omega
      clear b4_0 b4_1 X4 R4 pl4 l4_0 c4_0_0 f4_0_0 c4_0_1 f4_0_1 c4_0_2 f4_0_2 c4_0_3 f4_0_3 c4_0_4 f4_0_4 l4_1 c4_1_0 f4_1_0 c4_1_1 f4_1_1 c4_1_2 f4_1_2 c4_1_3 f4_1_3 c4_1_4 f4_1_4 hc5 rd5
      have l5_0 : w.heap.size < w5.heap.size := (Array.getElem?_eq_some_iff.1 b5_0.out).1
      have c5_0_0 : w5.cell? ⟨w.heap.size, 0, none⟩ = some (.int .i64 0) := cell_of_row _ _ 0 _ _ (0, 0) b5_0.out
      have f5_0_0 : w5.frozen? ⟨w.heap.size, 0, none⟩ = false := block_free b5_0.out _
      have c5_0_1 : w5.cell? ⟨w.heap.size, 1, none⟩ = some (.string ⟨#[]⟩) := cell_of_row _ _ 1 _ _ (0, 0) b5_0.out
      have f5_0_1 : w5.frozen? ⟨w.heap.size, 1, none⟩ = false := block_free b5_0.out _
      have c5_0_2 : w5.cell? ⟨w.heap.size, 2, none⟩ = some (.string ⟨#[]⟩) := cell_of_row _ _ 2 _ _ (0, 0) b5_0.out
      have f5_0_2 : w5.frozen? ⟨w.heap.size, 2, none⟩ = false := block_free b5_0.out _
      have c5_0_3 : w5.cell? ⟨w.heap.size, 3, none⟩ = some (.int .i64 0) := cell_of_row _ _ 3 _ _ (0, 0) b5_0.out
      have f5_0_3 : w5.frozen? ⟨w.heap.size, 3, none⟩ = false := block_free b5_0.out _
      have c5_0_4 : w5.cell? ⟨w.heap.size, 4, none⟩ = some (.string ⟨#[]⟩) := cell_of_row _ _ 4 _ _ (0, 0) b5_0.out
      have f5_0_4 : w5.frozen? ⟨w.heap.size, 4, none⟩ = false := block_free b5_0.out _
      have l5_1 : g < w5.heap.size := (Array.getElem?_eq_some_iff.1 b5_1.out).1
      have c5_1_0 : w5.cell? ⟨g, 0, none⟩ = some (.int .i64 x) := cell_of_row _ _ 0 _ _ (0, 0) b5_1.out
      have f5_1_0 : w5.frozen? ⟨g, 0, none⟩ = false := block_free b5_1.out _
      have c5_1_1 : w5.cell? ⟨g, 1, none⟩ = some (.string s) := cell_of_row _ _ 1 _ _ (0, 0) b5_1.out
      have f5_1_1 : w5.frozen? ⟨g, 1, none⟩ = false := block_free b5_1.out _
      have c5_1_2 : w5.cell? ⟨g, 2, none⟩ = some (.string ⟨#[]⟩) := cell_of_row _ _ 2 _ _ (0, 0) b5_1.out
      have f5_1_2 : w5.frozen? ⟨g, 2, none⟩ = false := block_free b5_1.out _
      have c5_1_3 : w5.cell? ⟨g, 3, none⟩ = some (.int .i64 a) := cell_of_row _ _ 3 _ _ (0, 0) b5_1.out
      have f5_1_3 : w5.frozen? ⟨g, 3, none⟩ = false := block_free b5_1.out _
      have c5_1_4 : w5.cell? ⟨g, 4, none⟩ = some (.string u) := cell_of_row _ _ 4 _ _ (0, 0) b5_1.out
      have f5_1_4 : w5.frozen? ⟨g, 4, none⟩ = false := block_free b5_1.out _
      have hv4 : v = 0 ∨ v = 1 ∨ v = 2 ∨ v = 3 ∨ (v ≠ 0 ∧ v ≠ 1 ∧ v ≠ 2 ∧ v ≠ 3) := by omega
      clear hv
      rcases hv4 with hv | hv | hv | hv | ⟨hv0, hv1, hv2, hv3⟩
      · skip
        have u0 : ((v : Int) == 0) = true := by simp [hv]
        have u1 : ((v : Int) == 1) = false := by simp [hv]
        have u2 : ((v : Int) == 2) = false := by simp [hv]
        have u3 : ((v : Int) == 3) = false := by simp [hv]
        clear hv
        go_wp2_with fail
        refine (pick_any _ p A n c zs (k4 + 1) 4 (Rd.below R5.out bel1) (by omega) (by omega) (by omega)).mono ?_
        rintro e w6 ⟨v2, rfl, hv2, rd6, hc6, hz6⟩
        have hv2 := hv2 (by omega)
        clear hz6
        obtain ⟨z, hz⟩ := lit_int (r := v2) (litInts [0, 8, -1, 3]) hc6 rfl (by omega) (by simp; omega)
        have hv20 : (0 : Int) ≤ (v2 : Int) := by omega
        have hv21 : (v2 : Int) < 4 := by omega
        have zz6 : w5.heap.size + 1 ≤ w6.heap.size := by have := hc6.size; (try simp [World.setCell] at this); omega
        have X6 : Hid (Chg (· ∈ [p]) w w6) := Lib.hid ((Chg.alloc X5.out _).trans hc6)
        have b6_0 : Hid (w6.heap[w.heap.size]? = some (.cells #[.int .i64 0, .string ⟨#[]⟩, .string ⟨#[]⟩, .int .i64 0, .string ⟨#[]⟩] 32 (0, 0))) := Lib.hid ((hc6.block _ (by first | omega | (simp [World.setCell] <;> omega)) (by simp <;> omega)).trans ((Below.heap_alloc _ _ _ (by first | omega | (simp [World.setCell] <;> omega))).trans b5_0.out))
        have b6_1 : Hid (w6.heap[g]? = some (.cells #[.int .i64 x, .string s, .string ⟨#[]⟩, .int .i64 a, .string u] 32 (0, 0))) := Lib.hid ((hc6.block _ (by first | omega | (simp [World.setCell] <;> omega)) (by simp <;> omega)).trans ((Below.heap_alloc _ _ _ (by first | omega | (simp [World.setCell] <;> omega))).trans b5_1.out))
        have R6 : Hid (Rd w6 p A n c zs (k4 + 1 + 1)) := Lib.hid rd6
        have pl6 : p < w6.heap.size := by omega
        clear b5_0 b5_1 X5 R5 pl5 l5_0 c5_0_0 f5_0_0 c5_0_1 f5_0_1 c5_0_2 f5_0_2 c5_0_3 f5_0_3 c5_0_4 f5_0_4 l5_1 c5_1_0 f5_1_0 c5_1_1 f5_1_1 c5_1_2 f5_1_2 c5_1_3 f5_1_3 c5_1_4 f5_1_4 hc6 rd6
        have l6_0 : w.heap.size < w6.heap.size := (Array.getElem?_eq_some_iff.1 b6_0.out).1
        have c6_0_0 : w6.cell? ⟨w.heap.size, 0, none⟩ = some (.int .i64 0) := cell_of_row _ _ 0 _ _ (0, 0) b6_0.out
        have f6_0_0 : w6.frozen? ⟨w.heap.size, 0, none⟩ = false := block_free b6_0.out _
        have c6_0_1 : w6.cell? ⟨w.heap.size, 1, none⟩ = some (.string ⟨#[]⟩) := cell_of_row _ _ 1 _ _ (0, 0) b6_0.out
        have f6_0_1 : w6.frozen? ⟨w.heap.size, 1, none⟩ = false := block_free b6_0.out _
        have c6_0_2 : w6.cell? ⟨w.heap.size, 2, none⟩ = some (.string ⟨#[]⟩) := cell_of_row _ _ 2 _ _ (0, 0) b6_0.out
        have f6_0_2 : w6.frozen? ⟨w.heap.size, 2, none⟩ = false := block_free b6_0.out _
        have c6_0_3 : w6.cell? ⟨w.heap.size, 3, none⟩ = some (.int .i64 0) := cell_of_row _ _ 3 _ _ (0, 0) b6_0.out
        have f6_0_3 : w6.frozen? ⟨w.heap.size, 3, none⟩ = false := block_free b6_0.out _
        have c6_0_4 : w6.cell? ⟨w.heap.size, 4, none⟩ = some (.string ⟨#[]⟩) := cell_of_row _ _ 4 _ _ (0, 0) b6_0.out
        have f6_0_4 : w6.frozen? ⟨w.heap.size, 4, none⟩ = false := block_free b6_0.out _
        have l6_1 : g < w6.heap.size := (Array.getElem?_eq_some_iff.1 b6_1.out).1
        have c6_1_0 : w6.cell? ⟨g, 0, none⟩ = some (.int .i64 x) := cell_of_row _ _ 0 _ _ (0, 0) b6_1.out
        have f6_1_0 : w6.frozen? ⟨g, 0, none⟩ = false := block_free b6_1.out _
        have c6_1_1 : w6.cell? ⟨g, 1, none⟩ = some (.string s) := cell_of_row _ _ 1 _ _ (0, 0) b6_1.out
        have f6_1_1 : w6.frozen? ⟨g, 1, none⟩ = false := block_free b6_1.out _
        have c6_1_2 : w6.cell? ⟨g, 2, none⟩ = some (.string ⟨#[]⟩) := cell_of_row _ _ 2 _ _ (0, 0) b6_1.out
        have f6_1_2 : w6.frozen? ⟨g, 2, none⟩ = false := block_free b6_1.out _
        have c6_1_3 : w6.cell? ⟨g, 3, none⟩ = some (.int .i64 a) := cell_of_row _ _ 3 _ _ (0, 0) b6_1.out
        have f6_1_3 : w6.frozen? ⟨g, 3, none⟩ = false := block_free b6_1.out _
        have c6_1_4 : w6.cell? ⟨g, 4, none⟩ = some (.string u) := cell_of_row _ _ 4 _ _ (0, 0) b6_1.out
        have f6_1_4 : w6.frozen? ⟨g, 4, none⟩ = false := block_free b6_1.out _
        go_wp2_with fail
        have hrr : ((World.setCell w6 ⟨g, 0, none⟩ (.int .i64 z))).heap[w.heap.size]? = some (.cells #[.int .i64 0, .string ⟨#[]⟩, .string ⟨#[]⟩, .int .i64 0, .string ⟨#[]⟩] 32 (0, 0)) := ((heap_far (by first | omega | (simp <;> omega))).trans b6_0.out)
        have hst := set_5 (x0 := .int .i64 z) (x1 := .string s) (x2 := .string ⟨#[]⟩) (x3 := .int .i64 a) (x4 := .string u) hrr
        clear hrr
        have r0 := cell_of_row _ _ 0 _ _ (0, 0) hst
        have r1 := cell_of_row _ _ 1 _ _ (0, 0) hst
        have r2 := cell_of_row _ _ 2 _ _ (0, 0) hst
        have r3 := cell_of_row _ _ 3 _ _ (0, 0) hst
        have r4 := cell_of_row _ _ 4 _ _ (0, 0) hst
        clear hst
        exact bodyPost_ret (v := .agg #[.int .i64 z, .string s, .string ⟨#[]⟩, .int .i64 a, .string u]) (by simp [results, Tryz.results57, go_sem, r0, r1, r2, r3, r4]) rfl (⟨_, _, _, _, _, _, rfl, by omega, by decide, by omega, by omega, (Rd.set h (Rd.set h (Rd.set h (Rd.set h (Rd.set h (Rd.set h R6.out (a := ⟨g, 0, none⟩) (by first | exact Nat.le_refl _ | (dsimp only; omega)) _) (a := ⟨w.heap.size, 0, none⟩) (by first | exact Nat.le_refl _ | (dsimp only; omega)) _) (a := ⟨w.heap.size, 1, none⟩) (by first | exact Nat.le_refl _ | (dsimp only; omega)) _) (a := ⟨w.heap.size, 2, none⟩) (by first | exact Nat.le_refl _ | (dsimp only; omega)) _) (a := ⟨w.heap.size, 3, none⟩) (by first | exact Nat.le_refl _ | (dsimp only; omega)) _) (a := ⟨w.heap.size, 4, none⟩) (by first | exact Nat.le_refl _ | (dsimp only; omega)) _), (Chg.setCell (p := ⟨w.heap.size, 4, none⟩) (Chg.setCell (p := ⟨w.heap.size, 3, none⟩) (Chg.setCell (p := ⟨w.heap.size, 2, none⟩) (Chg.setCell (p := ⟨w.heap.size, 1, none⟩) (Chg.setCell (p := ⟨w.heap.size, 0, none⟩) (Chg.setCell (p := ⟨g, 0, none⟩) X6.out (.inr (by first | exact Nat.le_refl _ | (dsimp only; omega))) _) (.inr (by first | exact Nat.le_refl _ | (dsimp only; omega))) _) (.inr (by first | exact Nat.le_refl _ | (dsimp only; omega))) _) (.inr (by first | exact Nat.le_refl _ | (dsimp only; omega))) _) (.inr (by first | exact Nat.le_refl _ | (dsimp only; omega))) _) (.inr (by first | exact Nat.le_refl _ | (dsimp only; omega))) _)⟩)
      · skip
        have u0 : ((v : Int) == 0) = false := by simp [hv]
        have u1 : ((v : Int) == 1) = true := by simp [hv]
        have u2 : ((v : Int) == 2) = false := by simp [hv]
        have u3 : ((v : Int) == 3) = false := by simp [hv]
        clear hv
        go_wp2_with fail
        refine (pick_any _ p A n c zs (k4 + 1) 3 (Rd.below R5.out bel1) (by omega) (by omega) (by omega)).mono ?_
        rintro e w6 ⟨v2, rfl, hv2, rd6, hc6, hz6⟩
        have hv2 := hv2 (by omega)
        clear hz6
        obtain ⟨z, hz⟩ := lit_int (r := v2) (litInts [-1, 193, 192]) hc6 rfl (by omega) (by simp; omega)
        have hv20 : (0 : Int) ≤ (v2 : Int) := by omega
        have hv21 : (v2 : Int) < 3 := by omega
        have zz6 : w5.heap.size + 1 ≤ w6.heap.size := by have := hc6.size; (try simp [World.setCell] at this); omega
        have X6 : Hid (Chg (· ∈ [p]) w w6) := Lib.hid ((Chg.alloc X5.out _).trans hc6)
        have b6_0 : Hid (w6.heap[w.heap.size]? = some (.cells #[.int .i64 0, .string ⟨#[]⟩, .string ⟨#[]⟩, .int .i64 0, .string ⟨#[]⟩] 32 (0, 0))) := Lib.hid ((hc6.block _ (by first | omega | (simp [World.setCell] <;> omega)) (by simp <;> omega)).trans ((Below.heap_alloc _ _ _ (by first | omega | (simp [World.setCell] <;> omega))).trans b5_0.out))
        have b6_1 : Hid (w6.heap[g]? = some (.cells #[.int .i64 x, .string s, .string ⟨#[]⟩, .int .i64 a, .string u] 32 (0, 0))) := Lib.hid ((hc6.block _ (by first | omega | (simp [World.setCell] <;> omega)) (by simp <;> omega)).trans ((Below.heap_alloc _ _ _ (by first | omega | (simp [World.setCell] <;> omega))).trans b5_1.out))
        have R6 : Hid (Rd w6 p A n c zs (k4 + 1 + 1)) := Lib.hid rd6
        have pl6 : p < w6.heap.size := by omega
        clear b5_0 b5_1 X5 R5 pl5 l5_0 c5_0_0 f5_0_0 c5_0_1 f5_0_1 c5_0_2 f5_0_2 c5_0_3 f5_0_3 c5_0_4 f5_0_4 l5_1 c5_1_0 f5_1_0 c5_1_1 f5_1_1 c5_1_2 f5_1_2 c5_1_3 f5_1_3 c5_1_4 f5_1_4 hc6 rd6
        have l6_0 : w.heap.size < w6.heap.size := (Array.getElem?_eq_some_iff.1 b6_0.out).1
        have c6_0_0 : w6.cell? ⟨w.heap.size, 0, none⟩ = some (.int .i64 0) := cell_of_row _ _ 0 _ _ (0, 0) b6_0.out
        have f6_0_0 : w6.frozen? ⟨w.heap.size, 0, none⟩ = false := block_free b6_0.out _
        have c6_0_1 : w6.cell? ⟨w.heap.size, 1, none⟩ = some (.string ⟨#[]⟩) := cell_of_row _ _ 1 _ _ (0, 0) b6_0.out
        have f6_0_1 : w6.frozen? ⟨w.heap.size, 1, none⟩ = false := block_free b6_0.out _
        have c6_0_2 : w6.cell? ⟨w.heap.size, 2, none⟩ = some (.string ⟨#[]⟩) := cell_of_row _ _ 2 _ _ (0, 0) b6_0.out
        have f6_0_2 : w6.frozen? ⟨w.heap.size, 2, none⟩ = false := block_free b6_0.out _
        have c6_0_3 : w6.cell? ⟨w.heap.size, 3, none⟩ = some (.int .i64 0) := cell_of_row _ _ 3 _ _ (0, 0) b6_0.out
        have f6_0_3 : w6.frozen? ⟨w.heap.size, 3, none⟩ = false := block_free b6_0.out _
        have c6_0_4 : w6.cell? ⟨w.heap.size, 4, none⟩ = some (.string ⟨#[]⟩) := cell_of_row _ _ 4 _ _ (0, 0) b6_0.out
        have f6_0_4 : w6.frozen? ⟨w.heap.size, 4, none⟩ = false := block_free b6_0.out _
        have l6_1 : g < w6.heap.size := (Array.getElem?_eq_some_iff.1 b6_1.out).1
        have c6_1_0 : w6.cell? ⟨g, 0, none⟩ = some (.int .i64 x) := cell_of_row _ _ 0 _ _ (0, 0) b6_1.out
        have f6_1_0 : w6.frozen? ⟨g, 0, none⟩ = false := block_free b6_1.out _
        have c6_1_1 : w6.cell? ⟨g, 1, none⟩ = some (.string s) := cell_of_row _ _ 1 _ _ (0, 0) b6_1.out
        have f6_1_1 : w6.frozen? ⟨g, 1, none⟩ = false := block_free b6_1.out _
        have c6_1_2 : w6.cell? ⟨g, 2, none⟩ = some (.string ⟨#[]⟩) := cell_of_row _ _ 2 _ _ (0, 0) b6_1.out
        have f6_1_2 : w6.frozen? ⟨g, 2, none⟩ = false := block_free b6_1.out _
        have c6_1_3 : w6.cell? ⟨g, 3, none⟩ = some (.int .i64 a) := cell_of_row _ _ 3 _ _ (0, 0) b6_1.out
        have f6_1_3 : w6.frozen? ⟨g, 3, none⟩ = false := block_free b6_1.out _
        have c6_1_4 : w6.cell? ⟨g, 4, none⟩ = some (.string u) := cell_of_row _ _ 4 _ _ (0, 0) b6_1.out
        have f6_1_4 : w6.frozen? ⟨g, 4, none⟩ = false := block_free b6_1.out _
        go_wp2_with fail
        have hrr : ((World.setCell w6 ⟨g, 3, none⟩ (.int .i64 z))).heap[w.heap.size]? = some (.cells #[.int .i64 0, .string ⟨#[]⟩, .string ⟨#[]⟩, .int .i64 0, .string ⟨#[]⟩] 32 (0, 0)) := ((heap_far (by first | omega | (simp <;> omega))).trans b6_0.out)
        have hst := set_5 (x0 := .int .i64 x) (x1 := .string s) (x2 := .string ⟨#[]⟩) (x3 := .int .i64 z) (x4 := .string u) hrr
        clear hrr
        have r0 := cell_of_row _ _ 0 _ _ (0, 0) hst
        have r1 := cell_of_row _ _ 1 _ _ (0, 0) hst
        have r2 := cell_of_row _ _ 2 _ _ (0, 0) hst
        have r3 := cell_of_row _ _ 3 _ _ (0, 0) hst
        have r4 := cell_of_row _ _ 4 _ _ (0, 0) hst
        clear hst
        exact bodyPost_ret (v := .agg #[.int .i64 x, .string s, .string ⟨#[]⟩, .int .i64 z, .string u]) (by simp [results, Tryz.results57, go_sem, r0, r1, r2, r3, r4]) rfl (⟨_, _, _, _, _, _, rfl, by omega, by decide, by omega, by omega, (Rd.set h (Rd.set h (Rd.set h (Rd.set h (Rd.set h (Rd.set h R6.out (a := ⟨g, 3, none⟩) (by first | exact Nat.le_refl _ | (dsimp only; omega)) _) (a := ⟨w.heap.size, 0, none⟩) (by first | exact Nat.le_refl _ | (dsimp only; omega)) _) (a := ⟨w.heap.size, 1, none⟩) (by first | exact Nat.le_refl _ | (dsimp only; omega)) _) (a := ⟨w.heap.size, 2, none⟩) (by first | exact Nat.le_refl _ | (dsimp only; omega)) _) (a := ⟨w.heap.size, 3, none⟩) (by first | exact Nat.le_refl _ | (dsimp only; omega)) _) (a := ⟨w.heap.size, 4, none⟩) (by first | exact Nat.le_refl _ | (dsimp only; omega)) _), (Chg.setCell (p := ⟨w.heap.size, 4, none⟩) (Chg.setCell (p := ⟨w.heap.size, 3, none⟩) (Chg.setCell (p := ⟨w.heap.size, 2, none⟩) (Chg.setCell (p := ⟨w.heap.size, 1, none⟩) (Chg.setCell (p := ⟨w.heap.size, 0, none⟩) (Chg.setCell (p := ⟨g, 3, none⟩) X6.out (.inr (by first | exact Nat.le_refl _ | (dsimp only; omega))) _) (.inr (by first | exact Nat.le_refl _ | (dsimp only; omega))) _) (.inr (by first | exact Nat.le_refl _ | (dsimp only; omega))) _) (.inr (by first | exact Nat.le_refl _ | (dsimp only; omega))) _) (.inr (by first | exact Nat.le_refl _ | (dsimp only; omega))) _) (.inr (by first | exact Nat.le_refl _ | (dsimp only; omega))) _)⟩)
      · skip
        have u0 : ((v : Int) == 0) = false := by simp [hv]
        have u1 : ((v : Int) == 1) = false := by simp [hv]
        have u2 : ((v : Int) == 2) = true := by simp [hv]
        have u3 : ((v : Int) == 3) = false := by simp [hv]
        clear hv
        go_wp2_with fail
        refine (pick_any _ p A n c zs (k4 + 1) 2 R5.out (by omega) (by omega) (by omega)).mono ?_
        rintro e w6 ⟨v2, rfl, hv2, rd6, hc6, hz6⟩
        have hv2 := hv2 (by omega)
        clear hz6
        have zz6 : w5.heap.size + 0 ≤ w6.heap.size := by have := hc6.size; (try simp [World.setCell] at this); omega
        have X6 : Hid (Chg (· ∈ [p]) w w6) := Lib.hid (X5.out.trans hc6)
        have b6_0 : Hid (w6.heap[w.heap.size]? = some (.cells #[.int .i64 0, .string ⟨#[]⟩, .string ⟨#[]⟩, .int .i64 0, .string ⟨#[]⟩] 32 (0, 0))) := Lib.hid ((hc6.block _ (by first | omega | (simp [World.setCell] <;> omega)) (by simp <;> omega)).trans b5_0.out)
        have b6_1 : Hid (w6.heap[g]? = some (.cells #[.int .i64 x, .string s, .string ⟨#[]⟩, .int .i64 a, .string u] 32 (0, 0))) := Lib.hid ((hc6.block _ (by first | omega | (simp [World.setCell] <;> omega)) (by simp <;> omega)).trans b5_1.out)
        have R6 : Hid (Rd w6 p A n c zs (k4 + 1 + 1)) := Lib.hid rd6
        have pl6 : p < w6.heap.size := by omega
        clear b5_0 b5_1 X5 R5 pl5 l5_0 c5_0_0 f5_0_0 c5_0_1 f5_0_1 c5_0_2 f5_0_2 c5_0_3 f5_0_3 c5_0_4 f5_0_4 l5_1 c5_1_0 f5_1_0 c5_1_1 f5_1_1 c5_1_2 f5_1_2 c5_1_3 f5_1_3 c5_1_4 f5_1_4 hc6 rd6
        have l6_0 : w.heap.size < w6.heap.size := (Array.getElem?_eq_some_iff.1 b6_0.out).1
        have c6_0_0 : w6.cell? ⟨w.heap.size, 0, none⟩ = some (.int .i64 0) := cell_of_row _ _ 0 _ _ (0, 0) b6_0.out
        have f6_0_0 : w6.frozen? ⟨w.heap.size, 0, none⟩ = false := block_free b6_0.out _
        have c6_0_1 : w6.cell? ⟨w.heap.size, 1, none⟩ = some (.string ⟨#[]⟩) := cell_of_row _ _ 1 _ _ (0, 0) b6_0.out
        have f6_0_1 : w6.frozen? ⟨w.heap.size, 1, none⟩ = false := block_free b6_0.out _
        have c6_0_2 : w6.cell? ⟨w.heap.size, 2, none⟩ = some (.string ⟨#[]⟩) := cell_of_row _ _ 2 _ _ (0, 0) b6_0.out
        have f6_0_2 : w6.frozen? ⟨w.heap.size, 2, none⟩ = false := block_free b6_0.out _
        have c6_0_3 : w6.cell? ⟨w.heap.size, 3, none⟩ = some (.int .i64 0) := cell_of_row _ _ 3 _ _ (0, 0) b6_0.out
        have f6_0_3 : w6.frozen? ⟨w.heap.size, 3, none⟩ = false := block_free b6_0.out _
        have c6_0_4 : w6.cell? ⟨w.heap.size, 4, none⟩ = some (.string ⟨#[]⟩) := cell_of_row _ _ 4 _ _ (0, 0) b6_0.out
        have f6_0_4 : w6.frozen? ⟨w.heap.size, 4, none⟩ = false := block_free b6_0.out _
        have l6_1 : g < w6.heap.size := (Array.getElem?_eq_some_iff.1 b6_1.out).1
        have c6_1_0 : w6.cell? ⟨g, 0, none⟩ = some (.int .i64 x) := cell_of_row _ _ 0 _ _ (0, 0) b6_1.out
        have f6_1_0 : w6.frozen? ⟨g, 0, none⟩ = false := block_free b6_1.out _
        have c6_1_1 : w6.cell? ⟨g, 1, none⟩ = some (.string s) := cell_of_row _ _ 1 _ _ (0, 0) b6_1.out
        have f6_1_1 : w6.frozen? ⟨g, 1, none⟩ = false := block_free b6_1.out _
        have c6_1_2 : w6.cell? ⟨g, 2, none⟩ = some (.string ⟨#[]⟩) := cell_of_row _ _ 2 _ _ (0, 0) b6_1.out
        have f6_1_2 : w6.frozen? ⟨g, 2, none⟩ = false := block_free b6_1.out _
        have c6_1_3 : w6.cell? ⟨g, 3, none⟩ = some (.int .i64 a) := cell_of_row _ _ 3 _ _ (0, 0) b6_1.out
        have f6_1_3 : w6.frozen? ⟨g, 3, none⟩ = false := block_free b6_1.out _
        have c6_1_4 : w6.cell? ⟨g, 4, none⟩ = some (.string u) := cell_of_row _ _ 4 _ _ (0, 0) b6_1.out
        have f6_1_4 : w6.frozen? ⟨g, 4, none⟩ = false := block_free b6_1.out _
        go_wp2_with fail
        refine (l6Many_u _ (24 + v2) _ (by omega) (by omega)).mono ?_
        rintro e wq ⟨z, rfl, hz, hwq⟩
        rw [hwq]; clear hwq
        have hz : z.size ≤ 100 := by omega
        go_wp2_with fail
        have hrr : ((World.setCell w6 ⟨g, 4, none⟩ (.string z))).heap[w.heap.size]? = some (.cells #[.int .i64 0, .string ⟨#[]⟩, .string ⟨#[]⟩, .int .i64 0, .string ⟨#[]⟩] 32 (0, 0)) := ((heap_far (by first | omega | (simp <;> omega))).trans b6_0.out)
        have hst := set_5 (x0 := .int .i64 x) (x1 := .string s) (x2 := .string ⟨#[]⟩) (x3 := .int .i64 a) (x4 := .string z) hrr
        clear hrr
        have r0 := cell_of_row _ _ 0 _ _ (0, 0) hst
        have r1 := cell_of_row _ _ 1 _ _ (0, 0) hst
        have r2 := cell_of_row _ _ 2 _ _ (0, 0) hst
        have r3 := cell_of_row _ _ 3 _ _ (0, 0) hst
        have r4 := cell_of_row _ _ 4 _ _ (0, 0) hst
        clear hst
        exact bodyPost_ret (v := .agg #[.int .i64 x, .string s, .string ⟨#[]⟩, .int .i64 a, .string z]) (by simp [results, Tryz.results57, go_sem, r0, r1, r2, r3, r4]) rfl (⟨_, _, _, _, _, _, rfl, by omega, by decide, by omega, by omega, (Rd.set h (Rd.set h (Rd.set h (Rd.set h (Rd.set h (Rd.set h R6.out (a := ⟨g, 4, none⟩) (by first | exact Nat.le_refl _ | (dsimp only; omega)) _) (a := ⟨w.heap.size, 0, none⟩) (by first | exact Nat.le_refl _ | (dsimp only; omega)) _) (a := ⟨w.heap.size, 1, none⟩) (by first | exact Nat.le_refl _ | (dsimp only; omega)) _) (a := ⟨w.heap.size, 2, none⟩) (by first | exact Nat.le_refl _ | (dsimp only; omega)) _) (a := ⟨w.heap.size, 3, none⟩) (by first | exact Nat.le_refl _ | (dsimp only; omega)) _) (a := ⟨w.heap.size, 4, none⟩) (by first | exact Nat.le_refl _ | (dsimp only; omega)) _), (Chg.setCell (p := ⟨w.heap.size, 4, none⟩) (Chg.setCell (p := ⟨w.heap.size, 3, none⟩) (Chg.setCell (p := ⟨w.heap.size, 2, none⟩) (Chg.setCell (p := ⟨w.heap.size, 1, none⟩) (Chg.setCell (p := ⟨w.heap.size, 0, none⟩) (Chg.setCell (p := ⟨g, 4, none⟩) X6.out (.inr (by first | exact Nat.le_refl _ | (dsimp only; omega))) _) (.inr (by first | exact Nat.le_refl _ | (dsimp only; omega))) _) (.inr (by first | exact Nat.le_refl _ | (dsimp only; omega))) _) (.inr (by first | exact Nat.le_refl _ | (dsimp only; omega))) _) (.inr (by first | exact Nat.le_refl _ | (dsimp only; omega))) _) (.inr (by first | exact Nat.le_refl _ | (dsimp only; omega))) _)⟩)
      · skip
        have u0 : ((v : Int) == 0) = false := by simp [hv]
        have u1 : ((v : Int) == 1) = false := by simp [hv]
        have u2 : ((v : Int) == 2) = false := by simp [hv]
        have u3 : ((v : Int) == 3) = true := by simp [hv]
        clear hv
        go_wp2_with fail
        refine (l92Path_any _ p A n c zs (k4 + 1) R5.out (by omega)).mono ?_
        rintro e w6 ⟨z, k6, rfl, hz, hk6, rd6, hc6⟩
        have zz6 : w5.heap.size + 0 ≤ w6.heap.size := by have := hc6.size; (try simp [World.setCell] at this); omega
        have X6 : Hid (Chg (· ∈ [p]) w w6) := Lib.hid (X5.out.trans hc6)
        have b6_0 : Hid (w6.heap[w.heap.size]? = some (.cells #[.int .i64 0, .string ⟨#[]⟩, .string ⟨#[]⟩, .int .i64 0, .string ⟨#[]⟩] 32 (0, 0))) := Lib.hid ((hc6.block _ (by first | omega | (simp [World.setCell] <;> omega)) (by simp <;> omega)).trans b5_0.out)
        have b6_1 : Hid (w6.heap[g]? = some (.cells #[.int .i64 x, .string s, .string ⟨#[]⟩, .int .i64 a, .string u] 32 (0, 0))) := Lib.hid ((hc6.block _ (by first | omega | (simp [World.setCell] <;> omega)) (by simp <;> omega)).trans b5_1.out)
        have R6 : Hid (Rd w6 p A n c zs (k6)) := Lib.hid rd6
        have pl6 : p < w6.heap.size := by omega
        clear b5_0 b5_1 X5 R5 pl5 l5_0 c5_0_0 f5_0_0 c5_0_1 f5_0_1 c5_0_2 f5_0_2 c5_0_3 f5_0_3 c5_0_4 f5_0_4 l5_1 c5_1_0 f5_1_0 c5_1_1 f5_1_1 c5_1_2 f5_1_2 c5_1_3 f5_1_3 c5_1_4 f5_1_4 hc6 rd6
        have l6_0 : w.heap.size < w6.heap.size := (Array.getElem?_eq_some_iff.1 b6_0.out).1
        have c6_0_0 : w6.cell? ⟨w.heap.size, 0, none⟩ = some (.int .i64 0) := cell_of_row _ _ 0 _ _ (0, 0) b6_0.out
        have f6_0_0 : w6.frozen? ⟨w.heap.size, 0, none⟩ = false := block_free b6_0.out _
        have c6_0_1 : w6.cell? ⟨w.heap.size, 1, none⟩ = some (.string ⟨#[]⟩) := cell_of_row _ _ 1 _ _ (0, 0) b6_0.out
        have f6_0_1 : w6.frozen? ⟨w.heap.size, 1, none⟩ = false := block_free b6_0.out _
        have c6_0_2 : w6.cell? ⟨w.heap.size, 2, none⟩ = some (.string ⟨#[]⟩) := cell_of_row _ _ 2 _ _ (0, 0) b6_0.out
        have f6_0_2 : w6.frozen? ⟨w.heap.size, 2, none⟩ = false := block_free b6_0.out _
        have c6_0_3 : w6.cell? ⟨w.heap.size, 3, none⟩ = some (.int .i64 0) := cell_of_row _ _ 3 _ _ (0, 0) b6_0.out
        have f6_0_3 : w6.frozen? ⟨w.heap.size, 3, none⟩ = false := block_free b6_0.out _
        have c6_0_4 : w6.cell? ⟨w.heap.size, 4, none⟩ = some (.string ⟨#[]⟩) := cell_of_row _ _ 4 _ _ (0, 0) b6_0.out
        have f6_0_4 : w6.frozen? ⟨w.heap.size, 4, none⟩ = false := block_free b6_0.out _
        have l6_1 : g < w6.heap.size := (Array.getElem?_eq_some_iff.1 b6_1.out).1
        have c6_1_0 : w6.cell? ⟨g, 0, none⟩ = some (.int .i64 x) := cell_of_row _ _ 0 _ _ (0, 0) b6_1.out
        have f6_1_0 : w6.frozen? ⟨g, 0, none⟩ = false := block_free b6_1.out _
        have c6_1_1 : w6.cell? ⟨g, 1, none⟩ = some (.string s) := cell_of_row _ _ 1 _ _ (0, 0) b6_1.out
        have f6_1_1 : w6.frozen? ⟨g, 1, none⟩ = false := block_free b6_1.out _
        have c6_1_2 : w6.cell? ⟨g, 2, none⟩ = some (.string ⟨#[]⟩) := cell_of_row _ _ 2 _ _ (0, 0) b6_1.out
        have f6_1_2 : w6.frozen? ⟨g, 2, none⟩ = false := block_free b6_1.out _
        have c6_1_3 : w6.cell? ⟨g, 3, none⟩ = some (.int .i64 a) := cell_of_row _ _ 3 _ _ (0, 0) b6_1.out
        have f6_1_3 : w6.frozen? ⟨g, 3, none⟩ = false := block_free b6_1.out _
        have c6_1_4 : w6.cell? ⟨g, 4, none⟩ = some (.string u) := cell_of_row _ _ 4 _ _ (0, 0) b6_1.out
        have f6_1_4 : w6.frozen? ⟨g, 4, none⟩ = false := block_free b6_1.out _
        go_wp2_with fail
        have hrr : ((World.setCell w6 ⟨g, 2, none⟩ (.string z))).heap[w.heap.size]? = some (.cells #[.int .i64 0, .string ⟨#[]⟩, .string ⟨#[]⟩, .int .i64 0, .string ⟨#[]⟩] 32 (0, 0)) := ((heap_far (by first | omega | (simp <;> omega))).trans b6_0.out)
        have hst := set_5 (x0 := .int .i64 x) (x1 := .string s) (x2 := .string z) (x3 := .int .i64 a) (x4 := .string u) hrr
        clear hrr
        have r0 := cell_of_row _ _ 0 _ _ (0, 0) hst
        have r1 := cell_of_row _ _ 1 _ _ (0, 0) hst
        have r2 := cell_of_row _ _ 2 _ _ (0, 0) hst
        have r3 := cell_of_row _ _ 3 _ _ (0, 0) hst
        have r4 := cell_of_row _ _ 4 _ _ (0, 0) hst
        clear hst
        exact bodyPost_ret (v := .agg #[.int .i64 x, .string s, .string z, .int .i64 a, .string u]) (by simp [results, Tryz.results57, go_sem, r0, r1, r2, r3, r4]) rfl (⟨_, _, _, _, _, _, rfl, by omega, by omega, by omega, by omega, (Rd.set h (Rd.set h (Rd.set h (Rd.set h (Rd.set h (Rd.set h R6.out (a := ⟨g, 2, none⟩) (by first | exact Nat.le_refl _ | (dsimp only; omega)) _) (a := ⟨w.heap.size, 0, none⟩) (by first | exact Nat.le_refl _ | (dsimp only; omega)) _) (a := ⟨w.heap.size, 1, none⟩) (by first | exact Nat.le_refl _ | (dsimp only; omega)) _) (a := ⟨w.heap.size, 2, none⟩) (by first | exact Nat.le_refl _ | (dsimp only; omega)) _) (a := ⟨w.heap.size, 3, none⟩) (by first | exact Nat.le_refl _ | (dsimp only; omega)) _) (a := ⟨w.heap.size, 4, none⟩) (by first | exact Nat.le_refl _ | (dsimp only; omega)) _), (Chg.setCell (p := ⟨w.heap.size, 4, none⟩) (Chg.setCell (p := ⟨w.heap.size, 3, none⟩) (Chg.setCell (p := ⟨w.heap.size, 2, none⟩) (Chg.setCell (p := ⟨w.heap.size, 1, none⟩) (Chg.setCell (p := ⟨w.heap.size, 0, none⟩) (Chg.setCell (p := ⟨g, 2, none⟩) X6.out (.inr (by first | exact Nat.le_refl _ | (dsimp only; omega))) _) (.inr (by first | exact Nat.le_refl _ | (dsimp only; omega))) _) (.inr (by first | exact Nat.le_refl _ | (dsimp only; omega))) _) (.inr (by first | exact Nat.le_refl _ | (dsimp only; omega))) _) (.inr (by first | exact Nat.le_refl _ | (dsimp only; omega))) _) (.inr (by first | exact Nat.le_refl _ | (dsimp only; omega))) _)⟩)
      · skip
        have u0 : ((v : Int) == 0) = false := by simp; omega
        have u1 : ((v : Int) == 1) = false := by simp; omega
        have u2 : ((v : Int) == 2) = false := by simp; omega
        have u3 : ((v : Int) == 3) = false := by simp; omega
        clear hv0 hv1 hv2 hv3
        go_wp2_with fail
        have hrr : (w5).heap[w.heap.size]? = some (.cells #[.int .i64 0, .string ⟨#[]⟩, .string ⟨#[]⟩, .int .i64 0, .string ⟨#[]⟩] 32 (0, 0)) := b5_0.out
        have hst := set_5 (x0 := .int .i64 x) (x1 := .string s) (x2 := .string ⟨#[]⟩) (x3 := .int .i64 a) (x4 := .string u) hrr
        clear hrr
        have r0 := cell_of_row _ _ 0 _ _ (0, 0) hst
        have r1 := cell_of_row _ _ 1 _ _ (0, 0) hst
        have r2 := cell_of_row _ _ 2 _ _ (0, 0) hst
        have r3 := cell_of_row _ _ 3 _ _ (0, 0) hst
        have r4 := cell_of_row _ _ 4 _ _ (0, 0) hst
        clear hst
        exact bodyPost_ret (v := .agg #[.int .i64 x, .string s, .string ⟨#[]⟩, .int .i64 a, .string u]) (by simp [results, Tryz.results57, go_sem, r0, r1, r2, r3, r4]) rfl (⟨_, _, _, _, _, _, rfl, by omega, by decide, by omega, by omega, (Rd.set h (Rd.set h (Rd.set h (Rd.set h (Rd.set h R5.out (a := ⟨w.heap.size, 0, none⟩) (by first | exact Nat.le_refl _ | (dsimp only; omega)) _) (a := ⟨w.heap.size, 1, none⟩) (by first | exact Nat.le_refl _ | (dsimp only; omega)) _) (a := ⟨w.heap.size, 2, none⟩) (by first | exact Nat.le_refl _ | (dsimp only; omega)) _) (a := ⟨w.heap.size, 3, none⟩) (by first | exact Nat.le_refl _ | (dsimp only; omega)) _) (a := ⟨w.heap.size, 4, none⟩) (by first | exact Nat.le_refl _ | (dsimp only; omega)) _), (Chg.setCell (p := ⟨w.heap.size, 4, none⟩) (Chg.setCell (p := ⟨w.heap.size, 3, none⟩) (Chg.setCell (p := ⟨w.heap.size, 2, none⟩) (Chg.setCell (p := ⟨w.heap.size, 1, none⟩) (Chg.setCell (p := ⟨w.heap.size, 0, none⟩) X5.out (.inr (by first | exact Nat.le_refl _ | (dsimp only; omega))) _) (.inr (by first | exact Nat.le_refl _ | (dsimp only; omega))) _) (.inr (by first | exact Nat.le_refl _ | (dsimp only; omega))) _) (.inr (by first | exact Nat.le_refl _ | (dsimp only; omega))) _) (.inr (by first | exact Nat.le_refl _ | (dsimp only; omega))) _)⟩)
    · skip
      have t3 : (x == 3) = false := by simp [hx]
      have t4 : (x == 4) = true := by simp [hx]
      have t6 : (x == 6) = false := by simp [hx]
      have t7 : (x == 7) = false := by simp [hx]
      clear hx
      go_wp2_with fail
      refine (pick_any _ p A n c zs (k1) 8 (Rd.below R2.out bel1) (by omega) (by omega) (by omega)).mono ?_
      rintro e w3 ⟨v1, rfl, hv1, rd3, hc3, hz3⟩
      have hv1 := hv1 (by omega)
      clear hz3
      obtain ⟨a, ha⟩ := lit_int (r := v1) (litInts [0, 1, 5, 12, 13, 25, 60, 192]) hc3 rfl (by omega) (by simp; omega)
      have hv10 : (0 : Int) ≤ (v1 : Int) := by omega
      have hv11 : (v1 : Int) < 8 := by omega
      have zz3 : w2.heap.size + 1 ≤ w3.heap.size := by have := hc3.size; (try simp [World.setCell] at this); omega
      have X3 : Hid (Chg (· ∈ [p]) w w3) := Lib.hid ((Chg.alloc X2.out _).trans hc3)
      have b3_0 : Hid (w3.heap[w.heap.size]? = some (.cells #[.int .i64 0, .string ⟨#[]⟩, .string ⟨#[]⟩, .int .i64 0, .string ⟨#[]⟩] 32 (0, 0))) := Lib.hid ((hc3.block _ (by first | omega | (simp [World.setCell] <;> omega)) (by simp <;> omega)).trans ((Below.heap_alloc _ _ _ (by first | omega | (simp [World.setCell] <;> omega))).trans b2_0.out))
      have b3_1 : Hid (w3.heap[g]? = some (.cells #[.int .i64 x, .string s, .string ⟨#[]⟩, .int .i64 0, .string ⟨#[]⟩] 32 (0, 0))) := Lib.hid ((hc3.block _ (by first | omega | (simp [World.setCell] <;> omega)) (by simp <;> omega)).trans ((Below.heap_alloc _ _ _ (by first | omega | (simp [World.setCell] <;> omega))).trans b2_1.out))
      have R3 : Hid (Rd w3 p A n c zs (k1 + 1)) := Lib.hid rd3
      have pl3 : p < w3.heap.size := by omega
      clear b2_0 b2_1 X2 R2 pl2 l2_0 c2_0_0 f2_0_0 c2_0_1 f2_0_1 c2_0_2 f2_0_2 c2_0_3 f2_0_3 c2_0_4 f2_0_4 l2_1 c2_1_0 f2_1_0 c2_1_1 f2_1_1 c2_1_2 f2_1_2 c2_1_3 f2_1_3 c2_1_4 f2_1_4 hc3 rd3
      have l3_0 : w.heap.size < w3.heap.size := (Array.getElem?_eq_some_iff.1 b3_0.out).1
      have c3_0_0 : w3.cell? ⟨w.heap.size, 0, none⟩ = some (.int .i64 0) := cell_of_row _ _ 0 _ _ (0, 0) b3_0.out
      have f3_0_0 : w3.frozen? ⟨w.heap.size, 0, none⟩ = false := block_free b3_0.out _
      have c3_0_1 : w3.cell? ⟨w.heap.size, 1, none⟩ = some (.string ⟨#[]⟩) := cell_of_row _ _ 1 _ _ (0, 0) b3_0.out
      have f3_0_1 : w3.frozen? ⟨w.heap.size, 1, none⟩ = false := block_free b3_0.out _
      have c3_0_2 : w3.cell? ⟨w.heap.size, 2, none⟩ = some (.string ⟨#[]⟩) := cell_of_row _ _ 2 _ _ (0, 0) b3_0.out
      have f3_0_2 : w3.frozen? ⟨w.heap.size, 2, none⟩ = false := block_free b3_0.out _
      have c3_0_3 : w3.cell? ⟨w.heap.size, 3, none⟩ = some (.int .i64 0) := cell_of_row _ _ 3 _ _ (0, 0) b3_0.out
      have f3_0_3 : w3.frozen? ⟨w.heap.size, 3, none⟩ = false := block_free b3_0.out _
      have c3_0_4 : w3.cell? ⟨w.heap.size, 4, none⟩ = some (.string ⟨#[]⟩) := cell_of_row _ _ 4 _ _ (0, 0) b3_0.out
      have f3_0_4 : w3.frozen? ⟨w.heap.size, 4, none⟩ = false := block_free b3_0.out _
      have l3_1 : g < w3.heap.size := (Array.getElem?_eq_some_iff.1 b3_1.out).1
      have c3_1_0 : w3.cell? ⟨g, 0, none⟩ = some (.int .i64 x) := cell_of_row _ _ 0 _ _ (0, 0) b3_1.out
      have f3_1_0 : w3.frozen? ⟨g, 0, none⟩ = false := block_free b3_1.out _
      have c3_1_1 : w3.cell? ⟨g, 1, none⟩ = some (.string s) := cell_of_row _ _ 1 _ _ (0, 0) b3_1.out
      have f3_1_1 : w3.frozen? ⟨g, 1, none⟩ = false := block_free b3_1.out _
      have c3_1_2 : w3.cell? ⟨g, 2, none⟩ = some (.string ⟨#[]⟩) := cell_of_row _ _ 2 _ _ (0, 0) b3_1.out
      have f3_1_2 : w3.frozen? ⟨g, 2, none⟩ = false := block_free b3_1.out _
      have c3_1_3 : w3.cell? ⟨g, 3, none⟩ = some (.int .i64 0) := cell_of_row _ _ 3 _ _ (0, 0) b3_1.out
      have f3_1_3 : w3.frozen? ⟨g, 3, none⟩ = false := block_free b3_1.out _
      have c3_1_4 : w3.cell? ⟨g, 4, none⟩ = some (.string ⟨#[]⟩) := cell_of_row _ _ 4 _ _ (0, 0) b3_1.out
      have f3_1_4 : w3.frozen? ⟨g, 4, none⟩ = false := block_free b3_1.out _
      go_wp2_with fail
      refine (pick_any _ p A n c zs (k1 + 1) 60 (Rd.set h R3.out (a := ⟨g, 3, none⟩) (by first | exact Nat.le_refl _ | (dsimp only; omega)) _) (by omega) (by omega) (by omega)).mono ?_
      rintro e w4 ⟨v, rfl, hv, rd4, hc4, hz4⟩
      have hv := hv (by omega)
      clear hz4
      have zz4 : w3.heap.size + 0 ≤ w4.heap.size := by have := hc4.size; (try simp [World.setCell] at this); omega
      have X4 : Hid (Chg (· ∈ [p]) w w4) := Lib.hid ((Chg.setCell (p := ⟨g, 3, none⟩) X3.out (.inr (by first | exact Nat.le_refl _ | (dsimp only; omega))) _).trans hc4)
      have b4_0 : Hid (w4.heap[w.heap.size]? = some (.cells #[.int .i64 0, .string ⟨#[]⟩, .string ⟨#[]⟩, .int .i64 0, .string ⟨#[]⟩] 32 (0, 0))) := Lib.hid ((hc4.block _ (by first | omega | (simp [World.setCell] <;> omega)) (by simp <;> omega)).trans ((heap_far (by first | omega | (simp <;> omega))).trans b3_0.out))
      have b4_1 : Hid (w4.heap[g]? = some (.cells #[.int .i64 x, .string s, .string ⟨#[]⟩, .int .i64 a, .string ⟨#[]⟩] 32 (0, 0))) := Lib.hid ((hc4.block _ (by first | omega | (simp [World.setCell] <;> omega)) (by simp <;> omega)).trans (block_set b3_1.out))
      have R4 : Hid (Rd w4 p A n c zs (k1 + 1 + 1)) := Lib.hid rd4
      have pl4 : p < w4.heap.size := by omega
      clear b3_0 b3_1 X3 R3 pl3 l3_0 c3_0_0 f3_0_0 c3_0_1 f3_0_1 c3_0_2 f3_0_2 c3_0_3 f3_0_3 c3_0_4 f3_0_4 l3_1 c3_1_0 f3_1_0 c3_1_1 f3_1_1 c3_1_2 f3_1_2 c3_1_3 f3_1_3 c3_1_4 f3_1_4 hc4 rd4
      have l4_0 : w.heap.size < w4.heap.size := (Array.getElem?_eq_some_iff.1 b4_0.out).1
      have c4_0_0 : w4.cell? ⟨w.heap.size, 0, none⟩ = some (.int .i64 0) := cell_of_row _ _ 0 _ _ (0, 0) b4_0.out
      have f4_0_0 : w4.frozen? ⟨w.heap.size, 0, none⟩ = false := block_free b4_0.out _
      have c4_0_1 : w4.cell? ⟨w.heap.size, 1, none⟩ = some (.string ⟨#[]⟩) := cell_of_row _ _ 1 _ _ (0, 0) b4_0.out
      have f4_0_1 : w4.frozen? ⟨w.heap.size, 1, none⟩ = false := block_free b4_0.out _
      have c4_0_2 : w4.cell? ⟨w.heap.size, 2, none⟩ = some (.string ⟨#[]⟩) := cell_of_row _ _ 2 _ _ (0, 0) b4_0.out
      have f4_0_2 : w4.frozen? ⟨w.heap.size, 2, none⟩ = false := block_free b4_0.out _
      have c4_0_3 : w4.cell? ⟨w.heap.size, 3, none⟩ = some (.int .i64 0) := cell_of_row _ _ 3 _ _ (0, 0) b4_0.out
      have f4_0_3 : w4.frozen? ⟨w.heap.size, 3, none⟩ = false := block_free b4_0.out _
      have c4_0_4 : w4.cell? ⟨w.heap.size, 4, none⟩ = some (.string ⟨#[]⟩) := cell_of_row _ _ 4 _ _ (0, 0) b4_0.out
      have f4_0_4 : w4.frozen? ⟨w.heap.size, 4, none⟩ = false := block_free b4_0.out _
      have l4_1 : g < w4.heap.size := (Array.getElem?_eq_some_iff.1 b4_1.out).1
      have c4_1_0 : w4.cell? ⟨g, 0, none⟩ = some (.int .i64 x) := cell_of_row _ _ 0 _ _ (0, 0) b4_1.out
      have f4_1_0 : w4.frozen? ⟨g, 0, none⟩ = false := block_free b4_1.out _
      have c4_1_1 : w4.cell? ⟨g, 1, none⟩ = some (.string s) := cell_of_row _ _ 1 _ _ (0, 0) b4_1.out
      have f4_1_1 : w4.frozen? ⟨g, 1, none⟩ = false := block_free b4_1.out _
      have c4_1_2 : w4.cell? ⟨g, 2, none⟩ = some (.string ⟨#[]⟩) := cell_of_row _ _ 2 _ _ (0, 0) b4_1.out
      have f4_1_2 : w4.frozen? ⟨g, 2, none⟩ = false := block_free b4_1.out _
      have c4_1_3 : w4.cell? ⟨g, 3, none⟩ = some (.int .i64 a) := cell_of_row _ _ 3 _ _ (0, 0) b4_1.out
      have f4_1_3 : w4.frozen? ⟨g, 3, none⟩ = false := block_free b4_1.out _
      have c4_1_4 : w4.cell? ⟨g, 4, none⟩ = some (.string ⟨#[]⟩) := cell_of_row _ _ 4 _ _ (0, 0) b4_1.out
      have f4_1_4 : w4.frozen? ⟨g, 4, none⟩ = false := block_free b4_1.out _
      have hv4 : v = 0 ∨ v = 1 ∨ v = 2 ∨ v = 3 ∨ (v ≠ 0 ∧ v ≠ 1 ∧ v ≠ 2 ∧ v ≠ 3) := by omega
      clear hv
      rcases hv4 with hv | hv | hv | hv | ⟨hv0, hv1, hv2, hv3⟩
      · skip
        have u0 : ((v : Int) == 0) = true := by simp [hv]
        have u1 : ((v : Int) == 1) = false := by simp [hv]
        have u2 : ((v : Int) == 2) = false := by simp [hv]
        have u3 : ((v : Int) == 3) = false := by simp [hv]
        clear hv
        go_wp2_with fail
        refine (pick_any _ p A n c zs (k1 + 1 + 1) 4 (Rd.below R4.out bel1) (by omega) (by omega) (by omega)).mono ?_
        rintro e w5 ⟨v2, rfl, hv2, rd5, hc5, hz5⟩
        have hv2 := hv2 (by omega)
        clear hz5
        obtain ⟨z, hz⟩ := lit_int (r := v2) (litInts [0, 8, -1, 3]) hc5 rfl (by omega) (by simp; omega)
        have hv20 : (0 : Int) ≤ (v2 : Int) := by omega
        have hv21 : (v2 : Int) < 4 := by omega
        have zz5 : w4.heap.size + 1 ≤ w5.heap.size := by have := hc5.size; (try simp [World.setCell] at this); omega
        have X5 : Hid (Chg (· ∈ [p]) w w5) := Lib.hid ((Chg.alloc X4.out _).trans hc5)
        have b5_0 : Hid (w5.heap[w.heap.size]? = some (.cells #[.int .i64 0, .string ⟨#[]⟩, .string ⟨#[]⟩, .int .i64 0, .string ⟨#[]⟩] 32 (0, 0))) := Lib.hid ((hc5.block _ (by first | omega | (simp [World.setCell] <;> omega)) (by simp <;> omega)).trans ((Below.heap_alloc _ _ _ (by first | omega | (simp [World.setCell] <;> omega))).trans b4_0.out))
        have b5_1 : Hid (w5.heap[g]? = some (.cells #[.int .i64 x, .string s, .string ⟨#[]⟩, .int .i64 a, .string ⟨#[]⟩] 32 (0, 0))) := Lib.hid ((hc5.block _ (by first | omega | (simp [World.setCell] <;> omega)) (by simp <;> omega)).trans ((Below.heap_alloc _ _ _ (by first | omega | (simp [World.setCell] <;> omega))).trans b4_1.out))
        have R5 : Hid (Rd w5 p A n c zs (k1 + 1 + 1 + 1)) := Lib.hid rd5
        have pl5 : p < w5.heap.size := by omega
        clear b4_0 b4_1 X4 R4 pl4 l4_0 c4_0_0 f4_0_0 c4_0_1 f4_0_1 c4_0_2 f4_0_2 c4_0_3 f4_0_3 c4_0_4 f4_0_4 l4_1 c4_1_0 f4_1_0 c4_1_1 f4_1_1 c4_1_2 f4_1_2 c4_1_3 f4_1_3 c4_1_4 f4_1_4 hc5 rd5
        have l5_0 : w.heap.size < w5.heap.size := (Array.getElem?_eq_some_iff.1 b5_0.out).1
        have c5_0_0 : w5.cell? ⟨w.heap.size, 0, none⟩ = some (.int .i64 0) := cell_of_row _ _ 0 _ _ (0, 0) b5_0.out
        have f5_0_0 : w5.frozen? ⟨w.heap.size, 0, none⟩ = false := block_free b5_0.out _
        have c5_0_1 : w5.cell? ⟨w.heap.size, 1, none⟩ = some (.string ⟨#[]⟩) := cell_of_row _ _ 1 _ _ (0, 0) b5_0.out
        have f5_0_1 : w5.frozen? ⟨w.heap.size, 1, none⟩ = false := block_free b5_0.out _
        have c5_0_2 : w5.cell? ⟨w.heap.size, 2, none⟩ = some (.string ⟨#[]⟩) := cell_of_row _ _ 2 _ _ (0, 0) b5_0.out
        have f5_0_2 : w5.frozen? ⟨w.heap.size, 2, none⟩ = false := block_free b5_0.out _
        have c5_0_3 : w5.cell? ⟨w.heap.size, 3, none⟩ = some (.int .i64 0) := cell_of_row _ _ 3 _ _ (0, 0) b5_0.out
        have f5_0_3 : w5.frozen? ⟨w.heap.size, 3, none⟩ = false := block_free b5_0.out _
        have c5_0_4 : w5.cell? ⟨w.heap.size, 4, none⟩ = some (.string ⟨#[]⟩) := cell_of_row _ _ 4 _ _ (0, 0) b5_0.out
        have f5_0_4 : w5.frozen? ⟨w.heap.size, 4, none⟩ = false := block_free b5_0.out _
        have l5_1 : g < w5.heap.size := (Array.getElem?_eq_some_iff.1 b5_1.out).1
        have c5_1_0 : w5.cell? ⟨g, 0, none⟩ = some (.int .i64 x) := cell_of_row _ _ 0 _ _ (0, 0) b5_1.out
        have f5_1_0 : w5.frozen? ⟨g, 0, none⟩ = false := block_free b5_1.out _
        have c5_1_1 : w5.cell? ⟨g, 1, none⟩ = some (.string s) := cell_of_row _ _ 1 _ _ (0, 0) b5_1.out
        have f5_1_1 : w5.frozen? ⟨g, 1, none⟩ = false := block_free b5_1.out _
        have c5_1_2 : w5.cell? ⟨g, 2, none⟩ = some (.string ⟨#[]⟩) := cell_of_row _ _ 2 _ _ (0, 0) b5_1.out
        have f5_1_2 : w5.frozen? ⟨g, 2, none⟩ = false := block_free b5_1.out _
        have c5_1_3 : w5.cell? ⟨g, 3, none⟩ = some (.int .i64 a) := cell_of_row _ _ 3 _ _ (0, 0) b5_1.out
        have f5_1_3 : w5.frozen? ⟨g, 3, none⟩ = false := block_free b5_1.out _
        have c5_1_4 : w5.cell? ⟨g, 4, none⟩ = some (.string ⟨#[]⟩) := cell_of_row _ _ 4 _ _ (0, 0) b5_1.out
        have f5_1_4 : w5.frozen? ⟨g, 4, none⟩ = false := block_free b5_1.out _
        go_wp2_with fail
        have hrr : ((World.setCell w5 ⟨g, 0, none⟩ (.int .i64 z))).heap[w.heap.size]? = some (.cells #[.int .i64 0, .string ⟨#[]⟩, .string ⟨#[]⟩, .int .i64 0, .string ⟨#[]⟩] 32 (0, 0)) := ((heap_far (by first | omega | (simp <;> omega))).trans b5_0.out)
        have hst := set_5 (x0 := .int .i64 z) (x1 := .string s) (x2 := .string ⟨#[]⟩) (x3 := .int .i64 a) (x4 := .string ⟨#[]⟩) hrr
        clear hrr
        have r0 := cell_of_row _ _ 0 _ _ (0, 0) hst
        have r1 := cell_of_row _ _ 1 _ _ (0, 0) hst
        have r2 := cell_of_row _ _ 2 _ _ (0, 0) hst
        have r3 := cell_of_row _ _ 3 _ _ (0, 0) hst
        have r4 := cell_of_row _ _ 4 _ _ (0, 0) hst
        clear hst
        exact bodyPost_ret (v := .agg #[.int .i64 z, .string s, .string ⟨#[]⟩, .int .i64 a, .string ⟨#[]⟩]) (by simp [results, Tryz.results57, go_sem, r0, r1, r2, r3, r4]) rfl (⟨_, _, _, _, _, _, rfl, by omega, by decide, by decide, by omega, (Rd.set h (Rd.set h (Rd.set h (Rd.set h (Rd.set h (Rd.set h R5.out (a := ⟨g, 0, none⟩) (by first | exact Nat.le_refl _ | (dsimp only; omega)) _) (a := ⟨w.heap.size, 0, none⟩) (by first | exact Nat.le_refl _ | (dsimp only; omega)) _) (a := ⟨w.heap.size, 1, none⟩) (by first | exact Nat.le_refl _ | (dsimp only; omega)) _) (a := ⟨w.heap.size, 2, none⟩) (by first | exact Nat.le_refl _ | (dsimp only; omega)) _) (a := ⟨w.heap.size, 3, none⟩) (by first | exact Nat.le_refl _ | (dsimp only; omega)) _) (a := ⟨w.heap.size, 4, none⟩) (by first | exact Nat.le_refl _ | (dsimp only; omega)) _), (Chg.setCell (p := ⟨w.heap.size, 4, none⟩) (Chg.setCell (p := ⟨w.heap.size, 3, none⟩) (Chg.setCell (p := ⟨w.heap.size, 2, none⟩) (Chg.setCell (p := ⟨w.heap.size, 1, none⟩) (Chg.setCell (p := ⟨w.heap.size, 0, none⟩) (Chg.setCell (p := ⟨g, 0, none⟩) X5.out (.inr (by first | exact Nat.le_refl _ | (dsimp only; omega))) _) (.inr (by first | exact Nat.le_refl _ | (dsimp only; omega))) _) (.inr (by first | exact Nat.le_refl _ | (dsimp only; omega))) _) (.inr (by first | exact Nat.le_refl _ | (dsimp only; omega))) _) (.inr (by first | exact Nat.le_refl _ | (dsimp only; omega))) _) (.inr (by first | exact Nat.le_refl _ | (dsimp only; omega))) _)⟩)
      · skip
        have u0 : ((v : Int) == 0) = false := by simp [hv]
        have u1 : ((v : Int) == 1) = true := by simp [hv]
        have u2 : ((v : Int) == 2) = false := by simp [hv]
        have u3 : ((v : Int) == 3) = false := by simp [hv]
        clear hv
        go_wp2_with fail
        refine (pick_any _ p A n c zs (k1 + 1 + 1) 3 (Rd.below R4.out bel1) (by omega) (by omega) (by omega)).mono ?_
        rintro e w5 ⟨v2, rfl, hv2, rd5, hc5, hz5⟩
        have hv2 := hv2 (by omega)
        clear hz5
        obtain ⟨z, hz⟩ := lit_int (r := v2) (litInts [-1, 193, 192]) hc5 rfl (by omega) (by simp; omega)
        have hv20 : (0 : Int) ≤ (v2 : Int) := by omega
        have hv21 : (v2 : Int) < 3 := by omega
        have zz5 : w4.heap.size + 1 ≤ w5.heap.size := by have := hc5.size; (try simp [World.setCell] at this); omega
        have X5 : Hid (Chg (· ∈ [p]) w w5) := Lib.hid ((Chg.alloc X4.out _).trans hc5)
        have b5_0 : Hid (w5.heap[w.heap.size]? = some (.cells #[.int .i64 0, .string ⟨#[]⟩, .string ⟨#[]⟩, .int .i64 0, .string ⟨#[]⟩] 32 (0, 0))) := Lib.hid ((hc5.block _ (by first | omega | (simp [World.setCell] <;> omega)) (by simp <;> omega)).trans ((Below.heap_alloc _ _ _ (by first | omega | (simp [World.setCell] <;> omega))).trans b4_0.out))
        have b5_1 : Hid (w5.heap[g]? = some (.cells #[.int .i64 x, .string s, .string ⟨#[]⟩, .int .i64 a, .string ⟨#[]⟩] 32 (0, 0))) := Lib.hid ((hc5.block _ (by first | omega | (simp [World.setCell] <;> omega)) (by simp <;> omega)).trans ((Below.heap_alloc _ _ _ (by first | omega | (simp [World.setCell] <;> omega))).trans b4_1.out))
        have R5 : Hid (Rd w5 p A n c zs (k1 + 1 + 1 + 1)) := Lib.hid rd5
        have pl5 : p < w5.heap.size := by omega
        clear b4_0 b4_1 X4 R4 pl4 l4_0 c4_0_0 f4_0_0 c4_0_1 f4_0_1 c4_0_2 f4_0_2 c4_0_3 f4_0_3 c4_0_4 f4_0_4 l4_1 c4_1_0 f4_1_0 c4_1_1 f4_1_1 c4_1_2 f4_1_2 c4_1_3 f4_1_3 c4_1_4 f4_1_4 hc5 rd5
        have l5_0 : w.heap.size < w5.heap.size := (Array.getElem?_eq_some_iff.1 b5_0.out).1
        have c5_0_0 : w5.cell? ⟨w.heap.size, 0, none⟩ = some (.int .i64 0) := cell_of_row _ _ 0 _ _ (0, 0) b5_0.out
        have f5_0_0 : w5.frozen? ⟨w.heap.size, 0, none⟩ = false := block_free b5_0.out _
        have c5_0_1 : w5.cell? ⟨w.heap.size, 1, none⟩ = some (.string ⟨#[]⟩) := cell_of_row _ _ 1 _ _ (0, 0) b5_0.out
        have f5_0_1 : w5.frozen? ⟨w.heap.size, 1, none⟩ = false := block_free b5_0.out _
        have c5_0_2 : w5.cell? ⟨w.heap.size, 2, none⟩ = some (.string ⟨#[]⟩) := cell_of_row _ _ 2 _ _ (0, 0) b5_0.out
        have f5_0_2 : w5.frozen? ⟨w.heap.size, 2, none⟩ = false := block_free b5_0.out _
        have c5_0_3 : w5.cell? ⟨w.heap.size, 3, none⟩ = some (.int .i64 0) := cell_of_row _ _ 3 _ _ (0, 0) b5_0.out
        have f5_0_3 : w5.frozen? ⟨w.heap.size, 3, none⟩ = false := block_free b5_0.out _
        have c5_0_4 : w5.cell? ⟨w.heap.size, 4, none⟩ = some (.string ⟨#[]⟩) := cell_of_row _ _ 4 _ _ (0, 0) b5_0.out
        have f5_0_4 : w5.frozen? ⟨w.heap.size, 4, none⟩ = false := block_free b5_0.out _
        have l5_1 : g < w5.heap.size := (Array.getElem?_eq_some_iff.1 b5_1.out).1
        have c5_1_0 : w5.cell? ⟨g, 0, none⟩ = some (.int .i64 x) := cell_of_row _ _ 0 _ _ (0, 0) b5_1.out
        have f5_1_0 : w5.frozen? ⟨g, 0, none⟩ = false := block_free b5_1.out _
        have c5_1_1 : w5.cell? ⟨g, 1, none⟩ = some (.string s) := cell_of_row _ _ 1 _ _ (0, 0) b5_1.out
        have f5_1_1 : w5.frozen? ⟨g, 1, none⟩ = false := block_free b5_1.out _
        have c5_1_2 : w5.cell? ⟨g, 2, none⟩ = some (.string ⟨#[]⟩) := cell_of_row _ _ 2 _ _ (0, 0) b5_1.out
        have f5_1_2 : w5.frozen? ⟨g, 2, none⟩ = false := block_free b5_1.out _
        have c5_1_3 : w5.cell? ⟨g, 3, none⟩ = some (.int .i64 a) := cell_of_row _ _ 3 _ _ (0, 0) b5_1.out
        have f5_1_3 : w5.frozen? ⟨g, 3, none⟩ = false := block_free b5_1.out _
        have c5_1_4 : w5.cell? ⟨g, 4, none⟩ = some (.string ⟨#[]⟩) := cell_of_row _ _ 4 _ _ (0, 0) b5_1.out
        have f5_1_4 : w5.frozen? ⟨g, 4, none⟩ = false := block_free b5_1.out _
        go_wp2_with fail
        have hrr : ((World.setCell w5 ⟨g, 3, none⟩ (.int .i64 z))).heap[w.heap.size]? = some (.cells #[.int .i64 0, .string ⟨#[]⟩, .string ⟨#[]⟩, .int .i64 0, .string ⟨#[]⟩] 32 (0, 0)) := ((heap_far (by first | omega | (simp <;> omega))).trans b5_0.out)
        have hst := set_5 (x0 := .int .i64 x) (x1 := .string s) (x2 := .string ⟨#[]⟩) (x3 := .int .i64 z) (x4 := .string ⟨#[]⟩) hrr
        clear hrr
        have r0 := cell_of_row _ _ 0 _ _ (0, 0) hst
        have r1 := cell_of_row _ _ 1 _ _ (0, 0) hst
        have r2 := cell_of_row _ _ 2 _ _ (0, 0) hst
        have r3 := cell_of_row _ _ 3 _ _ (0, 0) hst
        have r4 := cell_of_row _ _ 4 _ _ (0, 0) hst
        clear hst
        exact bodyPost_ret (v := .agg #[.int .i64 x, .string s, .string ⟨#[]⟩, .int .i64 z, .string ⟨#[]⟩]) (by simp [results, Tryz.results57, go_sem, r0, r1, r2, r3, r4]) rfl (⟨_, _, _, _, _, _, rfl, by omega, by decide, by decide, by omega, (Rd.set h (Rd.set h (Rd.set h (Rd.set h (Rd.set h (Rd.set h R5.out (a := ⟨g, 3, none⟩) (by first | exact Nat.le_refl _ | (dsimp only; omega)) _) (a := ⟨w.heap.size, 0, none⟩) (by first | exact Nat.le_refl _ | (dsimp only; omega)) _) (a := ⟨w.heap.size, 1, none⟩) (by first | exact Nat.le_refl _ | (dsimp only; omega)) _) (a := ⟨w.heap.size, 2, none⟩) (by first | exact Nat.le_refl _ | (dsimp only; omega)) _) (a := ⟨w.heap.size, 3, none⟩) (by first | exact Nat.le_refl _ | (dsimp only; omega)) _) (a := ⟨w.heap.size, 4, none⟩) (by first | exact Nat.le_refl _ | (dsimp only; omega)) _), (Chg.setCell (p := ⟨w.heap.size, 4, none⟩) (Chg.setCell (p := ⟨w.heap.size, 3, none⟩) (Chg.setCell (p := ⟨w.heap.size, 2, none⟩) (Chg.setCell (p := ⟨w.heap.size, 1, none⟩) (Chg.setCell (p := ⟨w.heap.size, 0, none⟩) (Chg.setCell (p := ⟨g, 3, none⟩) X5.out (.inr (by first | exact Nat.le_refl _ | (dsimp only; omega))) _) (.inr (by first | exact Nat.le_refl _ | (dsimp only; omega))) _) (.inr (by first | exact Nat.le_refl _ | (dsimp only; omega))) _) (.inr (by first | exact Nat.le_refl _ | (dsimp only; omega))) _) (.inr (by first | exact Nat.le_refl _ | (dsimp only; omega))) _) (.inr (by first | exact Nat.le_refl _ | (dsimp only; omega))) _)⟩)
      · skip
        have u0 : ((v : Int) == 0) = false := by simp [hv]
        have u1 : ((v : Int) == 1) = false := by simp [hv]
        have u2 : ((v : Int) == 2) = true := by simp [hv]
        have u3 : ((v : Int) == 3) = false := by simp [hv]
        clear hv
        go_wp2_with fail
        refine (pick_any _ p A n c zs (k1 + 1 + 1) 2 R4.out (by omega) (by omega) (by omega)).mono ?_
        rintro e w5 ⟨v2, rfl, hv2, rd5, hc5, hz5⟩
        have hv2 := hv2 (by omega)
        clear hz5
        have zz5 : w4.heap.size + 0 ≤ w5.heap.size := by have := hc5.size; (try simp [World.setCell] at this); omega
        have X5 : Hid (Chg (· ∈ [p]) w w5) := Lib.hid (X4.out.trans hc5)
        have b5_0 : Hid (w5.heap[w.heap.size]? = some (.cells #[.int .i64 0, .string ⟨#[]⟩, .string ⟨#[]⟩, .int .i64 0, .string ⟨#[]⟩] 32 (0, 0))) := Lib.hid ((hc5.block _ (by first | omega | (simp [World.setCell] <;> omega)) (by simp <;> omega)).trans b4_0.out)
        have b5_1 : Hid (w5.heap[g]? = some (.cells #[.int .i64 x, .string s, .string ⟨#[]⟩, .int .i64 a, .string ⟨#[]⟩] 32 (0, 0))) := Lib.hid ((hc5.block _ (by first | omega | (simp [World.setCell] <;> omega)) (by simp <;> omega)).trans b4_1.out)
        have R5 : Hid (Rd w5 p A n c zs (k1 + 1 + 1 + 1)) := Lib.hid rd5
        have pl5 : p < w5.heap.size := by omega
        clear b4_0 b4_1 X4 R4 pl4 l4_0 c4_0_0 f4_0_0 c4_0_1 f4_0_1 c4_0_2 f4_0_2 c4_0_3 f4_0_3 c4_0_4 f4_0_4 l4_1 c4_1_0 f4_1_0 c4_1_1 f4_1_1 c4_1_2 f4_1_2 c4_1_3 f4_1_3 c4_1_4 f4_1_4 hc5 rd5
        have l5_0 : w.heap.size < w5.heap.size := (Array.getElem?_eq_some_iff.1 b5_0.out).1
        have c5_0_0 : w5.cell? ⟨w.heap.size, 0, none⟩ = some (.int .i64 0) := cell_of_row _ _ 0 _ _ (0, 0) b5_0.out
        have f5_0_0 : w5.frozen? ⟨w.heap.size, 0, none⟩ = false := block_free b5_0.out _
        have c5_0_1 : w5.cell? ⟨w.heap.size, 1, none⟩ = some (.string ⟨#[]⟩) := cell_of_row _ _ 1 _ _ (0, 0) b5_0.out
        have f5_0_1 : w5.frozen? ⟨w.heap.size, 1, none⟩ = false := block_free b5_0.out _
        have c5_0_2 : w5.cell? ⟨w.heap.size, 2, none⟩ = some (.string ⟨#[]⟩) := cell_of_row _ _ 2 _ _ (0, 0) b5_0.out
        have f5_0_2 : w5.frozen? ⟨w.heap.size, 2, none⟩ = false := block_free b5_0.out _
        have c5_0_3 : w5.cell? ⟨w.heap.size, 3, none⟩ = some (.int .i64 0) := cell_of_row _ _ 3 _ _ (0, 0) b5_0.out
        have f5_0_3 : w5.frozen? ⟨w.heap.size, 3, none⟩ = false := block_free b5_0.out _
        have c5_0_4 : w5.cell? ⟨w.heap.size, 4, none⟩ = some (.string ⟨#[]⟩) := cell_of_row _ _ 4 _ _ (0, 0) b5_0.out
        have f5_0_4 : w5.frozen? ⟨w.heap.size, 4, none⟩ = false := block_free b5_0.out _
        have l5_1 : g < w5.heap.size := (Array.getElem?_eq_some_iff.1 b5_1.out).1
        have c5_1_0 : w5.cell? ⟨g, 0, none⟩ = some (.int .i64 x) := cell_of_row _ _ 0 _ _ (0, 0) b5_1.out
        have f5_1_0 : w5.frozen? ⟨g, 0, none⟩ = false := block_free b5_1.out _
        have c5_1_1 : w5.cell? ⟨g, 1, none⟩ = some (.string s) := cell_of_row _ _ 1 _ _ (0, 0) b5_1.out
        have f5_1_1 : w5.frozen? ⟨g, 1, none⟩ = false := block_free b5_1.out _
        have c5_1_2 : w5.cell? ⟨g, 2, none⟩ = some (.string ⟨#[]⟩) := cell_of_row _ _ 2 _ _ (0, 0) b5_1.out
        have f5_1_2 : w5.frozen? ⟨g, 2, none⟩ = false := block_free b5_1.out _
        have c5_1_3 : w5.cell? ⟨g, 3, none⟩ = some (.int .i64 a) := cell_of_row _ _ 3 _ _ (0, 0) b5_1.out
        have f5_1_3 : w5.frozen? ⟨g, 3, none⟩ = false := block_free b5_1.out _
        have c5_1_4 : w5.cell? ⟨g, 4, none⟩ = some (.string ⟨#[]⟩) := cell_of_row _ _ 4 _ _ (0, 0) b5_1.out
        have f5_1_4 : w5.frozen? ⟨g, 4, none⟩ = false := block_free b5_1.out _
        go_wp2_with fail
        refine (l6Many_u _ (24 + v2) _ (by omega) (by omega)).mono ?_
        rintro e wq ⟨z, rfl, hz, hwq⟩
        rw [hwq]; clear hwq
        have hz : z.size ≤ 100 := by omega
        go_wp2_with fail
        have hrr : ((World.setCell w5 ⟨g, 4, none⟩ (.string z))).heap[w.heap.size]? = some (.cells #[.int .i64 0, .string ⟨#[]⟩, .string ⟨#[]⟩, .int .i64 0, .string ⟨#[]⟩] 32 (0, 0)) := ((heap_far (by first | omega | (simp <;> omega))).trans b5_0.out)
        have hst := set_5 (x0 := .int .i64 x) (x1 := .string s) (x2 := .string ⟨#[]⟩) (x3 := .int .i64 a) (x4 := .string z) hrr
        clear hrr
        have r0 := cell_of_row _ _ 0 _ _ (0, 0) hst
        have r1 := cell_of_row _ _ 1 _ _ (0, 0) hst
        have r2 := cell_of_row _ _ 2 _ _ (0, 0) hst
        have r3 := cell_of_row _ _ 3 _ _ (0, 0) hst
        have r4 := cell_of_row _ _ 4 _ _ (0, 0) hst
        clear hst
        exact bodyPost_ret (v := .agg #[.int .i64 x, .string s, .string ⟨#[]⟩, .int .i64 a, .string z]) (by simp [results, Tryz.results57, go_sem, r0, r1, r2, r3, r4]) rfl (⟨_, _, _, _, _, _, rfl, by omega, by decide, by omega, by omega, (Rd.set h (Rd.set h (Rd.set h (Rd.set h (Rd.set h (Rd.set h R5.out (a := ⟨g, 4, none⟩) (by first | exact Nat.le_refl _ | (dsimp only; omega)) _) (a := ⟨w.heap.size, 0, none⟩) (by first | exact Nat.le_refl _ | (dsimp only; omega)) _) (a := ⟨w.heap.size, 1, none⟩) (by first | exact Nat.le_refl _ | (dsimp only; omega)) _) (a := ⟨w.heap.size, 2, none⟩) (by first | exact Nat.le_refl _ | (dsimp only; omega)) _) (a := ⟨w.heap.size, 3, none⟩) (by first | exact Nat.le_refl _ | (dsimp only; omega)) _) (a := ⟨w.heap.size, 4, none⟩) (by first | exact Nat.le_refl _ | (dsimp only; omega)) _), (Chg.setCell (p := ⟨w.heap.size, 4, none⟩) (Chg.setCell (p := ⟨w.heap.size, 3, none⟩) (Chg.setCell (p := ⟨w.heap.size, 2, none⟩) (Chg.setCell (p := ⟨w.heap.size, 1, none⟩) (Chg.setCell (p := ⟨w.heap.size, 0, none⟩) (Chg.setCell (p := ⟨g, 4, none⟩) X5.out (.inr (by first | exact Nat.le_refl _ | (dsimp only; omega))) _) (.inr (by first | exact Nat.le_refl _ | (dsimp only; omega))) _) (.inr (by first | exact Nat.le_refl _ | (dsimp only; omega))) _) (.inr (by first | exact Nat.le_refl _ | (dsimp only; omega))) _) (.inr (by first | exact Nat.le_refl _ | (dsimp only; omega))) _) (.inr (by first | exact Nat.le_refl _ | (dsimp only; omega))) _)⟩)
      · skip
        have u0 : ((v : Int) == 0) = false := by simp [hv]
        have u1 : ((v : Int) == 1) = false := by simp [hv]
        have u2 : ((v : Int) == 2) = false := by simp [hv]
        have u3 : ((v : Int) == 3) = true := by simp [hv]
        clear hv
        go_wp2_with fail
        refine (l92Path_any _ p A n c zs (k1 + 1 + 1) R4.out (by omega)).mono ?_
        rintro e w5 ⟨z, k5, rfl, hz, hk5, rd5, hc5⟩
        have zz5 : w4.heap.size + 0 ≤ w5.heap.size := by have := hc5.size; (try simp [World.setCell] at this); omega
        have X5 : Hid (Chg (· ∈ [p]) w w5) := Lib.hid (X4.out.trans hc5)
        have b5_0 : Hid (w5.heap[w.heap.size]? = some (.cells #[.int .i64 0, .string ⟨#[]⟩, .string ⟨#[]⟩, .int .i64 0, .string ⟨#[]⟩] 32 (0, 0))) := Lib.hid ((hc5.block _ (by first | omega | (simp [World.setCell] <;> omega)) (by simp <;> omega)).trans b4_0.out)
        have b5_1 : Hid (w5.heap[g]? = some (.cells #[.int .i64 x, .string s, .string ⟨#[]⟩, .int .i64 a, .string ⟨#[]⟩] 32 (0, 0))) := Lib.hid ((hc5.block _ (by first | omega | (simp [World.setCell] <;> omega)) (by simp <;> omega)).trans b4_1.out)
        have R5 : Hid (Rd w5 p A n c zs (k5)) := Lib.hid rd5
        have pl5 : p < w5.heap.size := by omega
        clear b4_0 b4_1 X4 R4 pl4 l4_0 c4_0_0 f4_0_0 c4_0_1 f4_0_1 c4_0_2 f4_0_2 c4_0_3 f4_0_3 c4_0_4 f4_0_4 l4_1 c4_1_0 f4_1_0 c4_1_1 f4_1_1 c4_1_2 f4_1_2 c4_1_3 f4_1_3 c4_1_4 f4_1_4 hc5 rd5
        have l5_0 : w.heap.size < w5.heap.size := (Array.getElem?_eq_some_iff.1 b5_0.out).1
        have c5_0_0 : w5.cell? ⟨w.heap.size, 0, none⟩ = some (.int .i64 0) := cell_of_row _ _ 0 _ _ (0, 0) b5_0.out
        have f5_0_0 : w5.frozen? ⟨w.heap.size, 0, none⟩ = false := block_free b5_0.out _
        have c5_0_1 : w5.cell? ⟨w.heap.size, 1, none⟩ = some (.string ⟨#[]⟩) := cell_of_row _ _ 1 _ _ (0, 0) b5_0.out
        have f5_0_1 : w5.frozen? ⟨w.heap.size, 1, none⟩ = false := block_free b5_0.out _
        have c5_0_2 : w5.cell? ⟨w.heap.size, 2, none⟩ = some (.string ⟨#[]⟩) := cell_of_row _ _ 2 _ _ (0, 0) b5_0.out
        have f5_0_2 : w5.frozen? ⟨w.heap.size, 2, none⟩ = false := block_free b5_0.out _
        have c5_0_3 : w5.cell? ⟨w.heap.size, 3, none⟩ = some (.int .i64 0) := cell_of_row _ _ 3 _ _ (0, 0) b5_0.out
        have f5_0_3 : w5.frozen? ⟨w.heap.size, 3, none⟩ = false := block_free b5_0.out _
        have c5_0_4 : w5.cell? ⟨w.heap.size, 4, none⟩ = some (.string ⟨#[]⟩) := cell_of_row _ _ 4 _ _ (0, 0) b5_0.out
        have f5_0_4 : w5.frozen? ⟨w.heap.size, 4, none⟩ = false := block_free b5_0.out _
        have l5_1 : g < w5.heap.size := (Array.getElem?_eq_some_iff.1 b5_1.out).1
        have c5_1_0 : w5.cell? ⟨g, 0, none⟩ = some (.int .i64 x) := cell_of_row _ _ 0 _ _ (0, 0) b5_1.out
        have f5_1_0 : w5.frozen? ⟨g, 0, none⟩ = false := block_free b5_1.out _
        have c5_1_1 : w5.cell? ⟨g, 1, none⟩ = some (.string s) := cell_of_row _ _ 1 _ _ (0, 0) b5_1.out
        have f5_1_1 : w5.frozen? ⟨g, 1, none⟩ = false := block_free b5_1.out _
        have c5_1_2 : w5.cell? ⟨g, 2, none⟩ = some (.string ⟨#[]⟩) := cell_of_row _ _ 2 _ _ (0, 0) b5_1.out
        have f5_1_2 : w5.frozen? ⟨g, 2, none⟩ = false := block_free b5_1.out _
        have c5_1_3 : w5.cell? ⟨g, 3, none⟩ = some (.int .i64 a) := cell_of_row _ _ 3 _ _ (0, 0) b5_1.out
        have f5_1_3 : w5.frozen? ⟨g, 3, none⟩ = false := block_free b5_1.out _
        have c5_1_4 : w5.cell? ⟨g, 4, none⟩ = some (.string ⟨#[]⟩) := cell_of_row _ _ 4 _ _ (0, 0) b5_1.out
        have f5_1_4 : w5.frozen? ⟨g, 4, none⟩ = false := block_free b5_1.out _
        go_wp2_with fail
        have hrr : ((World.setCell w5 ⟨g, 2, none⟩ (.string z))).heap[w.heap.size]? = some (.cells #[.int .i64 0, .string ⟨#[]⟩, .string ⟨#[]⟩, .int .i64 0, .string ⟨#[]⟩] 32 (0, 0)) := ((heap_far (by first | omega | (simp <;> omega))).trans b5_0.out)
        have hst := set_5 (x0 := .int .i64 x) (x1 := .string s) (x2 := .string z) (x3 := .int .i64 a) (x4 := .string ⟨#[]⟩) hrr
        clear hrr
        have r0 := cell_of_row _ _ 0 _ _ (0, 0) hst
        have r1 := cell_of_row _ _ 1 _ _ (0, 0) hst
        have r2 := cell_of_row _ _ 2 _ _ (0, 0) hst
        have r3 := cell_of_row _ _ 3 _ _ (0, 0) hst
        have r4 := cell_of_row _ _ 4 _ _ (0, 0) hst
        clear hst
        exact bodyPost_ret (v := .agg #[.int .i64 x, .string s, .string z, .int .i64 a, .string ⟨#[]⟩]) (by simp [results, Tryz.results57, go_sem, r0, r1, r2, r3, r4]) rfl (⟨_, _, _, _, _, _, rfl, by omega, by omega, by decide, by omega, (Rd.set h (Rd.set h (Rd.set h (Rd.set h (Rd.set h (Rd.set h R5.out (a := ⟨g, 2, none⟩) (by first | exact Nat.le_refl _ | (dsimp only; omega)) _) (a := ⟨w.heap.size, 0, none⟩) (by first | exact Nat.le_refl _ | (dsimp only; omega)) _) (a := ⟨w.heap.size, 1, none⟩) (by first | exact Nat.le_refl _ | (dsimp only; omega)) _) (a := ⟨w.heap.size, 2, none⟩) (by first | exact Nat.le_refl _ | (dsimp only; omega)) _) (a := ⟨w.heap.size, 3, none⟩) (by first | exact Nat.le_refl _ | (dsimp only; omega)) _) (a := ⟨w.heap.size, 4, none⟩) (by first | exact Nat.le_refl _ | (dsimp only; omega)) _), (Chg.setCell (p := ⟨w.heap.size, 4, none⟩) (Chg.setCell (p := ⟨w.heap.size, 3, none⟩) (Chg.setCell (p := ⟨w.heap.size, 2, none⟩) (Chg.setCell (p := ⟨w.heap.size, 1, none⟩) (Chg.setCell (p := ⟨w.heap.size, 0, none⟩) (Chg.setCell (p := ⟨g, 2, none⟩) X5.out (.inr (by first | exact Nat.le_refl _ | (dsimp only; omega))) _) (.inr (by first | exact Nat.le_refl _ | (dsimp only; omega))) _) (.inr (by first | exact Nat.le_refl _ | (dsimp only; omega))) _) (.inr (by first | exact Nat.le_refl _ | (dsimp only; omega))) _) (.inr (by first | exact Nat.le_refl _ | (dsimp only; omega))) _) (.inr (by first | exact Nat.le_refl _ | (dsimp only; omega))) _)⟩)
      · skip
        have u0 : ((v : Int) == 0) = false := by simp; omega
        have u1 : ((v : Int) == 1) = false := by simp; omega
        have u2 : ((v : Int) == 2) = false := by simp; omega
        have u3 : ((v : Int) == 3) = false := by simp; omega
        clear hv0 hv1 hv2 hv3
        go_wp2_with fail
        have hrr : (w4).heap[w.heap.size]? = some (.cells #[.int .i64 0, .string ⟨#[]⟩, .string ⟨#[]⟩, .int .i64 0, .string ⟨#[]⟩] 32 (0, 0)) := b4_0.out
        have hst := set_5 (x0 := .int .i64 x) (x1 := .string s) (x2 := .string ⟨#[]⟩) (x3 := .int .i64 a) (x4 := .string ⟨#[]⟩) hrr
        clear hrr
        have r0 := cell_of_row _ _ 0 _ _ (0, 0) hst
        have r1 := cell_of_row _ _ 1 _ _ (0, 0) hst
        have r2 := cell_of_row _ _ 2 _ _ (0, 0) hst
        have r3 := cell_of_row _ _ 3 _ _ (0, 0) hst
        have r4 := cell_of_row _ _ 4 _ _ (0, 0) hst
        clear hst
        exact bodyPost_ret (v := .agg #[.int .i64 x, .string s, .string ⟨#[]⟩, .int .i64 a, .string ⟨#[]⟩]) (by simp [results, Tryz.results57, go_sem, r0, r1, r2, r3, r4]) rfl (⟨_, _, _, _, _, _, rfl, by omega, by decide, by decide, by omega, (Rd.set h (Rd.set h (Rd.set h (Rd.set h (Rd.set h R4.out (a := ⟨w.heap.size, 0, none⟩) (by first | exact Nat.le_refl _ | (dsimp only; omega)) _) (a := ⟨w.heap.size, 1, none⟩) (by first | exact Nat.le_refl _ | (dsimp only; omega)) _) (a := ⟨w.heap.size, 2, none⟩) (by first | exact Nat.le_refl _ | (dsimp only; omega)) _) (a := ⟨w.heap.size, 3, none⟩) (by first | exact Nat.le_refl _ | (dsimp only; omega)) _) (a := ⟨w.heap.size, 4, none⟩) (by first | exact Nat.le_refl _ | (dsimp only; omega)) _), (Chg.setCell (p := ⟨w.heap.size, 4, none⟩) (Chg.setCell (p := ⟨w.heap.size, 3, none⟩) (Chg.setCell (p := ⟨w.heap.size, 2, none⟩) (Chg.setCell (p := ⟨w.heap.size, 1, none⟩) (Chg.setCell (p := ⟨w.heap.size, 0, none⟩) X4.out (.inr (by first | exact Nat.le_refl _ | (dsimp only; omega))) _) (.inr (by first | exact Nat.le_refl _ | (dsimp only; omega))) _) (.inr (by first | exact Nat.le_refl _ | (dsimp only; omega))) _) (.inr (by first | exact Nat.le_refl _ | (dsimp only; omega))) _) (.inr (by first | exact Nat.le_refl _ | (dsimp only; omega))) _)⟩)
    · skip
      have t3 : (x == 3) = false := by simp [hx]
      have t4 : (x == 4) = false := by simp [hx]
      have t6 : (x == 6) = true := by simp [hx]
      have t7 : (x == 7) = false := by simp [hx]
      clear hx
      go_wp2_with fail
      refine (l92Path_any _ p A n c zs (k1) R2.out (by omega)).mono ?_
      rintro e w3 ⟨t, k3, rfl, ht, hk3, rd3, hc3⟩
      have zz3 : w2.heap.size + 0 ≤ w3.heap.size := by have := hc3.size; (try simp [World.setCell] at this); omega
      have X3 : Hid (Chg (· ∈ [p]) w w3) := Lib.hid (X2.out.trans hc3)
      have b3_0 : Hid (w3.heap[w.heap.size]? = some (.cells #[.int .i64 0, .string ⟨#[]⟩, .string ⟨#[]⟩, .int .i64 0, .string ⟨#[]⟩] 32 (0, 0))) := Lib.hid ((hc3.block _ (by first | omega | (simp [World.setCell] <;> omega)) (by simp <;> omega)).trans b2_0.out)
      have b3_1 : Hid (w3.heap[g]? = some (.cells #[.int .i64 x, .string s, .string ⟨#[]⟩, .int .i64 0, .string ⟨#[]⟩] 32 (0, 0))) := Lib.hid ((hc3.block _ (by first | omega | (simp [World.setCell] <;> omega)) (by simp <;> omega)).trans b2_1.out)
      have R3 : Hid (Rd w3 p A n c zs (k3)) := Lib.hid rd3
      have pl3 : p < w3.heap.size := by omega
      clear b2_0 b2_1 X2 R2 pl2 l2_0 c2_0_0 f2_0_0 c2_0_1 f2_0_1 c2_0_2 f2_0_2 c2_0_3 f2_0_3 c2_0_4 f2_0_4 l2_1 c2_1_0 f2_1_0 c2_1_1 f2_1_1 c2_1_2 f2_1_2 c2_1_3 f2_1_3 c2_1_4 f2_1_4 hc3 rd3
      have l3_0 : w.heap.size < w3.heap.size := (Array.getElem?_eq_some_iff.1 b3_0.out).1
      have c3_0_0 : w3.cell? ⟨w.heap.size, 0, none⟩ = some (.int .i64 0) := cell_of_row _ _ 0 _ _ (0, 0) b3_0.out
      have f3_0_0 : w3.frozen? ⟨w.heap.size, 0, none⟩ = false := block_free b3_0.out _
      have c3_0_1 : w3.cell? ⟨w.heap.size, 1, none⟩ = some (.string ⟨#[]⟩) := cell_of_row _ _ 1 _ _ (0, 0) b3_0.out
      have f3_0_1 : w3.frozen? ⟨w.heap.size, 1, none⟩ = false := block_free b3_0.out _
      have c3_0_2 : w3.cell? ⟨w.heap.size, 2, none⟩ = some (.string ⟨#[]⟩) := cell_of_row _ _ 2 _ _ (0, 0) b3_0.out
      have f3_0_2 : w3.frozen? ⟨w.heap.size, 2, none⟩ = false := block_free b3_0.out _
      have c3_0_3 : w3.cell? ⟨w.heap.size, 3, none⟩ = some (.int .i64 0) := cell_of_row _ _ 3 _ _ (0, 0) b3_0.out
      have f3_0_3 : w3.frozen? ⟨w.heap.size, 3, none⟩ = false := block_free b3_0.out _
      have c3_0_4 : w3.cell? ⟨w.heap.size, 4, none⟩ = some (.string ⟨#[]⟩) := cell_of_row _ _ 4 _ _ (0, 0) b3_0.out
      have f3_0_4 : w3.frozen? ⟨w.heap.size, 4, none⟩ = false := block_free b3_0.out _
      have l3_1 : g < w3.heap.size := (Array.getElem?_eq_some_iff.1 b3_1.out).1
      have c3_1_0 : w3.cell? ⟨g, 0, none⟩ = some (.int .i64 x) := cell_of_row _ _ 0 _ _ (0, 0) b3_1.out
      have f3_1_0 : w3.frozen? ⟨g, 0, none⟩ = false := block_free b3_1.out _
      have c3_1_1 : w3.cell? ⟨g, 1, none⟩ = some (.string s) := cell_of_row _ _ 1 _ _ (0, 0) b3_1.out
      have f3_1_1 : w3.frozen? ⟨g, 1, none⟩ = false := block_free b3_1.out _
      have c3_1_2 : w3.cell? ⟨g, 2, none⟩ = some (.string ⟨#[]⟩) := cell_of_row _ _ 2 _ _ (0, 0) b3_1.out
      have f3_1_2 : w3.frozen? ⟨g, 2, none⟩ = false := block_free b3_1.out _
      have c3_1_3 : w3.cell? ⟨g, 3, none⟩ = some (.int .i64 0) := cell_of_row _ _ 3 _ _ (0, 0) b3_1.out
      have f3_1_3 : w3.frozen? ⟨g, 3, none⟩ = false := block_free b3_1.out _
      have c3_1_4 : w3.cell? ⟨g, 4, none⟩ = some (.string ⟨#[]⟩) := cell_of_row _ _ 4 _ _ (0, 0) b3_1.out
      have f3_1_4 : w3.frozen? ⟨g, 4, none⟩ = false := block_free b3_1.out _
      go_wp2_with fail
      refine (pick_any _ p A n c zs (k3) 60 (Rd.set h R3.out (a := ⟨g, 2, none⟩) (by first | exact Nat.le_refl _ | (dsimp only; omega)) _) (by omega) (by omega) (by omega)).mono ?_
      rintro e w4 ⟨v, rfl, hv, rd4, hc4, hz4⟩
      have hv := hv (by omega)
      clear hz4
      have zz4 : w3.heap.size + 0 ≤ w4.heap.size := by have := hc4.size; (try simp [World.setCell] at this); omega
      have X4 : Hid (Chg (· ∈ [p]) w w4) := Lib.hid ((Chg.setCell (p := ⟨g, 2, none⟩) X3.out (.inr (by first | exact Nat.le_refl _ | (dsimp only; omega))) _).trans hc4)
      have b4_0 : Hid (w4.heap[w.heap.size]? = some (.cells #[.int .i64 0, .string ⟨#[]⟩, .string ⟨#[]⟩, .int .i64 0, .string ⟨#[]⟩] 32 (0, 0))) := Lib.hid ((hc4.block _ (by first | omega | (simp [World.setCell] <;> omega)) (by simp <;> omega)).trans ((heap_far (by first | omega | (simp <;> omega))).trans b3_0.out))
      have b4_1 : Hid (w4.heap[g]? = some (.cells #[.int .i64 x, .string s, .string t, .int .i64 0, .string ⟨#[]⟩] 32 (0, 0))) := Lib.hid ((hc4.block _ (by first | omega | (simp [World.setCell] <;> omega)) (by simp <;> omega)).trans (block_set b3_1.out))
      have R4 : Hid (Rd w4 p A n c zs (k3 + 1)) := Lib.hid rd4
      have pl4 : p < w4.heap.size := by omega
      clear b3_0 b3_1 X3 R3 pl3 l3_0 c3_0_0 f3_0_0 c3_0_1 f3_0_1 c3_0_2 f3_0_2 c3_0_3 f3_0_3 c3_0_4 f3_0_4 l3_1 c3_1_0 f3_1_0 c3_1_1 f3_1_1 c3_1_2 f3_1_2 c3_1_3 f3_1_3 c3_1_4 f3_1_4 hc4 rd4
      have l4_0 : w.heap.size < w4.heap.size := (Array.getElem?_eq_some_iff.1 b4_0.out).1
      have c4_0_0 : w4.cell? ⟨w.heap.size, 0, none⟩ = some (.int .i64 0) := cell_of_row _ _ 0 _ _ (0, 0) b4_0.out
      have f4_0_0 : w4.frozen? ⟨w.heap.size, 0, none⟩ = false := block_free b4_0.out _
      have c4_0_1 : w4.cell? ⟨w.heap.size, 1, none⟩ = some (.string ⟨#[]⟩) := cell_of_row _ _ 1 _ _ (0, 0) b4_0.out
      have f4_0_1 : w4.frozen? ⟨w.heap.size, 1, none⟩ = false := block_free b4_0.out _
      have c4_0_2 : w4.cell? ⟨w.heap.size, 2, none⟩ = some (.string ⟨#[]⟩) := cell_of_row _ _ 2 _ _ (0, 0) b4_0.out
      have f4_0_2 : w4.frozen? ⟨w.heap.size, 2, none⟩ = false := block_free b4_0.out _
      have c4_0_3 : w4.cell? ⟨w.heap.size, 3, none⟩ = some (.int .i64 0) := cell_of_row _ _ 3 _ _ (0, 0) b4_0.out
      have f4_0_3 : w4.frozen? ⟨w.heap.size, 3, none⟩ = false := block_free b4_0.out _
      have c4_0_4 : w4.cell? ⟨w.heap.size, 4, none⟩ = some (.string ⟨#[]⟩) := cell_of_row _ _ 4 _ _ (0, 0) b4_0.out
      have f4_0_4 : w4.frozen? ⟨w.heap.size, 4, none⟩ = false := block_free b4_0.out _
      have l4_1 : g < w4.heap.size := (Array.getElem?_eq_some_iff.1 b4_1.out).1
      have c4_1_0 : w4.cell? ⟨g, 0, none⟩ = some (.int .i64 x) := cell_of_row _ _ 0 _ _ (0, 0) b4_1.out
      have f4_1_0 : w4.frozen? ⟨g, 0, none⟩ = false := block_free b4_1.out _
      have c4_1_1 : w4.cell? ⟨g, 1, none⟩ = some (.string s) := cell_of_row _ _ 1 _ _ (0, 0) b4_1.out
      have f4_1_1 : w4.frozen? ⟨g, 1, none⟩ = false := block_free b4_1.out _
      have c4_1_2 : w4.cell? ⟨g, 2, none⟩ = some (.string t) := cell_of_row _ _ 2 _ _ (0, 0) b4_1.out
      have f4_1_2 : w4.frozen? ⟨g, 2, none⟩ = false := block_free b4_1.out _
      have c4_1_3 : w4.cell? ⟨g, 3, none⟩ = some (.int .i64 0) := cell_of_row _ _ 3 _ _ (0, 0) b4_1.out
      have f4_1_3 : w4.frozen? ⟨g, 3, none⟩ = false := block_free b4_1.out _
      have c4_1_4 : w4.cell? ⟨g, 4, none⟩ = some (.string ⟨#[]⟩) := cell_of_row _ _ 4 _ _ (0, 0) b4_1.out
      have f4_1_4 : w4.frozen? ⟨g, 4, none⟩ = false := block_free b4_1.out _
      have hv4 : v = 0 ∨ v = 1 ∨ v = 2 ∨ v = 3 ∨ (v ≠ 0 ∧ v ≠ 1 ∧ v ≠ 2 ∧ v ≠ 3) := by omega
      clear hv
      rcases hv4 with hv | hv | hv | hv | ⟨hv0, hv1, hv2, hv3⟩
      · skip
        have u0 : ((v : Int) == 0) = true := by simp [hv]
        have u1 : ((v : Int) == 1) = false := by simp [hv]
        have u2 : ((v : Int) == 2) = false := by simp [hv]
        have u3 : ((v : Int) == 3) = false := by simp [hv]
        clear hv
        go_wp2_with fail
        refine (pick_any _ p A n c zs (k3 + 1) 4 (Rd.below R4.out bel1) (by omega) (by omega) (by omega)).mono ?_
        rintro e w5 ⟨v2, rfl, hv2, rd5, hc5, hz5⟩
        have hv2 := hv2 (by omega)
        clear hz5
        obtain ⟨z, hz⟩ := lit_int (r := v2) (litInts [0, 8, -1, 3]) hc5 rfl (by omega) (by simp; omega)
        have hv20 : (0 : Int) ≤ (v2 : Int) := by omega
        have hv21 : (v2 : Int) < 4 := by omega
        have zz5 : w4.heap.size + 1 ≤ w5.heap.size := by have := hc5.size; (try simp [World.setCell] at this); omega
        have X5 : Hid (Chg (· ∈ [p]) w w5) := Lib.hid ((Chg.alloc X4.out _).trans hc5)
        have b5_0 : Hid (w5.heap[w.heap.size]? = some (.cells #[.int .i64 0, .string ⟨#[]⟩, .string ⟨#[]⟩, .int .i64 0, .string ⟨#[]⟩] 32 (0, 0))) := Lib.hid ((hc5.block _ (by first | omega | (simp [World.setCell] <;> omega)) (by simp <;> omega)).trans ((Below.heap_alloc _ _ _ (by first | omega | (simp [World.setCell] <;> omega))).trans b4_0.out))
        have b5_1 : Hid (w5.heap[g]? = some (.cells #[.int .i64 x, .string s, .string t, .int .i64 0, .string ⟨#[]⟩] 32 (0, 0))) := Lib.hid ((hc5.block _ (by first | omega | (simp [World.setCell] <;> omega)) (by simp <;> omega)).trans ((Below.heap_alloc _ _ _ (by first | omega | (simp [World.setCell] <;> omega))).trans b4_1.out))
        have R5 : Hid (Rd w5 p A n c zs (k3 + 1 + 1)) := Lib.hid rd5
        have pl5 : p < w5.heap.size := by omega
        clear b4_0 b4_1 X4 R4 pl4 l4_0 c4_0_0 f4_0_0 c4_0_1 f4_0_1 c4_0_2 f4_0_2 c4_0_3 f4_0_3 c4_0_4 f4_0_4 l4_1 c4_1_0 f4_1_0 c4_1_1 f4_1_1 c4_1_2 f4_1_2 c4_1_3 f4_1_3 c4_1_4 f4_1_4 hc5 rd5
        have l5_0 : w.heap.size < w5.heap.size := (Array.getElem?_eq_some_iff.1 b5_0.out).1
        have c5_0_0 : w5.cell? ⟨w.heap.size, 0, none⟩ = some (.int .i64 0) := cell_of_row _ _ 0 _ _ (0, 0) b5_0.out
        have f5_0_0 : w5.frozen? ⟨w.heap.size, 0, none⟩ = false := block_free b5_0.out _
        have c5_0_1 : w5.cell? ⟨w.heap.size, 1, none⟩ = some (.string ⟨#[]⟩) := cell_of_row _ _ 1 _ _ (0, 0) b5_0.out
        have f5_0_1 : w5.frozen? ⟨w.heap.size, 1, none⟩ = false := block_free b5_0.out _
        have c5_0_2 : w5.cell? ⟨w.heap.size, 2, none⟩ = some (.string ⟨#[]⟩) := cell_of_row _ _ 2 _ _ (0, 0) b5_0.out
        have f5_0_2 : w5.frozen? ⟨w.heap.size, 2, none⟩ = false := block_free b5_0.out _
        have c5_0_3 : w5.cell? ⟨w.heap.size, 3, none⟩ = some (.int .i64 0) := cell_of_row _ _ 3 _ _ (0, 0) b5_0.out
        have f5_0_3 : w5.frozen? ⟨w.heap.size, 3, none⟩ = false := block_free b5_0.out _
        have c5_0_4 : w5.cell? ⟨w.heap.size, 4, none⟩ = some (.string ⟨#[]⟩) := cell_of_row _ _ 4 _ _ (0, 0) b5_0.out
        have f5_0_4 : w5.frozen? ⟨w.heap.size, 4, none⟩ = false := block_free b5_0.out _
        have l5_1 : g < w5.heap.size := (Array.getElem?_eq_some_iff.1 b5_1.out).1
        have c5_1_0 : w5.cell? ⟨g, 0, none⟩ = some (.int .i64 x) := cell_of_row _ _ 0 _ _ (0, 0) b5_1.out
        have f5_1_0 : w5.frozen? ⟨g, 0, none⟩ = false := block_free b5_1.out _
        have c5_1_1 : w5.cell? ⟨g, 1, none⟩ = some (.string s) := cell_of_row _ _ 1 _ _ (0, 0) b5_1.out
        have f5_1_1 : w5.frozen? ⟨g, 1, none⟩ = false := block_free b5_1.out _
        have c5_1_2 : w5.cell? ⟨g, 2, none⟩ = some (.string t) := cell_of_row _ _ 2 _ _ (0, 0) b5_1.out
        have f5_1_2 : w5.frozen? ⟨g, 2, none⟩ = false := block_free b5_1.out _
        have c5_1_3 : w5.cell? ⟨g, 3, none⟩ = some (.int .i64 0) := cell_of_row _ _ 3 _ _ (0, 0) b5_1.out
        have f5_1_3 : w5.frozen? ⟨g, 3, none⟩ = false := block_free b5_1.out _
        have c5_1_4 : w5.cell? ⟨g, 4, none⟩ = some (.string ⟨#[]⟩) := cell_of_row _ _ 4 _ _ (0, 0) b5_1.out
        have f5_1_4 : w5.frozen? ⟨g, 4, none⟩ = false := block_free b5_1.out _
        go_wp2_with fail
        have hrr : ((World.setCell w5 ⟨g, 0, none⟩ (.int .i64 z))).heap[w.heap.size]? = some (.cells #[.int .i64 0, .string ⟨#[]⟩, .string ⟨#[]⟩, .int .i64 0, .string ⟨#[]⟩] 32 (0, 0)) := ((heap_far (by first | omega | (simp <;> omega))).trans b5_0.out)
        have hst := set_5 (x0 := .int .i64 z) (x1 := .string s) (x2 := .string t) (x3 := .int .i64 0) (x4 := .string ⟨#[]⟩) hrr
        clear hrr
        have r0 := cell_of_row _ _ 0 _ _ (0, 0) hst
        have r1 := cell_of_row _ _ 1 _ _ (0, 0) hst
        have r2 := cell_of_row _ _ 2 _ _ (0, 0) hst
        have r3 := cell_of_row _ _ 3 _ _ (0, 0) hst
        have r4 := cell_of_row _ _ 4 _ _ (0, 0) hst
        clear hst
        exact bodyPost_ret (v := .agg #[.int .i64 z, .string s, .string t, .int .i64 0, .string ⟨#[]⟩]) (by simp [results, Tryz.results57, go_sem, r0, r1, r2, r3, r4]) rfl (⟨_, _, _, _, _, _, rfl, by omega, by omega, by decide, by omega, (Rd.set h (Rd.set h (Rd.set h (Rd.set h (Rd.set h (Rd.set h R5.out (a := ⟨g, 0, none⟩) (by first | exact Nat.le_refl _ | (dsimp only; omega)) _) (a := ⟨w.heap.size, 0, none⟩) (by first | exact Nat.le_refl _ | (dsimp only; omega)) _) (a := ⟨w.heap.size, 1, none⟩) (by first | exact Nat.le_refl _ | (dsimp only; omega)) _) (a := ⟨w.heap.size, 2, none⟩) (by first | exact Nat.le_refl _ | (dsimp only; omega)) _) (a := ⟨w.heap.size, 3, none⟩) (by first | exact Nat.le_refl _ | (dsimp only; omega)) _) (a := ⟨w.heap.size, 4, none⟩) (by first | exact Nat.le_refl _ | (dsimp only; omega)) _), (Chg.setCell (p := ⟨w.heap.size, 4, none⟩) (Chg.setCell (p := ⟨w.heap.size, 3, none⟩) (Chg.setCell (p := ⟨w.heap.size, 2, none⟩) (Chg.setCell (p := ⟨w.heap.size, 1, none⟩) (Chg.setCell (p := ⟨w.heap.size, 0, none⟩) (Chg.setCell (p := ⟨g, 0, none⟩) X5.out (.inr (by first | exact Nat.le_refl _ | (dsimp only; omega))) _) (.inr (by first | exact Nat.le_refl _ | (dsimp only; omega))) _) (.inr (by first | exact Nat.le_refl _ | (dsimp only; omega))) _) (.inr (by first | exact Nat.le_refl _ | (dsimp only; omega))) _) (.inr (by first | exact Nat.le_refl _ | (dsimp only; omega))) _) (.inr (by first | exact Nat.le_refl _ | (dsimp only; omega))) _)⟩)
      · skip
        have u0 : ((v : Int) == 0) = false := by simp [hv]
        have u1 : ((v : Int) == 1) = true := by simp [hv]
        have u2 : ((v : Int) == 2) = false := by simp [hv]
        have u3 : ((v : Int) == 3) = false := by simp [hv]
        clear hv
        go_wp2_with fail
        refine (pick_any _ p A n c zs (k3 + 1) 3 (Rd.below R4.out bel1) (by omega) (by omega) (by omega)).mono ?_
        rintro e w5 ⟨v2, rfl, hv2, rd5, hc5, hz5⟩
        have hv2 := hv2 (by omega)
        clear hz5
        obtain ⟨z, hz⟩ := lit_int (r := v2) (litInts [-1, 193, 192]) hc5 rfl (by omega) (by simp; omega)
        have hv20 : (0 : Int) ≤ (v2 : Int) := by omega
        have hv21 : (v2 : Int) < 3 := by omega
        have zz5 : w4.heap.size + 1 ≤ w5.heap.size := by have := hc5.size; (try simp [World.setCell] at this); omega
        have X5 : Hid (Chg (· ∈ [p]) w w5) := Lib.hid ((Chg.alloc X4.out _).trans hc5)
        have b5_0 : Hid (w5.heap[w.heap.size]? = some (.cells #[.int .i64 0, .string ⟨#[]⟩, .string ⟨#[]⟩, .int .i64 0, .string ⟨#[]⟩] 32 (0, 0))) := Lib.hid ((hc5.block _ (by first | omega | (simp [World.setCell] <;> omega)) (by simp <;> omega)).trans ((Below.heap_alloc _ _ _ (by first | omega | (simp [World.setCell] <;> omega))).trans b4_0.out))
        have b5_1 : Hid (w5.heap[g]? = some (.cells #[.int .i64 x, .string s, .string t, .int .i64 0, .string ⟨#[]⟩] 32 (0, 0))) := Lib.hid ((hc5.block _ (by first | omega | (simp [World.setCell] <;> omega)) (by simp <;> omega)).trans ((Below.heap_alloc _ _ _ (by first | omega | (simp [World.setCell] <;> omega))).trans b4_1.out))
        have R5 : Hid (Rd w5 p A n c zs (k3 + 1 + 1)) := Lib.hid rd5
        have pl5 : p < w5.heap.size := by omega
        clear b4_0 b4_1 X4 R4 pl4 l4_0 c4_0_0 f4_0_0 c4_0_1 f4_0_1 c4_0_2 f4_0_2 c4_0_3 f4_0_3 c4_0_4 f4_0_4 l4_1 c4_1_0 f4_1_0 c4_1_1 f4_1_1 c4_1_2 f4_1_2 c4_1_3 f4_1_3 c4_1_4 f4_1_4 hc5 rd5
        have l5_0 : w.heap.size < w5.heap.size := (Array.getElem?_eq_some_iff.1 b5_0.out).1
        have c5_0_0 : w5.cell? ⟨w.heap.size, 0, none⟩ = some (.int .i64 0) := cell_of_row _ _ 0 _ _ (0, 0) b5_0.out
        have f5_0_0 : w5.frozen? ⟨w.heap.size, 0, none⟩ = false := block_free b5_0.out _
        have c5_0_1 : w5.cell? ⟨w.heap.size, 1, none⟩ = some (.string ⟨#[]⟩) := cell_of_row _ _ 1 _ _ (0, 0) b5_0.out
        have f5_0_1 : w5.frozen? ⟨w.heap.size, 1, none⟩ = false := block_free b5_0.out _
        have c5_0_2 : w5.cell? ⟨w.heap.size, 2, none⟩ = some (.string ⟨#[]⟩) := cell_of_row _ _ 2 _ _ (0, 0) b5_0.out
        have f5_0_2 : w5.frozen? ⟨w.heap.size, 2, none⟩ = false := block_free b5_0.out _
        have c5_0_3 : w5.cell? ⟨w.heap.size, 3, none⟩ = some (.int .i64 0) := cell_of_row _ _ 3 _ _ (0, 0) b5_0.out
        have f5_0_3 : w5.frozen? ⟨w.heap.size, 3, none⟩ = false := block_free b5_0.out _
        have c5_0_4 : w5.cell? ⟨w.heap.size, 4, none⟩ = some (.string ⟨#[]⟩) := cell_of_row _ _ 4 _ _ (0, 0) b5_0.out
        have f5_0_4 : w5.frozen? ⟨w.heap.size, 4, none⟩ = false := block_free b5_0.out _
        have l5_1 : g < w5.heap.size := (Array.getElem?_eq_some_iff.1 b5_1.out).1
        have c5_1_0 : w5.cell? ⟨g, 0, none⟩ = some (.int .i64 x) := cell_of_row _ _ 0 _ _ (0, 0) b5_1.out
        have f5_1_0 : w5.frozen? ⟨g, 0, none⟩ = false := block_free b5_1.out _
        have c5_1_1 : w5.cell? ⟨g, 1, none⟩ = some (.string s) := cell_of_row _ _ 1 _ _ (0, 0) b5_1.out
        have f5_1_1 : w5.frozen? ⟨g, 1, none⟩ = false := block_free b5_1.out _
        have c5_1_2 : w5.cell? ⟨g, 2, none⟩ = some (.string t) := cell_of_row _ _ 2 _ _ (0, 0) b5_1.out
        have f5_1_2 : w5.frozen? ⟨g, 2, none⟩ = false := block_free b5_1.out _
        have c5_1_3 : w5.cell? ⟨g, 3, none⟩ = some (.int .i64 0) := cell_of_row _ _ 3 _ _ (0, 0) b5_1.out
        have f5_1_3 : w5.frozen? ⟨g, 3, none⟩ = false := block_free b5_1.out _
        have c5_1_4 : w5.cell? ⟨g, 4, none⟩ = some (.string ⟨#[]⟩) := cell_of_row _ _ 4 _ _ (0, 0) b5_1.out
        have f5_1_4 : w5.frozen? ⟨g, 4, none⟩ = false := block_free b5_1.out _
        go_wp2_with fail
        have hrr : ((World.setCell w5 ⟨g, 3, none⟩ (.int .i64 z))).heap[w.heap.size]? = some (.cells #[.int .i64 0, .string ⟨#[]⟩, .string ⟨#[]⟩, .int .i64 0, .string ⟨#[]⟩] 32 (0, 0)) := ((heap_far (by first | omega | (simp <;> omega))).trans b5_0.out)
        have hst := set_5 (x0 := .int .i64 x) (x1 := .string s) (x2 := .string t) (x3 := .int .i64 z) (x4 := .string ⟨#[]⟩) hrr
        clear hrr
        have r0 := cell_of_row _ _ 0 _ _ (0, 0) hst
        have r1 := cell_of_row _ _ 1 _ _ (0, 0) hst
        have r2 := cell_of_row _ _ 2 _ _ (0, 0) hst
        have r3 := cell_of_row _ _ 3 _ _ (0, 0) hst
        have r4 := cell_of_row _ _ 4 _ _ (0, 0) hst
        clear hst
        exact bodyPost_ret (v := .agg #[.int .i64 x, .string s, .string t, .int .i64 z, .string ⟨#[]⟩]) (by simp [results, Tryz.results57, go_sem, r0, r1, r2, r3, r4]) rfl (⟨_, _, _, _, _, _, rfl, by omega, by omega, by decide, by omega, (Rd.set h (Rd.set h (Rd.set h (Rd.set h (Rd.set h (Rd.set h R5.out (a := ⟨g, 3, none⟩) (by first | exact Nat.le_refl _ | (dsimp only; omega)) _) (a := ⟨w.heap.size, 0, none⟩) (by first | exact Nat.le_refl _ | (dsimp only; omega)) _) (a := ⟨w.heap.size, 1, none⟩) (by first | exact Nat.le_refl _ | (dsimp only; omega)) _) (a := ⟨w.heap.size, 2, none⟩) (by first | exact Nat.le_refl _ | (dsimp only; omega)) _) (a := ⟨w.heap.size, 3, none⟩) (by first | exact Nat.le_refl _ | (dsimp only; omega)) _) (a := ⟨w.heap.size, 4, none⟩) (by first | exact Nat.le_refl _ | (dsimp only; omega)) _), (Chg.setCell (p := ⟨w.heap.size, 4, none⟩) (Chg.setCell (p := ⟨w.heap.size, 3, none⟩) (Chg.setCell (p := ⟨w.heap.size, 2, none⟩) (Chg.setCell (p := ⟨w.heap.size, 1, none⟩) (Chg.setCell (p := ⟨w.heap.size, 0, none⟩) (Chg.setCell (p := ⟨g, 3, none⟩) X5.out (.inr (by first | exact Nat.le_refl _ | (dsimp only; omega))) _) (.inr (by first | exact Nat.le_refl _ | (dsimp only; omega))) _) (.inr (by first | exact Nat.le_refl _ | (dsimp only; omega))) _) (.inr (by first | exact Nat.le_refl _ | (dsimp only; omega))) _) (.inr (by first | exact Nat.le_refl _ | (dsimp only; omega))) _) (.inr (by first | exact Nat.le_refl _ | (dsimp only; omega))) _)⟩)
      · skip
        have u0 : ((v : Int) == 0) = false := by simp [hv]
        have u1 : ((v : Int) == 1) = false := by simp [hv]
        have u2 : ((v : Int) == 2) = true := by simp [hv]
        have u3 : ((v : Int) == 3) = false := by simp [hv]
        clear hv
        go_wp2_with fail
        refine (pick_any _ p A n c zs (k3 + 1) 2 R4.out (by omega) (by omega) (by omega)).mono ?_
        rintro e w5 ⟨v2, rfl, hv2, rd5, hc5, hz5⟩
        have hv2 := hv2 (by omega)
        clear hz5
        have zz5 : w4.heap.size + 0 ≤ w5.heap.size := by have := hc5.size; (try simp [World.setCell] at this); omega
        have X5 : Hid (Chg (· ∈ [p]) w w5) := Lib.hid (X4.out.trans hc5)
        have b5_0 : Hid (w5.heap[w.heap.size]? = some (.cells #[.int .i64 0, .string ⟨#[]⟩, .string ⟨#[]⟩, .int .i64 0, .string ⟨#[]⟩] 32 (0, 0))) := Lib.hid ((hc5.block _ (by first | omega | (simp [World.setCell] <;> omega)) (by simp <;> omega)).trans b4_0.out)
        have b5_1 : Hid (w5.heap[g]? = some (.cells #[.int .i64 x, .string s, .string t, .int .i64 0, .string ⟨#[]⟩] 32 (0, 0))) := Lib.hid ((hc5.block _ (by first | omega | (simp [World.setCell] <;> omega)) (by simp <;> omega)).trans b4_1.out)
        have R5 : Hid (Rd w5 p A n c zs (k3 + 1 + 1)) := Lib.hid rd5
        have pl5 : p < w5.heap.size := by omega
        clear b4_0 b4_1 X4 R4 pl4 l4_0 c4_0_0 f4_0_0 c4_0_1 f4_0_1 c4_0_2 f4_0_2 c4_0_3 f4_0_3 c4_0_4 f4_0_4 l4_1 c4_1_0 f4_1_0 c4_1_1 f4_1_1 c4_1_2 f4_1_2 c4_1_3 f4_1_3 c4_1_4 f4_1_4 hc5 rd5
        have l5_0 : w.heap.size < w5.heap.size := (Array.getElem?_eq_some_iff.1 b5_0.out).1
        have c5_0_0 : w5.cell? ⟨w.heap.size, 0, none⟩ = some (.int .i64 0) := cell_of_row _ _ 0 _ _ (0, 0) b5_0.out
        have f5_0_0 : w5.frozen? ⟨w.heap.size, 0, none⟩ = false := block_free b5_0.out _
        have c5_0_1 : w5.cell? ⟨w.heap.size, 1, none⟩ = some (.string ⟨#[]⟩) := cell_of_row _ _ 1 _ _ (0, 0) b5_0.out
        have f5_0_1 : w5.frozen? ⟨w.heap.size, 1, none⟩ = false := block_free b5_0.out _
        have c5_0_2 : w5.cell? ⟨w.heap.size, 2, none⟩ = some (.string ⟨#[]⟩) := cell_of_row _ _ 2 _ _ (0, 0) b5_0.out
        have f5_0_2 : w5.frozen? ⟨w.heap.size, 2, none⟩ = false := block_free b5_0.out _
        have c5_0_3 : w5.cell? ⟨w.heap.size, 3, none⟩ = some (.int .i64 0) := cell_of_row _ _ 3 _ _ (0, 0) b5_0.out
        have f5_0_3 : w5.frozen? ⟨w.heap.size, 3, none⟩ = false := block_free b5_0.out _
        have c5_0_4 : w5.cell? ⟨w.heap.size, 4, none⟩ = some (.string ⟨#[]⟩) := cell_of_row _ _ 4 _ _ (0, 0) b5_0.out
        have f5_0_4 : w5.frozen? ⟨w.heap.size, 4, none⟩ = false := block_free b5_0.out _
        have l5_1 : g < w5.heap.size := (Array.getElem?_eq_some_iff.1 b5_1.out).1
        have c5_1_0 : w5.cell? ⟨g, 0, none⟩ = some (.int .i64 x) := cell_of_row _ _ 0 _ _ (0, 0) b5_1.out
        have f5_1_0 : w5.frozen? ⟨g, 0, none⟩ = false := block_free b5_1.out _
        have c5_1_1 : w5.cell? ⟨g, 1, none⟩ = some (.string s) := cell_of_row _ _ 1 _ _ (0, 0) b5_1.out
        have f5_1_1 : w5.frozen? ⟨g, 1, none⟩ = false := block_free b5_1.out _
        have c5_1_2 : w5.cell? ⟨g, 2, none⟩ = some (.string t) := cell_of_row _ _ 2 _ _ (0, 0) b5_1.out
        have f5_1_2 : w5.frozen? ⟨g, 2, none⟩ = false := block_free b5_1.out _
        have c5_1_3 : w5.cell? ⟨g, 3, none⟩ = some (.int .i64 0) := cell_of_row _ _ 3 _ _ (0, 0) b5_1.out
        have f5_1_3 : w5.frozen? ⟨g, 3, none⟩ = false := block_free b5_1.out _
        have c5_1_4 : w5.cell? ⟨g, 4, none⟩ = some (.string ⟨#[]⟩) := cell_of_row _ _ 4 _ _ (0, 0) b5_1.out
        have f5_1_4 : w5.frozen? ⟨g, 4, none⟩ = false := block_free b5_1.out _
        go_wp2_with fail
        refine (l6Many_u _ (24 + v2) _ (by omega) (by omega)).mono ?_
        rintro e wq ⟨z, rfl, hz, hwq⟩
        rw [hwq]; clear hwq
        have hz : z.size ≤ 100 := by omega
        go_wp2_with fail
        have hrr : ((World.setCell w5 ⟨g, 4, none⟩ (.string z))).heap[w.heap.size]? = some (.cells #[.int .i64 0, .string ⟨#[]⟩, .string ⟨#[]⟩, .int .i64 0, .string ⟨#[]⟩] 32 (0, 0)) := ((heap_far (by first | omega | (simp <;> omega))).trans b5_0.out)
        have hst := set_5 (x0 := .int .i64 x) (x1 := .string s) (x2 := .string t) (x3 := .int .i64 0) (x4 := .string z) hrr
        clear hrr
        have r0 := cell_of_row _ _ 0 _ _ (0, 0) hst
        have r1 := cell_of_row _ _ 1 _ _ (0, 0) hst
        have r2 := cell_of_row _ _ 2 _ _ (0, 0) hst
        have r3 := cell_of_row _ _ 3 _ _ (0, 0) hst
        have r4 := cell_of_row _ _ 4 _ _ (0, 0) hst
        clear hst
        exact bodyPost_ret (v := .agg #[.int .i64 x, .string s, .string t, .int .i64 0, .string z]) (by simp [results, Tryz.results57, go_sem, r0, r1, r2, r3, r4]) rfl (⟨_, _, _, _, _, _, rfl, by omega, by omega, by omega, by omega, (Rd.set h (Rd.set h (Rd.set h (Rd.set h (Rd.set h (Rd.set h R5.out (a := ⟨g, 4, none⟩) (by first | exact Nat.le_refl _ | (dsimp only; omega)) _) (a := ⟨w.heap.size, 0, none⟩) (by first | exact Nat.le_refl _ | (dsimp only; omega)) _) (a := ⟨w.heap.size, 1, none⟩) (by first | exact Nat.le_refl _ | (dsimp only; omega)) _) (a := ⟨w.heap.size, 2, none⟩) (by first | exact Nat.le_refl _ | (dsimp only; omega)) _) (a := ⟨w.heap.size, 3, none⟩) (by first | exact Nat.le_refl _ | (dsimp only; omega)) _) (a := ⟨w.heap.size, 4, none⟩) (by first | exact Nat.le_refl _ | (dsimp only; omega)) _), (Chg.setCell (p := ⟨w.heap.size, 4, none⟩) (Chg.setCell (p := ⟨w.heap.size, 3, none⟩) (Chg.setCell (p := ⟨w.heap.size, 2, none⟩) (Chg.setCell (p := ⟨w.heap.size, 1, none⟩) (Chg.setCell (p := ⟨w.heap.size, 0, none⟩) (Chg.setCell (p := ⟨g, 4, none⟩) X5.out (.inr (by first | exact Nat.le_refl _ | (dsimp only; omega))) _) (.inr (by first | exact Nat.le_refl _ | (dsimp only; omega))) _) (.inr (by first | exact Nat.le_refl _ | (dsimp only; omega))) _) (.inr (by first | exact Nat.le_refl _ | (dsimp only; omega))) _) (.inr (by first | exact Nat.le_refl _ | (dsimp only; omega))) _) (.inr (by first | exact Nat.le_refl _ | (dsimp only; omega))) _)⟩)
      · skip
        have u0 : ((v : Int) == 0) = false := by simp [hv]
        have u1 : ((v : Int) == 1) = false := by simp [hv]
        have u2 : ((v : Int) == 2) = false := by simp [hv]
        have u3 : ((v : Int) == 3) = true := by simp [hv]
        clear hv
        go_wp2_with fail
        refine (l92Path_any _ p A n c zs (k3 + 1) R4.out (by omega)).mono ?_
        rintro e w5 ⟨z, k5, rfl, hz, hk5, rd5, hc5⟩
        have zz5 : w4.heap.size + 0 ≤ w5.heap.size := by have := hc5.size; (try simp [World.setCell] at this); omega
        have X5 : Hid (Chg (· ∈ [p]) w w5) := Lib.hid (X4.out.trans hc5)
        have b5_0 : Hid (w5.heap[w.heap.size]? = some (.cells #[.int .i64 0, .string ⟨#[]⟩, .string ⟨#[]⟩, .int .i64 0, .string ⟨#[]⟩] 32 (0, 0))) := Lib.hid ((hc5.block _ (by first | omega | (simp [World.setCell] <;> omega)) (by simp <;> omega)).trans b4_0.out)
        have b5_1 : Hid (w5.heap[g]? = some (.cells #[.int .i64 x, .string s, .string t, .int .i64 0, .string ⟨#[]⟩] 32 (0, 0))) := Lib.hid ((hc5.block _ (by first | omega | (simp [World.setCell] <;> omega)) (by simp <;> omega)).trans b4_1.out)
        have R5 : Hid (Rd w5 p A n c zs (k5)) := Lib.hid rd5
        have pl5 : p < w5.heap.size := by omega
        clear b4_0 b4_1 X4 R4 pl4 l4_0 c4_0_0 f4_0_0 c4_0_1 f4_0_1 c4_0_2 f4_0_2 c4_0_3 f4_0_3 c4_0_4 f4_0_4 l4_1 c4_1_0 f4_1_0 c4_1_1 f4_1_1 c4_1_2 f4_1_2 c4_1_3 f4_1_3 c4_1_4 f4_1_4 hc5 rd5
        have l5_0 : w.heap.size < w5.heap.size := (Array.getElem?_eq_some_iff.1 b5_0.out).1
        have c5_0_0 : w5.cell? ⟨w.heap.size, 0, none⟩ = some (.int .i64 0) := cell_of_row _ _ 0 _ _ (0, 0) b5_0.out
        have f5_0_0 : w5.frozen? ⟨w.heap.size, 0, none⟩ = false := block_free b5_0.out _
        have c5_0_1 : w5.cell? ⟨w.heap.size, 1, none⟩ = some (.string ⟨#[]⟩) := cell_of_row _ _ 1 _ _ (0, 0) b5_0.out
        have f5_0_1 : w5.frozen? ⟨w.heap.size, 1, none⟩ = false := block_free b5_0.out _
        have c5_0_2 : w5.cell? ⟨w.heap.size, 2, none⟩ = some (.string ⟨#[]⟩) := cell_of_row _ _ 2 _ _ (0, 0) b5_0.out
        have f5_0_2 : w5.frozen? ⟨w.heap.size, 2, none⟩ = false := block_free b5_0.out _
        have c5_0_3 : w5.cell? ⟨w.heap.size, 3, none⟩ = some (.int .i64 0) := cell_of_row _ _ 3 _ _ (0, 0) b5_0.out
        have f5_0_3 : w5.frozen? ⟨w.heap.size, 3, none⟩ = false := block_free b5_0.out _
        have c5_0_4 : w5.cell? ⟨w.heap.size, 4, none⟩ = some (.string ⟨#[]⟩) := cell_of_row _ _ 4 _ _ (0, 0) b5_0.out
        have f5_0_4 : w5.frozen? ⟨w.heap.size, 4, none⟩ = false := block_free b5_0.out _
        have l5_1 : g < w5.heap.size := (Array.getElem?_eq_some_iff.1 b5_1.out).1
        have c5_1_0 : w5.cell? ⟨g, 0, none⟩ = some (.int .i64 x) := cell_of_row _ _ 0 _ _ (0, 0) b5_1.out
        have f5_1_0 : w5.frozen? ⟨g, 0, none⟩ = false := block_free b5_1.out _
        have c5_1_1 : w5.cell? ⟨g, 1, none⟩ = some (.string s) := cell_of_row _ _ 1 _ _ (0, 0) b5_1.out
        have f5_1_1 : w5.frozen? ⟨g, 1, none⟩ = false := block_free b5_1.out _
        have c5_1_2 : w5.cell? ⟨g, 2, none⟩ = some (.string t) := cell_of_row _ _ 2 _ _ (0, 0) b5_1.out
        have f5_1_2 : w5.frozen? ⟨g, 2, none⟩ = false := block_free b5_1.out _
        have c5_1_3 : w5.cell? ⟨g, 3, none⟩ = some (.int .i64 0) := cell_of_row _ _ 3 _ _ (0, 0) b5_1.out
        have f5_1_3 : w5.frozen? ⟨g, 3, none⟩ = false := block_free b5_1.out _
        have c5_1_4 : w5.cell? ⟨g, 4, none⟩ = some (.string ⟨#[]⟩) := cell_of_row _ _ 4 _ _ (0, 0) b5_1.out
        have f5_1_4 : w5.frozen? ⟨g, 4, none⟩ = false := block_free b5_1.out _
        go_wp2_with fail
        have hrr : ((World.setCell w5 ⟨g, 2, none⟩ (.string z))).heap[w.heap.size]? = some (.cells #[.int .i64 0, .string ⟨#[]⟩, .string ⟨#[]⟩, .int .i64 0, .string ⟨#[]⟩] 32 (0, 0)) := ((heap_far (by first | omega | (simp <;> omega))).trans b5_0.out)
        have hst := set_5 (x0 := .int .i64 x) (x1 := .string s) (x2 := .string z) (x3 := .int .i64 0) (x4 := .string ⟨#[]⟩) hrr
        clear hrr
        have r0 := cell_of_row _ _ 0 _ _ (0, 0) hst
        have r1 := cell_of_row _ _ 1 _ _ (0, 0) hst
        have r2 := cell_of_row _ _ 2 _ _ (0, 0) hst
        have r3 := cell_of_row _ _ 3 _ _ (0, 0) hst
        have r4 := cell_of_row _ _ 4 _ _ (0, 0) hst
        clear hst
        exact bodyPost_ret (v := .agg #[.int .i64 x, .string s, .string z, .int .i64 0, .string ⟨#[]⟩]) (by simp [results, Tryz.results57, go_sem, r0, r1, r2, r3, r4]) rfl (⟨_, _, _, _, _, _, rfl, by omega, by omega, by decide, by omega, (Rd.set h (Rd.set h (Rd.set h (Rd.set h (Rd.set h (Rd.set h R5.out (a := ⟨g, 2, none⟩) (by first | exact Nat.le_refl _ | (dsimp only; omega)) _) (a := ⟨w.heap.size, 0, none⟩) (by first | exact Nat.le_refl _ | (dsimp only; omega)) _) (a := ⟨w.heap.size, 1, none⟩) (by first | exact Nat.le_refl _ | (dsimp only; omega)) _) (a := ⟨w.heap.size, 2, none⟩) (by first | exact Nat.le_refl _ | (dsimp only; omega)) _) (a := ⟨w.heap.size, 3, none⟩) (by first | exact Nat.le_refl _ | (dsimp only; omega)) _) (a := ⟨w.heap.size, 4, none⟩) (by first | exact Nat.le_refl _ | (dsimp only; omega)) _), (Chg.setCell (p := ⟨w.heap.size, 4, none⟩) (Chg.setCell (p := ⟨w.heap.size, 3, none⟩) (Chg.setCell (p := ⟨w.heap.size, 2, none⟩) (Chg.setCell (p := ⟨w.heap.size, 1, none⟩) (Chg.setCell (p := ⟨w.heap.size, 0, none⟩) (Chg.setCell (p := ⟨g, 2, none⟩) X5.out (.inr (by first | exact Nat.le_refl _ | (dsimp only; omega))) _) (.inr (by first | exact Nat.le_refl _ | (dsimp only; omega))) _) (.inr (by first | exact Nat.le_refl _ | (dsimp only; omega))) _) (.inr (by first | exact Nat.le_refl _ | (dsimp only; omega))) _) (.inr (by first | exact Nat.le_refl _ | (dsimp only; omega))) _) (.inr (by first | exact Nat.le_refl _ | (dsimp only; omega))) _)⟩)
      · skip
        have u0 : ((v : Int) == 0) = false := by simp; omega
        have u1 : ((v : Int) == 1) = false := by simp; omega
        have u2 : ((v : Int) == 2) = false := by simp; omega
        have u3 : ((v : Int) == 3) = false := by simp; omega
        clear hv0 hv1 hv2 hv3
        go_wp2_with fail
        have hrr : (w4).heap[w.heap.size]? = some (.cells #[.int .i64 0, .string ⟨#[]⟩, .string ⟨#[]⟩, .int .i64 0, .string ⟨#[]⟩] 32 (0, 0)) := b4_0.out
        have hst := set_5 (x0 := .int .i64 x) (x1 := .string s) (x2 := .string t) (x3 := .int .i64 0) (x4 := .string ⟨#[]⟩) hrr
        clear hrr
        have r0 := cell_of_row _ _ 0 _ _ (0, 0) hst
        have r1 := cell_of_row _ _ 1 _ _ (0, 0) hst
        have r2 := cell_of_row _ _ 2 _ _ (0, 0) hst
        have r3 := cell_of_row _ _ 3 _ _ (0, 0) hst
        have r4 := cell_of_row _ _ 4 _ _ (0, 0) hst
        clear hst
        exact bodyPost_ret (v := .agg #[.int .i64 x, .string s, .string t, .int .i64 0, .string ⟨#[]⟩]) (by simp [results, Tryz.results57, go_sem, r0, r1, r2, r3, r4]) rfl (⟨_, _, _, _, _, _, rfl, by omega, by omega, by decide, by omega, (Rd.set h (Rd.set h (Rd.set h (Rd.set h (Rd.set h R4.out (a := ⟨w.heap.size, 0, none⟩) (by first | exact Nat.le_refl _ | (dsimp only; omega)) _) (a := ⟨w.heap.size, 1, none⟩) (by first | exact Nat.le_refl _ | (dsimp only; omega)) _) (a := ⟨w.heap.size, 2, none⟩) (by first | exact Nat.le_refl _ | (dsimp only; omega)) _) (a := ⟨w.heap.size, 3, none⟩) (by first | exact Nat.le_refl _ | (dsimp only; omega)) _) (a := ⟨w.heap.size, 4, none⟩) (by first | exact Nat.le_refl _ | (dsimp only; omega)) _), (Chg.setCell (p := ⟨w.heap.size, 4, none⟩) (Chg.setCell (p := ⟨w.heap.size, 3, none⟩) (Chg.setCell (p := ⟨w.heap.size, 2, none⟩) (Chg.setCell (p := ⟨w.heap.size, 1, none⟩) (Chg.setCell (p := ⟨w.heap.size, 0, none⟩) X4.out (.inr (by first | exact Nat.le_refl _ | (dsimp only; omega))) _) (.inr (by first | exact Nat.le_refl _ | (dsimp only; omega))) _) (.inr (by first | exact Nat.le_refl _ | (dsimp only; omega))) _) (.inr (by first | exact Nat.le_refl _ | (dsimp only; omega))) _) (.inr (by first | exact Nat.le_refl _ | (dsimp only; omega))) _)⟩)
    · skip
      have t3 : (x == 3) = false := by simp [hx]
      have t4 : (x == 4) = false := by simp [hx]
      have t6 : (x == 6) = false := by simp [hx]
      have t7 : (x == 7) = true := by simp [hx]
      clear hx
      go_wp2_with fail
      refine (l92Path_any _ p A n c zs (k1) R2.out (by omega)).mono ?_
      rintro e w3 ⟨t, k3, rfl, ht, hk3, rd3, hc3⟩
      have zz3 : w2.heap.size + 0 ≤ w3.heap.size := by have := hc3.size; (try simp [World.setCell] at this); omega
      have X3 : Hid (Chg (· ∈ [p]) w w3) := Lib.hid (X2.out.trans hc3)
      have b3_0 : Hid (w3.heap[w.heap.size]? = some (.cells #[.int .i64 0, .string ⟨#[]⟩, .string ⟨#[]⟩, .int .i64 0, .string ⟨#[]⟩] 32 (0, 0))) := Lib.hid ((hc3.block _ (by first | omega | (simp [World.setCell] <;> omega)) (by simp <;> omega)).trans b2_0.out)
      have b3_1 : Hid (w3.heap[g]? = some (.cells #[.int .i64 x, .string s, .string ⟨#[]⟩, .int .i64 0, .string ⟨#[]⟩] 32 (0, 0))) := Lib.hid ((hc3.block _ (by first | omega | (simp [World.setCell] <;> omega)) (by simp <;> omega)).trans b2_1.out)
      have R3 : Hid (Rd w3 p A n c zs (k3)) := Lib.hid rd3
      have pl3 : p < w3.heap.size := by omega
      clear b2_0 b2_1 X2 R2 pl2 l2_0 c2_0_0 f2_0_0 c2_0_1 f2_0_1 c2_0_2 f2_0_2 c2_0_3 f2_0_3 c2_0_4 f2_0_4 l2_1 c2_1_0 f2_1_0 c2_1_1 f2_1_1 c2_1_2 f2_1_2 c2_1_3 f2_1_3 c2_1_4 f2_1_4 hc3 rd3
      have l3_0 : w.heap.size < w3.heap.size := (Array.getElem?_eq_some_iff.1 b3_0.out).1
      have c3_0_0 : w3.cell? ⟨w.heap.size, 0, none⟩ = some (.int .i64 0) := cell_of_row _ _ 0 _ _ (0, 0) b3_0.out
      have f3_0_0 : w3.frozen? ⟨w.heap.size, 0, none⟩ = false := block_free b3_0.out _
      have c3_0_1 : w3.cell? ⟨w.heap.size, 1, none⟩ = some (.string ⟨#[]⟩) := cell_of_row _ _ 1 _ _ (0, 0) b3_0.out
      have f3_0_1 : w3.frozen? ⟨w.heap.size, 1, none⟩ = false := block_free b3_0.out _
      have c3_0_2 : w3.cell? ⟨w.heap.size, 2, none⟩ = some (.string ⟨#[]⟩) := cell_of_row _ _ 2 _ _ (0, 0) b3_0.out
      have f3_0_2 : w3.frozen? ⟨w.heap.size, 2, none⟩ = false := block_free b3_0.out _
      have c3_0_3 : w3.cell? ⟨w.heap.size, 3, none⟩ = some (.int .i64 0) := cell_of_row _ _ 3 _ _ (0, 0) b3_0.out
      have f3_0_3 : w3.frozen? ⟨w.heap.size, 3, none⟩ = false := block_free b3_0.out _
      have c3_0_4 : w3.cell? ⟨w.heap.size, 4, none⟩ = some (.string ⟨#[]⟩) := cell_of_row _ _ 4 _ _ (0, 0) b3_0.out
      have f3_0_4 : w3.frozen? ⟨w.heap.size, 4, none⟩ = false := block_free b3_0.out _
      have l3_1 : g < w3.heap.size := (Array.getElem?_eq_some_iff.1 b3_1.out).1
      have c3_1_0 : w3.cell? ⟨g, 0, none⟩ = some (.int .i64 x) := cell_of_row _ _ 0 _ _ (0, 0) b3_1.out
      have f3_1_0 : w3.frozen? ⟨g, 0, none⟩ = false := block_free b3_1.out _
      have c3_1_1 : w3.cell? ⟨g, 1, none⟩ = some (.string s) := cell_of_row _ _ 1 _ _ (0, 0) b3_1.out
      have f3_1_1 : w3.frozen? ⟨g, 1, none⟩ = false := block_free b3_1.out _
      have c3_1_2 : w3.cell? ⟨g, 2, none⟩ = some (.string ⟨#[]⟩) := cell_of_row _ _ 2 _ _ (0, 0) b3_1.out
      have f3_1_2 : w3.frozen? ⟨g, 2, none⟩ = false := block_free b3_1.out _
      have c3_1_3 : w3.cell? ⟨g, 3, none⟩ = some (.int .i64 0) := cell_of_row _ _ 3 _ _ (0, 0) b3_1.out
      have f3_1_3 : w3.frozen? ⟨g, 3, none⟩ = false := block_free b3_1.out _
      have c3_1_4 : w3.cell? ⟨g, 4, none⟩ = some (.string ⟨#[]⟩) := cell_of_row _ _ 4 _ _ (0, 0) b3_1.out
      have f3_1_4 : w3.frozen? ⟨g, 4, none⟩ = false := block_free b3_1.out _
      go_wp2_with fail
      refine (pick_any _ p A n c zs (k3) 60 (Rd.set h R3.out (a := ⟨g, 2, none⟩) (by first | exact Nat.le_refl _ | (dsimp only; omega)) _) (by omega) (by omega) (by omega)).mono ?_
      rintro e w4 ⟨v, rfl, hv, rd4, hc4, hz4⟩
      have hv := hv (by omega)
      clear hz4
      have zz4 : w3.heap.size + 0 ≤ w4.heap.size := by have := hc4.size; (try simp [World.setCell] at this); omega
      have X4 : Hid (Chg (· ∈ [p]) w w4) := Lib.hid ((Chg.setCell (p := ⟨g, 2, none⟩) X3.out (.inr (by first | exact Nat.le_refl _ | (dsimp only; omega))) _).trans hc4)
      have b4_0 : Hid (w4.heap[w.heap.size]? = some (.cells #[.int .i64 0, .string ⟨#[]⟩, .string ⟨#[]⟩, .int .i64 0, .string ⟨#[]⟩] 32 (0, 0))) := Lib.hid ((hc4.block _ (by first | omega | (simp [World.setCell] <;> omega)) (by simp <;> omega)).trans ((heap_far (by first | omega | (simp <;> omega))).trans b3_0.out))
      have b4_1 : Hid (w4.heap[g]? = some (.cells #[.int .i64 x, .string s, .string t, .int .i64 0, .string ⟨#[]⟩] 32 (0, 0))) := Lib.hid ((hc4.block _ (by first | omega | (simp [World.setCell] <;> omega)) (by simp <;> omega)).trans (block_set b3_1.out))
      have R4 : Hid (Rd w4 p A n c zs (k3 + 1)) := Lib.hid rd4
      have pl4 : p < w4.heap.size := by omega
      clear b3_0 b3_1 X3 R3 pl3 l3_0 c3_0_0 f3_0_0 c3_0_1 f3_0_1 c3_0_2 f3_0_2 c3_0_3 f3_0_3 c3_0_4 f3_0_4 l3_1 c3_1_0 f3_1_0 c3_1_1 f3_1_1 c3_1_2 f3_1_2 c3_1_3 f3_1_3 c3_1_4 f3_1_4 hc4 rd4
      have l4_0 : w.heap.size < w4.heap.size := (Array.getElem?_eq_some_iff.1 b4_0.out).1
      have c4_0_0 : w4.cell? ⟨w.heap.size, 0, none⟩ = some (.int .i64 0) := cell_of_row _ _ 0 _ _ (0, 0) b4_0.out
      have f4_0_0 : w4.frozen? ⟨w.heap.size, 0, none⟩ = false := block_free b4_0.out _
      have c4_0_1 : w4.cell? ⟨w.heap.size, 1, none⟩ = some (.string ⟨#[]⟩) := cell_of_row _ _ 1 _ _ (0, 0) b4_0.out
      have f4_0_1 : w4.frozen? ⟨w.heap.size, 1, none⟩ = false := block_free b4_0.out _
      have c4_0_2 : w4.cell? ⟨w.heap.size, 2, none⟩ = some (.string ⟨#[]⟩) := cell_of_row _ _ 2 _ _ (0, 0) b4_0.out
      have f4_0_2 : w4.frozen? ⟨w.heap.size, 2, none⟩ = false := block_free b4_0.out _
      have c4_0_3 : w4.cell? ⟨w.heap.size, 3, none⟩ = some (.int .i64 0) := cell_of_row _ _ 3 _ _ (0, 0) b4_0.out
      have f4_0_3 : w4.frozen? ⟨w.heap.size, 3, none⟩ = false := block_free b4_0.out _
      have c4_0_4 : w4.cell? ⟨w.heap.size, 4, none⟩ = some (.string ⟨#[]⟩) := cell_of_row _ _ 4 _ _ (0, 0) b4_0.out
      have f4_0_4 : w4.frozen? ⟨w.heap.size, 4, none⟩ = false := block_free b4_0.out _
      have l4_1 : g < w4.heap.size := (Array.getElem?_eq_some_iff.1 b4_1.out).1
      have c4_1_0 : w4.cell? ⟨g, 0, none⟩ = some (.int .i64 x) := cell_of_row _ _ 0 _ _ (0, 0) b4_1.out
      have f4_1_0 : w4.frozen? ⟨g, 0, none⟩ = false := block_free b4_1.out _
      have c4_1_1 : w4.cell? ⟨g, 1, none⟩ = some (.string s) := cell_of_row _ _ 1 _ _ (0, 0) b4_1.out
      have f4_1_1 : w4.frozen? ⟨g, 1, none⟩ = false := block_free b4_1.out _
      have c4_1_2 : w4.cell? ⟨g, 2, none⟩ = some (.string t) := cell_of_row _ _ 2 _ _ (0, 0) b4_1.out
      have f4_1_2 : w4.frozen? ⟨g, 2, none⟩ = false := block_free b4_1.out _
      have c4_1_3 : w4.cell? ⟨g, 3, none⟩ = some (.int .i64 0) := cell_of_row _ _ 3 _ _ (0, 0) b4_1.out
      have f4_1_3 : w4.frozen? ⟨g, 3, none⟩ = false := block_free b4_1.out _
      have c4_1_4 : w4.cell? ⟨g, 4, none⟩ = some (.string ⟨#[]⟩) := cell_of_row _ _ 4 _ _ (0, 0) b4_1.out
      have f4_1_4 : w4.frozen? ⟨g, 4, none⟩ = false := block_free b4_1.out _
      have hv4 : v = 0 ∨ v = 1 ∨ v = 2 ∨ v = 3 ∨ (v ≠ 0 ∧ v ≠ 1 ∧ v ≠ 2 ∧ v ≠ 3) := by omega
      clear hv
      rcases hv4 with hv | hv | hv | hv | ⟨hv0, hv1, hv2, hv3⟩
      · skip
        have u0 : ((v : Int) == 0) = true := by simp [hv]
        have u1 : ((v : Int) == 1) = false := by simp [hv]
        have u2 : ((v : Int) == 2) = false := by simp [hv]
        have u3 : ((v : Int) == 3) = false := by simp [hv]
        clear hv
        go_wp2_with fail
        refine (pick_any _ p A n c zs (k3 + 1) 4 (Rd.below R4.out bel1) (by omega) (by omega) (by omega)).mono ?_
        rintro e w5 ⟨v2, rfl, hv2, rd5, hc5, hz5⟩
        have hv2 := hv2 (by omega)
        clear hz5
        obtain ⟨z, hz⟩ := lit_int (r := v2) (litInts [0, 8, -1, 3]) hc5 rfl (by omega) (by simp; omega)
        have hv20 : (0 : Int) ≤ (v2 : Int) := by omega
        have hv21 : (v2 : Int) < 4 := by omega
        have zz5 : w4.heap.size + 1 ≤ w5.heap.size := by have := hc5.size; (try simp [World.setCell] at this); omega
        have X5 : Hid (Chg (· ∈ [p]) w w5) := Lib.hid ((Chg.alloc X4.out _).trans hc5)
        have b5_0 : Hid (w5.heap[w.heap.size]? = some (.cells #[.int .i64 0, .string ⟨#[]⟩, .string ⟨#[]⟩, .int .i64 0, .string ⟨#[]⟩] 32 (0, 0))) := Lib.hid ((hc5.block _ (by first | omega | (simp [World.setCell] <;> omega)) (by simp <;> omega)).trans ((Below.heap_alloc _ _ _ (by first | omega | (simp [World.setCell] <;> omega))).trans b4_0.out))
        have b5_1 : Hid (w5.heap[g]? = some (.cells #[.int .i64 x, .string s, .string t, .int .i64 0, .string ⟨#[]⟩] 32 (0, 0))) := Lib.hid ((hc5.block _ (by first | omega | (simp [World.setCell] <;> omega)) (by simp <;> omega)).trans ((Below.heap_alloc _ _ _ (by first | omega | (simp [World.setCell] <;> omega))).trans b4_1.out))
        have R5 : Hid (Rd w5 p A n c zs (k3 + 1 + 1)) := Lib.hid rd5
        have pl5 : p < w5.heap.size := by omega
        clear b4_0 b4_1 X4 R4 pl4 l4_0 c4_0_0 f4_0_0 c4_0_1 f4_0_1 c4_0_2 f4_0_2 c4_0_3 f4_0_3 c4_0_4 f4_0_4 l4_1 c4_1_0 f4_1_0 c4_1_1 f4_1_1 c4_1_2 f4_1_2 c4_1_3 f4_1_3 c4_1_4 f4_1_4 hc5 rd5
        have l5_0 : w.heap.size < w5.heap.size := (Array.getElem?_eq_some_iff.1 b5_0.out).1
        have c5_0_0 : w5.cell? ⟨w.heap.size, 0, none⟩ = some (.int .i64 0) := cell_of_row _ _ 0 _ _ (0, 0) b5_0.out
        have f5_0_0 : w5.frozen? ⟨w.heap.size, 0, none⟩ = false := block_free b5_0.out _
        have c5_0_1 : w5.cell? ⟨w.heap.size, 1, none⟩ = some (.string ⟨#[]⟩) := cell_of_row _ _ 1 _ _ (0, 0) b5_0.out
        have f5_0_1 : w5.frozen? ⟨w.heap.size, 1, none⟩ = false := block_free b5_0.out _
        have c5_0_2 : w5.cell? ⟨w.heap.size, 2, none⟩ = some (.string ⟨#[]⟩) := cell_of_row _ _ 2 _ _ (0, 0) b5_0.out
        have f5_0_2 : w5.frozen? ⟨w.heap.size, 2, none⟩ = false := block_free b5_0.out _
        have c5_0_3 : w5.cell? ⟨w.heap.size, 3, none⟩ = some (.int .i64 0) := cell_of_row _ _ 3 _ _ (0, 0) b5_0.out
        have f5_0_3 : w5.frozen? ⟨w.heap.size, 3, none⟩ = false := block_free b5_0.out _
        have c5_0_4 : w5.cell? ⟨w.heap.size, 4, none⟩ = some (.string ⟨#[]⟩) := cell_of_row _ _ 4 _ _ (0, 0) b5_0.out
        have f5_0_4 : w5.frozen? ⟨w.heap.size, 4, none⟩ = false := block_free b5_0.out _
        have l5_1 : g < w5.heap.size := (Array.getElem?_eq_some_iff.1 b5_1.out).1
        have c5_1_0 : w5.cell? ⟨g, 0, none⟩ = some (.int .i64 x) := cell_of_row _ _ 0 _ _ (0, 0) b5_1.out
        have f5_1_0 : w5.frozen? ⟨g, 0, none⟩ = false := block_free b5_1.out _
        have c5_1_1 : w5.cell? ⟨g, 1, none⟩ = some (.string s) := cell_of_row _ _ 1 _ _ (0, 0) b5_1.out
        have f5_1_1 : w5.frozen? ⟨g, 1, none⟩ = false := block_free b5_1.out _
        have c5_1_2 : w5.cell? ⟨g, 2, none⟩ = some (.string t) := cell_of_row _ _ 2 _ _ (0, 0) b5_1.out
        have f5_1_2 : w5.frozen? ⟨g, 2, none⟩ = false := block_free b5_1.out _
        have c5_1_3 : w5.cell? ⟨g, 3, none⟩ = some (.int .i64 0) := cell_of_row _ _ 3 _ _ (0, 0) b5_1.out
        have f5_1_3 : w5.frozen? ⟨g, 3, none⟩ = false := block_free b5_1.out _
        have c5_1_4 : w5.cell? ⟨g, 4, none⟩ = some (.string ⟨#[]⟩) := cell_of_row _ _ 4 _ _ (0, 0) b5_1.out
        have f5_1_4 : w5.frozen? ⟨g, 4, none⟩ = false := block_free b5_1.out _
        go_wp2_with fail
        have hrr : ((World.setCell w5 ⟨g, 0, none⟩ (.int .i64 z))).heap[w.heap.size]? = some (.cells #[.int .i64 0, .string ⟨#[]⟩, .string ⟨#[]⟩, .int .i64 0, .string ⟨#[]⟩] 32 (0, 0)) := ((heap_far (by first | omega | (simp <;> omega))).trans b5_0.out)
        have hst := set_5 (x0 := .int .i64 z) (x1 := .string s) (x2 := .string t) (x3 := .int .i64 0) (x4 := .string ⟨#[]⟩) hrr
        clear hrr
        have r0 := cell_of_row _ _ 0 _ _ (0, 0) hst
        have r1 := cell_of_row _ _ 1 _ _ (0, 0) hst
        have r2 := cell_of_row _ _ 2 _ _ (0, 0) hst
        have r3 := cell_of_row _ _ 3 _ _ (0, 0) hst
        have r4 := cell_of_row _ _ 4 _ _ (0, 0) hst
        clear hst
        exact bodyPost_ret (v := .agg #[.int .i64 z, .string s, .string t, .int .i64 0, .string ⟨#[]⟩]) (by simp [results, Tryz.results57, go_sem, r0, r1, r2, r3, r4]) rfl (⟨_, _, _, _, _, _, rfl, by omega, by omega, by decide, by omega, (Rd.set h (Rd.set h (Rd.set h (Rd.set h (Rd.set h (Rd.set h R5.out (a := ⟨g, 0, none⟩) (by first | exact Nat.le_refl _ | (dsimp only; omega)) _) (a := ⟨w.heap.size, 0, none⟩) (by first | exact Nat.le_refl _ | (dsimp only; omega)) _) (a := ⟨w.heap.size, 1, none⟩) (by first | exact Nat.le_refl _ | (dsimp only; omega)) _) (a := ⟨w.heap.size, 2, none⟩) (by first | exact Nat.le_refl _ | (dsimp only; omega)) _) (a := ⟨w.heap.size, 3, none⟩) (by first | exact Nat.le_refl _ | (dsimp only; omega)) _) (a := ⟨w.heap.size, 4, none⟩) (by first | exact Nat.le_refl _ | (dsimp only; omega)) _), (Chg.setCell (p := ⟨w.heap.size, 4, none⟩) (Chg.setCell (p := ⟨w.heap.size, 3, none⟩) (Chg.setCell (p := ⟨w.heap.size, 2, none⟩) (Chg.setCell (p := ⟨w.heap.size, 1, none⟩) (Chg.setCell (p := ⟨w.heap.size, 0, none⟩) (Chg.setCell (p := ⟨g, 0, none⟩) X5.out (.inr (by first | exact Nat.le_refl _ | (dsimp only; omega))) _) (.inr (by first | exact Nat.le_refl _ | (dsimp only; omega))) _) (.inr (by first | exact Nat.le_refl _ | (dsimp only; omega))) _) (.inr (by first | exact Nat.le_refl _ | (dsimp only; omega))) _) (.inr (by first | exact Nat.le_refl _ | (dsimp only; omega))) _) (.inr (by first | exact Nat.le_refl _ | (dsimp only; omega))) _)⟩)
      · skip
        have u0 : ((v : Int) == 0) = false := by simp [hv]
        have u1 : ((v : Int) == 1) = true := by simp [hv]
        have u2 : ((v : Int) == 2) = false := by simp [hv]
        have u3 : ((v : Int) == 3) = false := by simp [hv]
        clear hv
        go_wp2_with fail
        refine (pick_any _ p A n c zs (k3 + 1) 3 (Rd.below R4.out bel1) (by omega) (by omega) (by omega)).mono ?_
        rintro e w5 ⟨v2, rfl, hv2, rd5, hc5, hz5⟩
        have hv2 := hv2 (by omega)
        clear hz5
        obtain ⟨z, hz⟩ := lit_int (r := v2) (litInts [-1, 193, 192]) hc5 rfl (by omega) (by simp; omega)
        have hv20 : (0 : Int) ≤ (v2 : Int) := by omega
        have hv21 : (v2 : Int) < 3 := by omega
        have zz5 : w4.heap.size + 1 ≤ w5.heap.size := by have := hc5.size; (try simp [World.setCell] at this); omega
        have X5 : Hid (Chg (· ∈ [p]) w w5) := Lib.hid ((Chg.alloc X4.out _).trans hc5)
        have b5_0 : Hid (w5.heap[w.heap.size]? = some (.cells #[.int .i64 0, .string ⟨#[]⟩, .string ⟨#[]⟩, .int .i64 0, .string ⟨#[]⟩] 32 (0, 0))) := Lib.hid ((hc5.block _ (by first | omega | (simp [World.setCell] <;> omega)) (by simp <;> omega)).trans ((Below.heap_alloc _ _ _ (by first | omega | (simp [World.setCell] <;> omega))).trans b4_0.out))
        have b5_1 : Hid (w5.heap[g]? = some (.cells #[.int .i64 x, .string s, .string t, .int .i64 0, .string ⟨#[]⟩] 32 (0, 0))) := Lib.hid ((hc5.block _ (by first | omega | (simp [World.setCell] <;> omega)) (by simp <;> omega)).trans ((Below.heap_alloc _ _ _ (by first | omega | (simp [World.setCell] <;> omega))).trans b4_1.out))
        have R5 : Hid (Rd w5 p A n c zs (k3 + 1 + 1)) := Lib.hid rd5
        have pl5 : p < w5.heap.size := by omega
        clear b4_0 b4_1 X4 R4 pl4 l4_0 c4_0_0 f4_0_0 c4_0_1 f4_0_1 c4_0_2 f4_0_2 c4_0_3 f4_0_3 c4_0_4 f4_0_4 l4_1 c4_1_0 f4_1_0 c4_1_1 f4_1_1 c4_1_2 f4_1_2 c4_1_3 f4_1_3 c4_1_4 f4_1_4 hc5 rd5
        have l5_0 : w.heap.size < w5.heap.size := (Array.getElem?_eq_some_iff.1 b5_0.out).1
        have c5_0_0 : w5.cell? ⟨w.heap.size, 0, none⟩ = some (.int .i64 0) := cell_of_row _ _ 0 _ _ (0, 0) b5_0.out
        have f5_0_0 : w5.frozen? ⟨w.heap.size, 0, none⟩ = false := block_free b5_0.out _
        have c5_0_1 : w5.cell? ⟨w.heap.size, 1, none⟩ = some (.string ⟨#[]⟩) := cell_of_row _ _ 1 _ _ (0, 0) b5_0.out
        have f5_0_1 : w5.frozen? ⟨w.heap.size, 1, none⟩ = false := block_free b5_0.out _
        have c5_0_2 : w5.cell? ⟨w.heap.size, 2, none⟩ = some (.string ⟨#[]⟩) := cell_of_row _ _ 2 _ _ (0, 0) b5_0.out
        have f5_0_2 : w5.frozen? ⟨w.heap.size, 2, none⟩ = false := block_free b5_0.out _
        have c5_0_3 : w5.cell? ⟨w.heap.size, 3, none⟩ = some (.int .i64 0) := cell_of_row _ _ 3 _ _ (0, 0) b5_0.out
        have f5_0_3 : w5.frozen? ⟨w.heap.size, 3, none⟩ = false := block_free b5_0.out _
        have c5_0_4 : w5.cell? ⟨w.heap.size, 4, none⟩ = some (.string ⟨#[]⟩) := cell_of_row _ _ 4 _ _ (0, 0) b5_0.out
        have f5_0_4 : w5.frozen? ⟨w.heap.size, 4, none⟩ = false := block_free b5_0.out _
        have l5_1 : g < w5.heap.size := (Array.getElem?_eq_some_iff.1 b5_1.out).1
        have c5_1_0 : w5.cell? ⟨g, 0, none⟩ = some (.int .i64 x) := cell_of_row _ _ 0 _ _ (0, 0) b5_1.out
        have f5_1_0 : w5.frozen? ⟨g, 0, none⟩ = false := block_free b5_1.out _
        have c5_1_1 : w5.cell? ⟨g, 1, none⟩ = some (.string s) := cell_of_row _ _ 1 _ _ (0, 0) b5_1.out
        have f5_1_1 : w5.frozen? ⟨g, 1, none⟩ = false := block_free b5_1.out _
        have c5_1_2 : w5.cell? ⟨g, 2, none⟩ = some (.string t) := cell_of_row _ _ 2 _ _ (0, 0) b5_1.out
        have f5_1_2 : w5.frozen? ⟨g, 2, none⟩ = false := block_free b5_1.out _
        have c5_1_3 : w5.cell? ⟨g, 3, none⟩ = some (.int .i64 0) := cell_of_row _ _ 3 _ _ (0, 0) b5_1.out
        have f5_1_3 : w5.frozen? ⟨g, 3, none⟩ = false := block_free b5_1.out _
        have c5_1_4 : w5.cell? ⟨g, 4, none⟩ = some (.string ⟨#[]⟩) := cell_of_row _ _ 4 _ _ (0, 0) b5_1.out
        have f5_1_4 : w5.frozen? ⟨g, 4, none⟩ = false := block_free b5_1.out _
        go_wp2_with fail
        have hrr : ((World.setCell w5 ⟨g, 3, none⟩ (.int .i64 z))).heap[w.heap.size]? = some (.cells #[.int .i64 0, .string ⟨#[]⟩, .string ⟨#[]⟩, .int .i64 0, .string ⟨#[]⟩] 32 (0, 0)) := ((heap_far (by first | omega | (simp <;> omega))).trans b5_0.out)
        have hst := set_5 (x0 := .int .i64 x) (x1 := .string s) (x2 := .string t) (x3 := .int .i64 z) (x4 := .string ⟨#[]⟩) hrr
        clear hrr
        have r0 := cell_of_row _ _ 0 _ _ (0, 0) hst
        have r1 := cell_of_row _ _ 1 _ _ (0, 0) hst
        have r2 := cell_of_row _ _ 2 _ _ (0, 0) hst
        have r3 := cell_of_row _ _ 3 _ _ (0, 0) hst
        have r4 := cell_of_row _ _ 4 _ _ (0, 0) hst
        clear hst
        exact bodyPost_ret (v := .agg #[.int .i64 x, .string s, .string t, .int .i64 z, .string ⟨#[]⟩]) (by simp [results, Tryz.results57, go_sem, r0, r1, r2, r3, r4]) rfl (⟨_, _, _, _, _, _, rfl, by omega, by omega, by decide, by omega, (Rd.set h (Rd.set h (Rd.set h (Rd.set h (Rd.set h (Rd.set h R5.out (a := ⟨g, 3, none⟩) (by first | exact Nat.le_refl _ | (dsimp only; omega)) _) (a := ⟨w.heap.size, 0, none⟩) (by first | exact Nat.le_refl _ | (dsimp only; omega)) _) (a := ⟨w.heap.size, 1, none⟩) (by first | exact Nat.le_refl _ | (dsimp only; omega)) _) (a := ⟨w.heap.size, 2, none⟩) (by first | exact Nat.le_refl _ | (dsimp only; omega)) _) (a := ⟨w.heap.size, 3, none⟩) (by first | exact Nat.le_refl _ | (dsimp only; omega)) _) (a := ⟨w.heap.size, 4, none⟩) (by first | exact Nat.le_refl _ | (dsimp only; omega)) _), (Chg.setCell (p := ⟨w.heap.size, 4, none⟩) (Chg.setCell (p := ⟨w.heap.size, 3, none⟩) (Chg.setCell (p := ⟨w.heap.size, 2, none⟩) (Chg.setCell (p := ⟨w.heap.size, 1, none⟩) (Chg.setCell (p := ⟨w.heap.size, 0, none⟩) (Chg.setCell (p := ⟨g, 3, none⟩) X5.out (.inr (by first | exact Nat.le_refl _ | (dsimp only; omega))) _) (.inr (by first | exact Nat.le_refl _ | (dsimp only; omega))) _) (.inr (by first | exact Nat.le_refl _ | (dsimp only; omega))) _) (.inr (by first | exact Nat.le_refl _ | (dsimp only; omega))) _) (.inr (by first | exact Nat.le_refl _ | (dsimp only; omega))) _) (.inr (by first | exact Nat.le_refl _ | (dsimp only; omega))) _)⟩)
      · skip
        have u0 : ((v : Int) == 0) = false := by simp [hv]
        have u1 : ((v : Int) == 1) = false := by simp [hv]
        have u2 : ((v : Int) == 2) = true := by simp [hv]
        have u3 : ((v : Int) == 3) = false := by simp [hv]
        clear hv
        go_wp2_with fail
        refine (pick_any _ p A n c zs (k3 + 1) 2 R4.out (by omega) (by omega) (by omega)).mono ?_
        rintro e w5 ⟨v2, rfl, hv2, rd5, hc5, hz5⟩
        have hv2 := hv2 (by omega)
        clear hz5
        have zz5 : w4.heap.size + 0 ≤ w5.heap.size := by have := hc5.size; (try simp [World.setCell] at this); omega
        have X5 : Hid (Chg (· ∈ [p]) w w5) := Lib.hid (X4.out.trans hc5)
        have b5_0 : Hid (w5.heap[w.heap.size]? = some (.cells #[.int .i64 0, .string ⟨#[]⟩, .string ⟨#[]⟩, .int .i64 0, .string ⟨#[]⟩] 32 (0, 0))) := Lib.hid ((hc5.block _ (by first | omega | (simp [World.setCell] <;> omega)) (by simp <;> omega)).trans b4_0.out)
        have b5_1 : Hid (w5.heap[g]? = some (.cells #[.int .i64 x, .string s, .string t, .int .i64 0, .string ⟨#[]⟩] 32 (0, 0))) := Lib.hid ((hc5.block _ (by first | omega | (simp [World.setCell] <;> omega)) (by simp <;> omega)).trans b4_1.out)
        have R5 : Hid (Rd w5 p A n c zs (k3 + 1 + 1)) := Lib.hid rd5
        have pl5 : p < w5.heap.size := by omega
        clear b4_0 b4_1 X4 R4 pl4 l4_0 c4_0_0 f4_0_0 c4_0_1 f4_0_1 c4_0_2 f4_0_2 c4_0_3 f4_0_3 c4_0_4 f4_0_4 l4_1 c4_1_0 f4_1_0 c4_1_1 f4_1_1 c4_1_2 f4_1_2 c4_1_3 f4_1_3 c4_1_4 f4_1_4 hc5 rd5
        have l5_0 : w.heap.size < w5.heap.size := (Array.getElem?_eq_some_iff.1 b5_0.out).1
        have c5_0_0 : w5.cell? ⟨w.heap.size, 0, none⟩ = some (.int .i64 0) := cell_of_row _ _ 0 _ _ (0, 0) b5_0.out
        have f5_0_0 : w5.frozen? ⟨w.heap.size, 0, none⟩ = false := block_free b5_0.out _
        have c5_0_1 : w5.cell? ⟨w.heap.size, 1, none⟩ = some (.string ⟨#[]⟩) := cell_of_row _ _ 1 _ _ (0, 0) b5_0.out
        have f5_0_1 : w5.frozen? ⟨w.heap.size, 1, none⟩ = false := block_free b5_0.out _
        have c5_0_2 : w5.cell? ⟨w.heap.size, 2, none⟩ = some (.string ⟨#[]⟩) := cell_of_row _ _ 2 _ _ (0, 0) b5_0.out
        have f5_0_2 : w5.frozen? ⟨w.heap.size, 2, none⟩ = false := block_free b5_0.out _
        have c5_0_3 : w5.cell? ⟨w.heap.size, 3, none⟩ = some (.int .i64 0) := cell_of_row _ _ 3 _ _ (0, 0) b5_0.out
        have f5_0_3 : w5.frozen? ⟨w.heap.size, 3, none⟩ = false := block_free b5_0.out _
        have c5_0_4 : w5.cell? ⟨w.heap.size, 4, none⟩ = some (.string ⟨#[]⟩) := cell_of_row _ _ 4 _ _ (0, 0) b5_0.out
        have f5_0_4 : w5.frozen? ⟨w.heap.size, 4, none⟩ = false := block_free b5_0.out _
        have l5_1 : g < w5.heap.size := (Array.getElem?_eq_some_iff.1 b5_1.out).1
        have c5_1_0 : w5.cell? ⟨g, 0, none⟩ = some (.int .i64 x) := cell_of_row _ _ 0 _ _ (0, 0) b5_1.out
        have f5_1_0 : w5.frozen? ⟨g, 0, none⟩ = false := block_free b5_1.out _
        have c5_1_1 : w5.cell? ⟨g, 1, none⟩ = some (.string s) := cell_of_row _ _ 1 _ _ (0, 0) b5_1.out
        have f5_1_1 : w5.frozen? ⟨g, 1, none⟩ = false := block_free b5_1.out _
        have c5_1_2 : w5.cell? ⟨g, 2, none⟩ = some (.string t) := cell_of_row _ _ 2 _ _ (0, 0) b5_1.out
        have f5_1_2 : w5.frozen? ⟨g, 2, none⟩ = false := block_free b5_1.out _
        have c5_1_3 : w5.cell? ⟨g, 3, none⟩ = some (.int .i64 0) := cell_of_row _ _ 3 _ _ (0, 0) b5_1.out
        have f5_1_3 : w5.frozen? ⟨g, 3, none⟩ = false := block_free b5_1.out _
        have c5_1_4 : w5.cell? ⟨g, 4, none⟩ = some (.string ⟨#[]⟩) := cell_of_row _ _ 4 _ _ (0, 0) b5_1.out
        have f5_1_4 : w5.frozen? ⟨g, 4, none⟩ = false := block_free b5_1.out _
        go_wp2_with fail
        refine (l6Many_u _ (24 + v2) _ (by omega) (by omega)).mono ?_
        rintro e wq ⟨z, rfl, hz, hwq⟩
        rw [hwq]; clear hwq
        have hz : z.size ≤ 100 := by omega
        go_wp2_with fail
        have hrr : ((World.setCell w5 ⟨g, 4, none⟩ (.string z))).heap[w.heap.size]? = some (.cells #[.int .i64 0, .string ⟨#[]⟩, .string ⟨#[]⟩, .int .i64 0, .string ⟨#[]⟩] 32 (0, 0)) := ((heap_far (by first | omega | (simp <;> omega))).trans b5_0.out)
        have hst := set_5 (x0 := .int .i64 x) (x1 := .string s) (x2 := .string t) (x3 := .int .i64 0) (x4 := .string z) hrr
        clear hrr
        have r0 := cell_of_row _ _ 0 _ _ (0, 0) hst
        have r1 := cell_of_row _ _ 1 _ _ (0, 0) hst
        have r2 := cell_of_row _ _ 2 _ _ (0, 0) hst
        have r3 := cell_of_row _ _ 3 _ _ (0, 0) hst
        have r4 := cell_of_row _ _ 4 _ _ (0, 0) hst
        clear hst
        exact bodyPost_ret (v := .agg #[.int .i64 x, .string s, .string t, .int .i64 0, .string z]) (by simp [results, Tryz.results57, go_sem, r0, r1, r2, r3, r4]) rfl (⟨_, _, _, _, _, _, rfl, by omega, by omega, by omega, by omega, (Rd.set h (Rd.set h (Rd.set h (Rd.set h (Rd.set h (Rd.set h R5.out (a := ⟨g, 4, none⟩) (by first | exact Nat.le_refl _ | (dsimp only; omega)) _) (a := ⟨w.heap.size, 0, none⟩) (by first | exact Nat.le_refl _ | (dsimp only; omega)) _) (a := ⟨w.heap.size, 1, none⟩) (by first | exact Nat.le_refl _ | (dsimp only; omega)) _) (a := ⟨w.heap.size, 2, none⟩) (by first | exact Nat.le_refl _ | (dsimp only; omega)) _) (a := ⟨w.heap.size, 3, none⟩) (by first | exact Nat.le_refl _ | (dsimp only; omega)) _) (a := ⟨w.heap.size, 4, none⟩) (by first | exact Nat.le_refl _ | (dsimp only; omega)) _), (Chg.setCell (p := ⟨w.heap.size, 4, none⟩) (Chg.setCell (p := ⟨w.heap.size, 3, none⟩) (Chg.setCell (p := ⟨w.heap.size, 2, none⟩) (Chg.setCell (p := ⟨w.heap.size, 1, none⟩) (Chg.setCell (p := ⟨w.heap.size, 0, none⟩) (Chg.setCell (p := ⟨g, 4, none⟩) X5.out (.inr (by first | exact Nat.le_refl _ | (dsimp only; omega))) _) (.inr (by first | exact Nat.le_refl _ | (dsimp only; omega))) _) (.inr (by first | exact Nat.le_refl _ | (dsimp only; omega))) _) (.inr (by first | exact Nat.le_refl _ | (dsimp only; omega))) _) (.inr (by first | exact Nat.le_refl _ | (dsimp only; omega))) _) (.inr (by first | exact Nat.le_refl _ | (dsimp only; omega))) _)⟩)
      · skip
        have u0 : ((v : Int) == 0) = false := by simp [hv]
        have u1 : ((v : Int) == 1) = false := by simp [hv]
        have u2 : ((v : Int) == 2) = false := by simp [hv]
        have u3 : ((v : Int) == 3) = true := by simp [hv]
        clear hv
        go_wp2_with fail
        refine (l92Path_any _ p A n c zs (k3 + 1) R4.out (by omega)).mono ?_
        rintro e w5 ⟨z, k5, rfl, hz, hk5, rd5, hc5⟩
        have zz5 : w4.heap.size + 0 ≤ w5.heap.size := by have := hc5.size; (try simp [World.setCell] at this); omega
        have X5 : Hid (Chg (· ∈ [p]) w w5) := Lib.hid (X4.out.trans hc5)
        have b5_0 : Hid (w5.heap[w.heap.size]? = some (.cells #[.int .i64 0, .string ⟨#[]⟩, .string ⟨#[]⟩, .int .i64 0, .string ⟨#[]⟩] 32 (0, 0))) := Lib.hid ((hc5.block _ (by first | omega | (simp [World.setCell] <;> omega)) (by simp <;> omega)).trans b4_0.out)
        have b5_1 : Hid (w5.heap[g]? = some (.cells #[.int .i64 x, .string s, .string t, .int .i64 0, .string ⟨#[]⟩] 32 (0, 0))) := Lib.hid ((hc5.block _ (by first | omega | (simp [World.setCell] <;> omega)) (by simp <;> omega)).trans b4_1.out)
        have R5 : Hid (Rd w5 p A n c zs (k5)) := Lib.hid rd5
        have pl5 : p < w5.heap.size := by omega
        clear b4_0 b4_1 X4 R4 pl4 l4_0 c4_0_0 f4_0_0 c4_0_1 f4_0_1 c4_0_2 f4_0_2 c4_0_3 f4_0_3 c4_0_4 f4_0_4 l4_1 c4_1_0 f4_1_0 c4_1_1 f4_1_1 c4_1_2 f4_1_2 c4_1_3 f4_1_3 c4_1_4 f4_1_4 hc5 rd5
        have l5_0 : w.heap.size < w5.heap.size := (Array.getElem?_eq_some_iff.1 b5_0.out).1
        have c5_0_0 : w5.cell? ⟨w.heap.size, 0, none⟩ = some (.int .i64 0) := cell_of_row _ _ 0 _ _ (0, 0) b5_0.out
        have f5_0_0 : w5.frozen? ⟨w.heap.size, 0, none⟩ = false := block_free b5_0.out _
        have c5_0_1 : w5.cell? ⟨w.heap.size, 1, none⟩ = some (.string ⟨#[]⟩) := cell_of_row _ _ 1 _ _ (0, 0) b5_0.out
        have f5_0_1 : w5.frozen? ⟨w.heap.size, 1, none⟩ = false := block_free b5_0.out _
        have c5_0_2 : w5.cell? ⟨w.heap.size, 2, none⟩ = some (.string ⟨#[]⟩) := cell_of_row _ _ 2 _ _ (0, 0) b5_0.out
        have f5_0_2 : w5.frozen? ⟨w.heap.size, 2, none⟩ = false := block_free b5_0.out _
        have c5_0_3 : w5.cell? ⟨w.heap.size, 3, none⟩ = some (.int .i64 0) := cell_of_row _ _ 3 _ _ (0, 0) b5_0.out
        have f5_0_3 : w5.frozen? ⟨w.heap.size, 3, none⟩ = false := block_free b5_0.out _
        have c5_0_4 : w5.cell? ⟨w.heap.size, 4, none⟩ = some (.string ⟨#[]⟩) := cell_of_row _ _ 4 _ _ (0, 0) b5_0.out
        have f5_0_4 : w5.frozen? ⟨w.heap.size, 4, none⟩ = false := block_free b5_0.out _
        have l5_1 : g < w5.heap.size := (Array.getElem?_eq_some_iff.1 b5_1.out).1
        have c5_1_0 : w5.cell? ⟨g, 0, none⟩ = some (.int .i64 x) := cell_of_row _ _ 0 _ _ (0, 0) b5_1.out
        have f5_1_0 : w5.frozen? ⟨g, 0, none⟩ = false := block_free b5_1.out _
        have c5_1_1 : w5.cell? ⟨g, 1, none⟩ = some (.string s) := cell_of_row _ _ 1 _ _ (0, 0) b5_1.out
        have f5_1_1 : w5.frozen? ⟨g, 1, none⟩ = false := block_free b5_1.out _
        have c5_1_2 : w5.cell? ⟨g, 2, none⟩ = some (.string t) := cell_of_row _ _ 2 _ _ (0, 0) b5_1.out
        have f5_1_2 : w5.frozen? ⟨g, 2, none⟩ = false := block_free b5_1.out _
        have c5_1_3 : w5.cell? ⟨g, 3, none⟩ = some (.int .i64 0) := cell_of_row _ _ 3 _ _ (0, 0) b5_1.out
        have f5_1_3 : w5.frozen? ⟨g, 3, none⟩ = false := block_free b5_1.out _
        have c5_1_4 : w5.cell? ⟨g, 4, none⟩ = some (.string ⟨#[]⟩) := cell_of_row _ _ 4 _ _ (0, 0) b5_1.out
        have f5_1_4 : w5.frozen? ⟨g, 4, none⟩ = false := block_free b5_1.out _
        go_wp2_with fail
        have hrr : ((World.setCell w5 ⟨g, 2, none⟩ (.string z))).heap[w.heap.size]? = some (.cells #[.int .i64 0, .string ⟨#[]⟩, .string ⟨#[]⟩, .int .i64 0, .string ⟨#[]⟩] 32 (0, 0)) := ((heap_far (by first | omega | (simp <;> omega))).trans b5_0.out)
        have hst := set_5 (x0 := .int .i64 x) (x1 := .string s) (x2 := .string z) (x3 := .int .i64 0) (x4 := .string ⟨#[]⟩) hrr
        clear hrr
        have r0 := cell_of_row _ _ 0 _ _ (0, 0) hst
        have r1 := cell_of_row _ _ 1 _ _ (0, 0) hst
        have r2 := cell_of_row _ _ 2 _ _ (0, 0) hst
        have r3 := cell_of_row _ _ 3 _ _ (0, 0) hst
        have r4 := cell_of_row _ _ 4 _ _ (0, 0) hst
        clear hst
        exact bodyPost_ret (v := .agg #[.int .i64 x, .string s, .string z, .int .i64 0, .string ⟨#[]⟩]) (by simp [results, Tryz.results57, go_sem, r0, r1, r2, r3, r4]) rfl (⟨_, _, _, _, _, _, rfl, by omega, by omega, by decide, by omega, (Rd.set h (Rd.set h (Rd.set h (Rd.set h (Rd.set h (Rd.set h R5.out (a := ⟨g, 2, none⟩) (by first | exact Nat.le_refl _ | (dsimp only; omega)) _) (a := ⟨w.heap.size, 0, none⟩) (by first | exact Nat.le_refl _ | (dsimp only; omega)) _) (a := ⟨w.heap.size, 1, none⟩) (by first | exact Nat.le_refl _ | (dsimp only; omega)) _) (a := ⟨w.heap.size, 2, none⟩) (by first | exact Nat.le_refl _ | (dsimp only; omega)) _) (a := ⟨w.heap.size, 3, none⟩) (by first | exact Nat.le_refl _ | (dsimp only; omega)) _) (a := ⟨w.heap.size, 4, none⟩) (by first | exact Nat.le_refl _ | (dsimp only; omega)) _), (Chg.setCell (p := ⟨w.heap.size, 4, none⟩) (Chg.setCell (p := ⟨w.heap.size, 3, none⟩) (Chg.setCell (p := ⟨w.heap.size, 2, none⟩) (Chg.setCell (p := ⟨w.heap.size, 1, none⟩) (Chg.setCell (p := ⟨w.heap.size, 0, none⟩) (Chg.setCell (p := ⟨g, 2, none⟩) X5.out (.inr (by first | exact Nat.le_refl _ | (dsimp only; omega))) _) (.inr (by first | exact Nat.le_refl _ | (dsimp only; omega))) _) (.inr (by first | exact Nat.le_refl _ | (dsimp only; omega))) _) (.inr (by first | exact Nat.le_refl _ | (dsimp only; omega))) _) (.inr (by first | exact Nat.le_refl _ | (dsimp only; omega))) _) (.inr (by first | exact Nat.le_refl _ | (dsimp only; omega))) _)⟩)
      · skip
        have u0 : ((v : Int) == 0) = false := by simp; omega
        have u1 : ((v : Int) == 1) = false := by simp; omega
        have u2 : ((v : Int) == 2) = false := by simp; omega
        have u3 : ((v : Int) == 3) = false := by simp; omega
        clear hv0 hv1 hv2 hv3
        go_wp2_with fail
        have hrr : (w4).heap[w.heap.size]? = some (.cells #[.int .i64 0, .string ⟨#[]⟩, .string ⟨#[]⟩, .int .i64 0, .string ⟨#[]⟩] 32 (0, 0)) := b4_0.out
        have hst := set_5 (x0 := .int .i64 x) (x1 := .string s) (x2 := .string t) (x3 := .int .i64 0) (x4 := .string ⟨#[]⟩) hrr
        clear hrr
        have r0 := cell_of_row _ _ 0 _ _ (0, 0) hst
        have r1 := cell_of_row _ _ 1 _ _ (0, 0) hst
        have r2 := cell_of_row _ _ 2 _ _ (0, 0) hst
        have r3 := cell_of_row _ _ 3 _ _ (0, 0) hst
        have r4 := cell_of_row _ _ 4 _ _ (0, 0) hst
        clear hst
        exact bodyPost_ret (v := .agg #[.int .i64 x, .string s, .string t, .int .i64 0, .string ⟨#[]⟩]) (by simp [results, Tryz.results57, go_sem, r0, r1, r2, r3, r4]) rfl (⟨_, _, _, _, _, _, rfl, by omega, by omega, by decide, by omega, (Rd.set h (Rd.set h (Rd.set h (Rd.set h (Rd.set h R4.out (a := ⟨w.heap.size, 0, none⟩) (by first | exact Nat.le_refl _ | (dsimp only; omega)) _) (a := ⟨w.heap.size, 1, none⟩) (by first | exact Nat.le_refl _ | (dsimp only; omega)) _) (a := ⟨w.heap.size, 2, none⟩) (by first | exact Nat.le_refl _ | (dsimp only; omega)) _) (a := ⟨w.heap.size, 3, none⟩) (by first | exact Nat.le_refl _ | (dsimp only; omega)) _) (a := ⟨w.heap.size, 4, none⟩) (by first | exact Nat.le_refl _ | (dsimp only; omega)) _), (Chg.setCell (p := ⟨w.heap.size, 4, none⟩) (Chg.setCell (p := ⟨w.heap.size, 3, none⟩) (Chg.setCell (p := ⟨w.heap.size, 2, none⟩) (Chg.setCell (p := ⟨w.heap.size, 1, none⟩) (Chg.setCell (p := ⟨w.heap.size, 0, none⟩) X4.out (.inr (by first | exact Nat.le_refl _ | (dsimp only; omega))) _) (.inr (by first | exact Nat.le_refl _ | (dsimp only; omega))) _) (.inr (by first | exact Nat.le_refl _ | (dsimp only; omega))) _) (.inr (by first | exact Nat.le_refl _ | (dsimp only; omega))) _) (.inr (by first | exact Nat.le_refl _ | (dsimp only; omega))) _)⟩)
    · skip
      have t3 : (x == 3) = false := by simpa using n3
      have t4 : (x == 4) = false := by simpa using n4
      have t6 : (x == 6) = false := by simpa using n6
      have t7 : (x == 7) = false := by simpa using n7
      clear n3 n4 n6 n7
      go_wp2_with fail
      refine (pick_any _ p A n c zs (k1) 60 R2.out (by omega) (by omega) (by omega)).mono ?_
      rintro e w3 ⟨v, rfl, hv, rd3, hc3, hz3⟩
      have hv := hv (by omega)
      clear hz3
      have zz3 : w2.heap.size + 0 ≤ w3.heap.size := by have := hc3.size; (try simp [World.setCell] at this); omega
      have X3 : Hid (Chg (· ∈ [p]) w w3) := Lib.hid (X2.out.trans hc3)
      have b3_0 : Hid (w3.heap[w.heap.size]? = some (.cells #[.int .i64 0, .string ⟨#[]⟩, .string ⟨#[]⟩, .int .i64 0, .string ⟨#[]⟩] 32 (0, 0))) := Lib.hid ((hc3.block _ (by first | omega | (simp [World.setCell] <;> omega)) (by simp <;> omega)).trans b2_0.out)
      have b3_1 : Hid (w3.heap[g]? = some (.cells #[.int .i64 x, .string s, .string ⟨#[]⟩, .int .i64 0, .string ⟨#[]⟩] 32 (0, 0))) := Lib.hid ((hc3.block _ (by first | omega | (simp [World.setCell] <;> omega)) (by simp <;> omega)).trans b2_1.out)
      have R3 : Hid (Rd w3 p A n c zs (k1 + 1)) := Lib.hid rd3
      have pl3 : p < w3.heap.size := by omega
      clear b2_0 b2_1 X2 R2 pl2 l2_0 c2_0_0 f2_0_0 c2_0_1 f2_0_1 c2_0_2 f2_0_2 c2_0_3 f2_0_3 c2_0_4 f2_0_4 l2_1 c2_1_0 f2_1_0 c2_1_1 f2_1_1 c2_1_2 f2_1_2 c2_1_3 f2_1_3 c2_1_4 f2_1_4 hc3 rd3
      have l3_0 : w.heap.size < w3.heap.size := (Array.getElem?_eq_some_iff.1 b3_0.out).1
      have c3_0_0 : w3.cell? ⟨w.heap.size, 0, none⟩ = some (.int .i64 0) := cell_of_row _ _ 0 _ _ (0, 0) b3_0.out
      have f3_0_0 : w3.frozen? ⟨w.heap.size, 0, none⟩ = false := block_free b3_0.out _
      have c3_0_1 : w3.cell? ⟨w.heap.size, 1, none⟩ = some (.string ⟨#[]⟩) := cell_of_row _ _ 1 _ _ (0, 0) b3_0.out
      have f3_0_1 : w3.frozen? ⟨w.heap.size, 1, none⟩ = false := block_free b3_0.out _
      have c3_0_2 : w3.cell? ⟨w.heap.size, 2, none⟩ = some (.string ⟨#[]⟩) := cell_of_row _ _ 2 _ _ (0, 0) b3_0.out
      have f3_0_2 : w3.frozen? ⟨w.heap.size, 2, none⟩ = false := block_free b3_0.out _
      have c3_0_3 : w3.cell? ⟨w.heap.size, 3, none⟩ = some (.int .i64 0) := cell_of_row _ _ 3 _ _ (0, 0) b3_0.out
      have f3_0_3 : w3.frozen? ⟨w.heap.size, 3, none⟩ = false := block_free b3_0.out _
      have c3_0_4 : w3.cell? ⟨w.heap.size, 4, none⟩ = some (.string ⟨#[]⟩) := cell_of_row _ _ 4 _ _ (0, 0) b3_0.out
      have f3_0_4 : w3.frozen? ⟨w.heap.size, 4, none⟩ = false := block_free b3_0.out _
      have l3_1 : g < w3.heap.size := (Array.getElem?_eq_some_iff.1 b3_1.out).1
      have c3_1_0 : w3.cell? ⟨g, 0, none⟩ = some (.int .i64 x) := cell_of_row _ _ 0 _ _ (0, 0) b3_1.out
      have f3_1_0 : w3.frozen? ⟨g, 0, none⟩ = false := block_free b3_1.out _
      have c3_1_1 : w3.cell? ⟨g, 1, none⟩ = some (.string s) := cell_of_row _ _ 1 _ _ (0, 0) b3_1.out
      have f3_1_1 : w3.frozen? ⟨g, 1, none⟩ = false := block_free b3_1.out _
      have c3_1_2 : w3.cell? ⟨g, 2, none⟩ = some (.string ⟨#[]⟩) := cell_of_row _ _ 2 _ _ (0, 0) b3_1.out
      have f3_1_2 : w3.frozen? ⟨g, 2, none⟩ = false := block_free b3_1.out _
      have c3_1_3 : w3.cell? ⟨g, 3, none⟩ = some (.int .i64 0) := cell_of_row _ _ 3 _ _ (0, 0) b3_1.out
      have f3_1_3 : w3.frozen? ⟨g, 3, none⟩ = false := block_free b3_1.out _
      have c3_1_4 : w3.cell? ⟨g, 4, none⟩ = some (.string ⟨#[]⟩) := cell_of_row _ _ 4 _ _ (0, 0) b3_1.out
      have f3_1_4 : w3.frozen? ⟨g, 4, none⟩ = false := block_free b3_1.out _
      have hv4 : v = 0 ∨ v = 1 ∨ v = 2 ∨ v = 3 ∨ (v ≠ 0 ∧ v ≠ 1 ∧ v ≠ 2 ∧ v ≠ 3) := by omega
      clear hv
      rcases hv4 with hv | hv | hv | hv | ⟨hv0, hv1, hv2, hv3⟩
      · skip
        have u0 : ((v : Int) == 0) = true := by simp [hv]
        have u1 : ((v : Int) == 1) = false := by simp [hv]
        have u2 : ((v : Int) == 2) = false := by simp [hv]
        have u3 : ((v : Int) == 3) = false := by simp [hv]
        clear hv
        go_wp2_with fail
        refine (pick_any _ p A n c zs (k1 + 1) 4 (Rd.below R3.out bel1) (by omega) (by omega) (by omega)).mono ?_
        rintro e w4 ⟨v2, rfl, hv2, rd4, hc4, hz4⟩
        have hv2 := hv2 (by omega)
        clear hz4
        obtain ⟨z, hz⟩ := lit_int (r := v2) (litInts [0, 8, -1, 3]) hc4 rfl (by omega) (by simp; omega)
        have hv20 : (0 : Int) ≤ (v2 : Int) := by omega
        have hv21 : (v2 : Int) < 4 := by omega
        have zz4 : w3.heap.size + 1 ≤ w4.heap.size := by have := hc4.size; (try simp [World.setCell] at this); omega
        have X4 : Hid (Chg (· ∈ [p]) w w4) := Lib.hid ((Chg.alloc X3.out _).trans hc4)
        have b4_0 : Hid (w4.heap[w.heap.size]? = some (.cells #[.int .i64 0, .string ⟨#[]⟩, .string ⟨#[]⟩, .int .i64 0, .string ⟨#[]⟩] 32 (0, 0))) := Lib.hid ((hc4.block _ (by first | omega | (simp [World.setCell] <;> omega)) (by simp <;> omega)).trans ((Below.heap_alloc _ _ _ (by first | omega | (simp [World.setCell] <;> omega))).trans b3_0.out))
        have b4_1 : Hid (w4.heap[g]? = some (.cells #[.int .i64 x, .string s, .string ⟨#[]⟩, .int .i64 0, .string ⟨#[]⟩] 32 (0, 0))) := Lib.hid ((hc4.block _ (by first | omega | (simp [World.setCell] <;> omega)) (by simp <;> omega)).trans ((Below.heap_alloc _ _ _ (by first | omega | (simp [World.setCell] <;> omega))).trans b3_1.out))
        have R4 : Hid (Rd w4 p A n c zs (k1 + 1 + 1)) := Lib.hid rd4
        have pl4 : p < w4.heap.size := by omega
        clear b3_0 b3_1 X3 R3 pl3 l3_0 c3_0_0 f3_0_0 c3_0_1 f3_0_1 c3_0_2 f3_0_2 c3_0_3 f3_0_3 c3_0_4 f3_0_4 l3_1 c3_1_0 f3_1_0 c3_1_1 f3_1_1 c3_1_2 f3_1_2 c3_1_3 f3_1_3 c3_1_4 f3_1_4 hc4 rd4
        have l4_0 : w.heap.size < w4.heap.size := (Array.getElem?_eq_some_iff.1 b4_0.out).1
        have c4_0_0 : w4.cell? ⟨w.heap.size, 0, none⟩ = some (.int .i64 0) := cell_of_row _ _ 0 _ _ (0, 0) b4_0.out
        have f4_0_0 : w4.frozen? ⟨w.heap.size, 0, none⟩ = false := block_free b4_0.out _
        have c4_0_1 : w4.cell? ⟨w.heap.size, 1, none⟩ = some (.string ⟨#[]⟩) := cell_of_row _ _ 1 _ _ (0, 0) b4_0.out
        have f4_0_1 : w4.frozen? ⟨w.heap.size, 1, none⟩ = false := block_free b4_0.out _
        have c4_0_2 : w4.cell? ⟨w.heap.size, 2, none⟩ = some (.string ⟨#[]⟩) := cell_of_row _ _ 2 _ _ (0, 0) b4_0.out
        have f4_0_2 : w4.frozen? ⟨w.heap.size, 2, none⟩ = false := block_free b4_0.out _
        have c4_0_3 : w4.cell? ⟨w.heap.size, 3, none⟩ = some (.int .i64 0) := cell_of_row _ _ 3 _ _ (0, 0) b4_0.out
        have f4_0_3 : w4.frozen? ⟨w.heap.size, 3, none⟩ = false := block_free b4_0.out _
        have c4_0_4 : w4.cell? ⟨w.heap.size, 4, none⟩ = some (.string ⟨#[]⟩) := cell_of_row _ _ 4 _ _ (0, 0) b4_0.out
        have f4_0_4 : w4.frozen? ⟨w.heap.size, 4, none⟩ = false := block_free b4_0.out _
        have l4_1 : g < w4.heap.size := (Array.getElem?_eq_some_iff.1 b4_1.out).1
        have c4_1_0 : w4.cell? ⟨g, 0, none⟩ = some (.int .i64 x) := cell_of_row _ _ 0 _ _ (0, 0) b4_1.out
        have f4_1_0 : w4.frozen? ⟨g, 0, none⟩ = false := block_free b4_1.out _
        have c4_1_1 : w4.cell? ⟨g, 1, none⟩ = some (.string s) := cell_of_row _ _ 1 _ _ (0, 0) b4_1.out
        have f4_1_1 : w4.frozen? ⟨g, 1, none⟩ = false := block_free b4_1.out _
        have c4_1_2 : w4.cell? ⟨g, 2, none⟩ = some (.string ⟨#[]⟩) := cell_of_row _ _ 2 _ _ (0, 0) b4_1.out
        have f4_1_2 : w4.frozen? ⟨g, 2, none⟩ = false := block_free b4_1.out _
        have c4_1_3 : w4.cell? ⟨g, 3, none⟩ = some (.int .i64 0) := cell_of_row _ _ 3 _ _ (0, 0) b4_1.out
        have f4_1_3 : w4.frozen? ⟨g, 3, none⟩ = false := block_free b4_1.out _
        have c4_1_4 : w4.cell? ⟨g, 4, none⟩ = some (.string ⟨#[]⟩) := cell_of_row _ _ 4 _ _ (0, 0) b4_1.out
        have f4_1_4 : w4.frozen? ⟨g, 4, none⟩ = false := block_free b4_1.out _
        go_wp2_with fail
        have hrr : ((World.setCell w4 ⟨g, 0, none⟩ (.int .i64 z))).heap[w.heap.size]? = some (.cells #[.int .i64 0, .string ⟨#[]⟩, .string ⟨#[]⟩, .int .i64 0, .string ⟨#[]⟩] 32 (0, 0)) := ((heap_far (by first | omega | (simp <;> omega))).trans b4_0.out)
        have hst := set_5 (x0 := .int .i64 z) (x1 := .string s) (x2 := .string ⟨#[]⟩) (x3 := .int .i64 0) (x4 := .string ⟨#[]⟩) hrr
        clear hrr
        have r0 := cell_of_row _ _ 0 _ _ (0, 0) hst
        have r1 := cell_of_row _ _ 1 _ _ (0, 0) hst
        have r2 := cell_of_row _ _ 2 _ _ (0, 0) hst
        have r3 := cell_of_row _ _ 3 _ _ (0, 0) hst
        have r4 := cell_of_row _ _ 4 _ _ (0, 0) hst
        clear hst
        exact bodyPost_ret (v := .agg #[.int .i64 z, .string s, .string ⟨#[]⟩, .int .i64 0, .string ⟨#[]⟩]) (by simp [results, Tryz.results57, go_sem, r0, r1, r2, r3, r4]) rfl (⟨_, _, _, _, _, _, rfl, by omega, by decide, by decide, by omega, (Rd.set h (Rd.set h (Rd.set h (Rd.set h (Rd.set h (Rd.set h R4.out (a := ⟨g, 0, none⟩) (by first | exact Nat.le_refl _ | (dsimp only; omega)) _) (a := ⟨w.heap.size, 0, none⟩) (by first | exact Nat.le_refl _ | (dsimp only; omega)) _) (a := ⟨w.heap.size, 1, none⟩) (by first | exact Nat.le_refl _ | (dsimp only; omega)) _) (a := ⟨w.heap.size, 2, none⟩) (by first | exact Nat.le_refl _ | (dsimp only; omega)) _) (a := ⟨w.heap.size, 3, none⟩) (by first | exact Nat.le_refl _ | (dsimp only; omega)) _) (a := ⟨w.heap.size, 4, none⟩) (by first | exact Nat.le_refl _ | (dsimp only; omega)) _), (Chg.setCell (p := ⟨w.heap.size, 4, none⟩) (Chg.setCell (p := ⟨w.heap.size, 3, none⟩) (Chg.setCell (p := ⟨w.heap.size, 2, none⟩) (Chg.setCell (p := ⟨w.heap.size, 1, none⟩) (Chg.setCell (p := ⟨w.heap.size, 0, none⟩) (Chg.setCell (p := ⟨g, 0, none⟩) X4.out (.inr (by first | exact Nat.le_refl _ | (dsimp only; omega))) _) (.inr (by first | exact Nat.le_refl _ | (dsimp only; omega))) _) (.inr (by first | exact Nat.le_refl _ | (dsimp only; omega))) _) (.inr (by first | exact Nat.le_refl _ | (dsimp only; omega))) _) (.inr (by first | exact Nat.le_refl _ | (dsimp only; omega))) _) (.inr (by first | exact Nat.le_refl _ | (dsimp only; omega))) _)⟩)
      · skip
        have u0 : ((v : Int) == 0) = false := by simp [hv]
        have u1 : ((v : Int) == 1) = true := by simp [hv]
        have u2 : ((v : Int) == 2) = false := by simp [hv]
        have u3 : ((v : Int) == 3) = false := by simp [hv]
        clear hv
        go_wp2_with fail
        refine (pick_any _ p A n c zs (k1 + 1) 3 (Rd.below R3.out bel1) (by omega) (by omega) (by omega)).mono ?_
        rintro e w4 ⟨v2, rfl, hv2, rd4, hc4, hz4⟩
        have hv2 := hv2 (by omega)
        clear hz4
        obtain ⟨z, hz⟩ := lit_int (r := v2) (litInts [-1, 193, 192]) hc4 rfl (by omega) (by simp; omega)
        have hv20 : (0 : Int) ≤ (v2 : Int) := by omega
        have hv21 : (v2 : Int) < 3 := by omega
        have zz4 : w3.heap.size + 1 ≤ w4.heap.size := by have := hc4.size; (try simp [World.setCell] at this); omega
        have X4 : Hid (Chg (· ∈ [p]) w w4) := Lib.hid ((Chg.alloc X3.out _).trans hc4)
        have b4_0 : Hid (w4.heap[w.heap.size]? = some (.cells #[.int .i64 0, .string ⟨#[]⟩, .string ⟨#[]⟩, .int .i64 0, .string ⟨#[]⟩] 32 (0, 0))) := Lib.hid ((hc4.block _ (by first | omega | (simp [World.setCell] <;> omega)) (by simp <;> omega)).trans ((Below.heap_alloc _ _ _ (by first | omega | (simp [World.setCell] <;> omega))).trans b3_0.out))
        have b4_1 : Hid (w4.heap[g]? = some (.cells #[.int .i64 x, .string s, .string ⟨#[]⟩, .int .i64 0, .string ⟨#[]⟩] 32 (0, 0))) := Lib.hid ((hc4.block _ (by first | omega | (simp [World.setCell] <;> omega)) (by simp <;> omega)).trans ((Below.heap_alloc _ _ _ (by first | omega | (simp [World.setCell] <;> omega))).trans b3_1.out))
        have R4 : Hid (Rd w4 p A n c zs (k1 + 1 + 1)) := Lib.hid rd4
        have pl4 : p < w4.heap.size := by omega
        clear b3_0 b3_1 X3 R3 pl3 l3_0 c3_0_0 f3_0_0 c3_0_1 f3_0_1 c3_0_2 f3_0_2 c3_0_3 f3_0_3 c3_0_4 f3_0_4 l3_1 c3_1_0 f3_1_0 c3_1_1 f3_1_1 c3_1_2 f3_1_2 c3_1_3 f3_1_3 c3_1_4 f3_1_4 hc4 rd4
        have l4_0 : w.heap.size < w4.heap.size := (Array.getElem?_eq_some_iff.1 b4_0.out).1
        have c4_0_0 : w4.cell? ⟨w.heap.size, 0, none⟩ = some (.int .i64 0) := cell_of_row _ _ 0 _ _ (0, 0) b4_0.out
        have f4_0_0 : w4.frozen? ⟨w.heap.size, 0, none⟩ = false := block_free b4_0.out _
        have c4_0_1 : w4.cell? ⟨w.heap.size, 1, none⟩ = some (.string ⟨#[]⟩) := cell_of_row _ _ 1 _ _ (0, 0) b4_0.out
        have f4_0_1 : w4.frozen? ⟨w.heap.size, 1, none⟩ = false := block_free b4_0.out _
        have c4_0_2 : w4.cell? ⟨w.heap.size, 2, none⟩ = some (.string ⟨#[]⟩) := cell_of_row _ _ 2 _ _ (0, 0) b4_0.out
        have f4_0_2 : w4.frozen? ⟨w.heap.size, 2, none⟩ = false := block_free b4_0.out _
        have c4_0_3 : w4.cell? ⟨w.heap.size, 3, none⟩ = some (.int .i64 0) := cell_of_row _ _ 3 _ _ (0, 0) b4_0.out
        have f4_0_3 : w4.frozen? ⟨w.heap.size, 3, none⟩ = false := block_free b4_0.out _
        have c4_0_4 : w4.cell? ⟨w.heap.size, 4, none⟩ = some (.string ⟨#[]⟩) := cell_of_row _ _ 4 _ _ (0, 0) b4_0.out
        have f4_0_4 : w4.frozen? ⟨w.heap.size, 4, none⟩ = false := block_free b4_0.out _
        have l4_1 : g < w4.heap.size := (Array.getElem?_eq_some_iff.1 b4_1.out).1
        have c4_1_0 : w4.cell? ⟨g, 0, none⟩ = some (.int .i64 x) := cell_of_row _ _ 0 _ _ (0, 0) b4_1.out
        have f4_1_0 : w4.frozen? ⟨g, 0, none⟩ = false := block_free b4_1.out _
        have c4_1_1 : w4.cell? ⟨g, 1, none⟩ = some (.string s) := cell_of_row _ _ 1 _ _ (0, 0) b4_1.out
        have f4_1_1 : w4.frozen? ⟨g, 1, none⟩ = false := block_free b4_1.out _
        have c4_1_2 : w4.cell? ⟨g, 2, none⟩ = some (.string ⟨#[]⟩) := cell_of_row _ _ 2 _ _ (0, 0) b4_1.out
        have f4_1_2 : w4.frozen? ⟨g, 2, none⟩ = false := block_free b4_1.out _
        have c4_1_3 : w4.cell? ⟨g, 3, none⟩ = some (.int .i64 0) := cell_of_row _ _ 3 _ _ (0, 0) b4_1.out
        have f4_1_3 : w4.frozen? ⟨g, 3, none⟩ = false := block_free b4_1.out _
        have c4_1_4 : w4.cell? ⟨g, 4, none⟩ = some (.string ⟨#[]⟩) := cell_of_row _ _ 4 _ _ (0, 0) b4_1.out
        have f4_1_4 : w4.frozen? ⟨g, 4, none⟩ = false := block_free b4_1.out _
        go_wp2_with fail
        have hrr : ((World.setCell w4 ⟨g, 3, none⟩ (.int .i64 z))).heap[w.heap.size]? = some (.cells #[.int .i64 0, .string ⟨#[]⟩, .string ⟨#[]⟩, .int .i64 0, .string ⟨#[]⟩] 32 (0, 0)) := ((heap_far (by first | omega | (simp <;> omega))).trans b4_0.out)
        have hst := set_5 (x0 := .int .i64 x) (x1 := .string s) (x2 := .string ⟨#[]⟩) (x3 := .int .i64 z) (x4 := .string ⟨#[]⟩) hrr
        clear hrr
        have r0 := cell_of_row _ _ 0 _ _ (0, 0) hst
        have r1 := cell_of_row _ _ 1 _ _ (0, 0) hst
        have r2 := cell_of_row _ _ 2 _ _ (0, 0) hst
        have r3 := cell_of_row _ _ 3 _ _ (0, 0) hst
        have r4 := cell_of_row _ _ 4 _ _ (0, 0) hst
        clear hst
        exact bodyPost_ret (v := .agg #[.int .i64 x, .string s, .string ⟨#[]⟩, .int .i64 z, .string ⟨#[]⟩]) (by simp [results, Tryz.results57, go_sem, r0, r1, r2, r3, r4]) rfl (⟨_, _, _, _, _, _, rfl, by omega, by decide, by decide, by omega, (Rd.set h (Rd.set h (Rd.set h (Rd.set h (Rd.set h (Rd.set h R4.out (a := ⟨g, 3, none⟩) (by first | exact Nat.le_refl _ | (dsimp only; omega)) _) (a := ⟨w.heap.size, 0, none⟩) (by first | exact Nat.le_refl _ | (dsimp only; omega)) _) (a := ⟨w.heap.size, 1, none⟩) (by first | exact Nat.le_refl _ | (dsimp only; omega)) _) (a := ⟨w.heap.size, 2, none⟩) (by first | exact Nat.le_refl _ | (dsimp only; omega)) _) (a := ⟨w.heap.size, 3, none⟩) (by first | exact Nat.le_refl _ | (dsimp only; omega)) _) (a := ⟨w.heap.size, 4, none⟩) (by first | exact Nat.le_refl _ | (dsimp only; omega)) _), (Chg.setCell (p := ⟨w.heap.size, 4, none⟩) (Chg.setCell (p := ⟨w.heap.size, 3, none⟩) (Chg.setCell (p := ⟨w.heap.size, 2, none⟩) (Chg.setCell (p := ⟨w.heap.size, 1, none⟩) (Chg.setCell (p := ⟨w.heap.size, 0, none⟩) (Chg.setCell (p := ⟨g, 3, none⟩) X4.out (.inr (by first | exact Nat.le_refl _ | (dsimp only; omega))) _) (.inr (by first | exact Nat.le_refl _ | (dsimp only; omega))) _) (.inr (by first | exact Nat.le_refl _ | (dsimp only; omega))) _) (.inr (by first | exact Nat.le_refl _ | (dsimp only; omega))) _) (.inr (by first | exact Nat.le_refl _ | (dsimp only; omega))) _) (.inr (by first | exact Nat.le_refl _ | (dsimp only; omega))) _)⟩)
      · skip
        have u0 : ((v : Int) == 0) = false := by simp [hv]
        have u1 : ((v : Int) == 1) = false := by simp [hv]
        have u2 : ((v : Int) == 2) = true := by simp [hv]
        have u3 : ((v : Int) == 3) = false := by simp [hv]
        clear hv
        go_wp2_with fail
        refine (pick_any _ p A n c zs (k1 + 1) 2 R3.out (by omega) (by omega) (by omega)).mono ?_
        rintro e w4 ⟨v2, rfl, hv2, rd4, hc4, hz4⟩
        have hv2 := hv2 (by omega)
        clear hz4
        have zz4 : w3.heap.size + 0 ≤ w4.heap.size := by have := hc4.size; (try simp [World.setCell] at this); omega
        have X4 : Hid (Chg (· ∈ [p]) w w4) := Lib.hid (X3.out.trans hc4)
        have b4_0 : Hid (w4.heap[w.heap.size]? = some (.cells #[.int .i64 0, .string ⟨#[]⟩, .string ⟨#[]⟩, .int .i64 0, .string ⟨#[]⟩] 32 (0, 0))) := Lib.hid ((hc4.block _ (by first | omega | (simp [World.setCell] <;> omega)) (by simp <;> omega)).trans b3_0.out)
        have b4_1 : Hid (w4.heap[g]? = some (.cells #[.int .i64 x, .string s, .string ⟨#[]⟩, .int .i64 0, .string ⟨#[]⟩] 32 (0, 0))) := Lib.hid ((hc4.block _ (by first | omega | (simp [World.setCell] <;> omega)) (by simp <;> omega)).trans b3_1.out)
        have R4 : Hid (Rd w4 p A n c zs (k1 + 1 + 1)) := Lib.hid rd4
        have pl4 : p < w4.heap.size := by omega
        clear b3_0 b3_1 X3 R3 pl3 l3_0 c3_0_0 f3_0_0 c3_0_1 f3_0_1 c3_0_2 f3_0_2 c3_0_3 f3_0_3 c3_0_4 f3_0_4 l3_1 c3_1_0 f3_1_0 c3_1_1 f3_1_1 c3_1_2 f3_1_2 c3_1_3 f3_1_3 c3_1_4 f3_1_4 hc4 rd4
        have l4_0 : w.heap.size < w4.heap.size := (Array.getElem?_eq_some_iff.1 b4_0.out).1
        have c4_0_0 : w4.cell? ⟨w.heap.size, 0, none⟩ = some (.int .i64 0) := cell_of_row _ _ 0 _ _ (0, 0) b4_0.out
        have f4_0_0 : w4.frozen? ⟨w.heap.size, 0, none⟩ = false := block_free b4_0.out _
        have c4_0_1 : w4.cell? ⟨w.heap.size, 1, none⟩ = some (.string ⟨#[]⟩) := cell_of_row _ _ 1 _ _ (0, 0) b4_0.out
        have f4_0_1 : w4.frozen? ⟨w.heap.size, 1, none⟩ = false := block_free b4_0.out _
        have c4_0_2 : w4.cell? ⟨w.heap.size, 2, none⟩ = some (.string ⟨#[]⟩) := cell_of_row _ _ 2 _ _ (0, 0) b4_0.out
        have f4_0_2 : w4.frozen? ⟨w.heap.size, 2, none⟩ = false := block_free b4_0.out _
        have c4_0_3 : w4.cell? ⟨w.heap.size, 3, none⟩ = some (.int .i64 0) := cell_of_row _ _ 3 _ _ (0, 0) b4_0.out
        have f4_0_3 : w4.frozen? ⟨w.heap.size, 3, none⟩ = false := block_free b4_0.out _
        have c4_0_4 : w4.cell? ⟨w.heap.size, 4, none⟩ = some (.string ⟨#[]⟩) := cell_of_row _ _ 4 _ _ (0, 0) b4_0.out
        have f4_0_4 : w4.frozen? ⟨w.heap.size, 4, none⟩ = false := block_free b4_0.out _
        have l4_1 : g < w4.heap.size := (Array.getElem?_eq_some_iff.1 b4_1.out).1
        have c4_1_0 : w4.cell? ⟨g, 0, none⟩ = some (.int .i64 x) := cell_of_row _ _ 0 _ _ (0, 0) b4_1.out
        have f4_1_0 : w4.frozen? ⟨g, 0, none⟩ = false := block_free b4_1.out _
        have c4_1_1 : w4.cell? ⟨g, 1, none⟩ = some (.string s) := cell_of_row _ _ 1 _ _ (0, 0) b4_1.out
        have f4_1_1 : w4.frozen? ⟨g, 1, none⟩ = false := block_free b4_1.out _
        have c4_1_2 : w4.cell? ⟨g, 2, none⟩ = some (.string ⟨#[]⟩) := cell_of_row _ _ 2 _ _ (0, 0) b4_1.out
        have f4_1_2 : w4.frozen? ⟨g, 2, none⟩ = false := block_free b4_1.out _
        have c4_1_3 : w4.cell? ⟨g, 3, none⟩ = some (.int .i64 0) := cell_of_row _ _ 3 _ _ (0, 0) b4_1.out
        have f4_1_3 : w4.frozen? ⟨g, 3, none⟩ = false := block_free b4_1.out _
        have c4_1_4 : w4.cell? ⟨g, 4, none⟩ = some (.string ⟨#[]⟩) := cell_of_row _ _ 4 _ _ (0, 0) b4_1.out
        have f4_1_4 : w4.frozen? ⟨g, 4, none⟩ = false := block_free b4_1.out _
        go_wp2_with fail
        refine (l6Many_u _ (24 + v2) _ (by omega) (by omega)).mono ?_
        rintro e wq ⟨z, rfl, hz, hwq⟩
        rw [hwq]; clear hwq
        have hz : z.size ≤ 100 := by omega
        go_wp2_with fail
        have hrr : ((World.setCell w4 ⟨g, 4, none⟩ (.string z))).heap[w.heap.size]? = some (.cells #[.int .i64 0, .string ⟨#[]⟩, .string ⟨#[]⟩, .int .i64 0, .string ⟨#[]⟩] 32 (0, 0)) := ((heap_far (by first | omega | (simp <;> omega))).trans b4_0.out)
        have hst := set_5 (x0 := .int .i64 x) (x1 := .string s) (x2 := .string ⟨#[]⟩) (x3 := .int .i64 0) (x4 := .string z) hrr
        clear hrr
        have r0 := cell_of_row _ _ 0 _ _ (0, 0) hst
        have r1 := cell_of_row _ _ 1 _ _ (0, 0) hst
        have r2 := cell_of_row _ _ 2 _ _ (0, 0) hst
        have r3 := cell_of_row _ _ 3 _ _ (0, 0) hst
        have r4 := cell_of_row _ _ 4 _ _ (0, 0) hst
        clear hst
        exact bodyPost_ret (v := .agg #[.int .i64 x, .string s, .string ⟨#[]⟩, .int .i64 0, .string z]) (by simp [results, Tryz.results57, go_sem, r0, r1, r2, r3, r4]) rfl (⟨_, _, _, _, _, _, rfl, by omega, by decide, by omega, by omega, (Rd.set h (Rd.set h (Rd.set h (Rd.set h (Rd.set h (Rd.set h R4.out (a := ⟨g, 4, none⟩) (by first | exact Nat.le_refl _ | (dsimp only; omega)) _) (a := ⟨w.heap.size, 0, none⟩) (by first | exact Nat.le_refl _ | (dsimp only; omega)) _) (a := ⟨w.heap.size, 1, none⟩) (by first | exact Nat.le_refl _ | (dsimp only; omega)) _) (a := ⟨w.heap.size, 2, none⟩) (by first | exact Nat.le_refl _ | (dsimp only; omega)) _) (a := ⟨w.heap.size, 3, none⟩) (by first | exact Nat.le_refl _ | (dsimp only; omega)) _) (a := ⟨w.heap.size, 4, none⟩) (by first | exact Nat.le_refl _ | (dsimp only; omega)) _), (Chg.setCell (p := ⟨w.heap.size, 4, none⟩) (Chg.setCell (p := ⟨w.heap.size, 3, none⟩) (Chg.setCell (p := ⟨w.heap.size, 2, none⟩) (Chg.setCell (p := ⟨w.heap.size, 1, none⟩) (Chg.setCell (p := ⟨w.heap.size, 0, none⟩) (Chg.setCell (p := ⟨g, 4, none⟩) X4.out (.inr (by first | exact Nat.le_refl _ | (dsimp only; omega))) _) (.inr (by first | exact Nat.le_refl _ | (dsimp only; omega))) _) (.inr (by first | exact Nat.le_refl _ | (dsimp only; omega))) _) (.inr (by first | exact Nat.le_refl _ | (dsimp only; omega))) _) (.inr (by first | exact Nat.le_refl _ | (dsimp only; omega))) _) (.inr (by first | exact Nat.le_refl _ | (dsimp only; omega))) _)⟩)
      · skip
        have u0 : ((v : Int) == 0) = false := by simp [hv]
        have u1 : ((v : Int) == 1) = false := by simp [hv]
        have u2 : ((v : Int) == 2) = false := by simp [hv]
        have u3 : ((v : Int) == 3) = true := by simp [hv]
        clear hv
        go_wp2_with fail
        refine (l92Path_any _ p A n c zs (k1 + 1) R3.out (by omega)).mono ?_
        rintro e w4 ⟨z, k4, rfl, hz, hk4, rd4, hc4⟩
        have zz4 : w3.heap.size + 0 ≤ w4.heap.size := by have := hc4.size; (try simp [World.setCell] at this); omega
        have X4 : Hid (Chg (· ∈ [p]) w w4) := Lib.hid (X3.out.trans hc4)
        have b4_0 : Hid (w4.heap[w.heap.size]? = some (.cells #[.int .i64 0, .string ⟨#[]⟩, .string ⟨#[]⟩, .int .i64 0, .string ⟨#[]⟩] 32 (0, 0))) := Lib.hid ((hc4.block _ (by first | omega | (simp [World.setCell] <;> omega)) (by simp <;> omega)).trans b3_0.out)
        have b4_1 : Hid (w4.heap[g]? = some (.cells #[.int .i64 x, .string s, .string ⟨#[]⟩, .int .i64 0, .string ⟨#[]⟩] 32 (0, 0))) := Lib.hid ((hc4.block _ (by first | omega | (simp [World.setCell] <;> omega)) (by simp <;> omega)).trans b3_1.out)
        have R4 : Hid (Rd w4 p A n c zs (k4)) := Lib.hid rd4
        have pl4 : p < w4.heap.size := by omega
        clear b3_0 b3_1 X3 R3 pl3 l3_0 c3_0_0 f3_0_0 c3_0_1 f3_0_1 c3_0_2 f3_0_2 c3_0_3 f3_0_3 c3_0_4 f3_0_4 l3_1 c3_1_0 f3_1_0 c3_1_1 f3_1_1 c3_1_2 f3_1_2 c3_1_3 f3_1_3 c3_1_4 f3_1_4 hc4 rd4
        have l4_0 : w.heap.size < w4.heap.size := (Array.getElem?_eq_some_iff.1 b4_0.out).1
        have c4_0_0 : w4.cell? ⟨w.heap.size, 0, none⟩ = some (.int .i64 0) := cell_of_row _ _ 0 _ _ (0, 0) b4_0.out
        have f4_0_0 : w4.frozen? ⟨w.heap.size, 0, none⟩ = false := block_free b4_0.out _
        have c4_0_1 : w4.cell? ⟨w.heap.size, 1, none⟩ = some (.string ⟨#[]⟩) := cell_of_row _ _ 1 _ _ (0, 0) b4_0.out
        have f4_0_1 : w4.frozen? ⟨w.heap.size, 1, none⟩ = false := block_free b4_0.out _
        have c4_0_2 : w4.cell? ⟨w.heap.size, 2, none⟩ = some (.string ⟨#[]⟩) := cell_of_row _ _ 2 _ _ (0, 0) b4_0.out
        have f4_0_2 : w4.frozen? ⟨w.heap.size, 2, none⟩ = false := block_free b4_0.out _
        have c4_0_3 : w4.cell? ⟨w.heap.size, 3, none⟩ = some (.int .i64 0) := cell_of_row _ _ 3 _ _ (0, 0) b4_0.out
        have f4_0_3 : w4.frozen? ⟨w.heap.size, 3, none⟩ = false := block_free b4_0.out _
        have c4_0_4 : w4.cell? ⟨w.heap.size, 4, none⟩ = some (.string ⟨#[]⟩) := cell_of_row _ _ 4 _ _ (0, 0) b4_0.out
        have f4_0_4 : w4.frozen? ⟨w.heap.size, 4, none⟩ = false := block_free b4_0.out _
        have l4_1 : g < w4.heap.size := (Array.getElem?_eq_some_iff.1 b4_1.out).1
        have c4_1_0 : w4.cell? ⟨g, 0, none⟩ = some (.int .i64 x) := cell_of_row _ _ 0 _ _ (0, 0) b4_1.out
        have f4_1_0 : w4.frozen? ⟨g, 0, none⟩ = false := block_free b4_1.out _
        have c4_1_1 : w4.cell? ⟨g, 1, none⟩ = some (.string s) := cell_of_row _ _ 1 _ _ (0, 0) b4_1.out
        have f4_1_1 : w4.frozen? ⟨g, 1, none⟩ = false := block_free b4_1.out _
        have c4_1_2 : w4.cell? ⟨g, 2, none⟩ = some (.string ⟨#[]⟩) := cell_of_row _ _ 2 _ _ (0, 0) b4_1.out
        have f4_1_2 : w4.frozen? ⟨g, 2, none⟩ = false := block_free b4_1.out _
        have c4_1_3 : w4.cell? ⟨g, 3, none⟩ = some (.int .i64 0) := cell_of_row _ _ 3 _ _ (0, 0) b4_1.out
        have f4_1_3 : w4.frozen? ⟨g, 3, none⟩ = false := block_free b4_1.out _
        have c4_1_4 : w4.cell? ⟨g, 4, none⟩ = some (.string ⟨#[]⟩) := cell_of_row _ _ 4 _ _ (0, 0) b4_1.out
        have f4_1_4 : w4.frozen? ⟨g, 4, none⟩ = false := block_free b4_1.out _
        go_wp2_with fail
        have hrr : ((World.setCell w4 ⟨g, 2, none⟩ (.string z))).heap[w.heap.size]? = some (.cells #[.int .i64 0, .string ⟨#[]⟩, .string ⟨#[]⟩, .int .i64 0, .string ⟨#[]⟩] 32 (0, 0)) := ((heap_far (by first | omega | (simp <;> omega))).trans b4_0.out)
        have hst := set_5 (x0 := .int .i64 x) (x1 := .string s) (x2 := .string z) (x3 := .int .i64 0) (x4 := .string ⟨#[]⟩) hrr
        clear hrr
        have r0 := cell_of_row _ _ 0 _ _ (0, 0) hst
        have r1 := cell_of_row _ _ 1 _ _ (0, 0) hst
        have r2 := cell_of_row _ _ 2 _ _ (0, 0) hst
        have r3 := cell_of_row _ _ 3 _ _ (0, 0) hst
        have r4 := cell_of_row _ _ 4 _ _ (0, 0) hst
        clear hst
        exact bodyPost_ret (v := .agg #[.int .i64 x, .string s, .string z, .int .i64 0, .string ⟨#[]⟩]) (by simp [results, Tryz.results57, go_sem, r0, r1, r2, r3, r4]) rfl (⟨_, _, _, _, _, _, rfl, by omega, by omega, by decide, by omega, (Rd.set h (Rd.set h (Rd.set h (Rd.set h (Rd.set h (Rd.set h R4.out (a := ⟨g, 2, none⟩) (by first | exact Nat.le_refl _ | (dsimp only; omega)) _) (a := ⟨w.heap.size, 0, none⟩) (by first | exact Nat.le_refl _ | (dsimp only; omega)) _) (a := ⟨w.heap.size, 1, none⟩) (by first | exact Nat.le_refl _ | (dsimp only; omega)) _) (a := ⟨w.heap.size, 2, none⟩) (by first | exact Nat.le_refl _ | (dsimp only; omega)) _) (a := ⟨w.heap.size, 3, none⟩) (by first | exact Nat.le_refl _ | (dsimp only; omega)) _) (a := ⟨w.heap.size, 4, none⟩) (by first | exact Nat.le_refl _ | (dsimp only; omega)) _), (Chg.setCell (p := ⟨w.heap.size, 4, none⟩) (Chg.setCell (p := ⟨w.heap.size, 3, none⟩) (Chg.setCell (p := ⟨w.heap.size, 2, none⟩) (Chg.setCell (p := ⟨w.heap.size, 1, none⟩) (Chg.setCell (p := ⟨w.heap.size, 0, none⟩) (Chg.setCell (p := ⟨g, 2, none⟩) X4.out (.inr (by first | exact Nat.le_refl _ | (dsimp only; omega))) _) (.inr (by first | exact Nat.le_refl _ | (dsimp only; omega))) _) (.inr (by first | exact Nat.le_refl _ | (dsimp only; omega))) _) (.inr (by first | exact Nat.le_refl _ | (dsimp only; omega))) _) (.inr (by first | exact Nat.le_refl _ | (dsimp only; omega))) _) (.inr (by first | exact Nat.le_refl _ | (dsimp only; omega))) _)⟩)
      · skip
        have u0 : ((v : Int) == 0) = false := by simp; omega
        have u1 : ((v : Int) == 1) = false := by simp; omega
        have u2 : ((v : Int) == 2) = false := by simp; omega
        have u3 : ((v : Int) == 3) = false := by simp; omega
        clear hv0 hv1 hv2 hv3
        go_wp2_with fail
        have hrr : (w3).heap[w.heap.size]? = some (.cells #[.int .i64 0, .string ⟨#[]⟩, .string ⟨#[]⟩, .int .i64 0, .string ⟨#[]⟩] 32 (0, 0)) := b3_0.out
        have hst := set_5 (x0 := .int .i64 x) (x1 := .string s) (x2 := .string ⟨#[]⟩) (x3 := .int .i64 0) (x4 := .string ⟨#[]⟩) hrr
        clear hrr
        have r0 := cell_of_row _ _ 0 _ _ (0, 0) hst
        have r1 := cell_of_row _ _ 1 _ _ (0, 0) hst
        have r2 := cell_of_row _ _ 2 _ _ (0, 0) hst
        have r3 := cell_of_row _ _ 3 _ _ (0, 0) hst
        have r4 := cell_of_row _ _ 4 _ _ (0, 0) hst
        clear hst
        exact bodyPost_ret (v := .agg #[.int .i64 x, .string s, .string ⟨#[]⟩, .int .i64 0, .string ⟨#[]⟩]) (by simp [results, Tryz.results57, go_sem, r0, r1, r2, r3, r4]) rfl (⟨_, _, _, _, _, _, rfl, by omega, by decide, by decide, by omega, (Rd.set h (Rd.set h (Rd.set h (Rd.set h (Rd.set h R3.out (a := ⟨w.heap.size, 0, none⟩) (by first | exact Nat.le_refl _ | (dsimp only; omega)) _) (a := ⟨w.heap.size, 1, none⟩) (by first | exact Nat.le_refl _ | (dsimp only; omega)) _) (a := ⟨w.heap.size, 2, none⟩) (by first | exact Nat.le_refl _ | (dsimp only; omega)) _) (a := ⟨w.heap.size, 3, none⟩) (by first | exact Nat.le_refl _ | (dsimp only; omega)) _) (a := ⟨w.heap.size, 4, none⟩) (by first | exact Nat.le_refl _ | (dsimp only; omega)) _), (Chg.setCell (p := ⟨w.heap.size, 4, none⟩) (Chg.setCell (p := ⟨w.heap.size, 3, none⟩) (Chg.setCell (p := ⟨w.heap.size, 2, none⟩) (Chg.setCell (p := ⟨w.heap.size, 1, none⟩) (Chg.setCell (p := ⟨w.heap.size, 0, none⟩) X3.out (.inr (by first | exact Nat.le_refl _ | (dsimp only; omega))) _) (.inr (by first | exact Nat.le_refl _ | (dsimp only; omega))) _) (.inr (by first | exact Nat.le_refl _ | (dsimp only; omega))) _) (.inr (by first | exact Nat.le_refl _ | (dsimp only; omega))) _) (.inr (by first | exact Nat.le_refl _ | (dsimp only; omega))) _)⟩)
end
section
open Go.RowKit
set_option linter.unusedVariables false
set_option linter.unusedSimpArgs false
theorem setI_8 {w : World} {r T : Nat} {v0 v1 v2 v3 v4 v5 v6 v7 x0 x1 x2 x3 x4 x5 x6 x7 : Value} (h : w.heap[r]? = some (.cells #[v0, v1, v2, v3, v4, v5, v6, v7] T (0, 0))) :
    ((((((((w.setCell ⟨r, 0, none⟩ x0).setCell ⟨r, 1, none⟩ x1).setCell ⟨r, 2, none⟩ x2).setCell ⟨r, 3, none⟩ x3).setCell ⟨r, 4, none⟩ x4).setCell ⟨r, 5, none⟩ x5).setCell ⟨r, 6, none⟩ x6).setCell ⟨r, 7, none⟩ x7).heap[r]? = some (.cells #[x0, x1, x2, x3, x4, x5, x6, x7] T (0, 0)) := by
  have h1 : (w.setCell ⟨r, 0, none⟩ x0).heap[r]? = some (.cells #[x0, v1, v2, v3, v4, v5, v6, v7] T (0, 0)) := block_set (o := 0) (v := x0) h
  have h2 : ((w.setCell ⟨r, 0, none⟩ x0).setCell ⟨r, 1, none⟩ x1).heap[r]? = some (.cells #[x0, x1, v2, v3, v4, v5, v6, v7] T (0, 0)) := block_set (o := 1) (v := x1) h1
  have h3 : (((w.setCell ⟨r, 0, none⟩ x0).setCell ⟨r, 1, none⟩ x1).setCell ⟨r, 2, none⟩ x2).heap[r]? = some (.cells #[x0, x1, x2, v3, v4, v5, v6, v7] T (0, 0)) := block_set (o := 2) (v := x2) h2
  have h4 : ((((w.setCell ⟨r, 0, none⟩ x0).setCell ⟨r, 1, none⟩ x1).setCell ⟨r, 2, none⟩ x2).setCell ⟨r, 3, none⟩ x3).heap[r]? = some (.cells #[x0, x1, x2, x3, v4, v5, v6, v7] T (0, 0)) := block_set (o := 3) (v := x3) h3
  have h5 : (((((w.setCell ⟨r, 0, none⟩ x0).setCell ⟨r, 1, none⟩ x1).setCell ⟨r, 2, none⟩ x2).setCell ⟨r, 3, none⟩ x3).setCell ⟨r, 4, none⟩ x4).heap[r]? = some (.cells #[x0, x1, x2, x3, x4, v5, v6, v7] T (0, 0)) := block_set (o := 4) (v := x4) h4
  have h6 : ((((((w.setCell ⟨r, 0, none⟩ x0).setCell ⟨r, 1, none⟩ x1).setCell ⟨r, 2, none⟩ x2).setCell ⟨r, 3, none⟩ x3).setCell ⟨r, 4, none⟩ x4).setCell ⟨r, 5, none⟩ x5).heap[r]? = some (.cells #[x0, x1, x2, x3, x4, x5, v6, v7] T (0, 0)) := block_set (o := 5) (v := x5) h5
  have h7 : (((((((w.setCell ⟨r, 0, none⟩ x0).setCell ⟨r, 1, none⟩ x1).setCell ⟨r, 2, none⟩ x2).setCell ⟨r, 3, none⟩ x3).setCell ⟨r, 4, none⟩ x4).setCell ⟨r, 5, none⟩ x5).setCell ⟨r, 6, none⟩ x6).heap[r]? = some (.cells #[x0, x1, x2, x3, x4, x5, x6, v7] T (0, 0)) := block_set (o := 6) (v := x6) h6
  have h8 : ((((((((w.setCell ⟨r, 0, none⟩ x0).setCell ⟨r, 1, none⟩ x1).setCell ⟨r, 2, none⟩ x2).setCell ⟨r, 3, none⟩ x3).setCell ⟨r, 4, none⟩ x4).setCell ⟨r, 5, none⟩ x5).setCell ⟨r, 6, none⟩ x6).setCell ⟨r, 7, none⟩ x7).heap[r]? = some (.cells #[x0, x1, x2, x3, x4, x5, x6, x7] T (0, 0)) := block_set (o := 7) (v := x7) h7
  exact h8
/-- A drawn intent. -/
def PickedInt (w : World) (p : Nat) (A : Option Addr) (n c : Nat) (zs : List Int) (k : Nat) (e : Ending) (w' : World) : Prop :=
  ∃ (g q : Int) (h : ByteArray) (x : Int) (s t : ByteArray) (a : Int) (u : ByteArray) (k' : Nat), e = .returned (.agg #[.int .i64 g, .int .i64 q, .string h, .int .i64 x, .string s, .string t, .int .i64 a, .string u]) ∧ h.size ≤ 100 ∧ s.size ≤ 100 ∧ t.size ≤ 100 ∧ u.size ≤ 100 ∧ k' ≤ k + 1500 ∧ Rd w' p A n c zs k' ∧ Chg (· ∈ [p]) w w'
set_option maxRecDepth 100000 in
set_option maxHeartbeats 8000000 in
theorem l93Intent_any (w : World) (p : Nat) (A : Option Addr) (n c : Nat) (zs : List Int) (k : Nat) (h : Rd w p A n c zs k) (hk : k ≤ 700000) :
    Calls Tryz.prog 34 #[.pointer (some ⟨p, 0, none⟩)] w (PickedInt w p A n c zs k) := by
  have hp0 := h.2.2.2.1
  go_enter Tryz.func34, Tryz.ntmps34
  go_wp2_with fail
  refine (pick_any _ p A n c zs (k) 5 (Rd.below h bel1) (by omega) (by omega) (by omega)).mono ?_
  rintro e w1 ⟨v1, rfl, hv1, rd1, hc1, hz1⟩
  have hv1 := hv1 (by omega)
  clear hz1
  have zz1 : w.heap.size + 1 ≤ w1.heap.size := by have := hc1.size; (try simp [World.setCell] at this); omega
  have X1 : Hid (Chg (· ∈ [p]) w w1) := Lib.hid ((Chg.alloc (Chg.refl _ _) _).trans hc1)
  have b1_0 : Hid (w1.heap[w.heap.size]? = some (.cells #[.int .i64 0, .int .i64 0, .string ⟨#[]⟩, .int .i64 0, .string ⟨#[]⟩, .string ⟨#[]⟩, .int .i64 0, .string ⟨#[]⟩] 34 (0, 0))) := Lib.hid ((hc1.block _ (by first | omega | (simp [World.setCell] <;> omega)) (by simp <;> omega)).trans (show _ from by have := heap_alloc_new w (.cells #[.int .i64 0, .int .i64 0, .string ⟨#[]⟩, .int .i64 0, .string ⟨#[]⟩, .string ⟨#[]⟩, .int .i64 0, .string ⟨#[]⟩] 34); simpa [World.setCell] using this))
  have R1 : Hid (Rd w1 p A n c zs (k + 1)) := Lib.hid rd1
  have pl1 : p < w1.heap.size := by omega
  clear hc1 rd1
  have l1_0 : w.heap.size < w1.heap.size := (Array.getElem?_eq_some_iff.1 b1_0.out).1
  have c1_0_0 : w1.cell? ⟨w.heap.size, 0, none⟩ = some (.int .i64 0) := cell_of_row _ _ 0 _ _ (0, 0) b1_0.out
  have f1_0_0 : w1.frozen? ⟨w.heap.size, 0, none⟩ = false := block_free b1_0.out _
  have c1_0_1 : w1.cell? ⟨w.heap.size, 1, none⟩ = some (.int .i64 0) := cell_of_row _ _ 1 _ _ (0, 0) b1_0.out
  have f1_0_1 : w1.frozen? ⟨w.heap.size, 1, none⟩ = false := block_free b1_0.out _
  have c1_0_2 : w1.cell? ⟨w.heap.size, 2, none⟩ = some (.string ⟨#[]⟩) := cell_of_row _ _ 2 _ _ (0, 0) b1_0.out
  have f1_0_2 : w1.frozen? ⟨w.heap.size, 2, none⟩ = false := block_free b1_0.out _
  have c1_0_3 : w1.cell? ⟨w.heap.size, 3, none⟩ = some (.int .i64 0) := cell_of_row _ _ 3 _ _ (0, 0) b1_0.out
  have f1_0_3 : w1.frozen? ⟨w.heap.size, 3, none⟩ = false := block_free b1_0.out _
  have c1_0_4 : w1.cell? ⟨w.heap.size, 4, none⟩ = some (.string ⟨#[]⟩) := cell_of_row _ _ 4 _ _ (0, 0) b1_0.out
  have f1_0_4 : w1.frozen? ⟨w.heap.size, 4, none⟩ = false := block_free b1_0.out _
  have c1_0_5 : w1.cell? ⟨w.heap.size, 5, none⟩ = some (.string ⟨#[]⟩) := cell_of_row _ _ 5 _ _ (0, 0) b1_0.out
  have f1_0_5 : w1.frozen? ⟨w.heap.size, 5, none⟩ = false := block_free b1_0.out _
  have c1_0_6 : w1.cell? ⟨w.heap.size, 6, none⟩ = some (.int .i64 0) := cell_of_row _ _ 6 _ _ (0, 0) b1_0.out
  have f1_0_6 : w1.frozen? ⟨w.heap.size, 6, none⟩ = false := block_free b1_0.out _
  have c1_0_7 : w1.cell? ⟨w.heap.size, 7, none⟩ = some (.string ⟨#[]⟩) := cell_of_row _ _ 7 _ _ (0, 0) b1_0.out
  have f1_0_7 : w1.frozen? ⟨w.heap.size, 7, none⟩ = false := block_free b1_0.out _
  go_wp2_with fail
  refine (pick_any _ p A n c zs (k + 1) 4 R1.out (by omega) (by omega) (by omega)).mono ?_
  rintro e w2 ⟨v2, rfl, hv2, rd2, hc2, hz2⟩
  have hv2 := hv2 (by omega)
  clear hz2
  have zz2 : w1.heap.size + 0 ≤ w2.heap.size := by have := hc2.size; (try simp [World.setCell] at this); omega
  have X2 : Hid (Chg (· ∈ [p]) w w2) := Lib.hid (X1.out.trans hc2)
  have b2_0 : Hid (w2.heap[w.heap.size]? = some (.cells #[.int .i64 0, .int .i64 0, .string ⟨#[]⟩, .int .i64 0, .string ⟨#[]⟩, .string ⟨#[]⟩, .int .i64 0, .string ⟨#[]⟩] 34 (0, 0))) := Lib.hid ((hc2.block _ (by first | omega | (simp [World.setCell] <;> omega)) (by simp <;> omega)).trans b1_0.out)
  have R2 : Hid (Rd w2 p A n c zs (k + 1 + 1)) := Lib.hid rd2
  have pl2 : p < w2.heap.size := by omega
  clear b1_0 X1 R1 pl1 l1_0 c1_0_0 f1_0_0 c1_0_1 f1_0_1 c1_0_2 f1_0_2 c1_0_3 f1_0_3 c1_0_4 f1_0_4 c1_0_5 f1_0_5 c1_0_6 f1_0_6 c1_0_7 f1_0_7 hc2 rd2
  have l2_0 : w.heap.size < w2.heap.size := (Array.getElem?_eq_some_iff.1 b2_0.out).1
  have c2_0_0 : w2.cell? ⟨w.heap.size, 0, none⟩ = some (.int .i64 0) := cell_of_row _ _ 0 _ _ (0, 0) b2_0.out
  have f2_0_0 : w2.frozen? ⟨w.heap.size, 0, none⟩ = false := block_free b2_0.out _
  have c2_0_1 : w2.cell? ⟨w.heap.size, 1, none⟩ = some (.int .i64 0) := cell_of_row _ _ 1 _ _ (0, 0) b2_0.out
  have f2_0_1 : w2.frozen? ⟨w.heap.size, 1, none⟩ = false := block_free b2_0.out _
  have c2_0_2 : w2.cell? ⟨w.heap.size, 2, none⟩ = some (.string ⟨#[]⟩) := cell_of_row _ _ 2 _ _ (0, 0) b2_0.out
  have f2_0_2 : w2.frozen? ⟨w.heap.size, 2, none⟩ = false := block_free b2_0.out _
  have c2_0_3 : w2.cell? ⟨w.heap.size, 3, none⟩ = some (.int .i64 0) := cell_of_row _ _ 3 _ _ (0, 0) b2_0.out
  have f2_0_3 : w2.frozen? ⟨w.heap.size, 3, none⟩ = false := block_free b2_0.out _
  have c2_0_4 : w2.cell? ⟨w.heap.size, 4, none⟩ = some (.string ⟨#[]⟩) := cell_of_row _ _ 4 _ _ (0, 0) b2_0.out
  have f2_0_4 : w2.frozen? ⟨w.heap.size, 4, none⟩ = false := block_free b2_0.out _
  have c2_0_5 : w2.cell? ⟨w.heap.size, 5, none⟩ = some (.string ⟨#[]⟩) := cell_of_row _ _ 5 _ _ (0, 0) b2_0.out
  have f2_0_5 : w2.frozen? ⟨w.heap.size, 5, none⟩ = false := block_free b2_0.out _
  have c2_0_6 : w2.cell? ⟨w.heap.size, 6, none⟩ = some (.int .i64 0) := cell_of_row _ _ 6 _ _ (0, 0) b2_0.out
  have f2_0_6 : w2.frozen? ⟨w.heap.size, 6, none⟩ = false := block_free b2_0.out _
  have c2_0_7 : w2.cell? ⟨w.heap.size, 7, none⟩ = some (.string ⟨#[]⟩) := cell_of_row _ _ 7 _ _ (0, 0) b2_0.out
  have f2_0_7 : w2.frozen? ⟨w.heap.size, 7, none⟩ = false := block_free b2_0.out _
  go_wp2_with fail
  refine (l93Head_any _ p A n c zs (k + 1 + 1) R2.out (by omega)).mono ?_
  rintro e w3 ⟨hd, k3, rfl, hhd, hk3, rd3, hc3⟩
  have zz3 : w2.heap.size + 0 ≤ w3.heap.size := by have := hc3.size; (try simp [World.setCell] at this); omega
  have X3 : Hid (Chg (· ∈ [p]) w w3) := Lib.hid (X2.out.trans hc3)
  have b3_0 : Hid (w3.heap[w.heap.size]? = some (.cells #[.int .i64 0, .int .i64 0, .string ⟨#[]⟩, .int .i64 0, .string ⟨#[]⟩, .string ⟨#[]⟩, .int .i64 0, .string ⟨#[]⟩] 34 (0, 0))) := Lib.hid ((hc3.block _ (by first | omega | (simp [World.setCell] <;> omega)) (by simp <;> omega)).trans b2_0.out)
  have R3 : Hid (Rd w3 p A n c zs (k3)) := Lib.hid rd3
  have pl3 : p < w3.heap.size := by omega
  clear b2_0 X2 R2 pl2 l2_0 c2_0_0 f2_0_0 c2_0_1 f2_0_1 c2_0_2 f2_0_2 c2_0_3 f2_0_3 c2_0_4 f2_0_4 c2_0_5 f2_0_5 c2_0_6 f2_0_6 c2_0_7 f2_0_7 hc3 rd3
  have l3_0 : w.heap.size < w3.heap.size := (Array.getElem?_eq_some_iff.1 b3_0.out).1
  have c3_0_0 : w3.cell? ⟨w.heap.size, 0, none⟩ = some (.int .i64 0) := cell_of_row _ _ 0 _ _ (0, 0) b3_0.out
  have f3_0_0 : w3.frozen? ⟨w.heap.size, 0, none⟩ = false := block_free b3_0.out _
  have c3_0_1 : w3.cell? ⟨w.heap.size, 1, none⟩ = some (.int .i64 0) := cell_of_row _ _ 1 _ _ (0, 0) b3_0.out
  have f3_0_1 : w3.frozen? ⟨w.heap.size, 1, none⟩ = false := block_free b3_0.out _
  have c3_0_2 : w3.cell? ⟨w.heap.size, 2, none⟩ = some (.string ⟨#[]⟩) := cell_of_row _ _ 2 _ _ (0, 0) b3_0.out
  have f3_0_2 : w3.frozen? ⟨w.heap.size, 2, none⟩ = false := block_free b3_0.out _
  have c3_0_3 : w3.cell? ⟨w.heap.size, 3, none⟩ = some (.int .i64 0) := cell_of_row _ _ 3 _ _ (0, 0) b3_0.out
  have f3_0_3 : w3.frozen? ⟨w.heap.size, 3, none⟩ = false := block_free b3_0.out _
  have c3_0_4 : w3.cell? ⟨w.heap.size, 4, none⟩ = some (.string ⟨#[]⟩) := cell_of_row _ _ 4 _ _ (0, 0) b3_0.out
  have f3_0_4 : w3.frozen? ⟨w.heap.size, 4, none⟩ = false := block_free b3_0.out _
  have c3_0_5 : w3.cell? ⟨w.heap.size, 5, none⟩ = some (.string ⟨#[]⟩) := cell_of_row _ _ 5 _ _ (0, 0) b3_0.out
  have f3_0_5 : w3.frozen? ⟨w.heap.size, 5, none⟩ = false := block_free b3_0.out _
  have c3_0_6 : w3.cell? ⟨w.heap.size, 6, none⟩ = some (.int .i64 0) := cell_of_row _ _ 6 _ _ (0, 0) b3_0.out
  have f3_0_6 : w3.frozen? ⟨w.heap.size, 6, none⟩ = false := block_free b3_0.out _
  have c3_0_7 : w3.cell? ⟨w.heap.size, 7, none⟩ = some (.string ⟨#[]⟩) := cell_of_row _ _ 7 _ _ (0, 0) b3_0.out
  have f3_0_7 : w3.frozen? ⟨w.heap.size, 7, none⟩ = false := block_free b3_0.out _
  go_wp2_with fail
  refine (l92Op_any _ p A n c zs (k3) R3.out (by omega)).mono ?_
  rintro e w4 ⟨x, s, t, a, u, k4, rfl, hs, ht, hu, hk4, rd4, hc4⟩
  have zz4 : w3.heap.size + 0 ≤ w4.heap.size := by have := hc4.size; (try simp [World.setCell] at this); omega
  have X4 : Hid (Chg (· ∈ [p]) w w4) := Lib.hid (X3.out.trans hc4)
  have b4_0 : Hid (w4.heap[w.heap.size]? = some (.cells #[.int .i64 0, .int .i64 0, .string ⟨#[]⟩, .int .i64 0, .string ⟨#[]⟩, .string ⟨#[]⟩, .int .i64 0, .string ⟨#[]⟩] 34 (0, 0))) := Lib.hid ((hc4.block _ (by first | omega | (simp [World.setCell] <;> omega)) (by simp <;> omega)).trans b3_0.out)
  have R4 : Hid (Rd w4 p A n c zs (k4)) := Lib.hid rd4
  have pl4 : p < w4.heap.size := by omega
  clear b3_0 X3 R3 pl3 l3_0 c3_0_0 f3_0_0 c3_0_1 f3_0_1 c3_0_2 f3_0_2 c3_0_3 f3_0_3 c3_0_4 f3_0_4 c3_0_5 f3_0_5 c3_0_6 f3_0_6 c3_0_7 f3_0_7 hc4 rd4
  have l4_0 : w.heap.size < w4.heap.size := (Array.getElem?_eq_some_iff.1 b4_0.out).1
  have c4_0_0 : w4.cell? ⟨w.heap.size, 0, none⟩ = some (.int .i64 0) := cell_of_row _ _ 0 _ _ (0, 0) b4_0.out
  have f4_0_0 : w4.frozen? ⟨w.heap.size, 0, none⟩ = false := block_free b4_0.out _
  have c4_0_1 : w4.cell? ⟨w.heap.size, 1, none⟩ = some (.int .i64 0) := cell_of_row _ _ 1 _ _ (0, 0) b4_0.out
  have f4_0_1 : w4.frozen? ⟨w.heap.size, 1, none⟩ = false := block_free b4_0.out _
  have c4_0_2 : w4.cell? ⟨w.heap.size, 2, none⟩ = some (.string ⟨#[]⟩) := cell_of_row _ _ 2 _ _ (0, 0) b4_0.out
  have f4_0_2 : w4.frozen? ⟨w.heap.size, 2, none⟩ = false := block_free b4_0.out _
  have c4_0_3 : w4.cell? ⟨w.heap.size, 3, none⟩ = some (.int .i64 0) := cell_of_row _ _ 3 _ _ (0, 0) b4_0.out
  have f4_0_3 : w4.frozen? ⟨w.heap.size, 3, none⟩ = false := block_free b4_0.out _
  have c4_0_4 : w4.cell? ⟨w.heap.size, 4, none⟩ = some (.string ⟨#[]⟩) := cell_of_row _ _ 4 _ _ (0, 0) b4_0.out
  have f4_0_4 : w4.frozen? ⟨w.heap.size, 4, none⟩ = false := block_free b4_0.out _
  have c4_0_5 : w4.cell? ⟨w.heap.size, 5, none⟩ = some (.string ⟨#[]⟩) := cell_of_row _ _ 5 _ _ (0, 0) b4_0.out
  have f4_0_5 : w4.frozen? ⟨w.heap.size, 5, none⟩ = false := block_free b4_0.out _
  have c4_0_6 : w4.cell? ⟨w.heap.size, 6, none⟩ = some (.int .i64 0) := cell_of_row _ _ 6 _ _ (0, 0) b4_0.out
  have f4_0_6 : w4.frozen? ⟨w.heap.size, 6, none⟩ = false := block_free b4_0.out _
  have c4_0_7 : w4.cell? ⟨w.heap.size, 7, none⟩ = some (.string ⟨#[]⟩) := cell_of_row _ _ 7 _ _ (0, 0) b4_0.out
  have f4_0_7 : w4.frozen? ⟨w.heap.size, 7, none⟩ = false := block_free b4_0.out _
  go_wp2_with fail
  refine (pick_any _ p A n c zs (k4) 16 (Rd.below R4.out bel1) (by omega) (by omega) (by omega)).mono ?_
  rintro e w5 ⟨v3, rfl, hv3, rd5, hc5, hz5⟩
  have hv3 := hv3 (by omega)
  clear hz5
  have zz5 : w4.heap.size + 1 ≤ w5.heap.size := by have := hc5.size; (try simp [World.setCell] at this); omega
  have X5 : Hid (Chg (· ∈ [p]) w w5) := Lib.hid ((Chg.alloc X4.out _).trans hc5)
  have b5_0 : Hid (w5.heap[w.heap.size]? = some (.cells #[.int .i64 0, .int .i64 0, .string ⟨#[]⟩, .int .i64 0, .string ⟨#[]⟩, .string ⟨#[]⟩, .int .i64 0, .string ⟨#[]⟩] 34 (0, 0))) := Lib.hid ((hc5.block _ (by first | omega | (simp [World.setCell] <;> omega)) (by simp <;> omega)).trans ((Below.heap_alloc _ _ _ (by first | omega | (simp [World.setCell] <;> omega))).trans b4_0.out))
  have b5_1 : Hid (w5.heap[w4.heap.size]? = some (.cells #[.int .i64 (1 + (v1 : Int)), .int .i64 (1 + (v2 : Int)), .string hd, .int .i64 x, .string s, .string t, .int .i64 a, .string u] 34 (0, 0))) := Lib.hid ((hc5.block _ (by first | omega | (simp [World.setCell] <;> omega)) (by simp <;> omega)).trans (show _ from by have := heap_alloc_new w4 (.cells #[.int .i64 (1 + (v1 : Int)), .int .i64 (1 + (v2 : Int)), .string hd, .int .i64 x, .string s, .string t, .int .i64 a, .string u] 34); simpa [World.setCell] using this))
  have R5 : Hid (Rd w5 p A n c zs (k4 + 1)) := Lib.hid rd5
  have pl5 : p < w5.heap.size := by omega
  clear b4_0 X4 R4 pl4 l4_0 c4_0_0 f4_0_0 c4_0_1 f4_0_1 c4_0_2 f4_0_2 c4_0_3 f4_0_3 c4_0_4 f4_0_4 c4_0_5 f4_0_5 c4_0_6 f4_0_6 c4_0_7 f4_0_7 hc5 rd5
  have l5_0 : w.heap.size < w5.heap.size := (Array.getElem?_eq_some_iff.1 b5_0.out).1
  have c5_0_0 : w5.cell? ⟨w.heap.size, 0, none⟩ = some (.int .i64 0) := cell_of_row _ _ 0 _ _ (0, 0) b5_0.out
  have f5_0_0 : w5.frozen? ⟨w.heap.size, 0, none⟩ = false := block_free b5_0.out _
  have c5_0_1 : w5.cell? ⟨w.heap.size, 1, none⟩ = some (.int .i64 0) := cell_of_row _ _ 1 _ _ (0, 0) b5_0.out
  have f5_0_1 : w5.frozen? ⟨w.heap.size, 1, none⟩ = false := block_free b5_0.out _
  have c5_0_2 : w5.cell? ⟨w.heap.size, 2, none⟩ = some (.string ⟨#[]⟩) := cell_of_row _ _ 2 _ _ (0, 0) b5_0.out
  have f5_0_2 : w5.frozen? ⟨w.heap.size, 2, none⟩ = false := block_free b5_0.out _
  have c5_0_3 : w5.cell? ⟨w.heap.size, 3, none⟩ = some (.int .i64 0) := cell_of_row _ _ 3 _ _ (0, 0) b5_0.out
  have f5_0_3 : w5.frozen? ⟨w.heap.size, 3, none⟩ = false := block_free b5_0.out _
  have c5_0_4 : w5.cell? ⟨w.heap.size, 4, none⟩ = some (.string ⟨#[]⟩) := cell_of_row _ _ 4 _ _ (0, 0) b5_0.out
  have f5_0_4 : w5.frozen? ⟨w.heap.size, 4, none⟩ = false := block_free b5_0.out _
  have c5_0_5 : w5.cell? ⟨w.heap.size, 5, none⟩ = some (.string ⟨#[]⟩) := cell_of_row _ _ 5 _ _ (0, 0) b5_0.out
  have f5_0_5 : w5.frozen? ⟨w.heap.size, 5, none⟩ = false := block_free b5_0.out _
  have c5_0_6 : w5.cell? ⟨w.heap.size, 6, none⟩ = some (.int .i64 0) := cell_of_row _ _ 6 _ _ (0, 0) b5_0.out
  have f5_0_6 : w5.frozen? ⟨w.heap.size, 6, none⟩ = false := block_free b5_0.out _
  have c5_0_7 : w5.cell? ⟨w.heap.size, 7, none⟩ = some (.string ⟨#[]⟩) := cell_of_row _ _ 7 _ _ (0, 0) b5_0.out
  have f5_0_7 : w5.frozen? ⟨w.heap.size, 7, none⟩ = false := block_free b5_0.out _
  have l5_1 : w4.heap.size < w5.heap.size := (Array.getElem?_eq_some_iff.1 b5_1.out).1
  have c5_1_0 : w5.cell? ⟨w4.heap.size, 0, none⟩ = some (.int .i64 (1 + (v1 : Int))) := cell_of_row _ _ 0 _ _ (0, 0) b5_1.out
  have f5_1_0 : w5.frozen? ⟨w4.heap.size, 0, none⟩ = false := block_free b5_1.out _
  have c5_1_1 : w5.cell? ⟨w4.heap.size, 1, none⟩ = some (.int .i64 (1 + (v2 : Int))) := cell_of_row _ _ 1 _ _ (0, 0) b5_1.out
  have f5_1_1 : w5.frozen? ⟨w4.heap.size, 1, none⟩ = false := block_free b5_1.out _
  have c5_1_2 : w5.cell? ⟨w4.heap.size, 2, none⟩ = some (.string hd) := cell_of_row _ _ 2 _ _ (0, 0) b5_1.out
  have f5_1_2 : w5.frozen? ⟨w4.heap.size, 2, none⟩ = false := block_free b5_1.out _
  have c5_1_3 : w5.cell? ⟨w4.heap.size, 3, none⟩ = some (.int .i64 x) := cell_of_row _ _ 3 _ _ (0, 0) b5_1.out
  have f5_1_3 : w5.frozen? ⟨w4.heap.size, 3, none⟩ = false := block_free b5_1.out _
  have c5_1_4 : w5.cell? ⟨w4.heap.size, 4, none⟩ = some (.string s) := cell_of_row _ _ 4 _ _ (0, 0) b5_1.out
  have f5_1_4 : w5.frozen? ⟨w4.heap.size, 4, none⟩ = false := block_free b5_1.out _
  have c5_1_5 : w5.cell? ⟨w4.heap.size, 5, none⟩ = some (.string t) := cell_of_row _ _ 5 _ _ (0, 0) b5_1.out
  have f5_1_5 : w5.frozen? ⟨w4.heap.size, 5, none⟩ = false := block_free b5_1.out _
  have c5_1_6 : w5.cell? ⟨w4.heap.size, 6, none⟩ = some (.int .i64 a) := cell_of_row _ _ 6 _ _ (0, 0) b5_1.out
  have f5_1_6 : w5.frozen? ⟨w4.heap.size, 6, none⟩ = false := block_free b5_1.out _
  have c5_1_7 : w5.cell? ⟨w4.heap.size, 7, none⟩ = some (.string u) := cell_of_row _ _ 7 _ _ (0, 0) b5_1.out
  have f5_1_7 : w5.frozen? ⟨w4.heap.size, 7, none⟩ = false := block_free b5_1.out _
  have hv4 : v3 = 0 ∨ v3 = 1 ∨ (v3 ≠ 0 ∧ v3 ≠ 1) := by omega
  clear hv3
  rcases hv4 with hv | hv | ⟨hv0, hv1⟩
  · skip
    have u0 : ((v3 : Int) == 0) = true := by simp [hv]
    have u1 : ((v3 : Int) == 1) = false := by simp [hv]
    clear hv
    go_wp2_with fail
    refine (pick_any _ p A n c zs (k4 + 1) 3 (Rd.below R5.out bel1) (by omega) (by omega) (by omega)).mono ?_
    rintro e w6 ⟨v5, rfl, hv5, rd6, hc6, hz6⟩
    have hv5 := hv5 (by omega)
    clear hz6
    obtain ⟨z, hz⟩ := lit_int (r := v5) (litInts [0, 900, 901]) hc6 rfl (by omega) (by simp; omega)
    have hv50 : (0 : Int) ≤ (v5 : Int) := by omega
    have hv51 : (v5 : Int) < 3 := by omega
    have zz6 : w5.heap.size + 1 ≤ w6.heap.size := by have := hc6.size; (try simp [World.setCell] at this); omega
    have X6 : Hid (Chg (· ∈ [p]) w w6) := Lib.hid ((Chg.alloc X5.out _).trans hc6)
    have b6_0 : Hid (w6.heap[w.heap.size]? = some (.cells #[.int .i64 0, .int .i64 0, .string ⟨#[]⟩, .int .i64 0, .string ⟨#[]⟩, .string ⟨#[]⟩, .int .i64 0, .string ⟨#[]⟩] 34 (0, 0))) := Lib.hid ((hc6.block _ (by first | omega | (simp [World.setCell] <;> omega)) (by simp <;> omega)).trans ((Below.heap_alloc _ _ _ (by first | omega | (simp [World.setCell] <;> omega))).trans b5_0.out))
    have b6_1 : Hid (w6.heap[w4.heap.size]? = some (.cells #[.int .i64 (1 + (v1 : Int)), .int .i64 (1 + (v2 : Int)), .string hd, .int .i64 x, .string s, .string t, .int .i64 a, .string u] 34 (0, 0))) := Lib.hid ((hc6.block _ (by first | omega | (simp [World.setCell] <;> omega)) (by simp <;> omega)).trans ((Below.heap_alloc _ _ _ (by first | omega | (simp [World.setCell] <;> omega))).trans b5_1.out))
    have R6 : Hid (Rd w6 p A n c zs (k4 + 1 + 1)) := Lib.hid rd6
    have pl6 : p < w6.heap.size := by omega
    clear b5_0 b5_1 X5 R5 pl5 l5_0 c5_0_0 f5_0_0 c5_0_1 f5_0_1 c5_0_2 f5_0_2 c5_0_3 f5_0_3 c5_0_4 f5_0_4 c5_0_5 f5_0_5 c5_0_6 f5_0_6 c5_0_7 f5_0_7 l5_1 c5_1_0 f5_1_0 c5_1_1 f5_1_1 c5_1_2 f5_1_2 c5_1_3 f5_1_3 c5_1_4 f5_1_4 c5_1_5 f5_1_5 c5_1_6 f5_1_6 c5_1_7 f5_1_7 hc6 rd6
    have l6_0 : w.heap.size < w6.heap.size := (Array.getElem?_eq_some_iff.1 b6_0.out).1
    have c6_0_0 : w6.cell? ⟨w.heap.size, 0, none⟩ = some (.int .i64 0) := cell_of_row _ _ 0 _ _ (0, 0) b6_0.out
    have f6_0_0 : w6.frozen? ⟨w.heap.size, 0, none⟩ = false := block_free b6_0.out _
    have c6_0_1 : w6.cell? ⟨w.heap.size, 1, none⟩ = some (.int .i64 0) := cell_of_row _ _ 1 _ _ (0, 0) b6_0.out
    have f6_0_1 : w6.frozen? ⟨w.heap.size, 1, none⟩ = false := block_free b6_0.out _
    have c6_0_2 : w6.cell? ⟨w.heap.size, 2, none⟩ = some (.string ⟨#[]⟩) := cell_of_row _ _ 2 _ _ (0, 0) b6_0.out
    have f6_0_2 : w6.frozen? ⟨w.heap.size, 2, none⟩ = false := block_free b6_0.out _
    have c6_0_3 : w6.cell? ⟨w.heap.size, 3, none⟩ = some (.int .i64 0) := cell_of_row _ _ 3 _ _ (0, 0) b6_0.out
    have f6_0_3 : w6.frozen? ⟨w.heap.size, 3, none⟩ = false := block_free b6_0.out _
    have c6_0_4 : w6.cell? ⟨w.heap.size, 4, none⟩ = some (.string ⟨#[]⟩) := cell_of_row _ _ 4 _ _ (0, 0) b6_0.out
    have f6_0_4 : w6.frozen? ⟨w.heap.size, 4, none⟩ = false := block_free b6_0.out _
    have c6_0_5 : w6.cell? ⟨w.heap.size, 5, none⟩ = some (.string ⟨#[]⟩) := cell_of_row _ _ 5 _ _ (0, 0) b6_0.out
    have f6_0_5 : w6.frozen? ⟨w.heap.size, 5, none⟩ = false := block_free b6_0.out _
    have c6_0_6 : w6.cell? ⟨w.heap.size, 6, none⟩ = some (.int .i64 0) := cell_of_row _ _ 6 _ _ (0, 0) b6_0.out
    have f6_0_6 : w6.frozen? ⟨w.heap.size, 6, none⟩ = false := block_free b6_0.out _
    have c6_0_7 : w6.cell? ⟨w.heap.size, 7, none⟩ = some (.string ⟨#[]⟩) := cell_of_row _ _ 7 _ _ (0, 0) b6_0.out
    have f6_0_7 : w6.frozen? ⟨w.heap.size, 7, none⟩ = false := block_free b6_0.out _
    have l6_1 : w4.heap.size < w6.heap.size := (Array.getElem?_eq_some_iff.1 b6_1.out).1
    have c6_1_0 : w6.cell? ⟨w4.heap.size, 0, none⟩ = some (.int .i64 (1 + (v1 : Int))) := cell_of_row _ _ 0 _ _ (0, 0) b6_1.out
    have f6_1_0 : w6.frozen? ⟨w4.heap.size, 0, none⟩ = false := block_free b6_1.out _
    have c6_1_1 : w6.cell? ⟨w4.heap.size, 1, none⟩ = some (.int .i64 (1 + (v2 : Int))) := cell_of_row _ _ 1 _ _ (0, 0) b6_1.out
    have f6_1_1 : w6.frozen? ⟨w4.heap.size, 1, none⟩ = false := block_free b6_1.out _
    have c6_1_2 : w6.cell? ⟨w4.heap.size, 2, none⟩ = some (.string hd) := cell_of_row _ _ 2 _ _ (0, 0) b6_1.out
    have f6_1_2 : w6.frozen? ⟨w4.heap.size, 2, none⟩ = false := block_free b6_1.out _
    have c6_1_3 : w6.cell? ⟨w4.heap.size, 3, none⟩ = some (.int .i64 x) := cell_of_row _ _ 3 _ _ (0, 0) b6_1.out
    have f6_1_3 : w6.frozen? ⟨w4.heap.size, 3, none⟩ = false := block_free b6_1.out _
    have c6_1_4 : w6.cell? ⟨w4.heap.size, 4, none⟩ = some (.string s) := cell_of_row _ _ 4 _ _ (0, 0) b6_1.out
    have f6_1_4 : w6.frozen? ⟨w4.heap.size, 4, none⟩ = false := block_free b6_1.out _
    have c6_1_5 : w6.cell? ⟨w4.heap.size, 5, none⟩ = some (.string t) := cell_of_row _ _ 5 _ _ (0, 0) b6_1.out
    have f6_1_5 : w6.frozen? ⟨w4.heap.size, 5, none⟩ = false := block_free b6_1.out _
    have c6_1_6 : w6.cell? ⟨w4.heap.size, 6, none⟩ = some (.int .i64 a) := cell_of_row _ _ 6 _ _ (0, 0) b6_1.out
    have f6_1_6 : w6.frozen? ⟨w4.heap.size, 6, none⟩ = false := block_free b6_1.out _
    have c6_1_7 : w6.cell? ⟨w4.heap.size, 7, none⟩ = some (.string u) := cell_of_row _ _ 7 _ _ (0, 0) b6_1.out
    have f6_1_7 : w6.frozen? ⟨w4.heap.size, 7, none⟩ = false := block_free b6_1.out _
    go_wp2_with fail
    have hrr : ((World.setCell w6 ⟨w4.heap.size, 0, none⟩ (.int .i64 z))).heap[w.heap.size]? = some (.cells #[.int .i64 0, .int .i64 0, .string ⟨#[]⟩, .int .i64 0, .string ⟨#[]⟩, .string ⟨#[]⟩, .int .i64 0, .string ⟨#[]⟩] 34 (0, 0)) := ((heap_far (by first | omega | (simp <;> omega))).trans b6_0.out)
    have hst := setI_8 (x0 := .int .i64 z) (x1 := .int .i64 (1 + (v2 : Int))) (x2 := .string hd) (x3 := .int .i64 x) (x4 := .string s) (x5 := .string t) (x6 := .int .i64 a) (x7 := .string u) hrr
    clear hrr
    have r0 := cell_of_row _ _ 0 _ _ (0, 0) hst
    have r1 := cell_of_row _ _ 1 _ _ (0, 0) hst
    have r2 := cell_of_row _ _ 2 _ _ (0, 0) hst
    have r3 := cell_of_row _ _ 3 _ _ (0, 0) hst
    have r4 := cell_of_row _ _ 4 _ _ (0, 0) hst
    have r5 := cell_of_row _ _ 5 _ _ (0, 0) hst
    have r6 := cell_of_row _ _ 6 _ _ (0, 0) hst
    have r7 := cell_of_row _ _ 7 _ _ (0, 0) hst
    clear hst
    exact bodyPost_ret (v := .agg #[.int .i64 z, .int .i64 (1 + (v2 : Int)), .string hd, .int .i64 x, .string s, .string t, .int .i64 a, .string u]) (by simp [results, Tryz.results34, go_sem, r0, r1, r2, r3, r4, r5, r6, r7]) rfl (⟨_, _, _, _, _, _, _, _, _, rfl, by omega, by omega, by omega, by omega, by omega, (Rd.set h (Rd.set h (Rd.set h (Rd.set h (Rd.set h (Rd.set h (Rd.set h (Rd.set h (Rd.set h R6.out (a := ⟨w4.heap.size, 0, none⟩) (by first | exact Nat.le_refl _ | (dsimp only; omega)) _) (a := ⟨w.heap.size, 0, none⟩) (by first | exact Nat.le_refl _ | (dsimp only; omega)) _) (a := ⟨w.heap.size, 1, none⟩) (by first | exact Nat.le_refl _ | (dsimp only; omega)) _) (a := ⟨w.heap.size, 2, none⟩) (by first | exact Nat.le_refl _ | (dsimp only; omega)) _) (a := ⟨w.heap.size, 3, none⟩) (by first | exact Nat.le_refl _ | (dsimp only; omega)) _) (a := ⟨w.heap.size, 4, none⟩) (by first | exact Nat.le_refl _ | (dsimp only; omega)) _) (a := ⟨w.heap.size, 5, none⟩) (by first | exact Nat.le_refl _ | (dsimp only; omega)) _) (a := ⟨w.heap.size, 6, none⟩) (by first | exact Nat.le_refl _ | (dsimp only; omega)) _) (a := ⟨w.heap.size, 7, none⟩) (by first | exact Nat.le_refl _ | (dsimp only; omega)) _), (Chg.setCell (p := ⟨w.heap.size, 7, none⟩) (Chg.setCell (p := ⟨w.heap.size, 6, none⟩) (Chg.setCell (p := ⟨w.heap.size, 5, none⟩) (Chg.setCell (p := ⟨w.heap.size, 4, none⟩) (Chg.setCell (p := ⟨w.heap.size, 3, none⟩) (Chg.setCell (p := ⟨w.heap.size, 2, none⟩) (Chg.setCell (p := ⟨w.heap.size, 1, none⟩) (Chg.setCell (p := ⟨w.heap.size, 0, none⟩) (Chg.setCell (p := ⟨w4.heap.size, 0, none⟩) X6.out (.inr (by first | exact Nat.le_refl _ | (dsimp only; omega))) _) (.inr (by first | exact Nat.le_refl _ | (dsimp only; omega))) _) (.inr (by first | exact Nat.le_refl _ | (dsimp only; omega))) _) (.inr (by first | exact Nat.le_refl _ | (dsimp only; omega))) _) (.inr (by first | exact Nat.le_refl _ | (dsimp only; omega))) _) (.inr (by first | exact Nat.le_refl _ | (dsimp only; omega))) _) (.inr (by first | exact Nat.le_refl _ | (dsimp only; omega))) _) (.inr (by first | exact Nat.le_refl _ | (dsimp only; omega))) _) (.inr (by first | exact Nat.le_refl _ | (dsimp only; omega))) _)⟩)
  · skip
    have u0 : ((v3 : Int) == 0) = false := by simp [hv]
    have u1 : ((v3 : Int) == 1) = true := by simp [hv]
    clear hv
    go_wp2_with fail
    refine (pick_any _ p A n c zs (k4 + 1) 2 (Rd.below R5.out bel1) (by omega) (by omega) (by omega)).mono ?_
    rintro e w6 ⟨v5, rfl, hv5, rd6, hc6, hz6⟩
    have hv5 := hv5 (by omega)
    clear hz6
    obtain ⟨z, hz⟩ := lit_int (r := v5) (litInts [0, 5]) hc6 rfl (by omega) (by simp; omega)
    have hv50 : (0 : Int) ≤ (v5 : Int) := by omega
    have hv51 : (v5 : Int) < 2 := by omega
    have zz6 : w5.heap.size + 1 ≤ w6.heap.size := by have := hc6.size; (try simp [World.setCell] at this); omega
    have X6 : Hid (Chg (· ∈ [p]) w w6) := Lib.hid ((Chg.alloc X5.out _).trans hc6)
    have b6_0 : Hid (w6.heap[w.heap.size]? = some (.cells #[.int .i64 0, .int .i64 0, .string ⟨#[]⟩, .int .i64 0, .string ⟨#[]⟩, .string ⟨#[]⟩, .int .i64 0, .string ⟨#[]⟩] 34 (0, 0))) := Lib.hid ((hc6.block _ (by first | omega | (simp [World.setCell] <;> omega)) (by simp <;> omega)).trans ((Below.heap_alloc _ _ _ (by first | omega | (simp [World.setCell] <;> omega))).trans b5_0.out))
    have b6_1 : Hid (w6.heap[w4.heap.size]? = some (.cells #[.int .i64 (1 + (v1 : Int)), .int .i64 (1 + (v2 : Int)), .string hd, .int .i64 x, .string s, .string t, .int .i64 a, .string u] 34 (0, 0))) := Lib.hid ((hc6.block _ (by first | omega | (simp [World.setCell] <;> omega)) (by simp <;> omega)).trans ((Below.heap_alloc _ _ _ (by first | omega | (simp [World.setCell] <;> omega))).trans b5_1.out))
    have R6 : Hid (Rd w6 p A n c zs (k4 + 1 + 1)) := Lib.hid rd6
    have pl6 : p < w6.heap.size := by omega
    clear b5_0 b5_1 X5 R5 pl5 l5_0 c5_0_0 f5_0_0 c5_0_1 f5_0_1 c5_0_2 f5_0_2 c5_0_3 f5_0_3 c5_0_4 f5_0_4 c5_0_5 f5_0_5 c5_0_6 f5_0_6 c5_0_7 f5_0_7 l5_1 c5_1_0 f5_1_0 c5_1_1 f5_1_1 c5_1_2 f5_1_2 c5_1_3 f5_1_3 c5_1_4 f5_1_4 c5_1_5 f5_1_5 c5_1_6 f5_1_6 c5_1_7 f5_1_7 hc6 rd6
    have l6_0 : w.heap.size < w6.heap.size := (Array.getElem?_eq_some_iff.1 b6_0.out).1
    have c6_0_0 : w6.cell? ⟨w.heap.size, 0, none⟩ = some (.int .i64 0) := cell_of_row _ _ 0 _ _ (0, 0) b6_0.out
    have f6_0_0 : w6.frozen? ⟨w.heap.size, 0, none⟩ = false := block_free b6_0.out _
    have c6_0_1 : w6.cell? ⟨w.heap.size, 1, none⟩ = some (.int .i64 0) := cell_of_row _ _ 1 _ _ (0, 0) b6_0.out
    have f6_0_1 : w6.frozen? ⟨w.heap.size, 1, none⟩ = false := block_free b6_0.out _
    have c6_0_2 : w6.cell? ⟨w.heap.size, 2, none⟩ = some (.string ⟨#[]⟩) := cell_of_row _ _ 2 _ _ (0, 0) b6_0.out
    have f6_0_2 : w6.frozen? ⟨w.heap.size, 2, none⟩ = false := block_free b6_0.out _
    have c6_0_3 : w6.cell? ⟨w.heap.size, 3, none⟩ = some (.int .i64 0) := cell_of_row _ _ 3 _ _ (0, 0) b6_0.out
    have f6_0_3 : w6.frozen? ⟨w.heap.size, 3, none⟩ = false := block_free b6_0.out _
    have c6_0_4 : w6.cell? ⟨w.heap.size, 4, none⟩ = some (.string ⟨#[]⟩) := cell_of_row _ _ 4 _ _ (0, 0) b6_0.out
    have f6_0_4 : w6.frozen? ⟨w.heap.size, 4, none⟩ = false := block_free b6_0.out _
    have c6_0_5 : w6.cell? ⟨w.heap.size, 5, none⟩ = some (.string ⟨#[]⟩) := cell_of_row _ _ 5 _ _ (0, 0) b6_0.out
    have f6_0_5 : w6.frozen? ⟨w.heap.size, 5, none⟩ = false := block_free b6_0.out _
    have c6_0_6 : w6.cell? ⟨w.heap.size, 6, none⟩ = some (.int .i64 0) := cell_of_row _ _ 6 _ _ (0, 0) b6_0.out
    have f6_0_6 : w6.frozen? ⟨w.heap.size, 6, none⟩ = false := block_free b6_0.out _
    have c6_0_7 : w6.cell? ⟨w.heap.size, 7, none⟩ = some (.string ⟨#[]⟩) := cell_of_row _ _ 7 _ _ (0, 0) b6_0.out
    have f6_0_7 : w6.frozen? ⟨w.heap.size, 7, none⟩ = false := block_free b6_0.out _
    have l6_1 : w4.heap.size < w6.heap.size := (Array.getElem?_eq_some_iff.1 b6_1.out).1
    have c6_1_0 : w6.cell? ⟨w4.heap.size, 0, none⟩ = some (.int .i64 (1 + (v1 : Int))) := cell_of_row _ _ 0 _ _ (0, 0) b6_1.out
    have f6_1_0 : w6.frozen? ⟨w4.heap.size, 0, none⟩ = false := block_free b6_1.out _
    have c6_1_1 : w6.cell? ⟨w4.heap.size, 1, none⟩ = some (.int .i64 (1 + (v2 : Int))) := cell_of_row _ _ 1 _ _ (0, 0) b6_1.out
    have f6_1_1 : w6.frozen? ⟨w4.heap.size, 1, none⟩ = false := block_free b6_1.out _
    have c6_1_2 : w6.cell? ⟨w4.heap.size, 2, none⟩ = some (.string hd) := cell_of_row _ _ 2 _ _ (0, 0) b6_1.out
    have f6_1_2 : w6.frozen? ⟨w4.heap.size, 2, none⟩ = false := block_free b6_1.out _
    have c6_1_3 : w6.cell? ⟨w4.heap.size, 3, none⟩ = some (.int .i64 x) := cell_of_row _ _ 3 _ _ (0, 0) b6_1.out
    have f6_1_3 : w6.frozen? ⟨w4.heap.size, 3, none⟩ = false := block_free b6_1.out _
    have c6_1_4 : w6.cell? ⟨w4.heap.size, 4, none⟩ = some (.string s) := cell_of_row _ _ 4 _ _ (0, 0) b6_1.out
    have f6_1_4 : w6.frozen? ⟨w4.heap.size, 4, none⟩ = false := block_free b6_1.out _
    have c6_1_5 : w6.cell? ⟨w4.heap.size, 5, none⟩ = some (.string t) := cell_of_row _ _ 5 _ _ (0, 0) b6_1.out
    have f6_1_5 : w6.frozen? ⟨w4.heap.size, 5, none⟩ = false := block_free b6_1.out _
    have c6_1_6 : w6.cell? ⟨w4.heap.size, 6, none⟩ = some (.int .i64 a) := cell_of_row _ _ 6 _ _ (0, 0) b6_1.out
    have f6_1_6 : w6.frozen? ⟨w4.heap.size, 6, none⟩ = false := block_free b6_1.out _
    have c6_1_7 : w6.cell? ⟨w4.heap.size, 7, none⟩ = some (.string u) := cell_of_row _ _ 7 _ _ (0, 0) b6_1.out
    have f6_1_7 : w6.frozen? ⟨w4.heap.size, 7, none⟩ = false := block_free b6_1.out _
    go_wp2_with fail
    have hrr : ((World.setCell w6 ⟨w4.heap.size, 1, none⟩ (.int .i64 z))).heap[w.heap.size]? = some (.cells #[.int .i64 0, .int .i64 0, .string ⟨#[]⟩, .int .i64 0, .string ⟨#[]⟩, .string ⟨#[]⟩, .int .i64 0, .string ⟨#[]⟩] 34 (0, 0)) := ((heap_far (by first | omega | (simp <;> omega))).trans b6_0.out)
    have hst := setI_8 (x0 := .int .i64 (1 + (v1 : Int))) (x1 := .int .i64 z) (x2 := .string hd) (x3 := .int .i64 x) (x4 := .string s) (x5 := .string t) (x6 := .int .i64 a) (x7 := .string u) hrr
    clear hrr
    have r0 := cell_of_row _ _ 0 _ _ (0, 0) hst
    have r1 := cell_of_row _ _ 1 _ _ (0, 0) hst
    have r2 := cell_of_row _ _ 2 _ _ (0, 0) hst
    have r3 := cell_of_row _ _ 3 _ _ (0, 0) hst
    have r4 := cell_of_row _ _ 4 _ _ (0, 0) hst
    have r5 := cell_of_row _ _ 5 _ _ (0, 0) hst
    have r6 := cell_of_row _ _ 6 _ _ (0, 0) hst
    have r7 := cell_of_row _ _ 7 _ _ (0, 0) hst
    clear hst
    exact bodyPost_ret (v := .agg #[.int .i64 (1 + (v1 : Int)), .int .i64 z, .string hd, .int .i64 x, .string s, .string t, .int .i64 a, .string u]) (by simp [results, Tryz.results34, go_sem, r0, r1, r2, r3, r4, r5, r6, r7]) rfl (⟨_, _, _, _, _, _, _, _, _, rfl, by omega, by omega, by omega, by omega, by omega, (Rd.set h (Rd.set h (Rd.set h (Rd.set h (Rd.set h (Rd.set h (Rd.set h (Rd.set h (Rd.set h R6.out (a := ⟨w4.heap.size, 1, none⟩) (by first | exact Nat.le_refl _ | (dsimp only; omega)) _) (a := ⟨w.heap.size, 0, none⟩) (by first | exact Nat.le_refl _ | (dsimp only; omega)) _) (a := ⟨w.heap.size, 1, none⟩) (by first | exact Nat.le_refl _ | (dsimp only; omega)) _) (a := ⟨w.heap.size, 2, none⟩) (by first | exact Nat.le_refl _ | (dsimp only; omega)) _) (a := ⟨w.heap.size, 3, none⟩) (by first | exact Nat.le_refl _ | (dsimp only; omega)) _) (a := ⟨w.heap.size, 4, none⟩) (by first | exact Nat.le_refl _ | (dsimp only; omega)) _) (a := ⟨w.heap.size, 5, none⟩) (by first | exact Nat.le_refl _ | (dsimp only; omega)) _) (a := ⟨w.heap.size, 6, none⟩) (by first | exact Nat.le_refl _ | (dsimp only; omega)) _) (a := ⟨w.heap.size, 7, none⟩) (by first | exact Nat.le_refl _ | (dsimp only; omega)) _), (Chg.setCell (p := ⟨w.heap.size, 7, none⟩) (Chg.setCell (p := ⟨w.heap.size, 6, none⟩) (Chg.setCell (p := ⟨w.heap.size, 5, none⟩) (Chg.setCell (p := ⟨w.heap.size, 4, none⟩) (Chg.setCell (p := ⟨w.heap.size, 3, none⟩) (Chg.setCell (p := ⟨w.heap.size, 2, none⟩) (Chg.setCell (p := ⟨w.heap.size, 1, none⟩) (Chg.setCell (p := ⟨w.heap.size, 0, none⟩) (Chg.setCell (p := ⟨w4.heap.size, 1, none⟩) X6.out (.inr (by first | exact Nat.le_refl _ | (dsimp only; omega))) _) (.inr (by first | exact Nat.le_refl _ | (dsimp only; omega))) _) (.inr (by first | exact Nat.le_refl _ | (dsimp only; omega))) _) (.inr (by first | exact Nat.le_refl _ | (dsimp only; omega))) _) (.inr (by first | exact Nat.le_refl _ | (dsimp only; omega))) _) (.inr (by first | exact Nat.le_refl _ | (dsimp only; omega))) _) (.inr (by first | exact Nat.le_refl _ | (dsimp only; omega))) _) (.inr (by first | exact Nat.le_refl _ | (dsimp only; omega))) _) (.inr (by first | exact Nat.le_refl _ | (dsimp only; omega))) _)⟩)
  · skip
    have u0 : ((v3 : Int) == 0) = false := by simp; omega
    have u1 : ((v3 : Int) == 1) = false := by simp; omega
    clear hv0 hv1
    go_wp2_with fail
    have hrr : (w5).heap[w.heap.size]? = some (.cells #[.int .i64 0, .int .i64 0, .string ⟨#[]⟩, .int .i64 0, .string ⟨#[]⟩, .string ⟨#[]⟩, .int .i64 0, .string ⟨#[]⟩] 34 (0, 0)) := b5_0.out
    have hst := setI_8 (x0 := .int .i64 (1 + (v1 : Int))) (x1 := .int .i64 (1 + (v2 : Int))) (x2 := .string hd) (x3 := .int .i64 x) (x4 := .string s) (x5 := .string t) (x6 := .int .i64 a) (x7 := .string u) hrr
    clear hrr
    have r0 := cell_of_row _ _ 0 _ _ (0, 0) hst
    have r1 := cell_of_row _ _ 1 _ _ (0, 0) hst
    have r2 := cell_of_row _ _ 2 _ _ (0, 0) hst
    have r3 := cell_of_row _ _ 3 _ _ (0, 0) hst
    have r4 := cell_of_row _ _ 4 _ _ (0, 0) hst
    have r5 := cell_of_row _ _ 5 _ _ (0, 0) hst
    have r6 := cell_of_row _ _ 6 _ _ (0, 0) hst
    have r7 := cell_of_row _ _ 7 _ _ (0, 0) hst
    clear hst
    exact bodyPost_ret (v := .agg #[.int .i64 (1 + (v1 : Int)), .int .i64 (1 + (v2 : Int)), .string hd, .int .i64 x, .string s, .string t, .int .i64 a, .string u]) (by simp [results, Tryz.results34, go_sem, r0, r1, r2, r3, r4, r5, r6, r7]) rfl (⟨_, _, _, _, _, _, _, _, _, rfl, by omega, by omega, by omega, by omega, by omega, (Rd.set h (Rd.set h (Rd.set h (Rd.set h (Rd.set h (Rd.set h (Rd.set h (Rd.set h R5.out (a := ⟨w.heap.size, 0, none⟩) (by first | exact Nat.le_refl _ | (dsimp only; omega)) _) (a := ⟨w.heap.size, 1, none⟩) (by first | exact Nat.le_refl _ | (dsimp only; omega)) _) (a := ⟨w.heap.size, 2, none⟩) (by first | exact Nat.le_refl _ | (dsimp only; omega)) _) (a := ⟨w.heap.size, 3, none⟩) (by first | exact Nat.le_refl _ | (dsimp only; omega)) _) (a := ⟨w.heap.size, 4, none⟩) (by first | exact Nat.le_refl _ | (dsimp only; omega)) _) (a := ⟨w.heap.size, 5, none⟩) (by first | exact Nat.le_refl _ | (dsimp only; omega)) _) (a := ⟨w.heap.size, 6, none⟩) (by first | exact Nat.le_refl _ | (dsimp only; omega)) _) (a := ⟨w.heap.size, 7, none⟩) (by first | exact Nat.le_refl _ | (dsimp only; omega)) _), (Chg.setCell (p := ⟨w.heap.size, 7, none⟩) (Chg.setCell (p := ⟨w.heap.size, 6, none⟩) (Chg.setCell (p := ⟨w.heap.size, 5, none⟩) (Chg.setCell (p := ⟨w.heap.size, 4, none⟩) (Chg.setCell (p := ⟨w.heap.size, 3, none⟩) (Chg.setCell (p := ⟨w.heap.size, 2, none⟩) (Chg.setCell (p := ⟨w.heap.size, 1, none⟩) (Chg.setCell (p := ⟨w.heap.size, 0, none⟩) X5.out (.inr (by first | exact Nat.le_refl _ | (dsimp only; omega))) _) (.inr (by first | exact Nat.le_refl _ | (dsimp only; omega))) _) (.inr (by first | exact Nat.le_refl _ | (dsimp only; omega))) _) (.inr (by first | exact Nat.le_refl _ | (dsimp only; omega))) _) (.inr (by first | exact Nat.le_refl _ | (dsimp only; omega))) _) (.inr (by first | exact Nat.le_refl _ | (dsimp only; omega))) _) (.inr (by first | exact Nat.le_refl _ | (dsimp only; omega))) _) (.inr (by first | exact Nat.le_refl _ | (dsimp only; omega))) _)⟩)
def GotIntV (w : World) (e : Ending) (w' : World) : Prop :=
  ∃ (g q : Int) (h : Str) (x : Int) (s t : Str) (a : Int) (u : Str), e = .returned (.agg #[.int .i64 g, .int .i64 q, .string (strB h), .int .i64 x, .string (strB s), .string (strB t), .int .i64 a, .string (strB u)]) ∧ h.length ≤ 3000000000 ∧ s.length ≤ 3000000000 ∧ t.length ≤ 3000000000 ∧ u.length ≤ 3000000000 ∧ Below w.heap.size w w'
theorem BytesIn.deepI {w w' : World} {A : Option Addr} {n c : Nat} {zs : List Int} (h : BytesIn w A n c zs) (hb : Below w.heap.size w w') : BytesIn w' A n c zs := by
  obtain ⟨h1, h2, h3, h4, h5⟩ := h
  refine ⟨h1, h2, h3, h4, fun hn => ?_⟩
  obtain ⟨b, off, hA, hc⟩ := h5 hn
  exact ⟨b, off, hA, fun j hj => (hb.cell (World.block_lt_of_cell? w _ (hc j hj))).trans (hc j hj)⟩
end
end Go.Proofs.YtggdjiklgakfnaaGreatDoor
