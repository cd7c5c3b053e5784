/- Drawn texts of operations and of intents. Condition: the variables that the library reads lie as the row says. -/
import Derived.Test.YtkmkmndcgemnlaaGreatDoorDrawInt
import Derived.Test.YtkmkmndcgemnlaaGreatDoorIntPut
namespace Go.Proofs.YtkmkmndcgemnlaaGreatDoor
set_option linter.unusedSimpArgs false
set_option linter.unnecessarySimpa false
open Go Go.Lib Go.RowKit
set_option linter.unusedVariables false

def GotTextI (w : World) (e : Ending) (w' : World) : Prop := ∃ x : Str, e = .returned (.string (strB x)) ∧ x.length ≤ 1000000 ∧ Below w.heap.size w w'
set_option maxRecDepth 100000 in
set_option maxHeartbeats 1000000 in
theorem drawOpGet_any (A : Option Addr) (n c : Nat) (zs : List Int) (w : World) (h : BytesIn w A n c zs) : Calls Tryz.prog 17 #[.slice A n c] w (GotTextI w) := by
  go_enter Tryz.func17, Tryz.ntmps17
  go_wp2_with fail
  refine (l6Open_any A n c zs _ h).mono ?_
  rintro e w1 ⟨m', c', ys, rfl, hr, hb1⟩
  go_wp2_with fail
  refine (l92Op_any w1 _ A m' c' ys 0 hr (by omega)).mono ?_
  rintro e w2 ⟨kd, p, t, a, x, k', rfl, hp, ht, hx, hk', hr2, hc⟩
  obtain ⟨p, rfl⟩ : ∃ z, p = strB z := ⟨p.data.toList, (strB_data _).symm⟩
  obtain ⟨t, rfl⟩ : ∃ z, t = strB z := ⟨t.data.toList, (strB_data _).symm⟩
  obtain ⟨x, rfl⟩ : ∃ z, x = strB z := ⟨x.data.toList, (strB_data _).symm⟩
  rw [strB_size] at hp ht hx
  have hb2 : Below w.heap.size w w2 := hb1.trans (hc.below (fun k _ hk => by simp at hk; omega) hb1.size)
  clear hc hb1 hr
  go_wp2_with fail
  refine (spOpPut_any kd p t a x _ (by omega) (by omega) (by omega)).mono ?_
  have hsm := opS_len (kd, p, t, a, x)
  unfold TextR
  generalize opS (kd, p, t, a, x) = z at hsm ⊢
  rintro e w3 ⟨rfl, hb3⟩
  have hb4 := hb2.trans (hb3.mono hb2.size)
  have hr3 := hr2.below hb3
  clear hb3 hr2 hb2
  have hsx : Hid ((strB z).size = z.length) := Lib.hid rfl
  go_wp2_with fail
  refine (pick_any w3 _ A m' c' ys k' 3 hr3 (by omega) (by omega) (by omega)).mono ?_
  rintro e w4 ⟨r, rfl, hrb, hr4, hc4, hz4⟩
  have hb5 : Below w.heap.size w w4 := hb4.trans (hc4.below (fun k _ hk => by simp at hk; omega) hb4.size)
  clear hz4 hb4 hc4
  by_cases h0 : r = 0
  · have e0 : ((r : Int) == 0) = true := by simp [h0]
    clear h0
    go_wp2_with fail
    refine (l91Spoil_any w4 _ A m' c' ys (k' + 1) (strB z) hr4 (by omega) (by rw [hsx.out]; omega)).mono ?_
    rintro e w5 ⟨v, k2, rfl, hz, hk2, hr5, hc5⟩
    have hb6 : Below w.heap.size w w5 := hb5.trans (hc5.below (fun k _ hk => by simp at hk; omega) hb5.size)
    obtain ⟨v, rfl⟩ : ∃ z' : Str, v = strB z' := ⟨v.data.toList, (strB_data v).symm⟩
    have hz : v.length ≤ 1000000 := by have hh : (strB v).size = v.length := rfl
                                       rw [hsx.out, hh] at hz; omega
    go_wp2_with fail
    go_ret
    exact ⟨v, rfl, hz, hb6⟩
  · have e0 : ((r : Int) == 0) = false := by simp [h0]
    clear h0
    go_wp2_with fail
    go_ret
    exact ⟨z, rfl, by omega, hb5⟩
set_option maxRecDepth 100000 in
set_option maxHeartbeats 1000000 in
theorem drawIntentGet_any (A : Option Addr) (n c : Nat) (zs : List Int) (w : World) (h : BytesIn w A n c zs) : Calls Tryz.prog 15 #[.slice A n c] w (GotTextI w) := by
  go_enter Tryz.func15, Tryz.ntmps15
  go_wp2_with fail
  refine (l6Open_any A n c zs _ h).mono ?_
  rintro e w1 ⟨m', c', ys, rfl, hr, hb1⟩
  go_wp2_with fail
  refine (l93Intent_any w1 _ A m' c' ys 0 hr (by omega)).mono ?_
  rintro e w2 ⟨g, q, h', kd, p, t, a, x, k', rfl, hh, hp, ht, hx, hk', hr2, hc⟩
  obtain ⟨h', rfl⟩ : ∃ z, h' = strB z := ⟨h'.data.toList, (strB_data _).symm⟩
  obtain ⟨p, rfl⟩ : ∃ z, p = strB z := ⟨p.data.toList, (strB_data _).symm⟩
  obtain ⟨t, rfl⟩ : ∃ z, t = strB z := ⟨t.data.toList, (strB_data _).symm⟩
  obtain ⟨x, rfl⟩ : ∃ z, x = strB z := ⟨x.data.toList, (strB_data _).symm⟩
  rw [strB_size] at hh hp ht hx
  have hb2 : Below w.heap.size w w2 := hb1.trans (hc.below (fun k _ hk => by simp at hk; omega) hb1.size)
  clear hc hb1 hr
  go_wp2_with fail
  refine (spIntPut_any g q h' kd p t a x _ (by omega) (by omega) (by omega) (by omega)).mono ?_
  have hsm := intS_len (g, q, h', kd, p, t, a, x)
  unfold TextR
  generalize intS (g, q, h', kd, p, t, a, x) = z at hsm ⊢
  rintro e w3 ⟨rfl, hb3⟩
  have hb4 := hb2.trans (hb3.mono hb2.size)
  have hr3 := hr2.below hb3
  clear hb3 hr2 hb2
  have hsx : Hid ((strB z).size = z.length) := Lib.hid rfl
  go_wp2_with fail
  refine (pick_any w3 _ A m' c' ys k' 3 hr3 (by omega) (by omega) (by omega)).mono ?_
  rintro e w4 ⟨r, rfl, hrb, hr4, hc4, hz4⟩
  have hb5 : Below w.heap.size w w4 := hb4.trans (hc4.below (fun k _ hk => by simp at hk; omega) hb4.size)
  clear hz4 hb4 hc4
  by_cases h0 : r = 0
  · have e0 : ((r : Int) == 0) = true := by simp [h0]
    clear h0
    go_wp2_with fail
    refine (l91Spoil_any w4 _ A m' c' ys (k' + 1) (strB z) hr4 (by omega) (by rw [hsx.out]; omega)).mono ?_
    rintro e w5 ⟨v, k2, rfl, hz, hk2, hr5, hc5⟩
    have hb6 : Below w.heap.size w w5 := hb5.trans (hc5.below (fun k _ hk => by simp at hk; omega) hb5.size)
    obtain ⟨v, rfl⟩ : ∃ z' : Str, v = strB z' := ⟨v.data.toList, (strB_data v).symm⟩
    have hz : v.length ≤ 1000000 := by have hh : (strB v).size = v.length := rfl
                                       rw [hsx.out, hh] at hz; omega
    go_wp2_with fail
    go_ret
    exact ⟨v, rfl, hz, hb6⟩
  · have e0 : ((r : Int) == 0) = false := by simp [h0]
    clear h0
    go_wp2_with fail
    go_ret
    exact ⟨z, rfl, by omega, hb5⟩
end Go.Proofs.YtkmkmndcgemnlaaGreatDoor
