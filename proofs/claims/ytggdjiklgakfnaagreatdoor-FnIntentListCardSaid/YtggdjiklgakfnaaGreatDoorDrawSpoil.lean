/- l91Spoil: a text spoilt by a reader. Condition: at most a million bytes. -/
import Derived.Test.YtggdjiklgakfnaaGreatDoorDrawPtr
import Derived.Test.YtggdjiklgakfnaaGreatDoorNum
import Derived.Test.YtggdjiklgakfnaaGreatDoorLib
namespace Go.Proofs.YtggdjiklgakfnaaGreatDoor
set_option linter.unnecessarySimpa false
open Go Go.Lib Go.RowKit
set_option linter.unusedVariables false
set_option linter.unusedSimpArgs false

def natB (p : Nat) : BStP (Chg (· ∈ [p])) := ⟨fun v _ => ∃ r : Nat, v = .int .i64 (r : Int) ∧ r < 256, fun _ _ _ _ h => h⟩
def byteB (p : Nat) : BStP (Chg (· ∈ [p])) := ⟨fun v _ => ∃ r : Int, v = .int .u8 r, fun _ _ _ _ h => h⟩
def strB1 (p m : Nat) : BStP (Chg (· ∈ [p])) := ⟨fun v _ => ∃ s : ByteArray, v = .string s ∧ s.size ≤ m, fun _ _ _ _ h => h⟩
def litB1 (p : Nat) : BStP (Chg (· ∈ [p])) := ⟨fun v w => ∃ (d : Int) (g : Nat), g ≠ p ∧ v = .slice (some ⟨g, 0, none⟩) 1 1 ∧ w.heap[g]? = some (.cells #[.int .u8 d] 5 (0, 0)), fun v w w' hs ⟨d, g, hp, e, hg⟩ => ⟨d, g, hp, e, (hs.block g (Array.getElem?_eq_some_iff.1 hg).1 (by simpa using hp)).trans hg⟩⟩
theorem lit_val {Q : Value → Prop} {W W' : World} {p b r : Nat} {t : TypeId} {cur : Array Value} (hL : ∀ i, i < cur.size → ∃ v, cur[i]? = some v ∧ Q v) (hc : Chg (· ∈ [p]) (W.alloc (.cells cur t)) W') (hb : b = W.heap.size) (hp : p < W.heap.size) (hr : r < cur.size) : ∃ v, W'.cell? ⟨b, r, none⟩ = some v ∧ Q v := by
  obtain ⟨x, hx, hq⟩ := hL r hr
  subst hb
  refine ⟨x, (World.cell?_of_block (hc.block W.heap.size (by simp) (by simp; omega))).trans ?_, hq⟩
  simp [go_sem, hx]
theorem ext_size {s : ByteArray} {a b : Nat} (h : b ≤ s.size) (hab : a ≤ b) : (s.extract a b).size = b - a := by
  rw [ByteArray.size_extract]; omega
set_option maxRecDepth 100000 in
set_option maxHeartbeats 4000000 in
theorem l91Spoil_any (w : World) (p : Nat) (A : Option Addr) (n c : Nat) (zs : List Int) (k : Nat) (s : ByteArray) (h : Rd w p A n c zs k) (hk : k ≤ 900000) (hs : s.size ≤ 1000000) :
    Calls Tryz.prog 37 #[.pointer (some ⟨p, 0, none⟩), .string s] w (PickedText (s.size + 10) 14 w p A n c zs k) := by
  have hp := h.2.2.2.1
  go_enter Tryz.func37, Tryz.ntmps37
  by_cases h0 : s = ByteArray.empty
  case pos =>
    subst h0
    go_wp2_with fail
    refine (l91Text_any _ p A n c zs k 4 h (by omega) (by omega)).mono ?_
    rintro e w1 ⟨s1, k1, rfl, hs1, hk1, rd1, hc1⟩
    go_wp2_with fail
    go_ret
    exact ⟨_, _, rfl, by simp; omega, by omega, rd1, hc1⟩
  have hn0 : s.size ≠ 0 := fun he => h0 (by apply ByteArray.ext; apply Array.ext'; have : s.data.toList.length = 0 := (by simpa using he); rw [List.length_eq_zero_iff.1 this]; rfl)
  have hn1 : ¬ s.toList = [] := fun he => hn0 (by have := congrArg List.length he; simpa [ByteArray.toList_eq] using this)
  have e0 : (s.toList == ([] : List UInt8)) = false := by simpa using hn1
  have e1 : (s.toList == ByteArray.empty.toList) = false := by simpa using hn1
  clear h0 hn1
  go_wp2_with fail
  refine (pick_any _ p A n c zs k (s.size : Int) h (by omega) (by omega) (by omega)).mono ?_
  rintro e w1 ⟨q1, rfl, hq1, rd1, hc1, hz1⟩
  have hq1 := hq1 (by omega)
  clear hz1
  go_wp2_with fail
  refine (pick_any _ p A n c zs (k + 1) 4 rd1 (by omega) (by omega) (by omega)).mono ?_
  rintro e w2 ⟨q2, rfl, hq2, rd2, hc2, hz2⟩
  have hq2 := hq2 (by omega)
  have HC : Hid (Chg (· ∈ [p]) w w2) := Lib.hid (hc1.trans hc2)
  have HR := Lib.hid rd2
  have hp2 := rd2.2.2.2.1
  clear hz2 rd1 rd2 hc1 hc2
  have hb0 : (0 : Int) ≤ (q1 : Int) := by omega
  have hb1 : (q1 : Int) ≤ (s.size : Int) := by omega
  have hb2 : (q1 : Int) + 1 ≤ (s.size : Int) := by omega
  have hb3 : (0 : Int) ≤ (q1 : Int) + 1 := by omega
  have hw1 : IntKind.i64.wrap ((q1 : Int) + 1) = (q1 : Int) + 1 := by rw [IntWalk.i64_in _ (by omega)]
  have ht : ((q1 : Int) + 1).toNat = q1 + 1 := by omega
  have z1 : (s.extract 0 q1).size = q1 := by rw [ext_size (by omega) (by omega)]; omega
  have z2 : (s.extract (q1 + 1) s.size).size = s.size - (q1 + 1) := ext_size (Nat.le_refl _) (by omega)
  have hr4 : q2 = 0 ∨ q2 = 1 ∨ q2 = 2 ∨ q2 = 3 := by omega
  clear hq2
  rcases hr4 with rfl | rfl | rfl | rfl
  · go_wp2_with fail
    apply wp_region_rg (by kernel_rfl) (false :: false :: false :: false :: true :: false :: false :: false :: false :: false :: false :: false :: false :: false :: false :: false :: false :: false :: true :: true :: true :: true :: true :: true :: true :: true :: false :: false :: false :: false :: false :: false :: false :: false :: false :: false :: false :: false :: false :: false :: false :: false :: false :: false :: false :: false :: false :: false :: false :: false :: false :: false :: false :: false :: []) [some 18, some 19, some 20, some 21, some 22, some 23, some 24, some 25, some 4] [[], [], [0, 1], [], [], [4], [3, 5], [2, 6], [7]] [StP.is _, StP.is _, StP.is _, StP.is _, StP.is _, StP.is _, StP.is _, StP.is _, StP.is _] (by kernel_rfl)
    case hobs =>
      refine ⟨fun y w' hS hF K hK => ?_, ?_⟩
      · skip -- 0: move
        simp only [fillL, cond_true, cond_false, List.getD_cons_zero, List.getD_cons_succ, StP.is, Act.put, List.setIfInBounds_toArray, List.set_cons_zero, List.set_cons_succ, Nat.reduceAdd] at hK ⊢
        refine rg_yes (by kernel_rfl) ?_
        clear hF
        go_simp
        exact hK _ _ (Ext.refl _) rfl
      refine ⟨fun y w' hS hF K hK => ?_, ?_⟩
      · skip -- 1: move
        simp only [fillL, cond_true, cond_false, List.getD_cons_zero, List.getD_cons_succ, StP.is, Act.put, List.setIfInBounds_toArray, List.set_cons_zero, List.set_cons_succ, Nat.reduceAdd] at hK ⊢
        refine rg_yes (by kernel_rfl) ?_
        clear hF
        go_simp
        exact hK _ _ (Ext.refl _) rfl
      refine ⟨fun y w' hS hF K hK => ?_, ?_⟩
      · skip -- 2: slice
        have e18 : y 18 = _ := hF.1
        have e19 : y 19 = _ := hF.2.1
        simp only [fillL, cond_true, cond_false, List.getD_cons_zero, List.getD_cons_succ, StP.is, Act.put, List.setIfInBounds_toArray, List.set_cons_zero, List.set_cons_succ, Nat.reduceAdd, e18, e19] at hK ⊢
        refine rg_yes (by kernel_rfl) ?_
        clear e18 e19
        clear hF
        go_simp
        exact hK _ _ (Ext.refl _) rfl
      refine ⟨fun y w' hS hF K hK => ?_, ?_⟩
      · skip -- 3: move
        simp only [fillL, cond_true, cond_false, List.getD_cons_zero, List.getD_cons_succ, StP.is, Act.put, List.setIfInBounds_toArray, List.set_cons_zero, List.set_cons_succ, Nat.reduceAdd] at hK ⊢
        refine rg_yes (by kernel_rfl) ?_
        clear hF
        go_simp
        exact hK _ _ (Ext.refl _) rfl
      refine ⟨fun y w' hS hF K hK => ?_, ?_⟩
      · skip -- 4: move
        simp only [fillL, cond_true, cond_false, List.getD_cons_zero, List.getD_cons_succ, StP.is, Act.put, List.setIfInBounds_toArray, List.set_cons_zero, List.set_cons_succ, Nat.reduceAdd] at hK ⊢
        refine rg_yes (by kernel_rfl) ?_
        clear hF
        go_simp
        exact hK _ _ (Ext.refl _) rfl
      refine ⟨fun y w' hS hF K hK => ?_, ?_⟩
      · skip -- 5: binOp
        have e22 : y 22 = _ := hF.1
        simp only [fillL, cond_true, cond_false, List.getD_cons_zero, List.getD_cons_succ, StP.is, Act.put, List.setIfInBounds_toArray, List.set_cons_zero, List.set_cons_succ, Nat.reduceAdd, e22] at hK ⊢
        refine rg_yes (by kernel_rfl) ?_
        clear e22
        clear hF
        go_simp
        exact hK _ _ (Ext.refl _) rfl
      refine ⟨fun y w' hS hF K hK => ?_, ?_⟩
      · skip -- 6: slice
        have e21 : y 21 = _ := hF.1
        have e23 : y 23 = _ := hF.2.1
        simp only [fillL, cond_true, cond_false, List.getD_cons_zero, List.getD_cons_succ, StP.is, Act.put, List.setIfInBounds_toArray, List.set_cons_zero, List.set_cons_succ, Nat.reduceAdd, e21, e23] at hK ⊢
        refine rg_yes (by kernel_rfl) ?_
        clear e21 e23
        clear hF
        go_simp
        exact hK _ _ (Ext.refl _) rfl
      refine ⟨fun y w' hS hF K hK => ?_, ?_⟩
      · skip -- 7: binOp
        have e20 : y 20 = _ := hF.1
        have e24 : y 24 = _ := hF.2.1
        simp only [fillL, cond_true, cond_false, List.getD_cons_zero, List.getD_cons_succ, StP.is, Act.put, List.setIfInBounds_toArray, List.set_cons_zero, List.set_cons_succ, Nat.reduceAdd, e20, e24] at hK ⊢
        refine rg_yes (by kernel_rfl) ?_
        clear e20 e24
        clear hF
        go_simp
        rw [if_neg (by omega)]
        go_simp
        exact hK _ _ (Ext.refl _) rfl
      refine ⟨fun y w' hS hF K hK => ?_, ?_⟩
      · skip -- 8: assign
        have e25 : y 25 = _ := hF.1
        simp only [fillL, cond_true, cond_false, List.getD_cons_zero, List.getD_cons_succ, StP.is, Act.put, List.setIfInBounds_toArray, List.set_cons_zero, List.set_cons_succ, Nat.reduceAdd, e25] at hK ⊢
        refine rg_yes (by kernel_rfl) ?_
        clear e25
        clear hF
        go_simp
        exact hK _ _ (Ext.refl _) rfl
      trivial
    case hend =>
      intro y w9 hS9 hF
      have e4 : y 4 = _ := hF.2.2.2.2.2.2.2.2.1
      clear hF
      simp only [fillL, cond_true, cond_false, Nat.reduceAdd, e4]
      clear e4
      have HB9 : Chg (· ∈ [p]) w w9 := HC.out.trans (Chg.of_below (Below.mono hS9 (Nat.le_refl _)) _)
      have HR9 := HR.out.below (Below.mono hS9 (Nat.le_refl _))
      go_wp2_with fail
      go_ret
      exact ⟨_, _, rfl, by rw [ByteArray.size_append]; omega, by omega, HR9, HB9⟩
  · go_wp2_with fail
    go_ret
    exact ⟨_, _, rfl, by omega, by omega, HR.out, HC.out⟩
  · go_wp2_with fail
    have Sr : ∀ a, Chg (· ∈ [p]) a a := fun a => Chg.refl _ a
    apply wp_region_rgb (Chg (· ∈ [p])) (fun w' k' => ∃ k0, k0 ≤ k + 2 + k' ∧ Rd w' p A n c zs k0) (0 :: 0 :: 0 :: 0 :: 1 :: 0 :: 0 :: 0 :: 0 :: 0 :: 0 :: 0 :: 0 :: 0 :: 0 :: []) (by kernel_rfl) (false :: false :: false :: false :: true :: false :: false :: false :: false :: false :: false :: false :: false :: false :: false :: false :: false :: false :: false :: false :: false :: false :: false :: false :: false :: false :: false :: false :: false :: false :: false :: false :: false :: true :: true :: true :: true :: true :: true :: true :: true :: true :: true :: true :: true :: true :: true :: false :: false :: false :: false :: false :: false :: false :: []) (some 33 :: some 34 :: some 35 :: some 36 :: some 37 :: some 38 :: some 39 :: some 40 :: some 41 :: some 42 :: some 43 :: some 44 :: some 45 :: some 46 :: some 4 :: []) ([] :: [] :: [0, 1] :: [] :: [3] :: [4] :: [5] :: [6] :: [2, 7] :: [] :: [] :: [10] :: [9, 11] :: [8, 12] :: [13] :: []) (BStP.is _ :: BStP.is _ :: BStP.is _ :: BStP.is _ :: natB p :: byteB p :: litB1 p :: strB1 p 1 :: strB1 p (q1 + 1) :: BStP.is _ :: BStP.is _ :: BStP.is _ :: BStP.is _ :: strB1 p (s.size + 10) :: strB1 p (s.size + 10) :: []) (by kernel_rfl)
    case hobs =>
      refine ⟨fun y w' k hS hj hk hF K hK => ?_, ?_⟩
      · skip -- 0: move
        simp only [fillL, cond_true, cond_false, List.getD_cons_zero, List.getD_cons_succ, StP.is, Act.put, List.setIfInBounds_toArray, List.set_cons_zero, List.set_cons_succ, Nat.reduceAdd, BStP.is, Option.isSome_some, Option.isSome_none] at hK ⊢
        simp only [List.sum_cons, List.sum_nil, List.getD_cons_zero, List.getD_cons_succ, Nat.reduceAdd, Nat.add_zero] at hk
        refine rg_yes (by kernel_rfl) ?_
        clear hF
        go_simp
        exact hK _ _ (Sr _) (by simpa using hj) rfl
      refine ⟨fun y w' k hS hj hk hF K hK => ?_, ?_⟩
      · skip -- 1: move
        simp only [fillL, cond_true, cond_false, List.getD_cons_zero, List.getD_cons_succ, StP.is, Act.put, List.setIfInBounds_toArray, List.set_cons_zero, List.set_cons_succ, Nat.reduceAdd, BStP.is, Option.isSome_some, Option.isSome_none] at hK ⊢
        simp only [List.sum_cons, List.sum_nil, List.getD_cons_zero, List.getD_cons_succ, Nat.reduceAdd, Nat.add_zero] at hk
        refine rg_yes (by kernel_rfl) ?_
        clear hF
        go_simp
        exact hK _ _ (Sr _) (by simpa using hj) rfl
      refine ⟨fun y w' k hS hj hk hF K hK => ?_, ?_⟩
      · skip -- 2: slice
        have e33 : y 33 = _ := hF.1
        have e34 : y 34 = _ := hF.2.1
        simp only [fillL, cond_true, cond_false, List.getD_cons_zero, List.getD_cons_succ, StP.is, Act.put, List.setIfInBounds_toArray, List.set_cons_zero, List.set_cons_succ, Nat.reduceAdd, e33, e34, BStP.is, Option.isSome_some, Option.isSome_none] at hK ⊢
        simp only [List.sum_cons, List.sum_nil, List.getD_cons_zero, List.getD_cons_succ, Nat.reduceAdd, Nat.add_zero] at hk
        refine rg_yes (by kernel_rfl) ?_
        clear e33 e34
        clear hF
        go_simp
        exact hK _ _ (Sr _) (by simpa using hj) rfl
      refine ⟨fun y w' k hS hj hk hF K hK => ?_, ?_⟩
      · skip -- 3: move
        simp only [fillL, cond_true, cond_false, List.getD_cons_zero, List.getD_cons_succ, StP.is, Act.put, List.setIfInBounds_toArray, List.set_cons_zero, List.set_cons_succ, Nat.reduceAdd, BStP.is, Option.isSome_some, Option.isSome_none] at hK ⊢
        simp only [List.sum_cons, List.sum_nil, List.getD_cons_zero, List.getD_cons_succ, Nat.reduceAdd, Nat.add_zero] at hk
        refine rg_yes (by kernel_rfl) ?_
        clear hF
        go_simp
        exact hK _ _ (Sr _) (by simpa using hj) rfl
      refine ⟨fun y w' k hS hj hk hF K hK => ?_, ?_⟩
      · skip -- 4: call
        have e36 : y 36 = _ := hF.1
        simp only [fillL, cond_true, cond_false, List.getD_cons_zero, List.getD_cons_succ, StP.is, Act.put, List.setIfInBounds_toArray, List.set_cons_zero, List.set_cons_succ, Nat.reduceAdd, e36, BStP.is, Option.isSome_some, Option.isSome_none] at hK ⊢
        simp only [List.sum_cons, List.sum_nil, List.getD_cons_zero, List.getD_cons_succ, Nat.reduceAdd, Nat.add_zero] at hk
        refine rg_yes (by kernel_rfl) ?_
        clear e36
        clear hF
        obtain ⟨k0, hk0, hrd⟩ := hj
        go_simp
        go_at_call 19
        refine (pick_any w' p A n c zs k0 256 hrd (by omega) (by omega) (by omega)).mono ?_
        rintro e w'' ⟨r, rfl, hr1, rd1, hc1, hz1⟩
        exact hK _ _ hc1 ⟨k0 + 1, by omega, rd1⟩ ⟨r, rfl, by have := hr1 (by omega); omega⟩
      refine ⟨fun y w' k hS hj hk hF K hK => ?_, ?_⟩
      · skip -- 5: convert
        obtain ⟨v4, e37, hv4⟩ := hF.1
        simp only [fillL, cond_true, cond_false, List.getD_cons_zero, List.getD_cons_succ, StP.is, Act.put, List.setIfInBounds_toArray, List.set_cons_zero, List.set_cons_succ, Nat.reduceAdd, e37, BStP.is, Option.isSome_some, Option.isSome_none] at hK ⊢
        simp only [List.sum_cons, List.sum_nil, List.getD_cons_zero, List.getD_cons_succ, Nat.reduceAdd, Nat.add_zero] at hk
        refine rg_yes (by kernel_rfl) ?_
        clear e37
        clear hF
        obtain ⟨y5, hy5⟩ : ∃ y : Int, IntKind.u8.wrap (v4 : Int) = y := ⟨_, rfl⟩
        go_simp
        exact hK _ _ (Sr _) (by simpa using hj) ⟨_, rfl⟩
      refine ⟨fun y w' k hS hj hk hF K hK => ?_, ?_⟩
      · skip -- 6: buildSlice
        obtain ⟨v5, e38⟩ := hF.1
        simp only [fillL, cond_true, cond_false, List.getD_cons_zero, List.getD_cons_succ, StP.is, Act.put, List.setIfInBounds_toArray, List.set_cons_zero, List.set_cons_succ, Nat.reduceAdd, e38, BStP.is, Option.isSome_some, Option.isSome_none] at hK ⊢
        simp only [List.sum_cons, List.sum_nil, List.getD_cons_zero, List.getD_cons_succ, Nat.reduceAdd, Nat.add_zero] at hk
        refine rg_yes (by kernel_rfl) ?_
        clear e38
        clear hF
        obtain ⟨k0, hk0, hrd⟩ := hj
        have hpl := hrd.2.2.2.1
        go_simp
        exact hK _ _ ((Chg.refl _ _).alloc _) ⟨k0, by simpa using hk0, hrd.below bel1⟩ ⟨v5, _, by omega, rfl, heap_alloc_new _ _⟩
      refine ⟨fun y w' k hS hj hk hF K hK => ?_, ?_⟩
      · skip -- 7: convert
        obtain ⟨v6, g6, hg6, e39, hlit⟩ := hF.1
        simp only [fillL, cond_true, cond_false, List.getD_cons_zero, List.getD_cons_succ, StP.is, Act.put, List.setIfInBounds_toArray, List.set_cons_zero, List.set_cons_succ, Nat.reduceAdd, e39, BStP.is, Option.isSome_some, Option.isSome_none] at hK ⊢
        simp only [List.sum_cons, List.sum_nil, List.getD_cons_zero, List.getD_cons_succ, Nat.reduceAdd, Nat.add_zero] at hk
        refine rg_yes (by kernel_rfl) ?_
        clear e39
        clear hF
        have hcv := conv1 hlit
        go_simp
        exact hK _ _ (Sr _) (by simpa using hj) ⟨_, rfl, Nat.le_refl _⟩
      refine ⟨fun y w' k hS hj hk hF K hK => ?_, ?_⟩
      · skip -- 8: binOp
        have e35 : y 35 = _ := hF.1
        obtain ⟨u7, e40, hu7⟩ := hF.2.1
        simp only [fillL, cond_true, cond_false, List.getD_cons_zero, List.getD_cons_succ, StP.is, Act.put, List.setIfInBounds_toArray, List.set_cons_zero, List.set_cons_succ, Nat.reduceAdd, e35, e40, BStP.is, Option.isSome_some, Option.isSome_none] at hK ⊢
        simp only [List.sum_cons, List.sum_nil, List.getD_cons_zero, List.getD_cons_succ, Nat.reduceAdd, Nat.add_zero] at hk
        refine rg_yes (by kernel_rfl) ?_
        clear e35 e40
        clear hF
        go_simp
        rw [if_neg (by omega)]
        go_simp
        exact hK _ _ (Sr _) (by simpa using hj) ⟨_, rfl, by rw [ByteArray.size_append]; omega⟩
      refine ⟨fun y w' k hS hj hk hF K hK => ?_, ?_⟩
      · skip -- 9: move
        simp only [fillL, cond_true, cond_false, List.getD_cons_zero, List.getD_cons_succ, StP.is, Act.put, List.setIfInBounds_toArray, List.set_cons_zero, List.set_cons_succ, Nat.reduceAdd, BStP.is, Option.isSome_some, Option.isSome_none] at hK ⊢
        simp only [List.sum_cons, List.sum_nil, List.getD_cons_zero, List.getD_cons_succ, Nat.reduceAdd, Nat.add_zero] at hk
        refine rg_yes (by kernel_rfl) ?_
        clear hF
        go_simp
        exact hK _ _ (Sr _) (by simpa using hj) rfl
      refine ⟨fun y w' k hS hj hk hF K hK => ?_, ?_⟩
      · skip -- 10: move
        simp only [fillL, cond_true, cond_false, List.getD_cons_zero, List.getD_cons_succ, StP.is, Act.put, List.setIfInBounds_toArray, List.set_cons_zero, List.set_cons_succ, Nat.reduceAdd, BStP.is, Option.isSome_some, Option.isSome_none] at hK ⊢
        simp only [List.sum_cons, List.sum_nil, List.getD_cons_zero, List.getD_cons_succ, Nat.reduceAdd, Nat.add_zero] at hk
        refine rg_yes (by kernel_rfl) ?_
        clear hF
        go_simp
        exact hK _ _ (Sr _) (by simpa using hj) rfl
      refine ⟨fun y w' k hS hj hk hF K hK => ?_, ?_⟩
      · skip -- 11: binOp
        have e43 : y 43 = _ := hF.1
        simp only [fillL, cond_true, cond_false, List.getD_cons_zero, List.getD_cons_succ, StP.is, Act.put, List.setIfInBounds_toArray, List.set_cons_zero, List.set_cons_succ, Nat.reduceAdd, e43, BStP.is, Option.isSome_some, Option.isSome_none] at hK ⊢
        simp only [List.sum_cons, List.sum_nil, List.getD_cons_zero, List.getD_cons_succ, Nat.reduceAdd, Nat.add_zero] at hk
        refine rg_yes (by kernel_rfl) ?_
        clear e43
        clear hF
        go_simp
        exact hK _ _ (Sr _) (by simpa using hj) rfl
      refine ⟨fun y w' k hS hj hk hF K hK => ?_, ?_⟩
      · skip -- 12: slice
        have e42 : y 42 = _ := hF.1
        have e44 : y 44 = _ := hF.2.1
        simp only [fillL, cond_true, cond_false, List.getD_cons_zero, List.getD_cons_succ, StP.is, Act.put, List.setIfInBounds_toArray, List.set_cons_zero, List.set_cons_succ, Nat.reduceAdd, e42, e44, BStP.is, Option.isSome_some, Option.isSome_none] at hK ⊢
        simp only [List.sum_cons, List.sum_nil, List.getD_cons_zero, List.getD_cons_succ, Nat.reduceAdd, Nat.add_zero] at hk
        refine rg_yes (by kernel_rfl) ?_
        clear e42 e44
        clear hF
        go_simp
        exact hK _ _ (Sr _) (by simpa using hj) rfl
      refine ⟨fun y w' k hS hj hk hF K hK => ?_, ?_⟩
      · skip -- 13: binOp
        obtain ⟨u8, e41, hu8⟩ := hF.1
        have e45 : y 45 = _ := hF.2.1
        simp only [fillL, cond_true, cond_false, List.getD_cons_zero, List.getD_cons_succ, StP.is, Act.put, List.setIfInBounds_toArray, List.set_cons_zero, List.set_cons_succ, Nat.reduceAdd, e41, e45, BStP.is, Option.isSome_some, Option.isSome_none] at hK ⊢
        simp only [List.sum_cons, List.sum_nil, List.getD_cons_zero, List.getD_cons_succ, Nat.reduceAdd, Nat.add_zero] at hk
        refine rg_yes (by kernel_rfl) ?_
        clear e41 e45
        clear hF
        go_simp
        rw [if_neg (by omega)]
        go_simp
        exact hK _ _ (Sr _) (by simpa using hj) ⟨_, rfl, by rw [ByteArray.size_append]; omega⟩
      refine ⟨fun y w' k hS hj hk hF K hK => ?_, ?_⟩
      · skip -- 14: assign
        obtain ⟨u13, e46, hu13⟩ := hF.1
        simp only [fillL, cond_true, cond_false, List.getD_cons_zero, List.getD_cons_succ, StP.is, Act.put, List.setIfInBounds_toArray, List.set_cons_zero, List.set_cons_succ, Nat.reduceAdd, e46, BStP.is, Option.isSome_some, Option.isSome_none] at hK ⊢
        simp only [List.sum_cons, List.sum_nil, List.getD_cons_zero, List.getD_cons_succ, Nat.reduceAdd, Nat.add_zero] at hk
        refine rg_yes (by kernel_rfl) ?_
        clear e46
        clear hF
        go_simp
        exact hK _ _ (Sr _) (by simpa using hj) ⟨_, rfl, hu13⟩
      trivial
    case hSr => exact Sr
    case hSt => exact fun a b => Chg.trans a b
    case hJ => exact fun _ _ _ h ⟨k0, h0, hr⟩ => ⟨k0, by omega, hr⟩
    case hdrew => exact Chg.of_below (Below.drew (Below.refl _ _)) _
    case hj0 => exact ⟨k + 2, by omega, HR.out⟩
    case hend =>
      intro y w5 hS hj hF
      obtain ⟨u14, e4, hu⟩ := hF.2.2.2.2.2.2.2.2.2.2.2.2.2.2.1
      obtain ⟨k5, hk5, rd5⟩ := hj
      simp only [List.sum_cons, List.sum_nil, Nat.reduceAdd] at hk5
      clear hF
      simp only [fillL, cond_true, cond_false, Nat.reduceAdd, e4]
      clear e4
      have HB9 : Chg (· ∈ [p]) w w5 := HC.out.trans hS
      clear hS
      go_wp2_with fail
      go_ret
      exact ⟨_, _, rfl, hu, by omega, rd5, HB9⟩
  · go_wp2_with fail
    refine (pick_any _ p A n c zs (k + 1 + 1) 6 (HR.out.below bel1) (by omega) (by omega) (by omega)).mono ?_
    rintro e w3 ⟨v, rfl, hv, rd3, hc3, hz3⟩
    have hv := hv (by omega)
    obtain ⟨u, hu, x, rfl, hx⟩ := lit_val (Q := fun v => ∃ x : ByteArray, v = .string x ∧ x.size = 1) (r := v) (by
      intro i hi
      have hi : i < 6 := hi
      have : i = 0 ∨ i = 1 ∨ i = 2 ∨ i = 3 ∨ i = 4 ∨ i = 5 := by omega
      rcases this with rfl | rfl | rfl | rfl | rfl | rfl <;> exact ⟨_, rfl, _, rfl, rfl⟩) hc3 rfl hp2 (by simp; omega)
    have hv0 : (0 : Int) ≤ (v : Int) := by omega
    have hv1 : (v : Int) < 6 := by omega
    have hsz : ¬ (9223372036854775807 < s.size + x.size) := by omega
    have hsz2 : s.size + x.size ≤ 9223372036854775807 := by omega
    have HC3 : Hid (Chg (· ∈ [p]) w w3) := Lib.hid ((HC.out.alloc _).trans hc3)
    clear hz3 hc3
    go_wp2_with fail
    go_ret
    exact ⟨_, _, rfl, by rw [ByteArray.size_append]; omega, by omega, rd3, HC3.out⟩
end Go.Proofs.YtggdjiklgakfnaaGreatDoor
