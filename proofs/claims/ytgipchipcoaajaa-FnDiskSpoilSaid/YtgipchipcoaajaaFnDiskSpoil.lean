/- FnDiskSpoil: the walk. No condition. NOT DONE: region 9 is open. -/
import Derived.Test.YtgipchipcoaajaaDrawDisks
import Derived.Test.YtgipchipcoaajaaSpoilTwice
import Derived.Test.YtgipchipcoaajaaPfDisk
import Derived.Test.YtgipchipcoaajaaRgz
namespace Go.Proofs.Ytgipchipcoaajaa
set_option linter.unusedSimpArgs false
set_option linter.unnecessarySimpa false
open Go.RowKit
set_option linter.unusedVariables false

/-- A box that holds a disk. -/
def BoxF (o : Option Obj) : Prop := ∃ (a0 : Option Addr) (n0 c0 : Nat) (a1 : Option Addr) (n1 c1 : Nat) (bb : Bool) (T : TypeId), o = some (.cells #[.slice a0 n0 c0, .slice a1 n1 c1, .bool bb] T (0, 0))
/-- Nothing below B has turned, and no block that is no such box. -/
def DS (B : Nat) (a b : World) : Prop := Own B a b ∧ a.heap.size ≤ b.heap.size ∧ ∀ i, i < a.heap.size → ¬ BoxF a.heap[i]? → b.heap[i]? = a.heap[i]?
theorem DS.trans {B : Nat} {a b c : World} (h : DS B a b) (k : DS B b c) : DS B a c := by
  refine ⟨Own.trans h.1 k.1, Nat.le_trans h.2.1 k.2.1, fun i hi hn => ?_⟩
  have e := h.2.2 i hi hn
  exact (k.2.2 i (Nat.lt_of_lt_of_le hi h.2.1) (by rw [e]; exact hn)).trans e
theorem DS.of_ext {B : Nat} {a b : World} (h : Ext a b) : DS B a b := ⟨Own.of_ext _ _ _ h, Below.size h, fun i hi _ => Below.block h i hi⟩
theorem slice_other {α : Type} {R : Reads α} {sz B : Nat} {w W : World} {lo hi : Nat} {A : Option Addr} {n c : Nat} {xs : List α} (h : SliceR R sz w lo hi A n c xs) (hS : DS B w W)
    (hcell : ∀ cs x, R w lo hi cs x → ∃ v, cs[0]? = some v ∧ ∀ b off, BoxF w.heap[b]? → w.cell? ⟨b, off, none⟩ ≠ some v) (hR : ∀ cs x, R w lo hi cs x → R W 0 W.heap.size cs x) : SliceR R sz W 0 W.heap.size A n c xs := by
  obtain ⟨h1, h2, h3, h4, h5, h6⟩ := h
  refine ⟨h1, h2, h3, Nat.le_refl _, h5, fun hn => ?_⟩
  obtain ⟨b, off, hA, hlo, hhi, hc⟩ := h6 hn
  have hs := hS.2.1
  have hb : ¬ BoxF w.heap[b]? := by
    intro hB
    obtain ⟨x, hx⟩ : ∃ x, xs[0]? = some x := ⟨xs[0]'(by omega), List.getElem?_eq_getElem _⟩
    obtain ⟨cs, _, hcs, hr⟩ := hc 0 x hx
    obtain ⟨v, hv, hno⟩ := hcell cs x hr
    exact hno _ _ hB (hcs 0 v hv)
  refine ⟨b, off, hA, Nat.zero_le _, by omega, fun j x hx => ?_⟩
  obtain ⟨cs, hl, hcs, hr⟩ := hc j x hx
  exact ⟨cs, hl, fun i v hv => (World.cell?_of_block (hS.2.2 b (by omega) hb)).trans (hcs i v hv), hR _ _ hr⟩
/-- A disk's memory is none of a box's. -/
theorem disk_DS {B : Nat} {w W : World} {lo hi : Nat} {cs : List Value} {x : DiskD} (h : DiskR w lo hi cs x) (hS : DS B w W) : DiskR W 0 W.heap.size cs x := by
  obtain ⟨A0, m0, d0, A1, m1, d1, rfl, h0, h1⟩ := h
  have hc : ∀ b off v, BoxF w.heap[b]? → w.cell? ⟨b, off, none⟩ = some v → (∃ a n c, v = .slice a n c) ∨ (∃ b, v = .bool b) := by
    intro b off v ⟨a0, n0, c0, a1, n1, c1, bb, T, hb⟩ hv
    rw [cell_of_row _ _ off _ _ (0, 0) hb] at hv
    match off, hv with
    | 0, hv => exact .inl ⟨_, _, _, (Option.some.inj hv).symm⟩
    | 1, hv => exact .inl ⟨_, _, _, (Option.some.inj hv).symm⟩
    | 2, hv => exact .inr ⟨_, (Option.some.inj hv).symm⟩
    | k + 3, hv => simp at hv
  refine ⟨A0, m0, d0, A1, m1, d1, rfl, slice_other h0 hS (fun cs s hr => ?_) (fun _ _ hr => hr), slice_other h1 hS (fun cs s hr => ?_) (fun _ _ hr => hr)⟩
  · obtain ⟨rfl, _⟩ := hr
    refine ⟨_, rfl, fun b off hB h => ?_⟩
    rcases hc b off _ hB h with ⟨_, _, _, h⟩ | ⟨_, h⟩ <;> cases h
  · obtain ⟨rfl, _⟩ := hr
    refine ⟨_, rfl, fun b off hB h => ?_⟩
    rcases hc b off _ hB h with ⟨_, _, _, h⟩ | ⟨_, h⟩ <;> cases h
def softDisk (B : Nat) (x : DiskD) (f : List Value → Value) : MStP (DS B) Ext := ⟨fun v w => ∃ cs lo hi, v = f cs ∧ hi ≤ w.heap.size ∧ DiskR w lo hi cs x, true, fun v w w' hs ⟨cs, lo, hi, e, hh, hr⟩ => ⟨cs, lo, hi, e, Nat.le_trans hh (Below.size hs), DiskR.below hs hh _ _ hr⟩, fun _ v w w' hs ⟨cs, lo, hi, e, hh, hr⟩ => ⟨cs, 0, w'.heap.size, e, Nat.le_refl _, disk_DS hr hs⟩⟩
def softBoxD (B : Nat) (T : TypeId) (cur : Array Value) : MStP (DS B) Ext := ⟨fun v w => ∃ g : Nat, B ≤ g ∧ v = .pointer (some ⟨g, 0, none⟩) ∧ w.heap[g]? = some (.cells cur T (0, 0)), false, fun v w w' hs ⟨g, hB, e, hg⟩ => ⟨g, hB, e, (Below.block hs g (Array.getElem?_eq_some_iff.1 hg).1).trans hg⟩, fun h => by cases h⟩
theorem setD_3 {w : World} {r T : Nat} {v0 v1 v2 x0 x1 x2 : Value} (h : w.heap[r]? = some (.cells #[v0, v1, v2] T (0, 0))) :
    (((w.setCell ⟨r, 0, none⟩ x0).setCell ⟨r, 1, none⟩ x1).setCell ⟨r, 2, none⟩ x2).heap[r]? = some (.cells #[x0, x1, x2] T (0, 0)) := block_set (o := 2) (v := x2) (block_set (o := 1) (v := x1) (block_set (o := 0) (v := x0) h))
def DoneJ (B : Nat) (T : TypeId) (x : DiskD) (y : Nat → Value) (w' : World) : Prop :=
  ∃ (nb : Nat) (a0 : Option Addr) (n0 c0 : Nat) (a1 : Option Addr) (n1 c1 : Nat) (bb : Bool), y 11 = .pointer (some ⟨nb, 0, none⟩) ∧ B ≤ nb ∧ w'.heap[nb]? = some (.cells #[.slice a0 n0 c0, .slice a1 n1 c1, .bool bb] T (0, 0)) ∧ DiskR w' 0 w'.heap.size [.slice a0 n0 c0, .slice a1 n1 c1, .bool bb] x
set_option maxRecDepth 100000 in
set_option maxHeartbeats 2000000 in
theorem fnDiskSpoil_walk (A : Option Addr) (n c : Nat) (zs : List Int) (w : World) (h : BytesIn w A n c zs) :
    Calls Try.prog 4 #[.slice A n c] w fun e w' => e = .returned (.bool true) ∧ Below w.heap.size w w' := by
  go_enter Try.func4, Try.ntmps4
  by_cases hb : 1048576 < n
  · have h0 : (1048576 : Int) < (n : Int) := by omega
    go_wp2_with fail
    go_ret
    exact ⟨rfl, Below.refl _ _⟩
  have h0 : ¬ (1048576 : Int) < (n : Int) := by omega
  have h1 : (n : Int) ≤ 1048576 := by omega
  go_wp2_with fail
  refine (drawDiskSpoil_any A n c zs _ h).mono ?_
  rintro e w1 ⟨cs, x, at_, s, rfl, hD, hl1, hl2, hs, hb1⟩
  have HD1 := Lib.hid hD
  obtain ⟨A0, n0, c0, A1, n1, c1, rfl, -, -⟩ := hD
  have HB1 : Below w.heap.size w (World.alloc w1 (.cells #[.slice A0 n0 c0, .slice A1 n1 c1, .bool x.2.2] 26)) := Below.alloc hb1 (by exact hb1.size) _
  have hms : s.size ≤ maxLen := by unfold maxLen; omega
  go_wp2_with fail
  refine (diskSpoil_any _ x at_ s _ w.heap.size w1.heap.size (DiskR.below bel1 (Nat.le_refl _) _ _ HD1.out) hms).mono ?_
  obtain ⟨ok, hok⟩ : ∃ b, b = spoilOk x at_ s := ⟨_, rfl⟩
  rw [← hok]
  have HOK := Lib.hid hok; clear hok
  rintro e w2 ⟨cs2, rfl, hN2, hb2⟩
  have HD2 := Lib.hid hN2.r
  have hD2 := hN2.r
  obtain ⟨B0, m0, d0, B1, m1, d1, rfl, -, -⟩ := hD2
  have HB2 := HB1.trans (hb2.mono HB1.size)
  have l1 : w1.heap.size < w2.heap.size := by have := hb2.size; simp at this; omega
  have b2 : w2.heap[w1.heap.size]? = some (.cells #[.slice A0 n0 c0, .slice A1 n1 c1, .bool x.2.2] 26 (0, 0)) := (hb2.block _ (by simp)).trans (heap_alloc_new _ _)
  have HD1b := Lib.hid (DiskR.below (bel1.trans (hb2.mono (by simp))) (Nat.le_refl _) _ _ HD1.out)
  have u0 := cell_of_row _ _ 0 _ _ (0, 0) b2; have u1 := cell_of_row _ _ 1 _ _ (0, 0) b2; have u2 := cell_of_row _ _ 2 _ _ (0, 0) b2
  clear hb2 HD1 hN2
  go_wp2_with fail
  refine (spDiskSpoil_any _ x at_ s _ w.heap.size w1.heap.size (DiskR.below bel1 (Nat.le_of_lt l1) _ _ HD1b.out) hms).mono ?_
  rw [← HOK.out]
  rintro e w3 ⟨cs3, rfl, hN3, hb3⟩
  have HD3 := Lib.hid hN3.r
  have hD3 := hN3.r
  obtain ⟨C0, p0, e0, C1, p1, e1, rfl, -, -⟩ := hD3
  have HB2' : Below w.heap.size w (World.alloc w2 (.cells #[.slice B0 m0 d0, .slice B1 m1 d1, .bool (spoilD x at_ s).2.2] 26)) := Below.alloc HB2 (by exact HB2.size) _
  have HB3 := HB2'.trans (hb3.mono HB2'.size)
  have l2 : w2.heap.size < w3.heap.size := by have := hb3.size; simp at this; omega
  have X23 : Below w2.heap.size w2 w3 := bel1.trans (hb3.mono (by simp))
  have b3 : w3.heap[w1.heap.size]? = some (.cells #[.slice A0 n0 c0, .slice A1 n1 c1, .bool x.2.2] 26 (0, 0)) := (X23.block _ l1).trans b2
  have b3' : w3.heap[w2.heap.size]? = some (.cells #[.slice B0 m0 d0, .slice B1 m1 d1, .bool (spoilD x at_ s).2.2] 26 (0, 0)) := (hb3.block _ (by simp)).trans (heap_alloc_new _ _)
  have HD1c := Lib.hid (DiskR.below X23 (Nat.le_of_lt l1) _ _ HD1b.out)
  have HD2c := Lib.hid (DiskR.below X23 (Nat.le_refl _) _ _ HD2.out)
  have u0 := cell_of_row _ _ 0 _ _ (0, 0) b3; have u1 := cell_of_row _ _ 1 _ _ (0, 0) b3; have u2 := cell_of_row _ _ 2 _ _ (0, 0) b3
  have v0 := cell_of_row _ _ 0 _ _ (0, 0) b3'; have v1 := cell_of_row _ _ 1 _ _ (0, 0) b3'; have v2 := cell_of_row _ _ 2 _ _ (0, 0) b3'
  clear hb3 hN3 b2 HD1b HD2 HB2 HB2' HB1 hb1
  go_wp2_with fail
  refine (pfDisk_yes _ _ (spoilD x at_ s) _ _ _ _ _ (DiskR.below bel1 (Nat.le_of_lt l2) _ _ HD2c.out) (DiskR.below bel1 (Nat.le_refl _) _ _ HD3.out)).mono ?_
  rintro e w4 ⟨rfl, hb4⟩
  have X34 : Below w3.heap.size w3 w4 := bel1.trans (hb4.mono (by simp))
  have HB4 := HB3.trans (X34.mono HB3.size)
  have l3 : w3.heap.size ≤ w4.heap.size := X34.size
  have b4 := (X34.block _ (by omega)).trans b3
  have b4' := (X34.block _ l2).trans b3'
  have HD1d := Lib.hid (DiskR.below X34 (by omega) _ _ HD1c.out)
  have HD2d := Lib.hid (DiskR.below X34 (Nat.le_of_lt l2) _ _ HD2c.out)
  clear hb4 X34 X23 HD3 HD1c HD2c u0 u1 u2 v0 v1 v2 b3 b3' HB3
  cases ok
  · go_wp2_with fail
    go_ret
    exact ⟨rfl, HB4⟩
  · obtain ⟨k, u, hat, hk, hu, hu2, hok2, htw, hs2⟩ := spoil_twice HOK.out.symm
    subst hat
    have hus : u.size ≤ maxLen := by unfold maxLen; omega
    have HTW := Lib.hid htw; have HOK2 := Lib.hid hok2; have HS2 := Lib.hid hs2; have HU := Lib.hid hu
    clear htw hok2 hs2 hu
    have hpos : 0 < n0 := by
      obtain ⟨_, _, _, _, _, _, e, h0, _⟩ := HD1d.out
      injection e with e0 e; injection e0 with _ e1 _
      have hl := h0.len
      have := (List.getElem?_eq_some_iff.1 HU.out).1
      omega
    have hk0 : k < n0 := by
      obtain ⟨_, _, _, _, _, _, e, h0, _⟩ := HD1d.out
      injection e with e0 e; injection e0 with _ e1 _
      have hl := h0.len
      have := (List.getElem?_eq_some_iff.1 HU.out).1
      omega
    have hkm : k < m0 := by
      obtain ⟨_, _, _, _, _, _, e, h0, _⟩ := HD2d.out
      injection e with e0 e; injection e0 with _ e1 _
      have hl := h0.len
      have := (List.getElem?_eq_some_iff.1 HS2.out).1
      omega
    obtain ⟨ba, oa, hA0, hba, hqa⟩ : ∃ ba oa, A0 = some ⟨ba, oa, none⟩ ∧ ba < w4.heap.size ∧ w4.cell? ⟨ba, oa + k, none⟩ = some (.string u) := by
      obtain ⟨_, _, _, _, _, _, e, h0, _⟩ := HD1d.out
      injection e with e0 e; injection e0 with e0 e1 e2
      subst e0 e1 e2
      obtain ⟨b, off, hA, _, _, hbl, hc⟩ := h0.at_ hpos
      obtain ⟨cs, _, hcs, rfl, _⟩ := hc k u HU.out
      have := hcs 0 _ rfl
      exact ⟨b, off, hA, hbl, by simpa using this⟩
    obtain ⟨bb, ob, hB0, hbb, hqb⟩ : ∃ bb ob, B0 = some ⟨bb, ob, none⟩ ∧ bb < w4.heap.size ∧ w4.cell? ⟨bb, ob + k, none⟩ = some (.string s) := by
      obtain ⟨_, _, _, _, _, _, e, h0, _⟩ := HD2d.out
      injection e with e0 e; injection e0 with e0 e1 e2
      subst e0 e1 e2
      obtain ⟨b, off, hA, _, _, hbl, hc⟩ := h0.at_ (by omega)
      obtain ⟨cs, _, hcs, rfl, _⟩ := hc k s HS2.out
      have := hcs 0 _ rfl
      exact ⟨b, off, hA, hbl, by simpa using this⟩
    subst hA0 hB0
    have kk0 : (0 : Int) ≤ (k : Int) := by omega
    have kk1 : (k : Int) < (n0 : Int) := by omega
    have kk2 : (k : Int) < (m0 : Int) := by omega
    have l1 : w1.heap.size < w4.heap.size := (Array.getElem?_eq_some_iff.1 b4).1
    have l2' : w2.heap.size < w4.heap.size := (Array.getElem?_eq_some_iff.1 b4').1
    have c0 := cell_of_row _ _ 0 _ _ (0, 0) b4; have c1 := cell_of_row _ _ 1 _ _ (0, 0) b4; have c2 := cell_of_row _ _ 2 _ _ (0, 0) b4
    have d0' := cell_of_row _ _ 0 _ _ (0, 0) b4'; have d1' := cell_of_row _ _ 1 _ _ (0, 0) b4'; have d2' := cell_of_row _ _ 2 _ _ (0, 0) b4'
    have HSP : Hid (∀ w', Below w4.heap.size w4 w' → Calls Try.prog 22 #[.agg #[.slice (some ⟨bb, ob, none⟩) m0 d0, .slice B1 m1 d1, .bool (spoilD x (k : Int) s).2.2], .int .i64 (k : Int), .string u] w' (NewR2 DiskN w' x true)) := Lib.hid (fun w' hb => by
      have := diskSpoil_any [.slice (some ⟨bb, ob, none⟩) m0 d0, .slice B1 m1 d1, .bool (spoilD x (k : Int) s).2.2] (spoilD x (k : Int) s) (k : Int) u w' _ _ (DiskR.below hb (by omega) _ _ HD2d.out) hus
      rw [HTW.out, HOK2.out] at this
      exact this)
    go_wp2_with fail
    apply wp_region_rgz (DS (w4.heap.size)) (Ext) (fun y w' k' => 1000 ≤ k' → DoneJ w4.heap.size 26 x y w') (0 :: 0 :: 0 :: 0 :: 0 :: 0 :: 0 :: 0 :: 0 :: 0 :: 0 :: 0 :: 1000 :: 0 :: []) (1000 :: 1000 :: 1000 :: 1000 :: 1000 :: 1000 :: 1000 :: 1000 :: 1000 :: 1000 :: 0 :: 1000 :: 1000 :: 0 :: []) (by kernel_rfl) (false :: false :: false :: false :: false :: false :: false :: false :: false :: false :: false :: true :: true :: false :: false :: false :: false :: false :: false :: false :: false :: false :: false :: false :: false :: false :: false :: false :: false :: false :: false :: false :: false :: false :: false :: false :: false :: false :: false :: false :: false :: false :: false :: false :: false :: false :: false :: false :: false :: false :: false :: true :: true :: true :: true :: true :: true :: true :: true :: true :: true :: true :: false :: false :: false :: false :: false :: false :: false :: false :: false :: false :: false :: false :: false :: false :: false :: []) (some 52 :: some 53 :: some 54 :: some 55 :: some 56 :: some 57 :: some 58 :: some 59 :: some 51 :: some 60 :: some 61 :: some 11 :: none :: some 12 :: []) ([] :: [] :: [] :: [2] :: [] :: [3, 4] :: [5] :: [0, 1, 6] :: [7] :: [8] :: [8] :: [] :: [9, 11] :: [10] :: []) (false :: false :: false :: false :: false :: false :: false :: false :: false :: false :: false :: false :: true :: false :: []) (true :: true :: true :: true :: true :: true :: true :: true :: true :: true :: true :: false :: true :: true :: []) [13] (MStP.is _ :: MStP.is _ :: MStP.is _ :: MStP.is _ :: MStP.is _ :: MStP.is _ :: MStP.is _ :: softDisk (w4.heap.size) x (fun cs => .tuple #[.agg cs.toArray, .bool true]) :: softDisk (w4.heap.size) x (fun cs => .tuple #[.agg cs.toArray, .bool true]) :: softDisk (w4.heap.size) x (fun cs => .agg cs.toArray) :: MStP.is _ :: softBoxD (w4.heap.size) 26 #[.slice none 0 0, .slice none 0 0, .bool false] :: MStP.is _ :: MStP.is _ :: []) (by kernel_rfl) (by kernel_rfl) (by kernel_rfl) (by kernel_rfl)
    case hobs =>
      refine ⟨fun y w' k hS hj hk hF K hK => ?_, ?_⟩
      · skip -- 0: load
        simp only [fillL, cond_true, cond_false, List.getD_cons_zero, List.getD_cons_succ, StP.is, Act.put, List.setIfInBounds_toArray, List.set_cons_zero, List.set_cons_succ, Nat.reduceAdd, MStP.is, Option.isSome_some, Option.isSome_none] at hK ⊢
        simp only [List.sum_cons, List.sum_nil, List.getD_cons_zero, List.getD_cons_succ, Nat.reduceAdd, Nat.add_zero] at hk
        refine rg_yes (by kernel_rfl) ?_
        have hSb : Below w4.heap.size w4 w' := hS.1 (Nat.le_refl _)
        have hsz := hSb.size
        clear hF
        have q0_ := (hSb.cell l2').trans d0'
        have q1_ := (hSb.cell l2').trans d1'
        have q2_ := (hSb.cell l2').trans d2'
        go_simp
        exact hK _ _ (Ext.refl _) (fun h => absurd h (by omega)) rfl
      refine ⟨fun y w' k hS hj hk hF K hK => ?_, ?_⟩
      · skip -- 1: move
        simp only [fillL, cond_true, cond_false, List.getD_cons_zero, List.getD_cons_succ, StP.is, Act.put, List.setIfInBounds_toArray, List.set_cons_zero, List.set_cons_succ, Nat.reduceAdd, MStP.is, Option.isSome_some, Option.isSome_none] at hK ⊢
        simp only [List.sum_cons, List.sum_nil, List.getD_cons_zero, List.getD_cons_succ, Nat.reduceAdd, Nat.add_zero] at hk
        refine rg_yes (by kernel_rfl) ?_
        have hSb : Below w4.heap.size w4 w' := hS.1 (Nat.le_refl _)
        have hsz := hSb.size
        clear hF
        go_simp
        exact hK _ _ (Ext.refl _) (fun h => absurd h (by omega)) rfl
      refine ⟨fun y w' k hS hj hk hF K hK => ?_, ?_⟩
      · skip -- 2: fieldAddr
        simp only [fillL, cond_true, cond_false, List.getD_cons_zero, List.getD_cons_succ, StP.is, Act.put, List.setIfInBounds_toArray, List.set_cons_zero, List.set_cons_succ, Nat.reduceAdd, MStP.is, Option.isSome_some, Option.isSome_none] at hK ⊢
        simp only [List.sum_cons, List.sum_nil, List.getD_cons_zero, List.getD_cons_succ, Nat.reduceAdd, Nat.add_zero] at hk
        refine rg_yes (by kernel_rfl) ?_
        have hSb : Below w4.heap.size w4 w' := hS.1 (Nat.le_refl _)
        have hsz := hSb.size
        clear hF
        go_simp
        exact hK _ _ (Ext.refl _) (fun h => absurd h (by omega)) rfl
      refine ⟨fun y w' k hS hj hk hF K hK => ?_, ?_⟩
      · skip -- 3: load
        have e54 : y 54 = _ := hF.1
        have e54' := Lib.hid e54
        simp only [fillL, cond_true, cond_false, List.getD_cons_zero, List.getD_cons_succ, StP.is, Act.put, List.setIfInBounds_toArray, List.set_cons_zero, List.set_cons_succ, Nat.reduceAdd, e54, MStP.is, Option.isSome_some, Option.isSome_none] at hK ⊢
        simp only [List.sum_cons, List.sum_nil, List.getD_cons_zero, List.getD_cons_succ, Nat.reduceAdd, Nat.add_zero] at hk
        refine rg_yes (by kernel_rfl) ?_
        have hSb : Below w4.heap.size w4 w' := hS.1 (Nat.le_refl _)
        have hsz := hSb.size
        clear e54
        clear hF
        have q0_ := (hSb.cell l1).trans c0
        go_simp
        exact hK _ _ (Ext.refl _) (fun h => absurd h (by omega)) rfl
      refine ⟨fun y w' k hS hj hk hF K hK => ?_, ?_⟩
      · skip -- 4: move
        simp only [fillL, cond_true, cond_false, List.getD_cons_zero, List.getD_cons_succ, StP.is, Act.put, List.setIfInBounds_toArray, List.set_cons_zero, List.set_cons_succ, Nat.reduceAdd, MStP.is, Option.isSome_some, Option.isSome_none] at hK ⊢
        simp only [List.sum_cons, List.sum_nil, List.getD_cons_zero, List.getD_cons_succ, Nat.reduceAdd, Nat.add_zero] at hk
        refine rg_yes (by kernel_rfl) ?_
        have hSb : Below w4.heap.size w4 w' := hS.1 (Nat.le_refl _)
        have hsz := hSb.size
        clear hF
        go_simp
        exact hK _ _ (Ext.refl _) (fun h => absurd h (by omega)) rfl
      refine ⟨fun y w' k hS hj hk hF K hK => ?_, ?_⟩
      · skip -- 5: indexAddr
        have e55 : y 55 = _ := hF.1
        have e56 : y 56 = _ := hF.2.1
        have e55' := Lib.hid e55
        have e56' := Lib.hid e56
        simp only [fillL, cond_true, cond_false, List.getD_cons_zero, List.getD_cons_succ, StP.is, Act.put, List.setIfInBounds_toArray, List.set_cons_zero, List.set_cons_succ, Nat.reduceAdd, e55, e56, MStP.is, Option.isSome_some, Option.isSome_none] at hK ⊢
        simp only [List.sum_cons, List.sum_nil, List.getD_cons_zero, List.getD_cons_succ, Nat.reduceAdd, Nat.add_zero] at hk
        refine rg_yes (by kernel_rfl) ?_
        have hSb : Below w4.heap.size w4 w' := hS.1 (Nat.le_refl _)
        have hsz := hSb.size
        clear e55 e56
        clear hF
        go_simp
        exact hK _ _ (Ext.refl _) (fun h => absurd h (by omega)) rfl
      refine ⟨fun y w' k hS hj hk hF K hK => ?_, ?_⟩
      · skip -- 6: load
        have e57 : y 57 = _ := hF.1
        have e57' := Lib.hid e57
        simp only [fillL, cond_true, cond_false, List.getD_cons_zero, List.getD_cons_succ, StP.is, Act.put, List.setIfInBounds_toArray, List.set_cons_zero, List.set_cons_succ, Nat.reduceAdd, e57, MStP.is, Option.isSome_some, Option.isSome_none] at hK ⊢
        simp only [List.sum_cons, List.sum_nil, List.getD_cons_zero, List.getD_cons_succ, Nat.reduceAdd, Nat.add_zero] at hk
        refine rg_yes (by kernel_rfl) ?_
        have hSb : Below w4.heap.size w4 w' := hS.1 (Nat.le_refl _)
        have hsz := hSb.size
        clear e57
        clear hF
        have q0_ := (hSb.cell hba).trans hqa
        go_simp
        exact hK _ _ (Ext.refl _) (fun h => absurd h (by omega)) rfl
      refine ⟨fun y w' k hS hj hk hF K hK => ?_, ?_⟩
      · skip -- 7: call
        have e52 : y 52 = _ := hF.1
        have e53 : y 53 = _ := hF.2.1
        have e58 : y 58 = _ := hF.2.2.1
        have e52' := Lib.hid e52
        have e53' := Lib.hid e53
        have e58' := Lib.hid e58
        simp only [fillL, cond_true, cond_false, List.getD_cons_zero, List.getD_cons_succ, StP.is, Act.put, List.setIfInBounds_toArray, List.set_cons_zero, List.set_cons_succ, Nat.reduceAdd, e52, e53, e58, MStP.is, Option.isSome_some, Option.isSome_none] at hK ⊢
        simp only [List.sum_cons, List.sum_nil, List.getD_cons_zero, List.getD_cons_succ, Nat.reduceAdd, Nat.add_zero] at hk
        refine rg_yes (by kernel_rfl) ?_
        have hSb : Below w4.heap.size w4 w' := hS.1 (Nat.le_refl _)
        have hsz := hSb.size
        clear e52 e53 e58
        clear hF
        go_simp
        go_at_call 22
        refine (HSP.out w' hSb).mono ?_
        rintro e w'' ⟨cs2, rfl, hN2, hb2⟩
        exact hK _ _ hb2 (fun h => absurd h (by omega)) ⟨cs2, _, _, rfl, Nat.le_refl _, hN2.r⟩
      refine ⟨fun y w' k hS hj hk hF K hK => ?_, ?_⟩
      · skip -- 8: move
        obtain ⟨cs_, lo_, hi_, e59, hh_, hr_⟩ := hF.1
        have e59' := Lib.hid e59
        simp only [fillL, cond_true, cond_false, List.getD_cons_zero, List.getD_cons_succ, StP.is, Act.put, List.setIfInBounds_toArray, List.set_cons_zero, List.set_cons_succ, Nat.reduceAdd, e59, MStP.is, Option.isSome_some, Option.isSome_none] at hK ⊢
        simp only [List.sum_cons, List.sum_nil, List.getD_cons_zero, List.getD_cons_succ, Nat.reduceAdd, Nat.add_zero] at hk
        refine rg_yes (by kernel_rfl) ?_
        have hSb : Below w4.heap.size w4 w' := hS.1 (Nat.le_refl _)
        have hsz := hSb.size
        clear e59
        clear hF
        go_simp
        exact hK _ _ (Ext.refl _) (fun h => absurd h (by omega)) ⟨cs_, lo_, hi_, rfl, hh_, hr_⟩
      refine ⟨fun y w' k hS hj hk hF K hK => ?_, ?_⟩
      · skip -- 9: extract
        obtain ⟨cs_, lo_, hi_, e51, hh_, hr_⟩ := hF.1
        have e51' := Lib.hid e51
        simp only [fillL, cond_true, cond_false, List.getD_cons_zero, List.getD_cons_succ, StP.is, Act.put, List.setIfInBounds_toArray, List.set_cons_zero, List.set_cons_succ, Nat.reduceAdd, e51, MStP.is, Option.isSome_some, Option.isSome_none] at hK ⊢
        simp only [List.sum_cons, List.sum_nil, List.getD_cons_zero, List.getD_cons_succ, Nat.reduceAdd, Nat.add_zero] at hk
        refine rg_yes (by kernel_rfl) ?_
        have hSb : Below w4.heap.size w4 w' := hS.1 (Nat.le_refl _)
        have hsz := hSb.size
        clear e51
        clear hF
        go_simp
        exact hK _ _ (Ext.refl _) (fun h => absurd h (by omega)) ⟨cs_, lo_, hi_, rfl, hh_, hr_⟩
      refine ⟨fun y w' k hS hj hk hF K hK => ?_, ?_⟩
      · skip -- 10: extract
        obtain ⟨cs_, lo_, hi_, e51, hh_, hr_⟩ := hF.1
        have e51' := Lib.hid e51
        simp only [fillL, cond_true, cond_false, List.getD_cons_zero, List.getD_cons_succ, StP.is, Act.put, List.setIfInBounds_toArray, List.set_cons_zero, List.set_cons_succ, Nat.reduceAdd, e51, MStP.is, Option.isSome_some, Option.isSome_none] at hK ⊢
        simp only [List.sum_cons, List.sum_nil, List.getD_cons_zero, List.getD_cons_succ, Nat.reduceAdd, Nat.add_zero] at hk
        refine rg_yes (by kernel_rfl) ?_
        have hSb : Below w4.heap.size w4 w' := hS.1 (Nat.le_refl _)
        have hsz := hSb.size
        clear e51
        clear hF
        go_simp
        exact hK _ _ (Ext.refl _) (fun h => by obtain ⟨nb, a0, n0, c0, a1, n1, c1, bb, ha, hr⟩ := hj (by omega); exact ⟨nb, a0, n0, c0, a1, n1, c1, bb, by simpa [updY] using ha, hr⟩) rfl
      refine ⟨fun y w' k hS hj hk hF K hK => ?_, ?_⟩
      · skip -- 11: alloc
        simp only [fillL, cond_true, cond_false, List.getD_cons_zero, List.getD_cons_succ, StP.is, Act.put, List.setIfInBounds_toArray, List.set_cons_zero, List.set_cons_succ, Nat.reduceAdd, MStP.is, Option.isSome_some, Option.isSome_none] at hK ⊢
        simp only [List.sum_cons, List.sum_nil, List.getD_cons_zero, List.getD_cons_succ, Nat.reduceAdd, Nat.add_zero] at hk
        refine rg_yes (by kernel_rfl) ?_
        have hSb : Below w4.heap.size w4 w' := hS.1 (Nat.le_refl _)
        have hsz := hSb.size
        clear hF
        go_simp
        exact hK _ _ (Ext.alloc _ _) (fun h => absurd h (by omega)) ⟨_, by omega, rfl, heap_alloc_new _ _⟩
      refine ⟨fun y w' k hS hj hk hF K hK => ?_, ?_⟩
      · skip -- 12: store
        obtain ⟨cs_, lo_, hi_, e60, hh_, hr_⟩ := hF.1
        obtain ⟨nb, hBn, e11, hln⟩ := hF.2.1
        have e60' := Lib.hid e60
        have e11' := Lib.hid e11
        simp only [fillL, cond_true, cond_false, List.getD_cons_zero, List.getD_cons_succ, StP.is, Act.put, List.setIfInBounds_toArray, List.set_cons_zero, List.set_cons_succ, Nat.reduceAdd, e60, e11, MStP.is, Option.isSome_some, Option.isSome_none] at hK ⊢
        simp only [List.sum_cons, List.sum_nil, List.getD_cons_zero, List.getD_cons_succ, Nat.reduceAdd, Nat.add_zero] at hk
        refine rg_yes (by kernel_rfl) ?_
        have hSb : Below w4.heap.size w4 w' := hS.1 (Nat.le_refl _)
        have hsz := hSb.size
        clear e60 e11
        clear hF
        have HRR_ := Lib.hid hr_
        obtain ⟨a0, n0_, c0_, a1, n1_, c1_, hcs, -, -⟩ := hr_
        subst hcs
        have HE3 := e11'; clear e11'
        have fz := fun o => block_free hln o
        have fz0 := fz 0; have fz1 := fz 1; have fz2 := fz 2
        have cz0 := cell_of_row _ _ 0 _ _ (0, 0) hln
        have cz1 := cell_of_row _ _ 1 _ _ (0, 0) hln
        have cz2 := cell_of_row _ _ 2 _ _ (0, 0) hln
        clear fz
        have HSET := Lib.hid (setD_3 (x0 := .slice a0 n0_ c0_) (x1 := .slice a1 n1_ c1_) (x2 := .bool x.2.2) hln)
        have HBX : Hid (BoxF w'.heap[nb]?) := Lib.hid ⟨_, _, _, _, _, _, _, _, hln⟩
        have HL3 := Lib.hid hln; clear hln
        go_simp
        have hDS : DS (w4.heap.size) w' (((w'.setCell ⟨nb, 0, none⟩ (.slice a0 n0_ c0_)).setCell ⟨nb, 1, none⟩ (.slice a1 n1_ c1_)).setCell ⟨nb, 2, none⟩ (.bool x.2.2)) := by
          refine ⟨fun hB => ?_, by simp [World.setCell], fun i hi hn => ?_⟩
          · exact Below.setCell (p := ⟨nb, 2, none⟩) (Below.setCell (p := ⟨nb, 1, none⟩) (Below.setCell (p := ⟨nb, 0, none⟩) (Below.refl _ _) hBn _) hBn _) hBn _
          · have h1 : i ≠ nb := fun e => hn (e ▸ HBX.out)
            exact (heap_far h1).trans ((heap_far h1).trans (heap_far h1))
        exact hK undef _ hDS (fun _ => ⟨nb, a0, n0_, c0_, a1, n1_, c1_, x.2.2, HE3.out, hBn, HSET.out, disk_DS HRR_.out hDS⟩) rfl
      refine ⟨fun y w' k hS hj hk hF K hK => ?_, ?_⟩
      · skip -- 13: assign
        have e61 : y 61 = _ := hF.1
        have e61' := Lib.hid e61
        simp only [fillL, cond_true, cond_false, List.getD_cons_zero, List.getD_cons_succ, StP.is, Act.put, List.setIfInBounds_toArray, List.set_cons_zero, List.set_cons_succ, Nat.reduceAdd, e61, MStP.is, Option.isSome_some, Option.isSome_none] at hK ⊢
        simp only [List.sum_cons, List.sum_nil, List.getD_cons_zero, List.getD_cons_succ, Nat.reduceAdd, Nat.add_zero] at hk
        refine rg_yes (by kernel_rfl) ?_
        have hSb : Below w4.heap.size w4 w' := hS.1 (Nat.le_refl _)
        have hsz := hSb.size
        clear e61
        clear hF
        go_simp
        exact hK _ _ (Ext.refl _) (fun h => by obtain ⟨nb, a0, n0, c0, a1, n1, c1, bb, ha, hr⟩ := hj (by omega); exact ⟨nb, a0, n0, c0, a1, n1, c1, bb, by simpa [updY] using ha, hr⟩) rfl
      trivial
    case hH => rfl
    case hNS => exact fun _ _ h => DS.of_ext h
    case hSt => exact fun a b => DS.trans a b
    case hb => rfl
    case hdrew => exact ⟨Own.drew _ _, Nat.le_refl _, fun _ _ _ => rfl⟩
    case hj0 => exact fun y h => absurd h (by omega)
    case hend =>
      intro y w5 hS hJ hF
      have e12 : y 12 = _ := hF.1
      obtain ⟨nb, p0, q0, r0, p1, q1, r1, bb0, e11, hBn, hln, hDD⟩ := hJ (by decide)
      clear hJ hF
      simp only [fillL, cond_true, cond_false, Nat.reduceAdd, e11, e12]
      clear e11 e12
      have hb5 : Below w4.heap.size w4 w5 := hS.1 (Nat.le_refl _)
      have HB5 := HB4.trans (hb5.mono HB4.size)
      have z5 := hb5.size
      have l5 : w1.heap.size < w5.heap.size := by omega
      have l5' : w2.heap.size < w5.heap.size := by omega
      have c0_ := (hb5.cell l1).trans c0; have c1_ := (hb5.cell l1).trans c1; have c2_ := (hb5.cell l1).trans c2
      have d0_ := (hb5.cell l2').trans d0'
      have qb_ := (hb5.cell hbb).trans hqb
      have v0 := cell_of_row _ _ 0 _ _ (0, 0) hln; have v1 := cell_of_row _ _ 1 _ _ (0, 0) hln; have v2 := cell_of_row _ _ 2 _ _ (0, 0) hln
      have hself : ∀ s : ByteArray, (s.toList == s.toList) = true := fun s => by simp
      have HDD := Lib.hid hDD
      have HD5 := Lib.hid (DiskR.below hb5 (by omega) _ _ HD1d.out)
      have HBB5 := Lib.hid HB5
      clear hS hb5 hDD c0 c1 c2 d0' d1' d2' hqa hqb b4 b4' HB4 HB5
      go_wp2_with fail
      refine (pfDisk_yes _ _ x _ _ _ _ _ HDD.out HD5.out).mono ?_
      rintro e w6 ⟨rfl, hb6⟩
      go_wp2_with fail
      go_ret
      exact ⟨rfl, HBB5.out.trans (hb6.mono HBB5.out.size)⟩
end Go.Proofs.Ytgipchipcoaajaa
