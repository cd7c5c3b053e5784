/- FnCacheLoop: the walk. No condition. -/
import Derived.Test.YtfokpjoeankobaaCachePlay
import Derived.Test.YtfokpjoeankobaaFnCacheNew
namespace Go.Proofs.Ytfokpjoeankobaa
set_option linter.unnecessarySimpa false
open Go Go.Lib Go.RowKit
set_option linter.unusedVariables false
set_option linter.unusedSimpArgs false
/-- The rows that are asked. -/
def rowsOf (m : Nat) : List Int := (List.range m).map (fun i : Nat => 8 + (i : Int))
theorem rowsOf_len (m : Nat) : (rowsOf m).length = m := by unfold rowsOf; simp
theorem rowsOf_succ (m : Nat) : rowsOf (m + 1) = rowsOf m ++ [8 + (m : Int)] := by unfold rowsOf; rw [List.range_succ, List.map_append]; rfl
theorem rowsOf_nodup (m : Nat) : (rowsOf m).Nodup := by
  unfold rowsOf
  rw [List.nodup_iff_pairwise_ne] at *
  refine List.Pairwise.map _ (fun a b h e => h (by omega)) (List.nodup_iff_pairwise_ne.1 List.nodup_range)
theorem rowsOf_in {m : Nat} (h : m ≤ 8) : ∀ r ∈ rowsOf m, inB r 8 63 = true := by
  intro r hr
  unfold rowsOf at hr
  obtain ⟨i, hi, rfl⟩ := List.mem_map.1 hr
  have := List.mem_range.1 hi
  exact inB_yes (by omega)
theorem rowsOf_ok {m : Nat} (h : m ≤ 8) : rowsOk (rowsOf m).reverse = true := by
  have hm : m = 0 ∨ m = 1 ∨ m = 2 ∨ m = 3 ∨ m = 4 ∨ m = 5 ∨ m = 6 ∨ m = 7 ∨ m = 8 := by omega
  rcases hm with rfl | rfl | rfl | rfl | rfl | rfl | rfl | rfl | rfl <;> decide
theorem loop_ok {m : Nat} {ro : Int} (h1 : 1 ≤ m) (h : (m : Int) ≤ ro) (h8 : ro ≤ 8) : cacheOkB (ro, 0, (rowsOf m).reverse, [], [], []) = true ∧ cacheOkB (ro, 0, [], (rowsOf m).reverse, [], []) = true := by
  have e := rowsOf_len m
  have k := rowsOf_ok (m := m) (by omega)
  have a1 : inB ro 1 8 = true := inB_yes (by omega)
  have a2 : inB 0 0 ro = true := inB_yes (by omega)
  unfold cacheOkB
  refine ⟨?_, ?_⟩ <;> simp only [a1, a2, List.append_nil, List.nil_append, k, List.length_nil, List.length_reverse, e] <;> simp <;> omega
set_option maxRecDepth 100000 in
set_option maxHeartbeats 4000000 in
theorem fnCacheLoop_walk (A : Option Addr) (n c : Nat) (zs : List Int) (w : World) (hz : BytesIn w A n c zs) :
    Calls Try.prog 3 #[.slice A n c] w fun e w' => e = .returned (.bool true) ∧ Below w.heap.size w w' := by
  obtain ⟨i0, hi0, hz0, hz1, hz2⟩ := info_parts info_int
  by_cases hn : n ≤ 1048576
  rotate_left
  · go_enter Try.func3, Try.ntmps3
    go_wp2_with fail
    go_ret
    exact ⟨rfl, Below.refl _ _⟩
  go_enter Try.func3, Try.ntmps3
  go_wp2_with fail
  refine (drawCacheNew_any A n c zs _ hz).mono ?_
  rintro e w1 ⟨x, rfl, hx1, hx9, hb1⟩
  have HB1 := Lib.hid hb1; clear hb1
  go_wp2_with fail
  have HN := Lib.hid (cacheNew_ok (x := x))
  have R1 := Lib.hid (cacheNew_any x); have R2 := Lib.hid (spCacheNew_any x)
  refine (R1.out _).mono ?_
  rintro e w2 ⟨rfl, hb2⟩
  have HB2 := Lib.hid (HB1.out.trans (hb2.mono HB1.out.size)); clear hb2
  go_wp2_with fail
  refine (R2.out _).mono ?_
  rintro e w3 ⟨B0, B1, B2, B3, rfl, hb3⟩
  have hq3 : w3.heap[w2.heap.size]? = some (.cells #[.int .i64 (roomOf x), .int .i64 0, .slice none 0 0, .slice none 0 0, .slice none 0 0, .slice none 0 0] 26 (0, 0)) := (hb3.block _ (by simp)).trans (heap_alloc_new _ _)
  have HB3 := Lib.hid ((HB2.out.alloc HB2.out.size _).trans (hb3.mono (by simp; have := HB2.out.size; omega)))
  have HQ3 := Lib.hid hq3
  have z3 := hb3.size
  simp at z3
  clear hb3 R1 R2
  have uc0 := cell_of_row _ _ 0 _ _ (0, 0) hq3; have uc1 := cell_of_row _ _ 1 _ _ (0, 0) hq3; have uc2 := cell_of_row _ _ 2 _ _ (0, 0) hq3; have uc3 := cell_of_row _ _ 3 _ _ (0, 0) hq3; have uc4 := cell_of_row _ _ 4 _ _ (0, 0) hq3; have uc5 := cell_of_row _ _ 5 _ _ (0, 0) hq3; have ul := (Array.getElem?_eq_some_iff.1 hq3).1
  clear hq3
  have HB4 : Hid (Below w.heap.size w (w3.alloc (.cells #[.int .i64 (roomOf x), .int .i64 0, .slice B0 0 0, .slice B1 0 0, .slice B2 0 0, .slice B3 0 0] 26))) := Lib.hid (HB3.out.alloc HB3.out.size _)
  have HQ4 : Hid ((w3.alloc (.cells #[.int .i64 (roomOf x), .int .i64 0, .slice B0 0 0, .slice B1 0 0, .slice B2 0 0, .slice B3 0 0] 26)).heap[w2.heap.size]? = some (.cells #[.int .i64 (roomOf x), .int .i64 0, .slice none 0 0, .slice none 0 0, .slice none 0 0, .slice none 0 0] 26 (0, 0))) := Lib.hid ((Below.heap_alloc _ _ _ ul).trans HQ3.out)
  have HQ4b : Hid ((w3.alloc (.cells #[.int .i64 (roomOf x), .int .i64 0, .slice B0 0 0, .slice B1 0 0, .slice B2 0 0, .slice B3 0 0] 26)).heap[w3.heap.size]? = some (.cells #[.int .i64 (roomOf x), .int .i64 0, .slice B0 0 0, .slice B1 0 0, .slice B2 0 0, .slice B3 0 0] 26 (0, 0))) := Lib.hid (heap_alloc_new _ _)
  go_wp2_with fail
  refine (pfCache_yes [.int .i64 (roomOf x), .int .i64 0, .slice none 0 0, .slice none 0 0, .slice none 0 0, .slice none 0 0] [.int .i64 (roomOf x), .int .i64 0, .slice B0 0 0, .slice B1 0 0, .slice B2 0 0, .slice B3 0 0] (roomOf x, 0, [], [], [], []) _ 0 0 0 0 noCache noCache).mono ?_
  rintro e w5 ⟨rfl, hb5⟩
  have HB5 := Lib.hid (HB4.out.trans (hb5.mono HB4.out.size))
  have hq5 := (hb5.block _ (by simp; omega)).trans HQ4.out; have hq5b := (hb5.block _ (by simp)).trans HQ4b.out
  have HQ5 := Lib.hid hq5; have HQ5b := Lib.hid hq5b
  clear hb5 HQ4 HQ4b HQ3 uc0 uc1 uc2 uc3 uc4 uc5 ul
  have uc0 := cell_of_row _ _ 0 _ _ (0, 0) hq5; have uc1 := cell_of_row _ _ 1 _ _ (0, 0) hq5; have uc2 := cell_of_row _ _ 2 _ _ (0, 0) hq5; have uc3 := cell_of_row _ _ 3 _ _ (0, 0) hq5; have uc4 := cell_of_row _ _ 4 _ _ (0, 0) hq5; have uc5 := cell_of_row _ _ 5 _ _ (0, 0) hq5; have ul := (Array.getElem?_eq_some_iff.1 hq5).1
  have vc0 := cell_of_row _ _ 0 _ _ (0, 0) hq5b; have vc1 := cell_of_row _ _ 1 _ _ (0, 0) hq5b; have vc2 := cell_of_row _ _ 2 _ _ (0, 0) hq5b; have vc3 := cell_of_row _ _ 3 _ _ (0, 0) hq5b; have vc4 := cell_of_row _ _ 4 _ _ (0, 0) hq5b; have vc5 := cell_of_row _ _ 5 _ _ (0, 0) hq5b; have vl := (Array.getElem?_eq_some_iff.1 hq5b).1
  clear hq5 hq5b
  cases hok : inB x 1 8
  · go_wp2_with fail
    refine (pfCache_yes [.int .i64 (roomOf x), .int .i64 0, .slice none 0 0, .slice none 0 0, .slice none 0 0, .slice none 0 0] [.int .i64 (roomOf x), .int .i64 0, .slice B0 0 0, .slice B1 0 0, .slice B2 0 0, .slice B3 0 0] (roomOf x, 0, [], [], [], []) _ 0 0 0 0 noCache noCache).mono ?_
    rintro e w6 ⟨rfl, hb6⟩
    have HB6 := Lib.hid (HB5.out.trans (hb6.mono HB5.out.size))
    clear hb6
    go_wp2_with fail
    go_ret
    exact ⟨rfl, HB6.out⟩
  have HP := Lib.hid (HN.out hok)
  have HX : Hid (roomOf x = x) := Lib.hid HP.out.2.1
  have hx : 1 ≤ x ∧ x ≤ 8 := by have h := hok; unfold inB at h; simpa using h
  obtain ⟨xn, hxn⟩ : ∃ xn : Nat, x = (xn : Int) := ⟨x.toNat, by omega⟩
  have hxp : 0 < xn := by omega
  obtain ⟨j1, hj1, t1⟩ : ∃ j1 : Nat, j1 < xn ∧ (n : Int).tmod x = (j1 : Int) := ⟨n % xn, Nat.mod_lt _ hxp, by rw [hxn, Int.tmod_eq_emod_of_nonneg (by omega)]; rfl⟩
  have t2 : (n : Int).tmod (xn : Int) = (j1 : Int) := by rw [← hxn]; exact t1
  have x0 : ¬ x = 0 := by omega
  have x0b : (x == 0) = false := by simpa using x0
  have nu1 : IntKind.i64.wrap (j1 : Int) = (j1 : Int) := IntWalk.i64_in _ (by omega)
  obtain ⟨m, hm⟩ : ∃ m : Nat, m = 1 + j1 := ⟨_, rfl⟩
  have nu2 : IntKind.i64.wrap (1 + (j1 : Int)) = (m : Int) := by rw [IntWalk.i64_in _ (by omega)]; omega
  have m1 : 1 ≤ m := by omega
  have mx : (m : Int) ≤ x := by omega
  have m8 : m ≤ 8 := by omega
  have HM := Lib.hid hm; have HXN := Lib.hid hxn
  clear hok HN HQ5b hm hxn t2 vc0 vc1 vc2 vc3 vc4 vc5 vl
  go_wp2_with fail
  obtain ⟨w6, hw6⟩ : ∃ W, W = w5.alloc (.cells #[] 3) := ⟨_, rfl⟩
  have HA6 : Hid (Below w5.heap.size w5 w6) := Lib.hid (by rw [hw6]; exact bel1)
  rw [← hw6]
  clear hw6 nu1 nu2 t1 x0 x0b
  have HQ5 := Lib.hid (HX.out ▸ HQ5.out)
  go_loopw [9, 10] (fun t i wr => ∃ (k : Nat) (A' : Option Addr) (c' : Nat) (S : List Nat), k ≤ m ∧ i = .int .i64 (k : Int) ∧ t = .slice A' k c' ∧ Hid (OwnA wr 3 1 S A' k c' ((rowsOf k).map (Value.int .i64))) ∧ Hid (∀ g ∈ S, w5.heap.size ≤ g) ∧ Hid (Below w5.heap.size w5 wr)) (fun _ i _ => m - (RowKit.intOf i).toNat)
  case atStart => exact ⟨0, _, 0, [], Nat.zero_le _, rfl, rfl, Lib.hid (OwnA.nil _), Lib.hid (fun g hg => by cases hg), HA6⟩
  case round =>
    clear HA6 uc0 uc1 uc2 uc3 uc4 uc5 ul
    obtain ⟨k, A', c', S, hk, rfl, rfl, HO, HS, HB⟩ := hrel
    have zr := HB.out.size
    by_cases hlt : k < m
    · have nu3 : IntKind.i64.wrap (8 + (k : Int)) = 8 + (k : Int) := IntWalk.i64_in _ (by omega)
      have nu4 : IntKind.i64.wrap ((k : Int) + 1) = ((k + 1 : Nat) : Int) := by rw [IntWalk.i64_in _ (by omega)]; omega
      have k1 : (k : Int) < (m : Int) := by omega
      have HOA := Lib.hid (HO.out.below (bel1 (o := .cells #[.int .i64 (8 + (k : Int))] 3)))
      have HLIT := Lib.hid (fun (W : World) => RowAt.lit (w := W) (e := 3) (cur := #[.int .i64 (8 + (k : Int))]) (m := 1) rfl)
      have HONE : Hid (∀ u ∈ [8 + (k : Int)].map (Value.int .i64), u.oneCell' = true) := Lib.hid (one_ints _)
      go_wp2_with (at_builtin; go_must (refine wpList_append_row rfl _ _ 24 rfl 3 i0 (.int .i64 0) 1 8 Try.underlying24 hi0 hz0 hz1 hz2 rfl (by decide) S A' _ k c' 1 _ ((rowsOf k).map (Value.int .i64)) ([8 + (k : Int)].map (Value.int .i64)) rfl rfl HOA.out (HLIT.out _) HONE.out (by unfold maxLen; omega) (by omega) ?_))
      intro A2 c2 S2 w7 hO' hS' hC'
      have HO7 : Hid (OwnA w7 3 1 S2 A2 (k + 1) c2 ((rowsOf (k + 1)).map (Value.int .i64))) := Lib.hid (by rw [rowsOf_succ, List.map_append]; exact hO')
      have HS7 : Hid (∀ g ∈ S2, w5.heap.size ≤ g) := Lib.hid (fun g hg => by
        rcases hS' g hg with h | h
        · exact HS.out g h
        · first | omega | (simp at h; omega))
      have HB7 : Hid (Below w5.heap.size w5 w7) := Lib.hid ((HB.out.alloc zr _).trans (hC'.below (fun g _ hg => HS.out g hg) (by simp; omega)))
      clear hO' hS' hC' HOA HLIT HONE
      go_wp2_with fail
      go_roundw
      case rel => exact ⟨k + 1, A2, c2, S2, by omega, by go_num, rfl, HO7, HS7, HB7⟩
      case measure => simp [RowKit.intOf]; omega
    · obtain rfl : m = k := by omega
      obtain ⟨B, curR, hA, hbl, hR, hRc⟩ : ∃ B curR, A' = some ⟨B, 0, none⟩ ∧ w5.heap.size ≤ B ∧ wr.heap[B]? = some (.cells curR 3 (0, 0)) ∧ ∀ j, j < m → curR[j]? = ((rowsOf m).map (Value.int .i64))[j]? := by
        rcases HO.out.1 with ⟨_, h1, _⟩ | ⟨g, cur, hS, hA, _, _, _, hg, _, hc⟩
        · omega
        · exact ⟨g, cur, hA, HS.out g (by rw [hS]; simp), hg, fun j hj => hc j (by omega)⟩
      subst hA
      have HRr := Lib.hid hR; have HRC := Lib.hid hRc
      have hB0 := HB5.out.size
      have lB := (Array.getElem?_eq_some_iff.1 hR).1
      have hqr := (HB.out.block _ (Array.getElem?_eq_some_iff.1 HQ5.out).1).trans HQ5.out
      have qc0 := cell_of_row _ _ 0 _ _ (0, 0) hqr; have qc1 := cell_of_row _ _ 1 _ _ (0, 0) hqr; have qc2 := cell_of_row _ _ 2 _ _ (0, 0) hqr; have qc3 := cell_of_row _ _ 3 _ _ (0, 0) hqr; have qc4 := cell_of_row _ _ 4 _ _ (0, 0) hqr; have qc5 := cell_of_row _ _ 5 _ _ (0, 0) hqr; have ql := (Array.getElem?_eq_some_iff.1 hqr).1
      have HBr := Lib.hid (HB5.out.trans (HB.out.mono HB5.out.size))
      have zW := HBr.out.size
      have HOK := Lib.hid (loop_ok (m := m) (ro := x) m1 mx hx.2)
      have HOK0 : Hid (cacheOkB (x, 0, [], [], [], []) = true) := Lib.hid (by have h := HP.out.1; rw [HX.out] at h; exact h)
      have E0 : ∀ (b : Bool) (W : World) (bl : List Nat), LK (List.range w.heap.size ++ bl) W b [] none 0 := fun b W bl => ⟨fun _ => rfl, fun _ _ => rfl, fun hx => absurd rfl hx⟩
      have HE0 := Lib.hid E0
      have HNDP := Lib.hid (rowsOf_nodup m); have HIN := Lib.hid (rowsOf_in (m := m) (by omega)); have HLEN := Lib.hid (rowsOf_len m)
      generalize rowsOf m = rows at *
      clear hR hRc hqr E0
      go_wp2_with fail
      refine (play1_any w.heap.size B [B] x none 0 none 0 none 0 none 0 m c' rows curR wr HLEN.out m1 mx hx.2 HNDP.out HIN.out zW (by simp) (by intro g hg; simp at hg; omega) HRr.out HRC.out (HE0.out _ _ _) (HE0.out _ _ _) (HE0.out _ _ _) (HE0.out _ _ _) HOK0.out).mono ?_
      rintro e w7 ⟨C0, e0, C1, e1, C2, e2, C3, e3, rfl, a0, a1, a2, a3, hb7, hl7⟩
      have HB7 := Lib.hid (HBr.out.trans hb7)
      have HR7 := Lib.hid ((hl7 B (by simp)).trans HRr.out)
      have l7 := (Array.getElem?_eq_some_iff.1 HR7.out).1
      have z7 := hb7.size
      have K0 := Lib.hid (a0.below (bel1 (o := .cells #[.int .i64 x, .int .i64 0, .slice C0 m e0, .slice C1 0 e1, .slice C2 0 e2, .slice C3 0 e3] 26))); have K1 := Lib.hid (a1.below (bel1 (o := .cells #[.int .i64 x, .int .i64 0, .slice C0 m e0, .slice C1 0 e1, .slice C2 0 e2, .slice C3 0 e3] 26))); have K2 := Lib.hid (a2.below (bel1 (o := .cells #[.int .i64 x, .int .i64 0, .slice C0 m e0, .slice C1 0 e1, .slice C2 0 e2, .slice C3 0 e3] 26))); have K3 := Lib.hid (a3.below (bel1 (o := .cells #[.int .i64 x, .int .i64 0, .slice C0 m e0, .slice C1 0 e1, .slice C2 0 e2, .slice C3 0 e3] 26)))
      clear a0 a1 a2 a3 hb7 hl7 qc0 qc1 qc2 qc3 qc4 qc5 ql
      go_wp2_with fail
      refine (play2_any w.heap.size B [B] x C0 e0 C1 e1 C2 e2 C3 e3 m c' rows curR _ HLEN.out m1 mx hx.2 HNDP.out HIN.out (by simp; omega) (by simp) (by intro g hg; simp at hg; simp; omega) ((Below.heap_alloc _ _ _ l7).trans HR7.out) HRC.out K0.out K1.out K2.out K3.out HOK.out.1).mono ?_
      rintro e w9 ⟨D0, d0, D1, d1, D2, d2, D3, d3, rfl, a0, a1, a2, a3, hb9, hl9⟩
      have HB9 := Lib.hid ((HB7.out.alloc HB7.out.size _).trans hb9)
      have HR9 := Lib.hid ((hl9 B (by simp)).trans ((Below.heap_alloc _ _ _ l7).trans HR7.out))
      have l9 := (Array.getElem?_eq_some_iff.1 HR9.out).1
      have z9 := hb9.size
      simp at z9
      obtain ⟨o9, ho9⟩ : ∃ o, o = Obj.cells #[.int .i64 x, .int .i64 0, .slice D0 0 d0, .slice D1 m d1, .slice D2 0 d2, .slice D3 0 d3] 26 (0, 0) := ⟨_, rfl⟩
      have bl9 : ∀ {b : Bool} {ys : List Int} {A9 : Option Addr} {c9 : Nat}, LK (List.range w.heap.size ++ [B]) w9 b ys A9 c9 → LK (List.range w.heap.size ++ [B, w9.heap.size]) (w9.alloc o9) b ys A9 c9 := fun h => by
        have h2 := (h.add (Nat.le_refl w9.heap.size)).below (bel1 (o := o9))
        rw [List.append_assoc] at h2
        exact h2
      have K0 := Lib.hid (bl9 a0); have K1 := Lib.hid (bl9 a1); have K2 := Lib.hid (bl9 a2); have K3 := Lib.hid (bl9 a3)
      have HQ9 : Hid ((w9.alloc o9).heap[w9.heap.size]? = some (.cells #[.int .i64 x, .int .i64 0, .slice D0 0 d0, .slice D1 m d1, .slice D2 0 d2, .slice D3 0 d3] 26 (0, 0))) := Lib.hid (by rw [ho9]; exact heap_alloc_new _ _)
      rw [ho9] at K0 K1 K2 K3 HQ9
      clear a0 a1 a2 a3 hb9 hl9 bl9 ho9
      go_wp2_with fail
      refine (play3_any w.heap.size B [B, w9.heap.size] x D0 d0 D1 d1 D2 d2 D3 d3 m c' rows curR _ HLEN.out m1 mx hx.2 HNDP.out HIN.out (by simp; omega) (by simp) (by intro g hg; simp at hg; simp; omega) ((Below.heap_alloc _ _ _ l9).trans HR9.out) HRC.out K0.out K1.out K2.out K3.out HOK.out.2).mono ?_
      rintro e w10 ⟨F0, f0, F1, f1, F2, f2, F3, f3, rfl, -, -, -, -, hb10, hl10⟩
      have HB10 := Lib.hid ((HB9.out.alloc HB9.out.size _).trans hb10)
      have hq10 := (hl10 w9.heap.size (by simp)).trans HQ9.out
      have sc0 := cell_of_row _ _ 0 _ _ (0, 0) hq10; have sc1 := cell_of_row _ _ 1 _ _ (0, 0) hq10; have sc2 := cell_of_row _ _ 2 _ _ (0, 0) hq10; have sc3 := cell_of_row _ _ 3 _ _ (0, 0) hq10; have sc4 := cell_of_row _ _ 4 _ _ (0, 0) hq10; have sc5 := cell_of_row _ _ 5 _ _ (0, 0) hq10; have sl := (Array.getElem?_eq_some_iff.1 hq10).1
      have hmm : ((m : Int) == (m : Int)) = true := by simp
      clear hb10 hl10 hq10 K0 K1 K2 K3 HQ9
      go_wp2_with fail
      go_ret
      exact ⟨rfl, HB10.out.alloc HB10.out.size _⟩
end Go.Proofs.Ytfokpjoeankobaa
