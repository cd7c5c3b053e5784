/- CachePlay of the program at rows that are asked one after another: a first round, a second one, a third one. No condition. -/
import Derived.Test.YtfokpjoeankobaaCacheCloneK
import Derived.Test.YtfokpjoeankobaaCacheAsk
namespace Go.Proofs.Ytfokpjoeankobaa
set_option linter.unnecessarySimpa false
open Go Go.Lib Go.RowKit
set_option linter.unusedVariables false
set_option linter.unusedSimpArgs false
theorem LK.il {bs : List Nat} {w : World} {b : Bool} {xs : List Int} {A : Option Addr} {c : Nat} (h : LK bs w b xs A c) : SliceR IntR 1 w 0 w.heap.size A xs.length c xs := by
  by_cases hx : xs = []
  · subst hx
    exact ⟨rfl, Nat.zero_le _, Nat.zero_le _, Nat.le_refl _, h.1, fun h => absurd h (Nat.lt_irrefl _)⟩
  · obtain ⟨S, h1, _⟩ := h.2.2 hx
    exact IL.own h1 rfl (fun g _ => Nat.zero_le _)
theorem LK.add {bs : List Nat} {w : World} {b : Bool} {xs : List Int} {A : Option Addr} {c k : Nat} (h : LK bs w b xs A c) (hk : w.heap.size ≤ k) : LK (bs ++ [k]) w b xs A c :=
  ⟨h.1, h.2.1, fun hx => by
    obtain ⟨S, h1, h2⟩ := h.2.2 hx
    refine ⟨S, h1, fun g hg hgk => ?_⟩
    have := h1.lt g hg
    rcases List.mem_append.1 hgk with h | h
    · exact h2 g hg h
    · simp at h; omega⟩
theorem LK.empty {bs : List Nat} {w w' : World} {b : Bool} {A : Option Addr} {c : Nat} (h : LK bs w b [] A c) : LK bs w' b [] A c := ⟨h.1, h.2.1, fun hx => absurd rfl hx⟩
/-- A block that is no other than the lists' own. -/
def GK (W0 : Nat) (bl : List Nat) (rc X : Nat) (S : List Nat) : Prop := ∀ g ∈ S, W0 ≤ g ∧ g ∉ bl ∧ g ≠ rc ∧ g ≠ X
theorem GK.of {W0 rc X : Nat} {bl bs : List Nat} {S : List Nat} (h : ∀ g ∈ S, g ∉ bs ++ [rc]) (hbs : bs = List.range W0 ++ bl) (hX : ∀ g ∈ S, g ≠ X) : GK W0 bl rc X S := by
  intro g hg
  have h1 := h g hg
  rw [hbs] at h1
  simp only [List.mem_append, List.mem_range, List.mem_singleton, not_or] at h1
  exact ⟨by omega, h1.1.2, h1.2, hX g hg⟩
theorem GK.new {W0 rc X z : Nat} {bl S S' : List Nat} (h : GK W0 bl rc X S) (hS : ∀ g ∈ S', g ∈ S ∨ z ≤ g) (h1 : W0 ≤ z) (h2 : ∀ b ∈ bl, b < z) (h3 : rc < z) (h4 : X < z) : GK W0 bl rc X S' := by
  intro g hg
  rcases hS g hg with h5 | h5
  · exact h g h5
  · exact ⟨by omega, fun hb => by have := h2 g hb; omega, by omega, by omega⟩
theorem GK.notin {W0 rc X : Nat} {bl S : List Nat} (h : GK W0 bl rc X S) : ∀ g ∈ S, g ∉ List.range W0 ++ bl := by
  intro g hg hk
  have := h g hg
  simp only [List.mem_append, List.mem_range] at hk
  rcases hk with hk | hk
  · omega
  · exact this.2.1 hk
def PlayR (W0 : Nat) (bl : List Nat) (ro : Int) (n0 n1 : Nat) (b0 b1 : Bool) (y0 y1 : List Int) (h : Int) (w : World) (e : Ending) (w' : World) : Prop :=
  ∃ (C0 : Option Addr) (e0 : Nat) (C1 : Option Addr) (e1 : Nat) (C2 : Option Addr) (e2 : Nat) (C3 : Option Addr) (e3 : Nat), e = .returned (.tuple #[.agg #[.int .i64 ro, .int .i64 0, .slice C0 n0 e0, .slice C1 n1 e1, .slice C2 0 e2, .slice C3 0 e3], .int .i64 h]) ∧
    LK (List.range W0 ++ bl) w' b0 y0 C0 e0 ∧ LK (List.range W0 ++ bl) w' b1 y1 C1 e1 ∧ LK (List.range W0 ++ bl) w' true [] C2 e2 ∧ LK (List.range W0 ++ bl) w' true [] C3 e3 ∧ Below W0 w w' ∧ ∀ g ∈ bl, w'.heap[g]? = w.heap[g]?
theorem take_rev {xs : List Int} {k : Nat} {x : Int} (h : xs[k]? = some x) : (xs.take (k + 1)).reverse = x :: (xs.take k).reverse := by
  rw [List.take_add_one, h]; simp
theorem drop_rev {xs : List Int} {k : Nat} {x : Int} (h : xs[k]? = some x) : (xs.drop k).reverse = (xs.drop (k + 1)).reverse ++ [x] := by
  obtain ⟨hk, rfl⟩ := List.getElem?_eq_some_iff.1 h
  rw [List.drop_eq_getElem_cons hk, List.reverse_cons]
theorem nodup_parts {xs : List Int} {k : Nat} {x : Int} (hn : xs.Nodup) (h : xs[k]? = some x) : x ∉ (xs.take k).reverse ∧ x ∉ (xs.drop (k + 1)).reverse := by
  obtain ⟨hk, rfl⟩ := List.getElem?_eq_some_iff.1 h
  have e : xs = xs.take k ++ (xs[k] :: xs.drop (k + 1)) := by rw [← List.drop_eq_getElem_cons hk, List.take_append_drop]
  rw [e] at hn
  have h1 := List.nodup_append.1 hn
  have h2 := List.nodup_cons.1 h1.2.1
  refine ⟨fun h => ?_, fun h => h2.1 (List.mem_reverse.1 h)⟩
  exact h1.2.2 _ (List.mem_reverse.1 h) _ (List.mem_cons.2 (.inl rfl)) rfl
set_option maxRecDepth 100000 in
set_option maxHeartbeats 4000000 in
theorem play1_any (W0 B : Nat) (bl : List Nat) (ro : Int) (A0 : Option Addr) (c0 : Nat) (A1 : Option Addr) (c1 : Nat) (A2 : Option Addr) (c2 : Nat) (A3 : Option Addr) (c3 : Nat) (m d : Nat) (rows : List Int) (curR : Array Value) (w : World)
    (hm : rows.length = m) (h1 : 1 ≤ m) (hmr : (m : Int) ≤ ro) (hro : ro ≤ 8) (hnd : rows.Nodup) (hrows : ∀ r ∈ rows, inB r 8 63 = true) (hW : W0 ≤ w.heap.size) (hBI : B ∈ bl) (hbl : ∀ g ∈ bl, g < w.heap.size) (hR : w.heap[B]? = some (.cells curR 3 (0, 0))) (hRc : ∀ j, j < m → curR[j]? = (rows.map (Value.int .i64))[j]?)
    (k0 : LK (List.range W0 ++ bl) w true [] A0 c0) (k1 : LK (List.range W0 ++ bl) w true [] A1 c1) (k2 : LK (List.range W0 ++ bl) w true [] A2 c2) (k3 : LK (List.range W0 ++ bl) w true [] A3 c3) (hok : cacheOkB (ro, 0, [], [], [], []) = true) :
    Calls Try.prog 9 #[.agg #[.int .i64 ro, .int .i64 0, .slice A0 0 c0, .slice A1 0 c1, .slice A2 0 c2, .slice A3 0 c3], .slice (some ⟨B, 0, none⟩) m d] w (PlayR W0 bl ro m 0 true true rows.reverse [] 0 w) := by
  have lB := (Array.getElem?_eq_some_iff.1 hR).1
  have m8 : m ≤ 8 := by omega
  have hlen : rows.reverse.length = m := by rw [List.length_reverse]; exact hm
  have hlenH := Lib.hid hlen
  have HR := Lib.hid hR; have HRC := Lib.hid hRc; have HND := Lib.hid hnd; have HRO := Lib.hid hrows; have HM := Lib.hid hm; have HBI := Lib.hid hBI; have HBL := Lib.hid hbl
  have K0 := Lib.hid k0; have K1 := Lib.hid k1; have K2 := Lib.hid k2; have K3 := Lib.hid k3; have HOK := Lib.hid hok
  have i0 := k0.il; have i1 := k1.il; have i2 := k2.il; have i3 := k3.il
  simp only [List.length_nil, hlen] at i0 i1 i2 i3
  have HCR : Hid (CacheR w 0 w.heap.size [.int .i64 ro, .int .i64 0, .slice A0 0 c0, .slice A1 0 c1, .slice A2 0 c2, .slice A3 0 c3] (ro, 0, [], [], [], [])) := Lib.hid ⟨_, _, _, _, _, _, _, _, _, _, _, _, rfl, i0, i1, i2, i3⟩
  clear hR hRc hnd hrows hm hBI hbl k0 k1 k2 k3 hok i0 i1 i2 i3
  go_enter Try.func9, Try.ntmps9
  go_wp2_with fail
  refine (cacheOk_any [.int .i64 ro, .int .i64 0, .slice A0 0 c0, .slice A1 0 c1, .slice A2 0 c2, .slice A3 0 c3] (ro, 0, [], [], [], []) _ 0 w.heap.size (CacheR.below bel2 (Nat.le_refl _) _ _ HCR.out) (by unfold sizeCache; have := HM.out; simp <;> omega)).mono ?_
  rw [HOK.out]
  rintro e w2 ⟨rfl, hb2⟩
  have hb2' : Below w.heap.size w w2 := bel2.trans (hb2.mono (by simp; omega))
  have hqx : w2.heap[w.heap.size]? = some (.cells #[.int .i64 ro, .int .i64 0, .slice A0 0 c0, .slice A1 0 c1, .slice A2 0 c2, .slice A3 0 c3] 26 (0, 0)) := (hb2.block _ (by simp; omega)).trans ((Below.heap_alloc _ _ _ (by simp)).trans (heap_alloc_new _ _))
  have hqr : w2.heap[w.heap.size + 1]? = some (.cells #[.int .i64 0, .int .i64 0, .slice none 0 0, .slice none 0 0, .slice none 0 0, .slice none 0 0] 26 (0, 0)) := (hb2.block _ (by simp)).trans (by have := heap_alloc_new (w.alloc (.cells #[.int .i64 ro, .int .i64 0, .slice A0 0 c0, .slice A1 0 c1, .slice A2 0 c2, .slice A3 0 c3] 26)) (.cells #[.int .i64 0, .int .i64 0, .slice none 0 0, .slice none 0 0, .slice none 0 0, .slice none 0 0] 26); simpa using this)
  have HB2 := Lib.hid hb2'
  clear hb2 hb2'
  have uc0 := cell_of_row _ _ 0 _ _ (0, 0) hqx; have uf0 := block_free hqx 0; have uc1 := cell_of_row _ _ 1 _ _ (0, 0) hqx; have uf1 := block_free hqx 1; have uc2 := cell_of_row _ _ 2 _ _ (0, 0) hqx; have uf2 := block_free hqx 2; have uc3 := cell_of_row _ _ 3 _ _ (0, 0) hqx; have uf3 := block_free hqx 3; have uc4 := cell_of_row _ _ 4 _ _ (0, 0) hqx; have uf4 := block_free hqx 4; have uc5 := cell_of_row _ _ 5 _ _ (0, 0) hqx; have uf5 := block_free hqx 5; have ul := (Array.getElem?_eq_some_iff.1 hqx).1
  have vc0 := cell_of_row _ _ 0 _ _ (0, 0) hqr; have vf0 := block_free hqr 0; have vc1 := cell_of_row _ _ 1 _ _ (0, 0) hqr; have vf1 := block_free hqr 1; have vc2 := cell_of_row _ _ 2 _ _ (0, 0) hqr; have vf2 := block_free hqr 2; have vc3 := cell_of_row _ _ 3 _ _ (0, 0) hqr; have vf3 := block_free hqr 3; have vc4 := cell_of_row _ _ 4 _ _ (0, 0) hqr; have vf4 := block_free hqr 4; have vc5 := cell_of_row _ _ 5 _ _ (0, 0) hqr; have vf5 := block_free hqr 5; have vl := (Array.getElem?_eq_some_iff.1 hqr).1
  go_wp2_with fail
  have PC := cloneCK_any (List.range W0 ++ bl ++ [w.heap.size + 1]) ro 0 true true true true A0 c0 [] A1 c1 [] A2 c2 [] A3 c3 [] w2 (by
      intro k hk
      simp only [List.mem_append, List.mem_range, List.mem_singleton] at hk
      have := HB2.out.size
      have hz2 : w.heap.size + 1 < w2.heap.size := vl
      rcases hk with (hk | hk) | hk
      · omega
      · have := HBL.out k hk; omega
      · omega) ((K0.out.add (Nat.le_succ _)).below HB2.out) ((K1.out.add (Nat.le_succ _)).below HB2.out) ((K2.out.add (Nat.le_succ _)).below HB2.out) ((K3.out.add (Nat.le_succ _)).below HB2.out) (by first | exact Nat.zero_le _ | (rw [hlen]; omega)) (by first | exact Nat.zero_le _ | (rw [hlen]; omega)) (Nat.zero_le _) (Nat.zero_le _)
  simp only [List.length_nil, hlen] at PC
  refine PC.mono ?_
  rintro e w3 ⟨C0, e0, C1, e1, C2, e2, C3, e3, he, a0, a1, a2, a3, hb3⟩
  simp only [List.length_nil, hlen] at he
  subst he
  have hqr3 := (hb3.block _ vl).trans hqr
  have HB3 := Lib.hid (HB2.out.trans (hb3.mono HB2.out.size))
  have lr3 := (Array.getElem?_eq_some_iff.1 hqr3).1
  obtain ⟨w4, hw4⟩ : ∃ W, W = w3.alloc (.cells #[.int .i64 ro, .int .i64 0, .slice C0 0 e0, .slice C1 0 e1, .slice C2 0 e2, .slice C3 0 e3] 26) := ⟨_, rfl⟩
  have hb4 : Below w3.heap.size w3 w4 := by rw [hw4]; exact bel1
  have HB4 := Lib.hid (HB3.out.trans (hb4.mono HB3.out.size))
  have hq4 : w4.heap[w3.heap.size]? = some (.cells #[.int .i64 ro, .int .i64 0, .slice C0 0 e0, .slice C1 0 e1, .slice C2 0 e2, .slice C3 0 e3] 26 (0, 0)) := by rw [hw4]; exact heap_alloc_new _ _
  have hqr4 := (hb4.block _ lr3).trans hqr3
  have HQ4 := Lib.hid hq4; have HQR4 := Lib.hid hqr4
  have G0 := Lib.hid a0; have G1 := Lib.hid a1; have G2 := Lib.hid a2; have G3 := Lib.hid a3
  have HB34 := Lib.hid hb4
  have HW4 := Lib.hid hw4
  have HR4 := Lib.hid ((HB4.out.block B lB).trans HR.out)
  clear uc0 uf0 vc0 vf0 uc1 uf1 vc1 vf1 uc2 uf2 vc2 vf2 uc3 uf3 vc3 vf3 uc4 uf4 vc4 vf4 uc5 uf5 vc5 vf5 ul vl hqx hqr hqr3 hb3 hb4 a0 a1 a2 a3 hw4 K0 K1 K2 K3 HCR
  go_wp2_with fail
  rw [← HW4.out]
  clear HW4
  have sc0 := cell_of_row _ _ 0 _ _ (0, 0) hq4; have sf0 := block_free hq4 0; have sc1 := cell_of_row _ _ 1 _ _ (0, 0) hq4; have sf1 := block_free hq4 1; have sc2 := cell_of_row _ _ 2 _ _ (0, 0) hq4; have sf2 := block_free hq4 2; have sc3 := cell_of_row _ _ 3 _ _ (0, 0) hq4; have sf3 := block_free hq4 3; have sc4 := cell_of_row _ _ 4 _ _ (0, 0) hq4; have sf4 := block_free hq4 4; have sc5 := cell_of_row _ _ 5 _ _ (0, 0) hq4; have sf5 := block_free hq4 5; have sl := (Array.getElem?_eq_some_iff.1 hq4).1
  have tc0 := cell_of_row _ _ 0 _ _ (0, 0) hqr4; have tf0 := block_free hqr4 0; have tc1 := cell_of_row _ _ 1 _ _ (0, 0) hqr4; have tf1 := block_free hqr4 1; have tc2 := cell_of_row _ _ 2 _ _ (0, 0) hqr4; have tf2 := block_free hqr4 2; have tc3 := cell_of_row _ _ 3 _ _ (0, 0) hqr4; have tf3 := block_free hqr4 3; have tc4 := cell_of_row _ _ 4 _ _ (0, 0) hqr4; have tf4 := block_free hqr4 4; have tc5 := cell_of_row _ _ 5 _ _ (0, 0) hqr4; have tf5 := block_free hqr4 5; have tl := (Array.getElem?_eq_some_iff.1 hqr4).1
  have z4 : w3.heap.size < w4.heap.size := sl
  clear hq4 hqr4
  have E0 := Lib.hid (G0.out.2.1 rfl rfl)
  go_loopw [7, 18] (fun t i wr => ∃ k : Nat, k ≤ m ∧ i = .int .i64 (k : Int) ∧ t = .int .i64 (0) ∧ Hid (∃ (A' : Option Addr) (c' : Nat) (S : List Nat), wr.heap[w3.heap.size]? = some (.cells #[.int .i64 ro, .int .i64 0, .slice A' k c', .slice C1 0 e1, .slice C2 0 e2, .slice C3 0 e3] 26 (0, 0)) ∧ OwnA wr 3 1 S A' k c' ((rows.take k).reverse.map (Value.int .i64)) ∧ GK W0 bl (w.heap.size + 1) w3.heap.size S) ∧ Hid (Chg (fun g => W0 ≤ g ∧ g ∉ bl ∧ g ≠ w.heap.size + 1) w4 wr)) (fun _ i _ => m - (RowKit.intOf i).toNat)
  case atStart => exact ⟨0, Nat.zero_le _, rfl, rfl, Lib.hid ⟨C0, e0, [], HQ4.out, (by rw [E0.out]; simpa using (OwnA.nil (w := w4) (e := 3) (k := 1) C0)), fun g hg => (by cases hg)⟩, Lib.hid (Chg.refl _ _)⟩
  case round =>
    clear sc0 sf0 sc1 sf1 sc2 sf2 sc3 sf3 sc4 sf4 sc5 sf5 tl sl tc0 tf0 tc1 tf1 tc2 tf2 tc3 tf3 tc4 tf4 tc5 tf5
    obtain ⟨k, hk, rfl, rfl, HST, HC⟩ := hrel
    have zr := HC.out.size
    by_cases hlt : k < m
    · obtain ⟨r, hr⟩ : ∃ r, rows[k]? = some r := ⟨rows[k]'(by rw [HM.out]; exact hlt), List.getElem?_eq_getElem _⟩
      have HROW := Lib.hid (HRO.out r (List.mem_of_getElem? hr))
      have HPN := Lib.hid (nodup_parts HND.out hr)
      have HTR := Lib.hid (take_rev hr); have HDR := Lib.hid (drop_rev hr)
      have hcell : wr.cell? ⟨B, 0 + k, none⟩ = some (.int .i64 r) := by
        rw [Nat.zero_add, cell_of_row _ _ k _ _ (0, 0) ((HC.out.block B (by have := HB4.out.size; omega) (fun h => h.2.1 HBI.out)).trans HR4.out), HRC.out k hlt, List.getElem?_map, hr]; rfl
      simp only [Nat.zero_add] at hcell
      have k0 : (0 : Int) ≤ (k : Int) := by omega
      have k1 : (k : Int) < (m : Int) := by omega
      have nu1 : IntKind.i64.wrap ((k : Int) + 1) = ((k + 1 : Nat) : Int) := by rw [IntWalk.i64_in _ (by omega)]; omega
      have lB2 : B < wr.heap.size := by have := HB4.out.size; omega
      clear hr
      go_wp2_with fail
      refine (isRow_any r _).mono ?_
      rw [HROW.out]
      rintro e wr' ⟨rfl, rfl⟩
      clear hcell
      go_wp2_with fail
      obtain ⟨A', c', S, hq, hO, hG⟩ := HST.out
      have hXS : w3.heap.size ∉ S := fun h => (hG _ h).2.2.2 rfl
      refine (askMiss_any w3.heap.size ro 0 S A' k c' ((rows.take k).reverse) C1 e1 C2 e2 C3 e3 r _ hq hO (by rw [List.length_reverse, List.length_take, HM.out]; omega) (by omega) hro hXS HPN.out.1).mono ?_
      rintro e w5 ⟨rfl, A5, c5, S5, hq5, hO5, hS5, hC5⟩
      have HC5 : Hid (Chg (fun g => W0 ≤ g ∧ g ∉ bl ∧ g ≠ w.heap.size + 1) w4 w5) := Lib.hid ⟨hC5.os.trans HC.out.os, hC5.tape.trans HC.out.tape, hC5.output.trans HC.out.output, by have := hC5.size; omega, fun g hg hs => (hC5.block g (by omega) (fun h => by
        rcases h with rfl | h
        · exact hs ⟨by have := HB3.out.size; omega, fun hb => by have := HBL.out _ hb; have := HB3.out.size; omega, by omega⟩
        · exact hs ⟨(hG g h).1, (hG g h).2.1, (hG g h).2.2.1⟩)).trans (HC.out.block g hg hs)⟩
      have HST5 : Hid (∃ (A' : Option Addr) (c' : Nat) (S : List Nat), w5.heap[w3.heap.size]? = some (.cells #[.int .i64 ro, .int .i64 0, .slice A' (k + 1) c', .slice C1 0 e1, .slice C2 0 e2, .slice C3 0 e3] 26 (0, 0)) ∧ OwnA w5 3 1 S A' (k + 1) c' ((rows.take (k + 1)).reverse.map (Value.int .i64)) ∧ GK W0 bl (w.heap.size + 1) w3.heap.size S) := Lib.hid ⟨A5, c5, S5, hq5, by rw [HTR.out]; exact hO5, hG.new hS5 (by have := HB3.out.size; omega) (fun b hb => by have := HBL.out b hb; have := HB3.out.size; omega) (by have := HB3.out.size; omega) (by omega)⟩
      clear hq5 hO5 hS5 hC5 hq hO hG hXS
      go_wp2_with fail
      go_roundw
      case rel => exact ⟨k + 1, by omega, by go_num, rfl, HST5, HC5⟩
      case measure => simp [RowKit.intOf]; omega
    · obtain rfl : m = k := by omega
      obtain ⟨A', c', S, hq, hO, hG⟩ := HST.out
      have htk : rows.take m = rows := List.take_of_length_le (by rw [HM.out]; exact Nat.le_refl _)
      have hdk : rows.drop m = [] := List.drop_of_length_le (by rw [HM.out]; exact Nat.le_refl _)
      rw [htk] at hO
      have hqr := (HC.out.block (w.heap.size + 1) (Array.getElem?_eq_some_iff.1 HQR4.out).1 (by simp)).trans HQR4.out
      obtain ⟨wF, hwF⟩ : ∃ W, W = (World.setCell (World.setCell (World.setCell (World.setCell (World.setCell (World.setCell wr ⟨w.heap.size + 1, 0, none⟩ (.int .i64 ro)) ⟨w.heap.size + 1, 1, none⟩ (.int .i64 0)) ⟨w.heap.size + 1, 2, none⟩ (.slice A' m c')) ⟨w.heap.size + 1, 3, none⟩ (.slice C1 0 e1)) ⟨w.heap.size + 1, 4, none⟩ (.slice C2 0 e2)) ⟨w.heap.size + 1, 5, none⟩ (.slice C3 0 e3)) := ⟨_, rfl⟩
      have RSF : wF.heap[w.heap.size + 1]? = some (.cells #[.int .i64 ro, .int .i64 0, .slice A' m c', .slice C1 0 e1, .slice C2 0 e2, .slice C3 0 e3] 26 (0, 0)) := by rw [hwF]; exact (block_set (o := 5) (v := .slice C3 0 e3) (block_set (o := 4) (v := .slice C2 0 e2) (block_set (o := 3) (v := .slice C1 0 e1) (block_set (o := 2) (v := .slice A' m c') (block_set (o := 1) (v := .int .i64 0) (block_set (o := 0) (v := .int .i64 ro) hqr))))))
      have CF : Chg (· ∈ [w.heap.size + 1]) wr wF := by rw [hwF]; exact (Chg.setCell (p := ⟨w.heap.size + 1, 5, none⟩) (Chg.setCell (p := ⟨w.heap.size + 1, 4, none⟩) (Chg.setCell (p := ⟨w.heap.size + 1, 3, none⟩) (Chg.setCell (p := ⟨w.heap.size + 1, 2, none⟩) (Chg.setCell (p := ⟨w.heap.size + 1, 1, none⟩) (Chg.setCell (p := ⟨w.heap.size + 1, 0, none⟩) (Chg.refl _ _) (.inl (by simp)) _) (.inl (by simp)) _) (.inl (by simp)) _) (.inl (by simp)) _) (.inl (by simp)) _) (.inl (by simp)) _)
      have HOF : Hid (OwnA wF 3 1 S A' m c' (rows.reverse.map (Value.int .i64))) := Lib.hid (hO.keep (fun g hg => CF.block g (hO.lt g hg) (by simp; exact (hG g hg).2.2.1)))
      have HNI := Lib.hid hG.notin
      have HP : Hid (PlayR W0 bl ro m 0 true true rows.reverse [] 0 w (.returned (.tuple #[.agg #[.int .i64 ro, .int .i64 0, .slice A' m c', .slice C1 0 e1, .slice C2 0 e2, .slice C3 0 e3], .int .i64 0])) wF) := Lib.hid (by
        refine ⟨_, _, _, _, _, _, _, _, rfl, ⟨fun hA => by have := HOF.out.none_ hA; omega, fun h => absurd h (fun h => by have h2 := congrArg List.length h; rw [hlen] at h2; simp at h2; omega), fun _ => ⟨S, by rw [hlen]; exact HOF.out, HNI.out⟩⟩, (G1.out.empty).sub, (G2.out.empty).sub, (G3.out.empty).sub, ?_, ?_⟩
        · refine ⟨CF.os.trans (HC.out.os.trans HB4.out.os), CF.tape.trans (HC.out.tape.trans HB4.out.tape), CF.output.trans (HC.out.output.trans HB4.out.output), by have := CF.size; have := HB4.out.size; omega, fun g hg => ?_⟩
          exact (CF.block g (by have := HB4.out.size; omega) (by simp; omega)).trans ((HC.out.block g (by have := HB4.out.size; omega) (fun h => by have := h.1; omega)).trans (HB4.out.block g (by omega)))
        · intro g hg
          have lg := HBL.out g hg
          exact (CF.block g (by have := HB4.out.size; omega) (by simp; omega)).trans ((HC.out.block g (by have := HB4.out.size; omega) (fun h => h.2.1 hg)).trans (HB4.out.block g lg)))
      have xc0 := cell_of_row _ _ 0 _ _ (0, 0) hq; have xf0 := block_free hq 0; have xc1 := cell_of_row _ _ 1 _ _ (0, 0) hq; have xf1 := block_free hq 1; have xc2 := cell_of_row _ _ 2 _ _ (0, 0) hq; have xf2 := block_free hq 2; have xc3 := cell_of_row _ _ 3 _ _ (0, 0) hq; have xf3 := block_free hq 3; have xc4 := cell_of_row _ _ 4 _ _ (0, 0) hq; have xf4 := block_free hq 4; have xc5 := cell_of_row _ _ 5 _ _ (0, 0) hq; have xf5 := block_free hq 5; have xl := (Array.getElem?_eq_some_iff.1 hq).1
      have yc0 := cell_of_row _ _ 0 _ _ (0, 0) hqr; have yf0 := block_free hqr 0; have yc1 := cell_of_row _ _ 1 _ _ (0, 0) hqr; have yf1 := block_free hqr 1; have yc2 := cell_of_row _ _ 2 _ _ (0, 0) hqr; have yf2 := block_free hqr 2; have yc3 := cell_of_row _ _ 3 _ _ (0, 0) hqr; have yf3 := block_free hqr 3; have yc4 := cell_of_row _ _ 4 _ _ (0, 0) hqr; have yf4 := block_free hqr 4; have yc5 := cell_of_row _ _ 5 _ _ (0, 0) hqr; have yf5 := block_free hqr 5; have yl := (Array.getElem?_eq_some_iff.1 hqr).1
      have r0 := cell_of_row _ _ 0 _ _ (0, 0) RSF; have r1 := cell_of_row _ _ 1 _ _ (0, 0) RSF; have r2 := cell_of_row _ _ 2 _ _ (0, 0) RSF; have r3 := cell_of_row _ _ 3 _ _ (0, 0) RSF; have r4 := cell_of_row _ _ 4 _ _ (0, 0) RSF; have r5 := cell_of_row _ _ 5 _ _ (0, 0) RSF
      have HWF := Lib.hid hwF
      clear hwF RSF CF hqr hq hO hG htk hdk
      go_wp2_with fail
      rw [← HWF.out]
      exact bodyPost_ret (v := .tuple #[.agg #[.int .i64 ro, .int .i64 0, .slice A' m c', .slice C1 0 e1, .slice C2 0 e2, .slice C3 0 e3], .int .i64 0]) (by simp [results, Try.results9, go_sem, r0, r1, r2, r3, r4, r5]) rfl HP.out
set_option maxRecDepth 100000 in
set_option maxHeartbeats 4000000 in
theorem play2_any (W0 B : Nat) (bl : List Nat) (ro : Int) (A0 : Option Addr) (c0 : Nat) (A1 : Option Addr) (c1 : Nat) (A2 : Option Addr) (c2 : Nat) (A3 : Option Addr) (c3 : Nat) (m d : Nat) (rows : List Int) (curR : Array Value) (w : World)
    (hm : rows.length = m) (h1 : 1 ≤ m) (hmr : (m : Int) ≤ ro) (hro : ro ≤ 8) (hnd : rows.Nodup) (hrows : ∀ r ∈ rows, inB r 8 63 = true) (hW : W0 ≤ w.heap.size) (hBI : B ∈ bl) (hbl : ∀ g ∈ bl, g < w.heap.size) (hR : w.heap[B]? = some (.cells curR 3 (0, 0))) (hRc : ∀ j, j < m → curR[j]? = (rows.map (Value.int .i64))[j]?)
    (k0 : LK (List.range W0 ++ bl) w true rows.reverse A0 c0) (k1 : LK (List.range W0 ++ bl) w true [] A1 c1) (k2 : LK (List.range W0 ++ bl) w true [] A2 c2) (k3 : LK (List.range W0 ++ bl) w true [] A3 c3) (hok : cacheOkB (ro, 0, rows.reverse, [], [], []) = true) :
    Calls Try.prog 9 #[.agg #[.int .i64 ro, .int .i64 0, .slice A0 m c0, .slice A1 0 c1, .slice A2 0 c2, .slice A3 0 c3], .slice (some ⟨B, 0, none⟩) m d] w (PlayR W0 bl ro 0 m false true [] rows.reverse (m : Int) w) := by
  have lB := (Array.getElem?_eq_some_iff.1 hR).1
  have m8 : m ≤ 8 := by omega
  have hlen : rows.reverse.length = m := by rw [List.length_reverse]; exact hm
  have hlenH := Lib.hid hlen
  have HR := Lib.hid hR; have HRC := Lib.hid hRc; have HND := Lib.hid hnd; have HRO := Lib.hid hrows; have HM := Lib.hid hm; have HBI := Lib.hid hBI; have HBL := Lib.hid hbl
  have K0 := Lib.hid k0; have K1 := Lib.hid k1; have K2 := Lib.hid k2; have K3 := Lib.hid k3; have HOK := Lib.hid hok
  have i0 := k0.il; have i1 := k1.il; have i2 := k2.il; have i3 := k3.il
  simp only [List.length_nil, hlen] at i0 i1 i2 i3
  have HCR : Hid (CacheR w 0 w.heap.size [.int .i64 ro, .int .i64 0, .slice A0 m c0, .slice A1 0 c1, .slice A2 0 c2, .slice A3 0 c3] (ro, 0, rows.reverse, [], [], [])) := Lib.hid ⟨_, _, _, _, _, _, _, _, _, _, _, _, rfl, i0, i1, i2, i3⟩
  clear hR hRc hnd hrows hm hBI hbl k0 k1 k2 k3 hok i0 i1 i2 i3
  go_enter Try.func9, Try.ntmps9
  go_wp2_with fail
  refine (cacheOk_any [.int .i64 ro, .int .i64 0, .slice A0 m c0, .slice A1 0 c1, .slice A2 0 c2, .slice A3 0 c3] (ro, 0, rows.reverse, [], [], []) _ 0 w.heap.size (CacheR.below bel2 (Nat.le_refl _) _ _ HCR.out) (by unfold sizeCache; have := HM.out; simp <;> omega)).mono ?_
  rw [HOK.out]
  rintro e w2 ⟨rfl, hb2⟩
  have hb2' : Below w.heap.size w w2 := bel2.trans (hb2.mono (by simp; omega))
  have hqx : w2.heap[w.heap.size]? = some (.cells #[.int .i64 ro, .int .i64 0, .slice A0 m c0, .slice A1 0 c1, .slice A2 0 c2, .slice A3 0 c3] 26 (0, 0)) := (hb2.block _ (by simp; omega)).trans ((Below.heap_alloc _ _ _ (by simp)).trans (heap_alloc_new _ _))
  have hqr : w2.heap[w.heap.size + 1]? = some (.cells #[.int .i64 0, .int .i64 0, .slice none 0 0, .slice none 0 0, .slice none 0 0, .slice none 0 0] 26 (0, 0)) := (hb2.block _ (by simp)).trans (by have := heap_alloc_new (w.alloc (.cells #[.int .i64 ro, .int .i64 0, .slice A0 m c0, .slice A1 0 c1, .slice A2 0 c2, .slice A3 0 c3] 26)) (.cells #[.int .i64 0, .int .i64 0, .slice none 0 0, .slice none 0 0, .slice none 0 0, .slice none 0 0] 26); simpa using this)
  have HB2 := Lib.hid hb2'
  clear hb2 hb2'
  have uc0 := cell_of_row _ _ 0 _ _ (0, 0) hqx; have uf0 := block_free hqx 0; have uc1 := cell_of_row _ _ 1 _ _ (0, 0) hqx; have uf1 := block_free hqx 1; have uc2 := cell_of_row _ _ 2 _ _ (0, 0) hqx; have uf2 := block_free hqx 2; have uc3 := cell_of_row _ _ 3 _ _ (0, 0) hqx; have uf3 := block_free hqx 3; have uc4 := cell_of_row _ _ 4 _ _ (0, 0) hqx; have uf4 := block_free hqx 4; have uc5 := cell_of_row _ _ 5 _ _ (0, 0) hqx; have uf5 := block_free hqx 5; have ul := (Array.getElem?_eq_some_iff.1 hqx).1
  have vc0 := cell_of_row _ _ 0 _ _ (0, 0) hqr; have vf0 := block_free hqr 0; have vc1 := cell_of_row _ _ 1 _ _ (0, 0) hqr; have vf1 := block_free hqr 1; have vc2 := cell_of_row _ _ 2 _ _ (0, 0) hqr; have vf2 := block_free hqr 2; have vc3 := cell_of_row _ _ 3 _ _ (0, 0) hqr; have vf3 := block_free hqr 3; have vc4 := cell_of_row _ _ 4 _ _ (0, 0) hqr; have vf4 := block_free hqr 4; have vc5 := cell_of_row _ _ 5 _ _ (0, 0) hqr; have vf5 := block_free hqr 5; have vl := (Array.getElem?_eq_some_iff.1 hqr).1
  go_wp2_with fail
  have PC := cloneCK_any (List.range W0 ++ bl ++ [w.heap.size + 1]) ro 0 true true true true A0 c0 rows.reverse A1 c1 [] A2 c2 [] A3 c3 [] w2 (by
      intro k hk
      simp only [List.mem_append, List.mem_range, List.mem_singleton] at hk
      have := HB2.out.size
      have hz2 : w.heap.size + 1 < w2.heap.size := vl
      rcases hk with (hk | hk) | hk
      · omega
      · have := HBL.out k hk; omega
      · omega) ((K0.out.add (Nat.le_succ _)).below HB2.out) ((K1.out.add (Nat.le_succ _)).below HB2.out) ((K2.out.add (Nat.le_succ _)).below HB2.out) ((K3.out.add (Nat.le_succ _)).below HB2.out) (by first | exact Nat.zero_le _ | (rw [hlen]; omega)) (by first | exact Nat.zero_le _ | (rw [hlen]; omega)) (Nat.zero_le _) (Nat.zero_le _)
  simp only [List.length_nil, hlen] at PC
  refine PC.mono ?_
  rintro e w3 ⟨C0, e0, C1, e1, C2, e2, C3, e3, he, a0, a1, a2, a3, hb3⟩
  simp only [List.length_nil, hlen] at he
  subst he
  have hqr3 := (hb3.block _ vl).trans hqr
  have HB3 := Lib.hid (HB2.out.trans (hb3.mono HB2.out.size))
  have lr3 := (Array.getElem?_eq_some_iff.1 hqr3).1
  obtain ⟨w4, hw4⟩ : ∃ W, W = w3.alloc (.cells #[.int .i64 ro, .int .i64 0, .slice C0 m e0, .slice C1 0 e1, .slice C2 0 e2, .slice C3 0 e3] 26) := ⟨_, rfl⟩
  have hb4 : Below w3.heap.size w3 w4 := by rw [hw4]; exact bel1
  have HB4 := Lib.hid (HB3.out.trans (hb4.mono HB3.out.size))
  have hq4 : w4.heap[w3.heap.size]? = some (.cells #[.int .i64 ro, .int .i64 0, .slice C0 m e0, .slice C1 0 e1, .slice C2 0 e2, .slice C3 0 e3] 26 (0, 0)) := by rw [hw4]; exact heap_alloc_new _ _
  have hqr4 := (hb4.block _ lr3).trans hqr3
  have HQ4 := Lib.hid hq4; have HQR4 := Lib.hid hqr4
  have G0 := Lib.hid a0; have G1 := Lib.hid a1; have G2 := Lib.hid a2; have G3 := Lib.hid a3
  have HB34 := Lib.hid hb4
  have HW4 := Lib.hid hw4
  have HR4 := Lib.hid ((HB4.out.block B lB).trans HR.out)
  clear uc0 uf0 vc0 vf0 uc1 uf1 vc1 vf1 uc2 uf2 vc2 vf2 uc3 uf3 vc3 vf3 uc4 uf4 vc4 vf4 uc5 uf5 vc5 vf5 ul vl hqx hqr hqr3 hb3 hb4 a0 a1 a2 a3 hw4 K0 K1 K2 K3 HCR
  go_wp2_with fail
  rw [← HW4.out]
  clear HW4
  have sc0 := cell_of_row _ _ 0 _ _ (0, 0) hq4; have sf0 := block_free hq4 0; have sc1 := cell_of_row _ _ 1 _ _ (0, 0) hq4; have sf1 := block_free hq4 1; have sc2 := cell_of_row _ _ 2 _ _ (0, 0) hq4; have sf2 := block_free hq4 2; have sc3 := cell_of_row _ _ 3 _ _ (0, 0) hq4; have sf3 := block_free hq4 3; have sc4 := cell_of_row _ _ 4 _ _ (0, 0) hq4; have sf4 := block_free hq4 4; have sc5 := cell_of_row _ _ 5 _ _ (0, 0) hq4; have sf5 := block_free hq4 5; have sl := (Array.getElem?_eq_some_iff.1 hq4).1
  have tc0 := cell_of_row _ _ 0 _ _ (0, 0) hqr4; have tf0 := block_free hqr4 0; have tc1 := cell_of_row _ _ 1 _ _ (0, 0) hqr4; have tf1 := block_free hqr4 1; have tc2 := cell_of_row _ _ 2 _ _ (0, 0) hqr4; have tf2 := block_free hqr4 2; have tc3 := cell_of_row _ _ 3 _ _ (0, 0) hqr4; have tf3 := block_free hqr4 3; have tc4 := cell_of_row _ _ 4 _ _ (0, 0) hqr4; have tf4 := block_free hqr4 4; have tc5 := cell_of_row _ _ 5 _ _ (0, 0) hqr4; have tf5 := block_free hqr4 5; have tl := (Array.getElem?_eq_some_iff.1 hqr4).1
  have z4 : w3.heap.size < w4.heap.size := sl
  clear hq4 hqr4
  obtain ⟨S0, o0, g0⟩ := G0.out.2.2 (fun h => by have h2 := congrArg List.length h; rw [hlen] at h2; simp at h2; omega)
  have E1 := Lib.hid (G1.out.2.1 rfl rfl)
  have O0 := Lib.hid (o0.below HB34.out)
  have GK0 : Hid (GK W0 bl (w.heap.size + 1) w3.heap.size S0) := Lib.hid (GK.of g0 rfl (fun g hg => by have := o0.lt g hg; omega))
  clear o0 g0
  go_loopw [7, 18] (fun t i wr => ∃ k : Nat, k ≤ m ∧ i = .int .i64 (k : Int) ∧ t = .int .i64 ((k : Int)) ∧ Hid (∃ (A' : Option Addr) (c' : Nat) (S : List Nat), wr.heap[w3.heap.size]? = some (.cells #[.int .i64 ro, .int .i64 0, .slice C0 ((rows.drop k).reverse).length e0, .slice A' k c', .slice C2 0 e2, .slice C3 0 e3] 26 (0, 0)) ∧ OwnA wr 3 1 S0 C0 ((rows.drop k).reverse).length e0 (((rows.drop k).reverse).map (Value.int .i64)) ∧ OwnA wr 3 1 S A' k c' ((rows.take k).reverse.map (Value.int .i64)) ∧ GK W0 bl (w.heap.size + 1) w3.heap.size S ∧ ∀ g ∈ S, g ∉ S0) ∧ Hid (Chg (fun g => W0 ≤ g ∧ g ∉ bl ∧ g ≠ w.heap.size + 1) w4 wr)) (fun _ i _ => m - (RowKit.intOf i).toNat)
  case atStart => exact ⟨0, Nat.zero_le _, rfl, rfl, Lib.hid ⟨C1, e1, [], (by simp only [List.drop_zero, hlen]; exact HQ4.out), (by simp only [List.drop_zero]; exact O0.out), (by rw [E1.out]; simpa using (OwnA.nil (w := w4) (e := 3) (k := 1) C1)), (fun g hg => (by cases hg)), (fun g hg => (by cases hg))⟩, Lib.hid (Chg.refl _ _)⟩
  case round =>
    clear sc0 sf0 sc1 sf1 sc2 sf2 sc3 sf3 sc4 sf4 sc5 sf5 tl sl tc0 tf0 tc1 tf1 tc2 tf2 tc3 tf3 tc4 tf4 tc5 tf5
    obtain ⟨k, hk, rfl, rfl, HST, HC⟩ := hrel
    have zr := HC.out.size
    by_cases hlt : k < m
    · obtain ⟨r, hr⟩ : ∃ r, rows[k]? = some r := ⟨rows[k]'(by rw [HM.out]; exact hlt), List.getElem?_eq_getElem _⟩
      have HROW := Lib.hid (HRO.out r (List.mem_of_getElem? hr))
      have HPN := Lib.hid (nodup_parts HND.out hr)
      have HTR := Lib.hid (take_rev hr); have HDR := Lib.hid (drop_rev hr)
      have hcell : wr.cell? ⟨B, 0 + k, none⟩ = some (.int .i64 r) := by
        rw [Nat.zero_add, cell_of_row _ _ k _ _ (0, 0) ((HC.out.block B (by have := HB4.out.size; omega) (fun h => h.2.1 HBI.out)).trans HR4.out), HRC.out k hlt, List.getElem?_map, hr]; rfl
      simp only [Nat.zero_add] at hcell
      have k0 : (0 : Int) ≤ (k : Int) := by omega
      have k1 : (k : Int) < (m : Int) := by omega
      have nu1 : IntKind.i64.wrap ((k : Int) + 1) = ((k + 1 : Nat) : Int) := by rw [IntWalk.i64_in _ (by omega)]; omega
      have lB2 : B < wr.heap.size := by have := HB4.out.size; omega
      clear hr
      go_wp2_with fail
      refine (isRow_any r _).mono ?_
      rw [HROW.out]
      rintro e wr' ⟨rfl, rfl⟩
      clear hcell
      go_wp2_with fail
      obtain ⟨A', c', S, hq, hO0, hO, hG, hD⟩ := HST.out
      have hXS : w3.heap.size ∉ S := fun h => (hG _ h).2.2.2 rfl
      have hXS0 : w3.heap.size ∉ S0 := fun h => (GK0.out _ h).2.2.2 rfl
      rw [HDR.out, List.length_append] at hq hO0
      refine (askOnce_any w3.heap.size ro 0 S0 C0 e0 ((rows.drop (k + 1)).reverse) S A' k c' ((rows.take k).reverse) C2 e2 C3 e3 r _ hq hO0 hO (by rw [List.length_reverse, List.length_take, HM.out]; omega) (by rw [List.length_reverse, List.length_drop, HM.out]; omega) (by omega) hXS0 hXS hD HPN.out.2).mono ?_
      rintro e w5 ⟨rfl, A5, c5, S5, hq5, hO05, hO5, hS5, hC5⟩
      have HC5 : Hid (Chg (fun g => W0 ≤ g ∧ g ∉ bl ∧ g ≠ w.heap.size + 1) w4 w5) := Lib.hid ⟨hC5.os.trans HC.out.os, hC5.tape.trans HC.out.tape, hC5.output.trans HC.out.output, by have := hC5.size; omega, fun g hg hs => (hC5.block g (by omega) (fun h => by
        rcases h with rfl | h | h
        · exact hs ⟨by have := HB3.out.size; omega, fun hb => by have := HBL.out _ hb; have := HB3.out.size; omega, by omega⟩
        · exact hs ⟨(GK0.out g h).1, (GK0.out g h).2.1, (GK0.out g h).2.2.1⟩
        · exact hs ⟨(hG g h).1, (hG g h).2.1, (hG g h).2.2.1⟩)).trans (HC.out.block g hg hs)⟩
      have HST5 : Hid (∃ (A' : Option Addr) (c' : Nat) (S : List Nat), w5.heap[w3.heap.size]? = some (.cells #[.int .i64 ro, .int .i64 0, .slice C0 ((rows.drop (k + 1)).reverse).length e0, .slice A' (k + 1) c', .slice C2 0 e2, .slice C3 0 e3] 26 (0, 0)) ∧ OwnA w5 3 1 S0 C0 ((rows.drop (k + 1)).reverse).length e0 (((rows.drop (k + 1)).reverse).map (Value.int .i64)) ∧ OwnA w5 3 1 S A' (k + 1) c' ((rows.take (k + 1)).reverse.map (Value.int .i64)) ∧ GK W0 bl (w.heap.size + 1) w3.heap.size S ∧ ∀ g ∈ S, g ∉ S0) := Lib.hid ⟨A5, c5, S5, hq5, hO05, by rw [HTR.out]; exact hO5, hG.new hS5 (by have := HB3.out.size; omega) (fun b hb => by have := HBL.out b hb; have := HB3.out.size; omega) (by have := HB3.out.size; omega) (by omega), fun g hg h0 => by
        rcases hS5 g hg with h | h
        · exact hD g h h0
        · have := hO0.lt g h0; omega⟩
      clear hq5 hO5 hS5 hC5 hq hO hG hXS hO0 hO05 hD hXS0
      go_wp2_with fail
      go_roundw
      case rel => exact ⟨k + 1, by omega, by go_num, rfl, HST5, HC5⟩
      case measure => simp [RowKit.intOf]; omega
    · obtain rfl : m = k := by omega
      obtain ⟨A', c', S, hq, hO0, hO, hG, hD⟩ := HST.out
      have htk : rows.take m = rows := List.take_of_length_le (by rw [HM.out]; exact Nat.le_refl _)
      have hdk : rows.drop m = [] := List.drop_of_length_le (by rw [HM.out]; exact Nat.le_refl _)
      rw [hdk] at hq hO0; rw [htk] at hO; simp only [List.reverse_nil, List.length_nil] at hq
      have hqr := (HC.out.block (w.heap.size + 1) (Array.getElem?_eq_some_iff.1 HQR4.out).1 (by simp)).trans HQR4.out
      obtain ⟨wF, hwF⟩ : ∃ W, W = (World.setCell (World.setCell (World.setCell (World.setCell (World.setCell (World.setCell wr ⟨w.heap.size + 1, 0, none⟩ (.int .i64 ro)) ⟨w.heap.size + 1, 1, none⟩ (.int .i64 0)) ⟨w.heap.size + 1, 2, none⟩ (.slice C0 0 e0)) ⟨w.heap.size + 1, 3, none⟩ (.slice A' m c')) ⟨w.heap.size + 1, 4, none⟩ (.slice C2 0 e2)) ⟨w.heap.size + 1, 5, none⟩ (.slice C3 0 e3)) := ⟨_, rfl⟩
      have RSF : wF.heap[w.heap.size + 1]? = some (.cells #[.int .i64 ro, .int .i64 0, .slice C0 0 e0, .slice A' m c', .slice C2 0 e2, .slice C3 0 e3] 26 (0, 0)) := by rw [hwF]; exact (block_set (o := 5) (v := .slice C3 0 e3) (block_set (o := 4) (v := .slice C2 0 e2) (block_set (o := 3) (v := .slice A' m c') (block_set (o := 2) (v := .slice C0 0 e0) (block_set (o := 1) (v := .int .i64 0) (block_set (o := 0) (v := .int .i64 ro) hqr))))))
      have CF : Chg (· ∈ [w.heap.size + 1]) wr wF := by rw [hwF]; exact (Chg.setCell (p := ⟨w.heap.size + 1, 5, none⟩) (Chg.setCell (p := ⟨w.heap.size + 1, 4, none⟩) (Chg.setCell (p := ⟨w.heap.size + 1, 3, none⟩) (Chg.setCell (p := ⟨w.heap.size + 1, 2, none⟩) (Chg.setCell (p := ⟨w.heap.size + 1, 1, none⟩) (Chg.setCell (p := ⟨w.heap.size + 1, 0, none⟩) (Chg.refl _ _) (.inl (by simp)) _) (.inl (by simp)) _) (.inl (by simp)) _) (.inl (by simp)) _) (.inl (by simp)) _) (.inl (by simp)) _)
      have HOF : Hid (OwnA wF 3 1 S A' m c' (rows.reverse.map (Value.int .i64))) := Lib.hid (hO.keep (fun g hg => CF.block g (hO.lt g hg) (by simp; exact (hG g hg).2.2.1)))
      have HNI := Lib.hid hG.notin
      have HP : Hid (PlayR W0 bl ro 0 m false true [] rows.reverse (m : Int) w (.returned (.tuple #[.agg #[.int .i64 ro, .int .i64 0, .slice C0 0 e0, .slice A' m c', .slice C2 0 e2, .slice C3 0 e3], .int .i64 (m : Int)])) wF) := Lib.hid (by
        refine ⟨_, _, _, _, _, _, _, _, rfl, ⟨fun hA => by have := hO0.none_ hA; omega, fun _ h => (by cases h), fun hx => absurd rfl hx⟩, ⟨fun hA => by have := HOF.out.none_ hA; omega, fun h => absurd h (fun h => by have h2 := congrArg List.length h; rw [hlen] at h2; simp at h2; omega), fun _ => ⟨S, by rw [hlen]; exact HOF.out, HNI.out⟩⟩, (G2.out.empty).sub, (G3.out.empty).sub, ?_, ?_⟩
        · refine ⟨CF.os.trans (HC.out.os.trans HB4.out.os), CF.tape.trans (HC.out.tape.trans HB4.out.tape), CF.output.trans (HC.out.output.trans HB4.out.output), by have := CF.size; have := HB4.out.size; omega, fun g hg => ?_⟩
          exact (CF.block g (by have := HB4.out.size; omega) (by simp; omega)).trans ((HC.out.block g (by have := HB4.out.size; omega) (fun h => by have := h.1; omega)).trans (HB4.out.block g (by omega)))
        · intro g hg
          have lg := HBL.out g hg
          exact (CF.block g (by have := HB4.out.size; omega) (by simp; omega)).trans ((HC.out.block g (by have := HB4.out.size; omega) (fun h => h.2.1 hg)).trans (HB4.out.block g lg)))
      have xc0 := cell_of_row _ _ 0 _ _ (0, 0) hq; have xf0 := block_free hq 0; have xc1 := cell_of_row _ _ 1 _ _ (0, 0) hq; have xf1 := block_free hq 1; have xc2 := cell_of_row _ _ 2 _ _ (0, 0) hq; have xf2 := block_free hq 2; have xc3 := cell_of_row _ _ 3 _ _ (0, 0) hq; have xf3 := block_free hq 3; have xc4 := cell_of_row _ _ 4 _ _ (0, 0) hq; have xf4 := block_free hq 4; have xc5 := cell_of_row _ _ 5 _ _ (0, 0) hq; have xf5 := block_free hq 5; have xl := (Array.getElem?_eq_some_iff.1 hq).1
      have yc0 := cell_of_row _ _ 0 _ _ (0, 0) hqr; have yf0 := block_free hqr 0; have yc1 := cell_of_row _ _ 1 _ _ (0, 0) hqr; have yf1 := block_free hqr 1; have yc2 := cell_of_row _ _ 2 _ _ (0, 0) hqr; have yf2 := block_free hqr 2; have yc3 := cell_of_row _ _ 3 _ _ (0, 0) hqr; have yf3 := block_free hqr 3; have yc4 := cell_of_row _ _ 4 _ _ (0, 0) hqr; have yf4 := block_free hqr 4; have yc5 := cell_of_row _ _ 5 _ _ (0, 0) hqr; have yf5 := block_free hqr 5; have yl := (Array.getElem?_eq_some_iff.1 hqr).1
      have r0 := cell_of_row _ _ 0 _ _ (0, 0) RSF; have r1 := cell_of_row _ _ 1 _ _ (0, 0) RSF; have r2 := cell_of_row _ _ 2 _ _ (0, 0) RSF; have r3 := cell_of_row _ _ 3 _ _ (0, 0) RSF; have r4 := cell_of_row _ _ 4 _ _ (0, 0) RSF; have r5 := cell_of_row _ _ 5 _ _ (0, 0) RSF
      have HWF := Lib.hid hwF
      clear hwF RSF CF hqr hq hO hG htk hdk hO0 hD
      go_wp2_with fail
      rw [← HWF.out]
      exact bodyPost_ret (v := .tuple #[.agg #[.int .i64 ro, .int .i64 0, .slice C0 0 e0, .slice A' m c', .slice C2 0 e2, .slice C3 0 e3], .int .i64 (m : Int)]) (by simp [results, Try.results9, go_sem, r0, r1, r2, r3, r4, r5]) rfl HP.out
set_option maxRecDepth 100000 in
set_option maxHeartbeats 4000000 in
theorem play3_any (W0 B : Nat) (bl : List Nat) (ro : Int) (A0 : Option Addr) (c0 : Nat) (A1 : Option Addr) (c1 : Nat) (A2 : Option Addr) (c2 : Nat) (A3 : Option Addr) (c3 : Nat) (m d : Nat) (rows : List Int) (curR : Array Value) (w : World)
    (hm : rows.length = m) (h1 : 1 ≤ m) (hmr : (m : Int) ≤ ro) (hro : ro ≤ 8) (hnd : rows.Nodup) (hrows : ∀ r ∈ rows, inB r 8 63 = true) (hW : W0 ≤ w.heap.size) (hBI : B ∈ bl) (hbl : ∀ g ∈ bl, g < w.heap.size) (hR : w.heap[B]? = some (.cells curR 3 (0, 0))) (hRc : ∀ j, j < m → curR[j]? = (rows.map (Value.int .i64))[j]?)
    (k0 : LK (List.range W0 ++ bl) w false [] A0 c0) (k1 : LK (List.range W0 ++ bl) w true rows.reverse A1 c1) (k2 : LK (List.range W0 ++ bl) w true [] A2 c2) (k3 : LK (List.range W0 ++ bl) w true [] A3 c3) (hok : cacheOkB (ro, 0, [], rows.reverse, [], []) = true) :
    Calls Try.prog 9 #[.agg #[.int .i64 ro, .int .i64 0, .slice A0 0 c0, .slice A1 m c1, .slice A2 0 c2, .slice A3 0 c3], .slice (some ⟨B, 0, none⟩) m d] w (PlayR W0 bl ro 0 m false true [] rows.reverse (m : Int) w) := by
  have lB := (Array.getElem?_eq_some_iff.1 hR).1
  have m8 : m ≤ 8 := by omega
  have hlen : rows.reverse.length = m := by rw [List.length_reverse]; exact hm
  have hlenH := Lib.hid hlen
  have HR := Lib.hid hR; have HRC := Lib.hid hRc; have HND := Lib.hid hnd; have HRO := Lib.hid hrows; have HM := Lib.hid hm; have HBI := Lib.hid hBI; have HBL := Lib.hid hbl
  have K0 := Lib.hid k0; have K1 := Lib.hid k1; have K2 := Lib.hid k2; have K3 := Lib.hid k3; have HOK := Lib.hid hok
  have i0 := k0.il; have i1 := k1.il; have i2 := k2.il; have i3 := k3.il
  simp only [List.length_nil, hlen] at i0 i1 i2 i3
  have HCR : Hid (CacheR w 0 w.heap.size [.int .i64 ro, .int .i64 0, .slice A0 0 c0, .slice A1 m c1, .slice A2 0 c2, .slice A3 0 c3] (ro, 0, [], rows.reverse, [], [])) := Lib.hid ⟨_, _, _, _, _, _, _, _, _, _, _, _, rfl, i0, i1, i2, i3⟩
  clear hR hRc hnd hrows hm hBI hbl k0 k1 k2 k3 hok i0 i1 i2 i3
  go_enter Try.func9, Try.ntmps9
  go_wp2_with fail
  refine (cacheOk_any [.int .i64 ro, .int .i64 0, .slice A0 0 c0, .slice A1 m c1, .slice A2 0 c2, .slice A3 0 c3] (ro, 0, [], rows.reverse, [], []) _ 0 w.heap.size (CacheR.below bel2 (Nat.le_refl _) _ _ HCR.out) (by unfold sizeCache; have := HM.out; simp <;> omega)).mono ?_
  rw [HOK.out]
  rintro e w2 ⟨rfl, hb2⟩
  have hb2' : Below w.heap.size w w2 := bel2.trans (hb2.mono (by simp; omega))
  have hqx : w2.heap[w.heap.size]? = some (.cells #[.int .i64 ro, .int .i64 0, .slice A0 0 c0, .slice A1 m c1, .slice A2 0 c2, .slice A3 0 c3] 26 (0, 0)) := (hb2.block _ (by simp; omega)).trans ((Below.heap_alloc _ _ _ (by simp)).trans (heap_alloc_new _ _))
  have hqr : w2.heap[w.heap.size + 1]? = some (.cells #[.int .i64 0, .int .i64 0, .slice none 0 0, .slice none 0 0, .slice none 0 0, .slice none 0 0] 26 (0, 0)) := (hb2.block _ (by simp)).trans (by have := heap_alloc_new (w.alloc (.cells #[.int .i64 ro, .int .i64 0, .slice A0 0 c0, .slice A1 m c1, .slice A2 0 c2, .slice A3 0 c3] 26)) (.cells #[.int .i64 0, .int .i64 0, .slice none 0 0, .slice none 0 0, .slice none 0 0, .slice none 0 0] 26); simpa using this)
  have HB2 := Lib.hid hb2'
  clear hb2 hb2'
  have uc0 := cell_of_row _ _ 0 _ _ (0, 0) hqx; have uf0 := block_free hqx 0; have uc1 := cell_of_row _ _ 1 _ _ (0, 0) hqx; have uf1 := block_free hqx 1; have uc2 := cell_of_row _ _ 2 _ _ (0, 0) hqx; have uf2 := block_free hqx 2; have uc3 := cell_of_row _ _ 3 _ _ (0, 0) hqx; have uf3 := block_free hqx 3; have uc4 := cell_of_row _ _ 4 _ _ (0, 0) hqx; have uf4 := block_free hqx 4; have uc5 := cell_of_row _ _ 5 _ _ (0, 0) hqx; have uf5 := block_free hqx 5; have ul := (Array.getElem?_eq_some_iff.1 hqx).1
  have vc0 := cell_of_row _ _ 0 _ _ (0, 0) hqr; have vf0 := block_free hqr 0; have vc1 := cell_of_row _ _ 1 _ _ (0, 0) hqr; have vf1 := block_free hqr 1; have vc2 := cell_of_row _ _ 2 _ _ (0, 0) hqr; have vf2 := block_free hqr 2; have vc3 := cell_of_row _ _ 3 _ _ (0, 0) hqr; have vf3 := block_free hqr 3; have vc4 := cell_of_row _ _ 4 _ _ (0, 0) hqr; have vf4 := block_free hqr 4; have vc5 := cell_of_row _ _ 5 _ _ (0, 0) hqr; have vf5 := block_free hqr 5; have vl := (Array.getElem?_eq_some_iff.1 hqr).1
  go_wp2_with fail
  have PC := cloneCK_any (List.range W0 ++ bl ++ [w.heap.size + 1]) ro 0 false true true true A0 c0 [] A1 c1 rows.reverse A2 c2 [] A3 c3 [] w2 (by
      intro k hk
      simp only [List.mem_append, List.mem_range, List.mem_singleton] at hk
      have := HB2.out.size
      have hz2 : w.heap.size + 1 < w2.heap.size := vl
      rcases hk with (hk | hk) | hk
      · omega
      · have := HBL.out k hk; omega
      · omega) ((K0.out.add (Nat.le_succ _)).below HB2.out) ((K1.out.add (Nat.le_succ _)).below HB2.out) ((K2.out.add (Nat.le_succ _)).below HB2.out) ((K3.out.add (Nat.le_succ _)).below HB2.out) (by first | exact Nat.zero_le _ | (rw [hlen]; omega)) (by first | exact Nat.zero_le _ | (rw [hlen]; omega)) (Nat.zero_le _) (Nat.zero_le _)
  simp only [List.length_nil, hlen] at PC
  refine PC.mono ?_
  rintro e w3 ⟨C0, e0, C1, e1, C2, e2, C3, e3, he, a0, a1, a2, a3, hb3⟩
  simp only [List.length_nil, hlen] at he
  subst he
  have hqr3 := (hb3.block _ vl).trans hqr
  have HB3 := Lib.hid (HB2.out.trans (hb3.mono HB2.out.size))
  have lr3 := (Array.getElem?_eq_some_iff.1 hqr3).1
  obtain ⟨w4, hw4⟩ : ∃ W, W = w3.alloc (.cells #[.int .i64 ro, .int .i64 0, .slice C0 0 e0, .slice C1 m e1, .slice C2 0 e2, .slice C3 0 e3] 26) := ⟨_, rfl⟩
  have hb4 : Below w3.heap.size w3 w4 := by rw [hw4]; exact bel1
  have HB4 := Lib.hid (HB3.out.trans (hb4.mono HB3.out.size))
  have hq4 : w4.heap[w3.heap.size]? = some (.cells #[.int .i64 ro, .int .i64 0, .slice C0 0 e0, .slice C1 m e1, .slice C2 0 e2, .slice C3 0 e3] 26 (0, 0)) := by rw [hw4]; exact heap_alloc_new _ _
  have hqr4 := (hb4.block _ lr3).trans hqr3
  have HQ4 := Lib.hid hq4; have HQR4 := Lib.hid hqr4
  have G0 := Lib.hid a0; have G1 := Lib.hid a1; have G2 := Lib.hid a2; have G3 := Lib.hid a3
  have HB34 := Lib.hid hb4
  have HW4 := Lib.hid hw4
  have HR4 := Lib.hid ((HB4.out.block B lB).trans HR.out)
  clear uc0 uf0 vc0 vf0 uc1 uf1 vc1 vf1 uc2 uf2 vc2 vf2 uc3 uf3 vc3 vf3 uc4 uf4 vc4 vf4 uc5 uf5 vc5 vf5 ul vl hqx hqr hqr3 hb3 hb4 a0 a1 a2 a3 hw4 K0 K1 K2 K3 HCR
  go_wp2_with fail
  rw [← HW4.out]
  clear HW4
  have sc0 := cell_of_row _ _ 0 _ _ (0, 0) hq4; have sf0 := block_free hq4 0; have sc1 := cell_of_row _ _ 1 _ _ (0, 0) hq4; have sf1 := block_free hq4 1; have sc2 := cell_of_row _ _ 2 _ _ (0, 0) hq4; have sf2 := block_free hq4 2; have sc3 := cell_of_row _ _ 3 _ _ (0, 0) hq4; have sf3 := block_free hq4 3; have sc4 := cell_of_row _ _ 4 _ _ (0, 0) hq4; have sf4 := block_free hq4 4; have sc5 := cell_of_row _ _ 5 _ _ (0, 0) hq4; have sf5 := block_free hq4 5; have sl := (Array.getElem?_eq_some_iff.1 hq4).1
  have tc0 := cell_of_row _ _ 0 _ _ (0, 0) hqr4; have tf0 := block_free hqr4 0; have tc1 := cell_of_row _ _ 1 _ _ (0, 0) hqr4; have tf1 := block_free hqr4 1; have tc2 := cell_of_row _ _ 2 _ _ (0, 0) hqr4; have tf2 := block_free hqr4 2; have tc3 := cell_of_row _ _ 3 _ _ (0, 0) hqr4; have tf3 := block_free hqr4 3; have tc4 := cell_of_row _ _ 4 _ _ (0, 0) hqr4; have tf4 := block_free hqr4 4; have tc5 := cell_of_row _ _ 5 _ _ (0, 0) hqr4; have tf5 := block_free hqr4 5; have tl := (Array.getElem?_eq_some_iff.1 hqr4).1
  have z4 : w3.heap.size < w4.heap.size := sl
  clear hq4 hqr4
  obtain ⟨S0, o0, g0⟩ := G1.out.2.2 (fun h => by have h2 := congrArg List.length h; rw [hlen] at h2; simp at h2; omega)
  have O0 := Lib.hid (o0.below HB34.out)
  rw [hlen] at O0
  have GK0 : Hid (GK W0 bl (w.heap.size + 1) w3.heap.size S0) := Lib.hid (GK.of g0 rfl (fun g hg => by have := o0.lt g hg; omega))
  clear o0 g0
  go_loopw [7, 18] (fun t i wr => ∃ k : Nat, k ≤ m ∧ i = .int .i64 (k : Int) ∧ t = .int .i64 ((k : Int)) ∧ Hid (∃ (A' : Option Addr) (c' : Nat) (S : List Nat), wr.heap[w3.heap.size]? = some (.cells #[.int .i64 ro, .int .i64 0, .slice C0 0 e0, .slice A' m c', .slice C2 0 e2, .slice C3 0 e3] 26 (0, 0)) ∧ OwnA wr 3 1 S A' m c' (((rows.take k).reverse ++ (rows.drop k).reverse).map (Value.int .i64)) ∧ GK W0 bl (w.heap.size + 1) w3.heap.size S) ∧ Hid (Chg (fun g => W0 ≤ g ∧ g ∉ bl ∧ g ≠ w.heap.size + 1) w4 wr)) (fun _ i _ => m - (RowKit.intOf i).toNat)
  case atStart => exact ⟨0, Nat.zero_le _, rfl, rfl, Lib.hid ⟨C1, e1, S0, HQ4.out, by simpa using O0.out, GK0.out⟩, Lib.hid (Chg.refl _ _)⟩
  case round =>
    clear sc0 sf0 sc1 sf1 sc2 sf2 sc3 sf3 sc4 sf4 sc5 sf5 tl sl tc0 tf0 tc1 tf1 tc2 tf2 tc3 tf3 tc4 tf4 tc5 tf5
    obtain ⟨k, hk, rfl, rfl, HST, HC⟩ := hrel
    have zr := HC.out.size
    by_cases hlt : k < m
    · obtain ⟨r, hr⟩ : ∃ r, rows[k]? = some r := ⟨rows[k]'(by rw [HM.out]; exact hlt), List.getElem?_eq_getElem _⟩
      have HROW := Lib.hid (HRO.out r (List.mem_of_getElem? hr))
      have HPN := Lib.hid (nodup_parts HND.out hr)
      have HTR := Lib.hid (take_rev hr); have HDR := Lib.hid (drop_rev hr)
      have hcell : wr.cell? ⟨B, 0 + k, none⟩ = some (.int .i64 r) := by
        rw [Nat.zero_add, cell_of_row _ _ k _ _ (0, 0) ((HC.out.block B (by have := HB4.out.size; omega) (fun h => h.2.1 HBI.out)).trans HR4.out), HRC.out k hlt, List.getElem?_map, hr]; rfl
      simp only [Nat.zero_add] at hcell
      have k0 : (0 : Int) ≤ (k : Int) := by omega
      have k1 : (k : Int) < (m : Int) := by omega
      have nu1 : IntKind.i64.wrap ((k : Int) + 1) = ((k + 1 : Nat) : Int) := by rw [IntWalk.i64_in _ (by omega)]; omega
      have lB2 : B < wr.heap.size := by have := HB4.out.size; omega
      clear hr
      go_wp2_with fail
      refine (isRow_any r _).mono ?_
      rw [HROW.out]
      rintro e wr' ⟨rfl, rfl⟩
      clear hcell
      go_wp2_with fail
      obtain ⟨A', c', S, hq, hO, hG⟩ := HST.out
      have hXS : w3.heap.size ∉ S := fun h => (hG _ h).2.2.2 rfl
      have hyl : ((rows.take k).reverse ++ (rows.drop (k + 1)).reverse).length + 1 = m := by simp [HM.out]; omega
      have HYL := Lib.hid hyl
      rw [HDR.out, ← List.append_assoc] at hO
      have HQ3 := Lib.hid hq; have HO3 := Lib.hid hO
      have PA := askOften_any w3.heap.size ro 0 C0 e0 S A' c' ((rows.take k).reverse ++ (rows.drop (k + 1)).reverse) C2 e2 C3 e3 r wr (by rw [HYL.out]; exact HQ3.out) (by rw [HYL.out]; exact HO3.out) (by omega) hXS (by
        intro h
        rcases List.mem_append.1 h with h | h
        · exact HPN.out.1 h
        · exact HPN.out.2 h)
      rw [HYL.out] at PA
      refine PA.mono ?_
      rintro e w5 ⟨rfl, A5, c5, S5, hq5, hO5, hS5, hC5⟩
      have HC5 : Hid (Chg (fun g => W0 ≤ g ∧ g ∉ bl ∧ g ≠ w.heap.size + 1) w4 w5) := Lib.hid ⟨hC5.os.trans HC.out.os, hC5.tape.trans HC.out.tape, hC5.output.trans HC.out.output, by have := hC5.size; omega, fun g hg hs => (hC5.block g (by omega) (fun h => by
        rcases h with rfl | h
        · exact hs ⟨by have := HB3.out.size; omega, fun hb => by have := HBL.out _ hb; have := HB3.out.size; omega, by omega⟩
        · exact hs ⟨(hG g h).1, (hG g h).2.1, (hG g h).2.2.1⟩)).trans (HC.out.block g hg hs)⟩
      have HST5 : Hid (∃ (A' : Option Addr) (c' : Nat) (S : List Nat), w5.heap[w3.heap.size]? = some (.cells #[.int .i64 ro, .int .i64 0, .slice C0 0 e0, .slice A' m c', .slice C2 0 e2, .slice C3 0 e3] 26 (0, 0)) ∧ OwnA w5 3 1 S A' m c' (((rows.take (k + 1)).reverse ++ (rows.drop (k + 1)).reverse).map (Value.int .i64)) ∧ GK W0 bl (w.heap.size + 1) w3.heap.size S) := Lib.hid ⟨A5, c5, S5, hq5, by rw [HTR.out, List.cons_append]; exact hO5, hG.new hS5 (by have := HB3.out.size; omega) (fun b hb => by have := HBL.out b hb; have := HB3.out.size; omega) (by have := HB3.out.size; omega) (by omega)⟩
      clear hyl
      clear hq5 hO5 hS5 hC5 hq hO hG hXS PA HQ3 HO3
      go_wp2_with fail
      go_roundw
      case rel => exact ⟨k + 1, by omega, by go_num, rfl, HST5, HC5⟩
      case measure => simp [RowKit.intOf]; omega
    · obtain rfl : m = k := by omega
      obtain ⟨A', c', S, hq, hO, hG⟩ := HST.out
      have htk : rows.take m = rows := List.take_of_length_le (by rw [HM.out]; exact Nat.le_refl _)
      have hdk : rows.drop m = [] := List.drop_of_length_le (by rw [HM.out]; exact Nat.le_refl _)
      rw [htk, hdk] at hO; simp only [List.reverse_nil, List.append_nil] at hO
      have hqr := (HC.out.block (w.heap.size + 1) (Array.getElem?_eq_some_iff.1 HQR4.out).1 (by simp)).trans HQR4.out
      obtain ⟨wF, hwF⟩ : ∃ W, W = (World.setCell (World.setCell (World.setCell (World.setCell (World.setCell (World.setCell wr ⟨w.heap.size + 1, 0, none⟩ (.int .i64 ro)) ⟨w.heap.size + 1, 1, none⟩ (.int .i64 0)) ⟨w.heap.size + 1, 2, none⟩ (.slice C0 0 e0)) ⟨w.heap.size + 1, 3, none⟩ (.slice A' m c')) ⟨w.heap.size + 1, 4, none⟩ (.slice C2 0 e2)) ⟨w.heap.size + 1, 5, none⟩ (.slice C3 0 e3)) := ⟨_, rfl⟩
      have RSF : wF.heap[w.heap.size + 1]? = some (.cells #[.int .i64 ro, .int .i64 0, .slice C0 0 e0, .slice A' m c', .slice C2 0 e2, .slice C3 0 e3] 26 (0, 0)) := by rw [hwF]; exact (block_set (o := 5) (v := .slice C3 0 e3) (block_set (o := 4) (v := .slice C2 0 e2) (block_set (o := 3) (v := .slice A' m c') (block_set (o := 2) (v := .slice C0 0 e0) (block_set (o := 1) (v := .int .i64 0) (block_set (o := 0) (v := .int .i64 ro) hqr))))))
      have CF : Chg (· ∈ [w.heap.size + 1]) wr wF := by rw [hwF]; exact (Chg.setCell (p := ⟨w.heap.size + 1, 5, none⟩) (Chg.setCell (p := ⟨w.heap.size + 1, 4, none⟩) (Chg.setCell (p := ⟨w.heap.size + 1, 3, none⟩) (Chg.setCell (p := ⟨w.heap.size + 1, 2, none⟩) (Chg.setCell (p := ⟨w.heap.size + 1, 1, none⟩) (Chg.setCell (p := ⟨w.heap.size + 1, 0, none⟩) (Chg.refl _ _) (.inl (by simp)) _) (.inl (by simp)) _) (.inl (by simp)) _) (.inl (by simp)) _) (.inl (by simp)) _) (.inl (by simp)) _)
      have HOF : Hid (OwnA wF 3 1 S A' m c' (rows.reverse.map (Value.int .i64))) := Lib.hid (hO.keep (fun g hg => CF.block g (hO.lt g hg) (by simp; exact (hG g hg).2.2.1)))
      have HNI := Lib.hid hG.notin
      have HP : Hid (PlayR W0 bl ro 0 m false true [] rows.reverse (m : Int) w (.returned (.tuple #[.agg #[.int .i64 ro, .int .i64 0, .slice C0 0 e0, .slice A' m c', .slice C2 0 e2, .slice C3 0 e3], .int .i64 (m : Int)])) wF) := Lib.hid (by
        refine ⟨_, _, _, _, _, _, _, _, rfl, (G0.out.empty).sub, ⟨fun hA => by have := HOF.out.none_ hA; omega, fun h => absurd h (fun h => by have h2 := congrArg List.length h; rw [hlen] at h2; simp at h2; omega), fun _ => ⟨S, by rw [hlen]; exact HOF.out, HNI.out⟩⟩, (G2.out.empty).sub, (G3.out.empty).sub, ?_, ?_⟩
        · refine ⟨CF.os.trans (HC.out.os.trans HB4.out.os), CF.tape.trans (HC.out.tape.trans HB4.out.tape), CF.output.trans (HC.out.output.trans HB4.out.output), by have := CF.size; have := HB4.out.size; omega, fun g hg => ?_⟩
          exact (CF.block g (by have := HB4.out.size; omega) (by simp; omega)).trans ((HC.out.block g (by have := HB4.out.size; omega) (fun h => by have := h.1; omega)).trans (HB4.out.block g (by omega)))
        · intro g hg
          have lg := HBL.out g hg
          exact (CF.block g (by have := HB4.out.size; omega) (by simp; omega)).trans ((HC.out.block g (by have := HB4.out.size; omega) (fun h => h.2.1 hg)).trans (HB4.out.block g lg)))
      have xc0 := cell_of_row _ _ 0 _ _ (0, 0) hq; have xf0 := block_free hq 0; have xc1 := cell_of_row _ _ 1 _ _ (0, 0) hq; have xf1 := block_free hq 1; have xc2 := cell_of_row _ _ 2 _ _ (0, 0) hq; have xf2 := block_free hq 2; have xc3 := cell_of_row _ _ 3 _ _ (0, 0) hq; have xf3 := block_free hq 3; have xc4 := cell_of_row _ _ 4 _ _ (0, 0) hq; have xf4 := block_free hq 4; have xc5 := cell_of_row _ _ 5 _ _ (0, 0) hq; have xf5 := block_free hq 5; have xl := (Array.getElem?_eq_some_iff.1 hq).1
      have yc0 := cell_of_row _ _ 0 _ _ (0, 0) hqr; have yf0 := block_free hqr 0; have yc1 := cell_of_row _ _ 1 _ _ (0, 0) hqr; have yf1 := block_free hqr 1; have yc2 := cell_of_row _ _ 2 _ _ (0, 0) hqr; have yf2 := block_free hqr 2; have yc3 := cell_of_row _ _ 3 _ _ (0, 0) hqr; have yf3 := block_free hqr 3; have yc4 := cell_of_row _ _ 4 _ _ (0, 0) hqr; have yf4 := block_free hqr 4; have yc5 := cell_of_row _ _ 5 _ _ (0, 0) hqr; have yf5 := block_free hqr 5; have yl := (Array.getElem?_eq_some_iff.1 hqr).1
      have r0 := cell_of_row _ _ 0 _ _ (0, 0) RSF; have r1 := cell_of_row _ _ 1 _ _ (0, 0) RSF; have r2 := cell_of_row _ _ 2 _ _ (0, 0) RSF; have r3 := cell_of_row _ _ 3 _ _ (0, 0) RSF; have r4 := cell_of_row _ _ 4 _ _ (0, 0) RSF; have r5 := cell_of_row _ _ 5 _ _ (0, 0) RSF
      have HWF := Lib.hid hwF
      clear hwF RSF CF hqr hq hO hG htk hdk
      go_wp2_with fail
      rw [← HWF.out]
      exact bodyPost_ret (v := .tuple #[.agg #[.int .i64 ro, .int .i64 0, .slice C0 0 e0, .slice A' m c', .slice C2 0 e2, .slice C3 0 e3], .int .i64 (m : Int)]) (by simp [results, Try.results9, go_sem, r0, r1, r2, r3, r4, r5]) rfl HP.out
end Go.Proofs.Ytfokpjoeankobaa
