/- PtrGet of the program; l2Cut. Condition: the library's variables lie as the row says; the text is at most a million bytes. -/
import Derived.Test.YtjnhiiaejeaikaaGreatDoorRTreePlain
import Derived.Test.YtjnhiiaejeaikaaGreatDoorRFieldsGet
import Derived.Test.YtjnhiiaejeaikaaGreatDoorRSpFieldsGet
import Derived.Test.YtjnhiiaejeaikaaGreatDoorRPtrPut
set_option linter.unnecessarySimpa false
set_option linter.unusedSimpArgs false
set_option linter.unusedVariables false
namespace Go.Proofs.YtjnhiiaejeaikaaGreatDoor
open Go Go.Lib Go.RowKit
def pcL (x : PtrD) : List Value := [.int .i64 x.1, .int .i64 x.2.1, .int .i64 x.2.2.1, .int .i64 x.2.2.2.1, .int .i64 x.2.2.2.2]
theorem row_ptrs {w : World} {lo hi : Nat} : ∀ ys : List PtrD, RowV (PtrR w lo hi) 5 (ys.flatMap pcL) ys
 | [] => RowV.nil _ _
 | x :: ys => by
   have h1 : RowV (PtrR w lo hi) 5 (pcL x) [x] := RowV.one rfl rfl
   have := RowV.append h1 (row_ptrs ys) rfl
   simpa using this
theorem pcL_len (ys : List PtrD) : (ys.flatMap pcL).length = ys.length * 5 := by
 induction ys with
 | nil => rfl
 | cons x ys ih => simp only [List.flatMap_cons, List.length_append, ih, List.length_cons]; show 5 + _ = _; omega
theorem pcL_one (ys : List PtrD) : ∀ u ∈ ys.flatMap pcL, u.oneCell' = true := by
 intro u hu
 obtain ⟨x, _, hx⟩ := List.mem_flatMap.1 hu
 simp [pcL] at hx
 rcases hx with rfl | rfl | rfl | rfl | rfl <;> rfl
theorem pcL_of_row : ∀ {ys : List PtrD} {vs : List Value} {w : World} {lo hi : Nat}, vs.length = ys.length * 5 → RowV (PtrR w lo hi) 5 vs ys → vs = ys.flatMap pcL := by
 intro ys vs w lo hi hl hv
 apply List.ext_getElem?
 intro i
 by_cases hi' : i < ys.length * 5
 · have hj : i / 5 < ys.length := by omega
   obtain ⟨cs, hcl, hcc, rfl⟩ := hv (i / 5) _ (List.getElem?_eq_getElem hj)
   obtain ⟨cs2, hcl2, hcc2, e2⟩ := row_ptrs (w := w) (lo := lo) (hi := hi) ys (i / 5) _ (List.getElem?_eq_getElem hj)
   have hm : i % 5 < 5 := Nat.mod_lt _ (by decide)
   have hi2 : i / 5 * 5 + i % 5 = i := by omega
   have h1 := hcc (i % 5) _ (List.getElem?_eq_getElem (by rw [hcl]; exact hm))
   have h2 := hcc2 (i % 5) _ (List.getElem?_eq_getElem (by rw [hcl2]; exact hm))
   rw [hi2] at h1 h2
   rw [h1, h2]
   have e2' : cs2 = _ := e2
   subst e2'
   rfl
 rw [List.getElem?_eq_none (by omega), List.getElem?_eq_none (by rw [pcL_len]; omega)]
def PtrsAt (B : Nat) (A : Option Addr) (c : Nat) (S : List Nat) (ys : List PtrD) (w : World) : Prop := OwnA w 41 5 S A ys.length c (ys.flatMap pcL) ∧ ∀ g ∈ S, B ≤ g
theorem PtrsAt.below {B : Nat} {A : Option Addr} {c : Nat} {S : List Nat} {ys : List PtrD} {w w' : World} (h : PtrsAt B A c S ys w) (hb : Below w.heap.size w w') : PtrsAt B A c S ys w' := ⟨h.1.below hb, h.2⟩
theorem PtrsAt.slice {B : Nat} {A : Option Addr} {c : Nat} {S : List Nat} {ys : List PtrD} {w : World} (h : PtrsAt B A c S ys w) : SliceR PtrR 5 w B w.heap.size A ys.length c ys :=
 (h.1.slice rfl (row_ptrs ys) (fun g hg => ⟨h.2 g hg, h.1.lt g hg⟩) (Nat.le_refl _)).1
theorem PtrsAt.nil {B : Nat} {A : Option Addr} {w : World} : PtrsAt B A 0 [] [] w := ⟨OwnA.nil _, by simp⟩
theorem PtrsAt.lit {w : World} {B : Nat} {ys : List PtrD} {cur : Array Value} (hc : cur.toList = ys.flatMap pcL) (hl : ys.length ≤ maxLen) (hB : B ≤ w.heap.size) : PtrsAt B (some ⟨w.heap.size, 0, none⟩) ys.length [w.heap.size] ys (w.alloc (.cells cur 41)) := by
 refine ⟨?_, fun g hg => by rw [List.mem_singleton] at hg; omega⟩
 have := OwnA.lit (w := w) (e := 41) (k := 5) (cur := cur) (m := ys.length) (by rw [← Array.length_toList, hc, pcL_len]) hl
 rwa [hc] at this
theorem SliceR.ptrRow {w : World} {lo hi : Nat} {A : Option Addr} {n c : Nat} {ys : List PtrD} (h : SliceR PtrR 5 w lo hi A n c ys) : RowAt w A (n * 5) (ys.flatMap pcL) := by
 obtain ⟨vs, h1, h2, h3, _⟩ := h.row (by decide)
 rwa [pcL_of_row h2 h3] at h1
theorem app_ptrs {B : Nat} {S S' : List Nat} {w1 w2 : World} {A' : Option Addr} {c' n : Nat} {fs gs : List PtrD} (hS : ∀ g ∈ S, B ≤ g) (hB : B ≤ w1.heap.size) (hn : n = (fs ++ gs).length)
 (hO : OwnA w2 41 5 S' A' n c' (fs.flatMap pcL ++ gs.flatMap pcL)) (hS' : ∀ g ∈ S', g ∈ S ∨ w1.heap.size ≤ g) (hC : Chg (· ∈ S) w1 w2) :
 PtrsAt B A' c' S' (fs ++ gs) w2 ∧ Below B w1 w2 := by
 subst hn
 exact ⟨⟨by simpa using hO, fun g hg => (hS' g hg).elim (hS g) (fun h => Nat.le_trans hB h)⟩, hC.below (fun g _ hg => hS g hg) hB⟩
def GotPs (o : Option (List PtrD)) (w : World) (e : Ending) (w' : World) : Prop :=
 ∃ (A : Option Addr) (n c : Nat) (ps : List PtrD) (ok : Bool), e = .returned (.tuple #[.slice A n c, .bool ok]) ∧ ok = o.isSome ∧ (∀ qs, o = some qs → ps = qs) ∧ SliceR PtrR 5 w' w.heap.size w'.heap.size A n c ps ∧ Below w.heap.size w w'
theorem GotPs.no {o : Option (List PtrD)} {w w' : World} {A : Option Addr} (h : o = none) (hb : Below w.heap.size w w') : GotPs o w (.returned (.tuple #[.slice A 0 0, .bool false])) w' :=
 ⟨A, 0, 0, [], false, rfl, by rw [h]; rfl, fun qs e => by rw [h] at e; (cases e), ⟨rfl, Nat.le_refl _, Nat.zero_le _, Nat.le_refl _, fun _ => rfl, fun h => absurd h (by simp)⟩, hb⟩
end Go.Proofs.YtjnhiiaejeaikaaGreatDoor
namespace Go.Proofs.YtjnhiiaejeaikaaGreatDoor
open Go Go.Lib Go.RowKit
theorem map_strBC {xs : List ByteArray} {fs : List Str} (h : xs.map (·.data.toList) = fs) : xs = fs.map strB := by
 subst h
 rw [List.map_map]
 have : (strB ∘ fun x : ByteArray => x.data.toList) = id := by funext x; exact strB_data x
 rw [this, List.map_id]
theorem splitSC_any (s : Str) (w : World) (he : Env w) (hs : s.length ≤ 1000000) : Calls Tryz.prog 112 #[.string (strB s), .string ⟨#[44]⟩] w (NewStrs (splitC s) w) := by
 obtain ⟨_, _, m, hm⟩ := he
 refine (Tryz.strings_Split (strB s) ⟨#[44]⟩ m w (by rw [strB_size]; omega) hm (by decide)).mono ?_
 rintro e w' ⟨rfl, rfl⟩
 have hd : (strB s).data.toList = s := by simp [strB]
 have hcount : countB (strB s) ⟨#[44]⟩ = s.count 44 := by
  show Lib.count (strB s).data.toList [44] = _
  rw [hd, count_one]
 have hmap := map_strBC (splitB_data ⟨#[44]⟩ 0 (countB (strB s) ⟨#[44]⟩) (strB s))
 rw [hd] at hmap
 rw [show (⟨#[44]⟩ : ByteArray).data.toList = [44] from rfl, hcount, splitK_C _ _ rfl] at hmap
 have hlen : s.count 44 + 1 = (splitC s).length := by
  have := splitB_all ⟨#[44]⟩ (by decide) 0 _ (strB s) rfl
  rw [hcount, hmap, List.length_map] at this
  exact this.symm
 rw [hcount, hmap, hlen]
 refine ⟨_, _, rfl, StrsIn.lit (Nat.le_refl _) (heap_alloc_new _ _) (by simp [strV]) ?_, bel1⟩
 rw [← hlen]
 have : s.count 44 ≤ s.length := List.count_le_length
 unfold maxLen; omega
theorem splitC_from {s : Str} {a j : Nat} (haj : a ≤ j) (hj : j < s.length) (hc : s[j]? = some 44) (hf : (44 : UInt8) ∉ (s.drop a).take (j - a)) : splitC (s.drop a) = (s.drop a).take (j - a) :: splitC (s.drop (j + 1)) := by
 have h1 : (s.drop a)[j - a]? = some 44 := by rw [List.getElem?_drop, show a + (j - a) = j by omega]; exact hc
 have h2 := take_get h1
 rw [List.drop_drop, show a + (j - a + 1) = j + 1 by omega] at h2
 have h3 := splitC_cut (b := s.drop (j + 1)) hf
 rw [← h2] at h3
 exact h3
set_option maxRecDepth 100000 in
set_option maxHeartbeats 4000000 in
theorem l2CutC_any (s : Str) (w : World) (hs : s.length ≤ 1000000) : Calls Tryz.prog 92 #[.string (strB s), .int .u8 44] w (NewStrs (splitC s) w) := by
 have hsz : (strB s).size = s.length := rfl
 obtain ⟨i0, hi0, hz0, hz1, hz2⟩ := info_parts info_strs
 go_enter Tryz.func92, Tryz.ntmps92
 go_wp2_with fail
 go_loopw [5, 6, 7] (fun t f i wr => ∃ (out : List Str) (a j : Nat) (A : Option Addr) (c n : Nat), t = .slice A n c ∧ f = .int .i64 (a : Int) ∧ i = .int .i64 (j : Int) ∧ a ≤ j ∧ j ≤ s.length ∧ n ≤ a ∧ Hid (n = out.length) ∧ Hid (splitC s = out ++ splitC (s.drop a)) ∧ Hid ((44 : UInt8) ∉ (s.drop a).take (j - a)) ∧ Hid (StrsIn w.heap.size wr A c out) ∧ Hid (Below w.heap.size w wr)) (fun _ _ i _ => s.length - (RowKit.intOf i).toNat)
 case atStart => exact ⟨[], 0, 0, _, 0, 0, rfl, rfl, rfl, by omega, by omega, by omega, Lib.hid rfl, Lib.hid rfl, Lib.hid (by simp), Lib.hid (StrsIn.nil' _), Lib.hid bel1⟩
 obtain ⟨out, a, j, A, c, n, rfl, rfl, rfl, haj, hj, hna, HN, HE, HF, HI, HB⟩ := hrel
 have hbw : w.heap.size ≤ wr.heap.size := HB.out.size
 have ha0 : (0 : Int) ≤ (a : Int) := by omega
 by_cases hlt : j < s.length
 · have hd : (j : Int) < (s.length : Int) := by omega
   have hlk : j < (strB s).size := by rw [hsz]; exact hlt
   obtain ⟨ch, x, hc, hx, hx9, hg⟩ := str_get2 hlk
   by_cases h44 : x = 44
   · have hch : ch = 44 := UInt8.toNat_inj.1 (by rw [← hx, h44]; rfl)
     rw [hch] at hc
     have hsp := splitC_from haj hlt hc HF.out
     obtain ⟨y, hy⟩ : ∃ y, y = (s.drop a).take (j - a) := ⟨_, rfl⟩
     have hx1 : (strB s).extract a j = strB y := by
      have := ext_mid s a (j - a)
      rw [show a + (j - a) = j by omega] at this
      rw [this, hy]
     rw [← hy] at hsp
     have HSP := Lib.hid hsp
     have g1 : (a : Int) ≤ (j : Int) := by omega
     have g2 : (j : Int) ≤ (s.length : Int) := by omega
     have g3 : (0 : Int) ≤ (j : Int) := by omega
     have u1 : IntKind.i64.wrap ((j : Int) + 1) = (j : Int) + 1 := IntWalk.i64_in _ (by omega)
     subst h44
     clear hc hx hch hsp hy
     obtain ⟨S, hOS, hSB⟩ := HI.out
     rw [← HN.out] at hOS
     have HOA := Lib.hid (hOS.below (bel1 (o := .cells #[.string (strB y)] 9)))
     have HLIT := Lib.hid (fun (W : World) => RowAt.lit (w := W) (e := 9) (cur := #[.string (strB y)]) (m := 1) rfl)
     have HONE : Hid (∀ u ∈ [y].map strV, u.oneCell' = true) := Lib.hid (strs_one _)
     have HSB := Lib.hid hSB
     clear hOS hSB HI
     go_wp2_with (at_builtin; go_must (refine wpList_append_row rfl _ _ 22 rfl 9 i0 (.string ByteArray.empty) 1 16 Tryz.underlying22 hi0 hz0 hz1 hz2 rfl (by decide) S A _ n c 1 _ (out.map strV) ([y].map strV) rfl rfl HOA.out (HLIT.out _) HONE.out (by unfold maxLen; omega) (by omega) ?_))
     intro A' c' S' w5 hO' hS' hC'
     obtain ⟨hI5, hb5⟩ := app_strs (B := w.heap.size) HSB.out (w1 := wr.alloc (.cells #[.string (strB y)] 9)) (fs := out) (gs := [y]) (by simp; omega) (by rw [List.length_append, List.length_singleton, HN.out]) hO' (fun g hg => (hS' g hg).imp id (fun h => by simpa using h)) hC'
     have HB5 := Lib.hid (HB.out.trans (((Below.refl _ _).alloc hbw _).trans hb5))
     have HI5 := Lib.hid hI5
     have HE5 : Hid (splitC s = (out ++ [y]) ++ splitC (s.drop (j + 1))) := Lib.hid (by rw [HE.out, HSP.out]; simp)
     have HN5 : Hid (n + 1 = (out ++ [y]).length) := Lib.hid (by rw [List.length_append, List.length_singleton, HN.out])
     have HF5 : Hid ((44 : UInt8) ∉ (s.drop (j + 1)).take (j + 1 - (j + 1))) := Lib.hid (by simp)
     clear hb5 hO' hS' hC' HOA HLIT HONE HSB HE HF HN hI5 hx1 HSP
     go_wp2_with fail
     go_roundw
     case rel => exact ⟨out ++ [y], j + 1, j + 1, A', c', n + 1, rfl, by simp, by simp, by omega, by omega, by omega, HN5, HE5, HF5, HI5, HB5⟩
     simp [RowKit.intOf]; omega
   have hxb : ((x : Int) == 44) = false := by simp; omega
   have hxc : ¬ (x : Int) = 44 := by omega
   have HF2 : Hid ((44 : UInt8) ∉ (s.drop a).take (j + 1 - a)) := Lib.hid (by
    rw [show j + 1 - a = (j - a) + 1 by omega, List.take_add_one, List.getElem?_drop, show a + (j - a) = j by omega, hc]
    simp only [Option.toList_some, List.mem_append, List.mem_singleton, not_or]
    exact ⟨HF.out, fun e => h44 (by rw [hx, ← e]; rfl)⟩)
   clear hc hx HF
   go_wp2_with fail
   go_roundw
   case rel => exact ⟨out, a, j + 1, A, c, n, rfl, rfl, by simp, by omega, by omega, hna, HN, HE, HF2, HI, HB⟩
   simp [RowKit.intOf]; omega
 have hd : ¬ (j : Int) < (s.length : Int) := by omega
 obtain rfl : j = s.length := by omega
 obtain ⟨y, hy⟩ : ∃ y, y = s.drop a := ⟨_, rfl⟩
 have hx1 : (strB s).extract a s.length = strB y := by rw [hy]; exact ext_tail s a
 have HSP : Hid (splitC s = out ++ [y]) := Lib.hid (by
  have hf : (44 : UInt8) ∉ s.drop a := by have := HF.out; rwa [List.take_of_length_le (by rw [List.length_drop]; exact Nat.le_refl _)] at this
  rw [HE.out, splitC_free hf, hy])
 have g1 : (a : Int) ≤ (s.length : Int) := by omega
 clear hy
 obtain ⟨S, hOS, hSB⟩ := HI.out
 rw [← HN.out] at hOS
 have HOA := Lib.hid (hOS.below (bel1 (o := .cells #[.string (strB y)] 9)))
 have HLIT := Lib.hid (fun (W : World) => RowAt.lit (w := W) (e := 9) (cur := #[.string (strB y)]) (m := 1) rfl)
 have HONE : Hid (∀ u ∈ [y].map strV, u.oneCell' = true) := Lib.hid (strs_one _)
 have HSB := Lib.hid hSB
 clear hOS hSB HI
 go_wp2_with (at_builtin; go_must (refine wpList_append_row rfl _ _ 22 rfl 9 i0 (.string ByteArray.empty) 1 16 Tryz.underlying22 hi0 hz0 hz1 hz2 rfl (by decide) S A _ n c 1 _ (out.map strV) ([y].map strV) rfl rfl HOA.out (HLIT.out _) HONE.out (by unfold maxLen; omega) (by omega) ?_))
 intro A' c' S' w5 hO' hS' hC'
 obtain ⟨hI5, hb5⟩ := app_strs (B := w.heap.size) HSB.out (w1 := wr.alloc (.cells #[.string (strB y)] 9)) (fs := out) (gs := [y]) (by simp; omega) (by rw [List.length_append, List.length_singleton, HN.out]) hO' (fun g hg => (hS' g hg).imp id (fun h => by simpa using h)) hC'
 have HB5 := Lib.hid (HB.out.trans (((Below.refl _ _).alloc hbw _).trans hb5))
 have HN5 : Hid (n + 1 = (out ++ [y]).length) := Lib.hid (by rw [List.length_append, List.length_singleton, HN.out])
 have HI5 := Lib.hid hI5
 clear hb5 hO' hS' hC' HOA HLIT HONE HSB HE HF hI5 hx1
 go_wp2_with fail
 go_ret
 exact ⟨A', c', by rw [HSP.out, ← HN5.out]; rfl, by rw [HSP.out]; exact HI5.out, HB5.out⟩
end Go.Proofs.YtjnhiiaejeaikaaGreatDoor
namespace Go.Proofs.YtjnhiiaejeaikaaGreatDoor
open Go Go.Lib Go.RowKit
theorem map_strB {xs : List ByteArray} {fs : List Str} (h : xs.map (·.data.toList) = fs) : xs = fs.map strB := by
 subst h
 rw [List.map_map]
 have : (strB ∘ fun x : ByteArray => x.data.toList) = id := by funext x; exact strB_data x
 rw [this, List.map_id]
theorem splitS_any (s : Str) (w : World) (he : Env w) (hs : s.length ≤ 1000000) : Calls Tryz.prog 112 #[.string (strB s), .string ⟨#[46]⟩] w (NewStrs (splitD s) w) := by
 obtain ⟨_, _, m, hm⟩ := he
 refine (Tryz.strings_Split (strB s) ⟨#[46]⟩ m w (by rw [strB_size]; omega) hm (by decide)).mono ?_
 rintro e w' ⟨rfl, rfl⟩
 have hd : (strB s).data.toList = s := by simp [strB]
 have hcount : countB (strB s) ⟨#[46]⟩ = s.count 46 := by
  show Lib.count (strB s).data.toList [46] = _
  rw [hd, count_one]
 have hmap := map_strB (splitB_data ⟨#[46]⟩ 0 (countB (strB s) ⟨#[46]⟩) (strB s))
 rw [hd] at hmap
 rw [show (⟨#[46]⟩ : ByteArray).data.toList = [46] from rfl, hcount, splitK_D _ _ rfl] at hmap
 have hlen : s.count 46 + 1 = (splitD s).length := by
  have := splitB_all ⟨#[46]⟩ (by decide) 0 _ (strB s) rfl
  rw [hcount, hmap, List.length_map] at this
  exact this.symm
 rw [hcount, hmap, hlen]
 refine ⟨_, _, rfl, StrsIn.lit (Nat.le_refl _) (heap_alloc_new _ _) (by simp [strV]) ?_, bel1⟩
 rw [← hlen]
 have : s.count 46 ≤ s.length := List.count_le_length
 unfold maxLen; omega
theorem split_from {s : Str} {a j : Nat} (haj : a ≤ j) (hj : j < s.length) (hc : s[j]? = some 46) (hf : (46 : UInt8) ∉ (s.drop a).take (j - a)) : splitD (s.drop a) = (s.drop a).take (j - a) :: splitD (s.drop (j + 1)) := by
 have h1 : (s.drop a)[j - a]? = some 46 := by rw [List.getElem?_drop, show a + (j - a) = j by omega]; exact hc
 have h2 := take_get h1
 rw [List.drop_drop, show a + (j - a + 1) = j + 1 by omega] at h2
 have h3 := splitD_cut (b := s.drop (j + 1)) hf
 rw [← h2] at h3
 exact h3
set_option maxRecDepth 100000 in
set_option maxHeartbeats 4000000 in
theorem l2Cut_any (s : Str) (w : World) (hs : s.length ≤ 1000000) : Calls Tryz.prog 92 #[.string (strB s), .int .u8 46] w (NewStrs (splitD s) w) := by
 have hsz : (strB s).size = s.length := rfl
 obtain ⟨i0, hi0, hz0, hz1, hz2⟩ := info_parts info_strs
 go_enter Tryz.func92, Tryz.ntmps92
 go_wp2_with fail
 go_loopw [5, 6, 7] (fun t f i wr => ∃ (out : List Str) (a j : Nat) (A : Option Addr) (c n : Nat), t = .slice A n c ∧ f = .int .i64 (a : Int) ∧ i = .int .i64 (j : Int) ∧ a ≤ j ∧ j ≤ s.length ∧ n ≤ a ∧ Hid (n = out.length) ∧ Hid (splitD s = out ++ splitD (s.drop a)) ∧ Hid ((46 : UInt8) ∉ (s.drop a).take (j - a)) ∧ Hid (StrsIn w.heap.size wr A c out) ∧ Hid (Below w.heap.size w wr)) (fun _ _ i _ => s.length - (RowKit.intOf i).toNat)
 case atStart => exact ⟨[], 0, 0, _, 0, 0, rfl, rfl, rfl, by omega, by omega, by omega, Lib.hid rfl, Lib.hid rfl, Lib.hid (by simp), Lib.hid (StrsIn.nil' _), Lib.hid bel1⟩
 obtain ⟨out, a, j, A, c, n, rfl, rfl, rfl, haj, hj, hna, HN, HE, HF, HI, HB⟩ := hrel
 have hbw : w.heap.size ≤ wr.heap.size := HB.out.size
 have ha0 : (0 : Int) ≤ (a : Int) := by omega
 by_cases hlt : j < s.length
 · have hd : (j : Int) < (s.length : Int) := by omega
   have hlk : j < (strB s).size := by rw [hsz]; exact hlt
   obtain ⟨ch, x, hc, hx, hx9, hg⟩ := str_get2 hlk
   by_cases h46 : x = 46
   · have hch : ch = 46 := UInt8.toNat_inj.1 (by rw [← hx, h46]; rfl)
     rw [hch] at hc
     have hsp := split_from haj hlt hc HF.out
     obtain ⟨y, hy⟩ : ∃ y, y = (s.drop a).take (j - a) := ⟨_, rfl⟩
     have hx1 : (strB s).extract a j = strB y := by
      have := ext_mid s a (j - a)
      rw [show a + (j - a) = j by omega] at this
      rw [this, hy]
     rw [← hy] at hsp
     have HSP := Lib.hid hsp
     have g1 : (a : Int) ≤ (j : Int) := by omega
     have g2 : (j : Int) ≤ (s.length : Int) := by omega
     have g3 : (0 : Int) ≤ (j : Int) := by omega
     have u1 : IntKind.i64.wrap ((j : Int) + 1) = (j : Int) + 1 := IntWalk.i64_in _ (by omega)
     subst h46
     clear hc hx hch hsp hy
     obtain ⟨S, hOS, hSB⟩ := HI.out
     rw [← HN.out] at hOS
     have HOA := Lib.hid (hOS.below (bel1 (o := .cells #[.string (strB y)] 9)))
     have HLIT := Lib.hid (fun (W : World) => RowAt.lit (w := W) (e := 9) (cur := #[.string (strB y)]) (m := 1) rfl)
     have HONE : Hid (∀ u ∈ [y].map strV, u.oneCell' = true) := Lib.hid (strs_one _)
     have HSB := Lib.hid hSB
     clear hOS hSB HI
     go_wp2_with (at_builtin; go_must (refine wpList_append_row rfl _ _ 22 rfl 9 i0 (.string ByteArray.empty) 1 16 Tryz.underlying22 hi0 hz0 hz1 hz2 rfl (by decide) S A _ n c 1 _ (out.map strV) ([y].map strV) rfl rfl HOA.out (HLIT.out _) HONE.out (by unfold maxLen; omega) (by omega) ?_))
     intro A' c' S' w5 hO' hS' hC'
     obtain ⟨hI5, hb5⟩ := app_strs (B := w.heap.size) HSB.out (w1 := wr.alloc (.cells #[.string (strB y)] 9)) (fs := out) (gs := [y]) (by simp; omega) (by rw [List.length_append, List.length_singleton, HN.out]) hO' (fun g hg => (hS' g hg).imp id (fun h => by simpa using h)) hC'
     have HB5 := Lib.hid (HB.out.trans (((Below.refl _ _).alloc hbw _).trans hb5))
     have HI5 := Lib.hid hI5
     have HE5 : Hid (splitD s = (out ++ [y]) ++ splitD (s.drop (j + 1))) := Lib.hid (by rw [HE.out, HSP.out]; simp)
     have HN5 : Hid (n + 1 = (out ++ [y]).length) := Lib.hid (by rw [List.length_append, List.length_singleton, HN.out])
     have HF5 : Hid ((46 : UInt8) ∉ (s.drop (j + 1)).take (j + 1 - (j + 1))) := Lib.hid (by simp)
     clear hb5 hO' hS' hC' HOA HLIT HONE HSB HE HF HN hI5 hx1 HSP
     go_wp2_with fail
     go_roundw
     case rel => exact ⟨out ++ [y], j + 1, j + 1, A', c', n + 1, rfl, by simp, by simp, by omega, by omega, by omega, HN5, HE5, HF5, HI5, HB5⟩
     simp [RowKit.intOf]; omega
   have hxb : ((x : Int) == 46) = false := by simp; omega
   have hxc : ¬ (x : Int) = 46 := by omega
   have HF2 : Hid ((46 : UInt8) ∉ (s.drop a).take (j + 1 - a)) := Lib.hid (by
    rw [show j + 1 - a = (j - a) + 1 by omega, List.take_add_one, List.getElem?_drop, show a + (j - a) = j by omega, hc]
    simp only [Option.toList_some, List.mem_append, List.mem_singleton, not_or]
    exact ⟨HF.out, fun e => h46 (by rw [hx, ← e]; rfl)⟩)
   clear hc hx HF
   go_wp2_with fail
   go_roundw
   case rel => exact ⟨out, a, j + 1, A, c, n, rfl, rfl, by simp, by omega, by omega, hna, HN, HE, HF2, HI, HB⟩
   simp [RowKit.intOf]; omega
 have hd : ¬ (j : Int) < (s.length : Int) := by omega
 obtain rfl : j = s.length := by omega
 obtain ⟨y, hy⟩ : ∃ y, y = s.drop a := ⟨_, rfl⟩
 have hx1 : (strB s).extract a s.length = strB y := by rw [hy]; exact ext_tail s a
 have HSP : Hid (splitD s = out ++ [y]) := Lib.hid (by
  have hf : (46 : UInt8) ∉ s.drop a := by have := HF.out; rwa [List.take_of_length_le (by rw [List.length_drop]; exact Nat.le_refl _)] at this
  rw [HE.out, splitD_free hf, hy])
 have g1 : (a : Int) ≤ (s.length : Int) := by omega
 clear hy
 obtain ⟨S, hOS, hSB⟩ := HI.out
 rw [← HN.out] at hOS
 have HOA := Lib.hid (hOS.below (bel1 (o := .cells #[.string (strB y)] 9)))
 have HLIT := Lib.hid (fun (W : World) => RowAt.lit (w := W) (e := 9) (cur := #[.string (strB y)]) (m := 1) rfl)
 have HONE : Hid (∀ u ∈ [y].map strV, u.oneCell' = true) := Lib.hid (strs_one _)
 have HSB := Lib.hid hSB
 clear hOS hSB HI
 go_wp2_with (at_builtin; go_must (refine wpList_append_row rfl _ _ 22 rfl 9 i0 (.string ByteArray.empty) 1 16 Tryz.underlying22 hi0 hz0 hz1 hz2 rfl (by decide) S A _ n c 1 _ (out.map strV) ([y].map strV) rfl rfl HOA.out (HLIT.out _) HONE.out (by unfold maxLen; omega) (by omega) ?_))
 intro A' c' S' w5 hO' hS' hC'
 obtain ⟨hI5, hb5⟩ := app_strs (B := w.heap.size) HSB.out (w1 := wr.alloc (.cells #[.string (strB y)] 9)) (fs := out) (gs := [y]) (by simp; omega) (by rw [List.length_append, List.length_singleton, HN.out]) hO' (fun g hg => (hS' g hg).imp id (fun h => by simpa using h)) hC'
 have HB5 := Lib.hid (HB.out.trans (((Below.refl _ _).alloc hbw _).trans hb5))
 have HN5 : Hid (n + 1 = (out ++ [y]).length) := Lib.hid (by rw [List.length_append, List.length_singleton, HN.out])
 have HI5 := Lib.hid hI5
 clear hb5 hO' hS' hC' HOA HLIT HONE HSB HE HF hI5 hx1
 go_wp2_with fail
 go_ret
 exact ⟨A', c', by rw [HSP.out, ← HN5.out]; rfl, by rw [HSP.out]; exact HI5.out, HB5.out⟩
end Go.Proofs.YtjnhiiaejeaikaaGreatDoor
