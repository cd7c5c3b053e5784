/- PathOk of the program; OpOk, IntentOk of the program and of the reference. Condition: the library's length lies in memory (any value). -/
import Derived.Test.YtggdjiklgakfnaaGreatDoorNames
import Derived.Test.YtggdjiklgakfnaaGreatDoorPtrPut
import Derived.Test.YtggdjiklgakfnaaGreatDoorFieldsGet
import Derived.Test.YtggdjiklgakfnaaGreatDoorSpFieldsGet
import Derived.Test.YtggdjiklgakfnaaGreatDoorTypes
namespace Go.Proofs.YtggdjiklgakfnaaGreatDoor
set_option linter.unusedVariables false
set_option linter.unusedSimpArgs false
set_option linter.unnecessarySimpa false
section
open Go Go.Lib Go.RowKit

/-- The length under which the library searches byte by byte. -/
def MLen (w : World) : Prop := ∃ m : Int, w.cell? ⟨0, 0, none⟩ = some (.int .i64 m)
theorem MLen.below {w w' : World} (h : MLen w) (hb : Below w.heap.size w w') : MLen w' := by
  obtain ⟨m, hm⟩ := h
  exact ⟨m, (hb.cell (World.block_lt_of_cell? _ _ hm)).trans hm⟩
/-- The table of powers of ten, and that length. -/
def EnvM (w : World) : Prop := Tab w ∧ MLen w
theorem EnvM.below {w w' : World} (h : EnvM w) (hb : Below w.heap.size w w') : EnvM w' := ⟨h.1.below hb, h.2.below hb⟩
theorem Env.mlen {w : World} (h : Env w) : MLen w := h.2.2
theorem map_strBP {xs : List ByteArray} {fs : List Str} (h : xs.map (·.data.toList) = fs) : xs = fs.map strB := by
  subst h
  rw [List.map_map]
  have : (strB ∘ fun x : ByteArray => x.data.toList) = id := by funext x; exact strB_data x
  rw [this, List.map_id]
theorem splitSP_any (s : Str) (w : World) (he : MLen w) (hs : s.length ≤ 4000000000) : Calls Tryz.prog 101 #[.string (strB s), .string ⟨#[47]⟩] w (NewStrs (splitP s) w) := by
  obtain ⟨m, hm⟩ := he
  refine (Tryz.strings_Split (strB s) ⟨#[47]⟩ m w (by rw [strB_size]; omega) hm (by decide)).mono ?_
  rintro e w' ⟨rfl, rfl⟩
  have hd : (strB s).data.toList = s := by simp [strB]
  have hcount : countB (strB s) ⟨#[47]⟩ = s.count 47 := by
    show Lib.count (strB s).data.toList [47] = _
    rw [hd, count_one]
  have hmap := map_strBP (splitB_data ⟨#[47]⟩ 0 (countB (strB s) ⟨#[47]⟩) (strB s))
  rw [hd] at hmap
  rw [show (⟨#[47]⟩ : ByteArray).data.toList = [47] from rfl, hcount, splitK_P _ _ rfl] at hmap
  have hlen : s.count 47 + 1 = (splitP s).length := by
    have := splitB_all ⟨#[47]⟩ (by decide) 0 _ (strB s) rfl
    rw [hcount, hmap, List.length_map] at this
    exact this.symm
  rw [hcount, hmap, hlen]
  refine ⟨_, _, rfl, StrsIn.lit (Nat.le_refl _) (heap_alloc_new _ _) (by simp [strV]) ?_, bel1⟩
  rw [← hlen]
  have : s.count 47 ≤ s.length := List.count_le_length
  unfold maxLen; omega
theorem splitP_from {s : Str} {a j : Nat} (haj : a ≤ j) (hj : j < s.length) (hc : s[j]? = some 47) (hf : (47 : UInt8) ∉ (s.drop a).take (j - a)) : splitP (s.drop a) = (s.drop a).take (j - a) :: splitP (s.drop (j + 1)) := by
  have h1 : (s.drop a)[j - a]? = some 47 := by rw [List.getElem?_drop, show a + (j - a) = j by omega]; exact hc
  have h2 := take_get h1
  rw [List.drop_drop, show a + (j - a + 1) = j + 1 by omega] at h2
  have h3 := splitP_cut (b := s.drop (j + 1)) hf
  rw [← h2] at h3
  exact h3
set_option maxRecDepth 100000 in
set_option maxHeartbeats 4000000 in
theorem l2CutP_any (s : Str) (w : World) (hs : s.length ≤ 4000000000) : Calls Tryz.prog 133 #[.string (strB s), .int .u8 47] w (NewStrs (splitP s) w) := by
  have hsz : (strB s).size = s.length := rfl
  obtain ⟨i0, hi0, hz0, hz1, hz2⟩ := info_parts info_strs
  go_enter Tryz.func133, Tryz.ntmps133
  go_wp2_with fail
  go_loopw [5, 6, 7] (fun t f i wr => ∃ (out : List Str) (a j : Nat) (A : Option Addr) (c n : Nat), t = .slice A n c ∧ f = .int .i64 (a : Int) ∧ i = .int .i64 (j : Int) ∧ a ≤ j ∧ j ≤ s.length ∧ n ≤ a ∧ Hid (n = out.length) ∧ Hid (splitP s = out ++ splitP (s.drop a)) ∧ Hid ((47 : UInt8) ∉ (s.drop a).take (j - a)) ∧ Hid (StrsIn w.heap.size wr A c out) ∧ Hid (Below w.heap.size w wr)) (fun _ _ i _ => s.length - (RowKit.intOf i).toNat)
  case atStart => exact ⟨[], 0, 0, _, 0, 0, rfl, rfl, rfl, by omega, by omega, by omega, Lib.hid rfl, Lib.hid rfl, Lib.hid (by simp), Lib.hid (StrsIn.nil' _), Lib.hid bel1⟩
  case round =>
    obtain ⟨out, a, j, A, c, n, rfl, rfl, rfl, haj, hj, hna, HN, HE, HF, HI, HB⟩ := hrel
    have hbw : w.heap.size ≤ wr.heap.size := HB.out.size
    have ha0 : (0 : Int) ≤ (a : Int) := by omega
    by_cases hlt : j < s.length
    · have hd : (j : Int) < (s.length : Int) := by omega
      have hlk : j < (strB s).size := by rw [hsz]; exact hlt
      obtain ⟨ch, x, hc, hx, hx9, hg⟩ := str_get2 hlk
      by_cases h46_ : x = 47
      · have hch : ch = 47 := UInt8.toNat_inj.1 (by rw [← hx, h46_]; rfl)
        rw [hch] at hc
        have hsp := splitP_from haj hlt hc HF.out
        obtain ⟨y, hy⟩ : ∃ y, y = (s.drop a).take (j - a) := ⟨_, rfl⟩
        have hx1 : (strB s).extract a j = strB y := by
          have := ext_mid s a (j - a)
          rw [show a + (j - a) = j by omega] at this
          rw [this, hy]
        rw [← hy] at hsp
        have HSP := Lib.hid hsp
        have g1 : (a : Int) ≤ (j : Int) := by omega
        have g2 : (j : Int) ≤ (s.length : Int) := by omega
        have g3 : (0 : Int) ≤ (j : Int) := by omega
        have u1 : IntKind.i64.wrap ((j : Int) + 1) = (j : Int) + 1 := IntWalk.i64_in _ (by omega)
        subst h46_
        clear hc hx hch hsp hy
        obtain ⟨S, hOS, hSB⟩ := HI.out
        rw [← HN.out] at hOS
        have HOA := Lib.hid (hOS.below (bel1 (o := .cells #[.string (strB y)] 9)))
        have HLIT := Lib.hid (fun (W : World) => RowAt.lit (w := W) (e := 9) (cur := #[.string (strB y)]) (m := 1) rfl)
        have HONE : Hid (∀ u ∈ [y].map strV, u.oneCell' = true) := Lib.hid (strs_one _)
        have HSB := Lib.hid hSB
        clear hOS hSB HI
        go_wp2_with (at_builtin; go_must (refine wpList_append_row rfl _ _ 67 rfl 9 i0 (.string ByteArray.empty) 1 16 Tryz.underlying67 hi0 hz0 hz1 hz2 rfl (by decide) S A _ n c 1 _ (out.map strV) ([y].map strV) rfl rfl HOA.out (HLIT.out _) HONE.out (by unfold maxLen; omega) (by omega) ?_))
        intro A' c' S' w5 hO' hS' hC'
        obtain ⟨hI5, hb5⟩ := app_strs (B := w.heap.size) HSB.out (w1 := wr.alloc (.cells #[.string (strB y)] 9)) (fs := out) (gs := [y]) (by simp; omega) (by rw [List.length_append, List.length_singleton, HN.out]) hO' (fun g hg => (hS' g hg).imp id (fun h => by simpa using h)) hC'
        have HB5 := Lib.hid (HB.out.trans (((Below.refl _ _).alloc hbw _).trans hb5))
        have HI5 := Lib.hid hI5
        have HE5 : Hid (splitP s = (out ++ [y]) ++ splitP (s.drop (j + 1))) := Lib.hid (by rw [HE.out, HSP.out]; simp)
        have HN5 : Hid (n + 1 = (out ++ [y]).length) := Lib.hid (by rw [List.length_append, List.length_singleton, HN.out])
        have HF5 : Hid ((47 : UInt8) ∉ (s.drop (j + 1)).take (j + 1 - (j + 1))) := Lib.hid (by simp)
        clear hb5 hO' hS' hC' HOA HLIT HONE HSB HE HF HN hI5 hx1 HSP
        go_wp2_with fail
        go_roundw
        case rel => exact ⟨out ++ [y], j + 1, j + 1, A', c', n + 1, rfl, by simp, by simp, by omega, by omega, by omega, HN5, HE5, HF5, HI5, HB5⟩
        case measure => simp [RowKit.intOf]; omega
      · have hxb : ((x : Int) == 47) = false := by simp; omega
        have hxc : ¬ (x : Int) = 47 := by omega
        have HF2 : Hid ((47 : UInt8) ∉ (s.drop a).take (j + 1 - a)) := Lib.hid (by
          rw [show j + 1 - a = (j - a) + 1 by omega, List.take_add_one, List.getElem?_drop, show a + (j - a) = j by omega, hc]
          simp only [Option.toList_some, List.mem_append, List.mem_singleton, not_or]
          exact ⟨HF.out, fun e => h46_ (by rw [hx, ← e]; rfl)⟩)
        clear hc hx HF
        go_wp2_with fail
        go_roundw
        case rel => exact ⟨out, a, j + 1, A, c, n, rfl, rfl, by simp, by omega, by omega, hna, HN, HE, HF2, HI, HB⟩
        case measure => simp [RowKit.intOf]; omega
    · have hd : ¬ (j : Int) < (s.length : Int) := by omega
      obtain rfl : j = s.length := by omega
      obtain ⟨y, hy⟩ : ∃ y, y = s.drop a := ⟨_, rfl⟩
      have hx1 : (strB s).extract a s.length = strB y := by rw [hy]; exact ext_tail s a
      have HSP : Hid (splitP s = out ++ [y]) := Lib.hid (by
        have hf : (47 : UInt8) ∉ s.drop a := by have := HF.out; rwa [List.take_of_length_le (by rw [List.length_drop]; exact Nat.le_refl _)] at this
        rw [HE.out, splitP_free hf, hy])
      have g1 : (a : Int) ≤ (s.length : Int) := by omega
      clear hy
      obtain ⟨S, hOS, hSB⟩ := HI.out
      rw [← HN.out] at hOS
      have HOA := Lib.hid (hOS.below (bel1 (o := .cells #[.string (strB y)] 9)))
      have HLIT := Lib.hid (fun (W : World) => RowAt.lit (w := W) (e := 9) (cur := #[.string (strB y)]) (m := 1) rfl)
      have HONE : Hid (∀ u ∈ [y].map strV, u.oneCell' = true) := Lib.hid (strs_one _)
      have HSB := Lib.hid hSB
      clear hOS hSB HI
      go_wp2_with (at_builtin; go_must (refine wpList_append_row rfl _ _ 67 rfl 9 i0 (.string ByteArray.empty) 1 16 Tryz.underlying67 hi0 hz0 hz1 hz2 rfl (by decide) S A _ n c 1 _ (out.map strV) ([y].map strV) rfl rfl HOA.out (HLIT.out _) HONE.out (by unfold maxLen; omega) (by omega) ?_))
      intro A' c' S' w5 hO' hS' hC'
      obtain ⟨hI5, hb5⟩ := app_strs (B := w.heap.size) HSB.out (w1 := wr.alloc (.cells #[.string (strB y)] 9)) (fs := out) (gs := [y]) (by simp; omega) (by rw [List.length_append, List.length_singleton, HN.out]) hO' (fun g hg => (hS' g hg).imp id (fun h => by simpa using h)) hC'
      have HB5 := Lib.hid (HB.out.trans (((Below.refl _ _).alloc hbw _).trans hb5))
      have HN5 : Hid (n + 1 = (out ++ [y]).length) := Lib.hid (by rw [List.length_append, List.length_singleton, HN.out])
      have HI5 := Lib.hid hI5
      clear hb5 hO' hS' hC' HOA HLIT HONE HSB HE HF hI5 hx1
      go_wp2_with fail
      go_ret
      exact ⟨A', c', by rw [HSP.out, ← HN5.out]; rfl, by rw [HSP.out]; exact HI5.out, HB5.out⟩
end
section
open Go Go.Lib Go.RowKit

theorem all_no' {α : Type} {f : α → Bool} {xs : List α} {k : Nat} {x : α} (hx : xs[k]? = some x) (h : f x = false) : xs.all f = false := by
  rw [List.all_eq_false]; exact ⟨x, List.mem_of_getElem? hx, by simp [h]⟩
theorem all_upto' {α : Type} {f : α → Bool} {xs : List α} {n : Nat} (hn : xs.length = n) (h : ∀ j x, j < n → xs[j]? = some x → f x = true) : xs.all f = true := by
  rw [List.all_eq_true]; intro x hx
  obtain ⟨j, hj, rfl⟩ := List.mem_iff_getElem.1 hx
  exact h j _ (by omega) (List.getElem?_eq_getElem hj)
theorem upto_step' {α : Type} {f : α → Bool} {xs : List α} {k : Nat} {x : α} (hp : ∀ j y, j < k → xs[j]? = some y → f y = true) (hx : xs[k]? = some x) (h : f x = true) : ∀ j y, j < k + 1 → xs[j]? = some y → f y = true := by
  intro j y hj hy
  rcases Nat.lt_or_ge j k with h2 | h2
  · exact hp j y h2 hy
  · obtain rfl : j = k := by omega
    rw [hx] at hy; obtain rfl := Option.some.inj hy; exact h
/-! Names. -/
set_option maxRecDepth 100000 in
set_option maxHeartbeats 2000000 in
theorem spNameOk_any (s : Str) (w : World) (hs : s.length ≤ 1099511627776) : Calls Tryz.prog 89 #[.string (strB s)] w fun e w' => e = .returned (.bool (namB s)) ∧ w = w' := by
  have hsz : (strB s).size = s.length := rfl
  have HRES : Hid (namB s = (inB (s.length : Int) 1 4 && s.all isLow)) := Lib.hid (by
    unfold namB inB
    congr 1
    rw [Bool.eq_iff_iff, decide_eq_true_iff, decide_eq_true_iff]
    omega)
  generalize namB s = res at *
  go_enter Tryz.func89, Tryz.ntmps89
  go_wp2_with fail
  go_loop [3] (fun i => ∃ j : Nat, j ≤ s.length ∧ i = .int .i64 (j : Int) ∧ Hid (∀ k c, k < j → s[k]? = some c → isLow c = true)) (fun i => s.length - (RowKit.intOf i).toNat)
  case atStart => exact ⟨0, Nat.zero_le _, rfl, Lib.hid (fun k c h => absurd h (by omega))⟩
  case round =>
    obtain ⟨j, hj, rfl, HP⟩ := hrel
    by_cases hlt : j < s.length
    · have hd : (j : Int) < (s.length : Int) := by omega
      have hlk : j < (strB s).size := by rw [hsz]; exact hlt
      obtain ⟨ch, x, hc, hx, hx9, hg⟩ := str_get2 hlk
      by_cases hlo : 97 ≤ x ∧ x ≤ 122
      · have HN := Lib.hid (upto_step' HP.out hc (isLow_iff.2 (by omega)))
        have g1 : ¬ (x : Int) < 97 := by omega
        have g2 : ¬ (122 : Int) < (x : Int) := by omega
        clear hc hx HP
        go_wp2_with fail
        go_round
        case rel => exact ⟨j + 1, by omega, by go_num, HN⟩
        case measure => simp [RowKit.intOf]; omega
      · have HF := Lib.hid (show res = false by
          rw [HRES.out, all_no' hc (by
            cases h : isLow ch with
            | false => rfl
            | true => exact absurd (isLow_iff.1 h) (by omega))]; simp)
        clear hc hx HP
        by_cases g1 : (x : Int) < 97
        · go_wp2_with fail
          go_ret
          exact ⟨ret_bool HF.out.symm, rfl⟩
        · have g2 : (122 : Int) < (x : Int) := by omega
          go_wp2_with fail
          go_ret
          exact ⟨ret_bool HF.out.symm, rfl⟩
    · obtain rfl : j = s.length := by omega
      have hd : ¬ (s.length : Int) < (s.length : Int) := by omega
      have HF := Lib.hid (show res = inB (s.length : Int) 1 4 by rw [HRES.out, all_upto' rfl HP.out, Bool.and_true])
      clear HP
      go_wp2_with fail
      refine (l6In_any _ _ _ _).mono ?_
      rintro e w' ⟨rfl, rfl⟩
      obtain ⟨b, hb⟩ : ∃ b, b = inB (s.length : Int) 1 4 := ⟨_, rfl⟩
      rw [← hb]
      have HB := Lib.hid hb; clear hb
      go_wp2_with fail
      go_ret
      exact ⟨ret_bool (by rw [HF.out, HB.out]), rfl⟩
theorem nameOk1_pred (w : World) : PredAt Tryz.prog 47 #[] encR notLow w := fun W r _ => by
  unfold FnGives
  by_cases h1 : r < 97 <;> by_cases h2 : 122 < r
  all_goals
    have z1 : (r : Int) < 97 ↔ r < 97 := by omega
    have z2 : (122 : Int) < (r : Int) ↔ 122 < r := by omega
    go_enter Tryz.func47, Tryz.ntmps47
    go_wp2
    all_goals first | (exfalso; omega) | (go_ret; exact ⟨by simp [notLow, h1, h2], 0, rfl⟩)
set_option maxRecDepth 100000 in
set_option maxHeartbeats 2000000 in
theorem nameOk_any (s : Str) (w : World) : Calls Tryz.prog 25 #[.string (strB s)] w fun e w' => e = .returned (.bool (namB s)) ∧ Below w.heap.size w w' := by
  have hsz : (strB s).size = s.length := rfl
  have HRES : Hid (namB s = (inB (s.length : Int) 1 4 && s.all isLow)) := Lib.hid (by
    unfold namB inB
    congr 1
    rw [Bool.eq_iff_iff, decide_eq_true_iff, decide_eq_true_iff]
    omega)
  generalize namB s = res at *
  obtain ⟨I, hI⟩ : ∃ I, I = Lib.idxFunc notLow true (strB s) := ⟨_, rfl⟩
  have HI : Hid (decide (I < 0) = s.all isLow) := Lib.hid (by rw [hI]; exact nam_idx s)
  have C : ∀ W, Calls Tryz.prog 46 #[.string (strB s), .func (.func 47) #[] #[]] W fun e w' => e = .returned (.int .i64 I) ∧ Below W.heap.size W w' := fun W => by
    rw [hI]
    exact Tryz.strings_IndexFunc 47 #[] (enters_of Tryz.func47 (by kernel_rfl) rfl) notLow (strB s) W (nameOk1_pred W)
  have HC := Lib.hid C
  clear hI C
  go_enter Tryz.func25, Tryz.ntmps25
  go_wp2_with fail
  refine (within_any _ _ _ _).mono ?_
  obtain ⟨b, hb⟩ : ∃ b, b = inB (s.length : Int) 1 4 := ⟨_, rfl⟩
  rw [← hb]
  have HB := Lib.hid hb; clear hb
  rintro e w' ⟨rfl, rfl⟩
  cases b
  · have HF := Lib.hid (show res = false by rw [HRES.out, ← HB.out]; rfl)
    go_wp2_with fail
    go_ret
    exact ⟨ret_bool HF.out.symm, Below.refl _ _⟩
  · have HF := Lib.hid (show res = decide (I < 0) by rw [HRES.out, ← HB.out, HI.out]; rfl)
    go_wp2_with fail
    refine (HC.out _).mono ?_
    rintro e w1 ⟨rfl, hb1⟩
    go_wp2_with fail
    go_ret
    exact ⟨ret_bool HF.out.symm, hb1⟩
/-! Paths. -/
def NamesR (s : Str) (w : World) (e : Ending) (w' : World) : Prop := ∃ A n c, e = .returned (.slice A n c) ∧ n = (splitP s).length ∧ RowAt w' A n ((splitP s).map strV) ∧ Below w.heap.size w w'
theorem StrsIn.tail {B : Nat} {w : World} {A : Option Addr} {c : Nat} {x : Str} {fs : List Str} {g : Nat} (h : StrsIn B w A c (x :: fs)) (hA : A = some ⟨g, 0, none⟩) : RowAt w (some ⟨g, 1, none⟩) fs.length (fs.map strV) := by
  refine ⟨by simp, fun hn => ⟨g, 1, rfl, fun j hj => ?_⟩⟩
  obtain ⟨g', hA', _, hc⟩ := h.cell (j := j + 1) (f := fs[j]) (by simp [hj])
  rw [hA] at hA'
  injection hA' with e1
  injection e1 with e2
  subst e2
  rw [show 1 + j = j + 1 by omega, hc, List.getElem?_map, List.getElem?_eq_getElem hj]
  rfl
set_option maxRecDepth 100000 in
set_option maxHeartbeats 2000000 in
theorem l14Names_any (r : Str) (w : World) (hr : r ≠ []) (hs : r.length ≤ 3000000000) : Calls Tryz.prog 118 #[.string (strB (47 :: r))] w (NamesR r w) := by
  have h1 : ((strB (47 :: r)).toList == [47]) = false := by rw [strB_list]; simpa using hr
  have h2 : ¬ (strB (47 :: r)).toList = [47] := by rw [strB_list]; simpa using hr
  have hsp : splitP (47 :: r) = [] :: splitP r := splitP_cut (a := []) (by simp)
  have HSP := Lib.hid hsp; clear hsp
  go_enter Tryz.func118, Tryz.ntmps118
  go_wp2_with fail
  refine (l2CutP_any (47 :: r) w (by simp; omega)).mono ?_
  rintro e w1 ⟨A, c, rfl, hI, hb⟩
  rw [HSP.out] at hI ⊢
  have hc : (splitP r).length + 1 ≤ c := by have := hI.le; simpa using this
  obtain ⟨g, hA, _, _⟩ := hI.cell (j := 0) (f := []) rfl
  have hR := hI.tail hA
  subst hA
  clear hI
  obtain ⟨n, hn⟩ : ∃ n, n = (splitP r).length := ⟨_, rfl⟩
  rw [List.length_cons, ← hn]
  rw [← hn] at hc hR
  have HN := Lib.hid hn
  have HR := Lib.hid hR
  clear hn hR
  by_cases hc1 : c = 1
  · have hn0 : n = 0 := by omega
    subst hn0 hc1
    have HR2 : Hid (∀ A, RowAt w1 A 0 ((splitP r).map strV)) := Lib.hid (fun A => ⟨by rw [List.length_map, ← HN.out], fun h => absurd h (by omega)⟩)
    go_wp2_with fail
    go_ret
    exact ⟨_, 0, 0, rfl, HN.out, HR2.out _, hb⟩
  · have k1 : (1 : Int) ≤ ((n + 1 : Nat) : Int) := by omega
    have k2 : ((n + 1 : Nat) : Int) ≤ (c : Int) := by omega
    go_wp2_with fail
    go_ret
    exact ⟨_, n, c - 1, by simp, HN.out, HR.out, hb⟩
end
section
open Go Go.Lib Go.RowKit

set_option maxRecDepth 100000 in
set_option maxHeartbeats 2000000 in
theorem spPathOk_any (s : Str) (w : World) (hs : s.length ≤ 3000000000) : Calls Tryz.prog 106 #[.string (strB s)] w fun e w' => e = .returned (.bool (pathB s)) ∧ Below w.heap.size w w' := by
  by_cases h0 : s = [47]
  · subst h0
    have h1 : ((strB [47]).toList == [47]) = true := by rw [strB_list]; rfl
    have h2 : (strB [47]).toList = [47] := strB_list _
    have HF := Lib.hid path_one
    go_enter Tryz.func106, Tryz.ntmps106
    go_wp2_with fail
    go_ret
    exact ⟨ret_bool HF.out.symm, Below.refl _ _⟩
  have h1 : ((strB s).toList == [47]) = false := by rw [strB_list]; simpa using h0
  have h2 : ¬ (strB s).toList = [47] := by rw [strB_list]; exact h0
  by_cases he : s = []
  · subst he
    have h3 : ((strB []).toList == []) = true := by rw [strB_list]; rfl
    have h4 : (strB []).toList.isEmpty = true := by rw [strB_list]; rfl
    have h5 : (strB []).toList = [] := strB_list _
    have HF := Lib.hid path_nil
    go_enter Tryz.func106, Tryz.ntmps106
    go_wp2_with fail
    go_ret
    exact ⟨ret_bool HF.out.symm, Below.refl _ _⟩
  cases s with
  | nil => exact absurd rfl he
  | cons ch r =>
  have h3 : ((strB (ch :: r)).toList == []) = false := by rw [strB_list]; rfl
  have h4 : (strB (ch :: r)).toList.isEmpty = false := by rw [strB_list]; rfl
  have h5 : ¬ (strB (ch :: r)).toList = [] := by rw [strB_list]; simp
  have hsz : (strB (ch :: r)).size = r.length + 1 := by rw [strB_size]; rfl
  have hlk : 0 < (strB (ch :: r)).size := by omega
  obtain ⟨ch', x, hc, hx, hx9, hg⟩ := str_get2 (s := ch :: r) (j := 0) hlk
  obtain rfl : ch = ch' := by simpa using hc
  clear hc he
  by_cases h47 : x = 47
  rotate_left
  · have hf : pathB (ch :: r) = false := path_not (fun e => h47 (by rw [hx, e]; rfl))
    have HF := Lib.hid hf
    have g1 : ((x : Int) != 47) = true := by simp; omega
    have g2 : ¬ (x : Int) = 47 := by omega
    have g3 : ((x : Int) == 47) = false := by simp; omega
    clear hf hx h47 h0
    go_enter Tryz.func106, Tryz.ntmps106
    go_wp2_with fail
    go_ret
    exact ⟨ret_bool HF.out.symm, Below.refl _ _⟩
  have hch : ch = 47 := UInt8.toNat_inj.1 (by rw [← hx, h47]; rfl)
  subst hch h47
  have hr : r ≠ [] := fun e => h0 (by rw [e])
  have HRES : Hid (pathB (47 :: r) = (decide ((splitP r).length ≤ 4) && (splitP r).all namB)) := Lib.hid (path_cons hr)
  generalize pathB (47 :: r) = res at *
  have hrl : r.length ≤ 3000000000 := by simp at hs; omega
  have HPL : Hid (∀ f ∈ splitP r, f.length ≤ 1099511627776) := Lib.hid (fun f hf => by have := pieceP_le r f hf; omega)
  have HNM := Lib.hid (l14Names_any r w hr hrl)
  clear hx h0 hr hs
  go_enter Tryz.func106, Tryz.ntmps106
  go_wp2_with fail
  refine HNM.out.mono ?_
  rintro e w1 ⟨A, n, c, rfl, hn, hR, hb⟩
  obtain ⟨fs, hfs⟩ : ∃ fs, fs = splitP r := ⟨_, rfl⟩
  rw [← hfs] at hn hR HRES HPL
  have HN := Lib.hid hn
  have HR := Lib.hid hR
  have hnm : n ≤ 3000000001 := by
    have h6 := joinP_count r
    rw [← hfs, ← hn] at h6
    omega
  clear hn hR hfs HNM
  go_wp2_with fail
  go_loop [4] (fun i => ∃ j : Nat, j ≤ n ∧ i = .int .i64 (j : Int) ∧ Hid (∀ k f, k < j → fs[k]? = some f → namB f = true)) (fun i => n - (RowKit.intOf i).toNat)
  case atStart => exact ⟨0, Nat.zero_le _, rfl, Lib.hid (fun k c h => absurd h (by omega))⟩
  case round =>
    obtain ⟨j, hj, rfl, HP⟩ := hrel
    by_cases hlt : j < n
    · obtain ⟨f, hf⟩ : ∃ f, fs[j]? = some f := ⟨fs[j]'(by rw [← HN.out]; exact hlt), List.getElem?_eq_getElem _⟩
      obtain ⟨b, off, rfl, hbl, hc⟩ := HR.out.at_ hlt
      have hcx : w1.cell? ⟨b, off + j, none⟩ = some (.string (strB f)) := by rw [hc j hlt, List.getElem?_map, hf]; rfl
      have hfl := HPL.out f (List.mem_of_getElem? hf)
      have HX := Lib.hid hf
      have k1 : (j : Int) < (n : Int) := by omega
      clear hf hc
      cases e1 : namB f
      · have HF := Lib.hid (show res = false by rw [HRES.out, all_no' HX.out e1]; simp)
        go_wp2_with fail
        refine (spNameOk_any f w1 hfl).mono ?_
        rw [e1]
        rintro e w2 ⟨rfl, rfl⟩
        clear e1
        go_wp2_with fail
        go_ret
        exact ⟨ret_bool HF.out.symm, hb⟩
      · have HF := Lib.hid (upto_step' HP.out HX.out e1)
        go_wp2_with fail
        refine (spNameOk_any f w1 hfl).mono ?_
        rw [e1]
        rintro e w2 ⟨rfl, rfl⟩
        clear e1
        go_wp2_with fail
        go_round
        case rel => exact ⟨j + 1, by omega, by go_num, HF⟩
        case measure => simp [RowKit.intOf]; omega
    · obtain rfl : j = n := by omega
      have k1 : ¬ (j : Int) < (j : Int) := by omega
      have HF := Lib.hid (show res = decide (j ≤ 4) by rw [HRES.out, all_upto' HN.out.symm HP.out, Bool.and_true, HN.out])
      clear HP
      by_cases h4 : j ≤ 4
      · have k2 : (j : Int) ≤ 4 := by omega
        have HG := Lib.hid (decide_eq_true h4)
        go_wp2_with fail
        go_ret
        exact ⟨ret_bool (by rw [HF.out, HG.out]), hb⟩
      · have k2 : ¬ (j : Int) ≤ 4 := by omega
        have HG := Lib.hid (decide_eq_false h4)
        go_wp2_with fail
        go_ret
        exact ⟨ret_bool (by rw [HF.out, HG.out]), hb⟩
theorem hasP_yes (r : Str) : Lib.hasPrefix (strB (47 :: r)).data.toList (⟨#[47]⟩ : ByteArray).data.toList = true := by
  show Lib.hasPrefix (47 :: r) [47] = true
  simp [Lib.hasPrefix, List.isPrefixOf]
theorem hasP_no {s : Str} (h : s.head? ≠ some 47) : Lib.hasPrefix (strB s).data.toList (⟨#[47]⟩ : ByteArray).data.toList = false := by
  have e : (strB s).data.toList = s := by simp [strB]
  rw [e]
  show Lib.hasPrefix s [47] = false
  cases s with
  | nil => rfl
  | cons c r =>
    have hc : ¬ c = 47 := fun e => h (by rw [e]; rfl)
    have hc2 : ¬ (47 : UInt8) = c := fun e => hc e.symm
    simp [Lib.hasPrefix, List.isPrefixOf, hc, hc2]
set_option maxRecDepth 100000 in
theorem liteCut_yes (r : Str) (w : World) (hr : r.length ≤ 3000000000) : Calls Tryz.prog 113 #[.string (strB (47 :: r)), .string ⟨#[47]⟩] w fun e w' => e = .returned (.tuple #[.string (strB r), .bool true]) ∧ w = w' := by
  have hsz : (strB (47 :: r)).size = r.length + 1 := by rw [strB_size]; rfl
  have HX : Hid ((strB (47 :: r)).extract 1 (r.length + 1) = strB r) := Lib.hid (by have := ext_tail (47 :: r) 1; rw [hsz] at this; exact this)
  have C : Calls Tryz.prog 127 #[.string (strB (47 :: r)), .string ⟨#[47]⟩] w fun e w' => e = .returned (.bool true) ∧ w = w' := by
    have := Tryz.stringslite_HasPrefix (strB (47 :: r)) ⟨#[47]⟩ w
    rw [hasP_yes] at this
    exact this.mono fun e w' ⟨a, b⟩ => ⟨a, b.symm⟩
  have HC := Lib.hid C
  clear C
  go_enter Tryz.func113, Tryz.ntmps113
  go_wp2_with fail
  refine HC.out.mono ?_
  rintro e w' ⟨rfl, rfl⟩
  have HX2 := HX.out
  have hle : (1 : Int) ≤ ((r.length + 1 : Nat) : Int) := by omega
  go_wp2_with fail
  go_ret2
  exact ⟨rfl, rfl⟩
set_option maxRecDepth 100000 in
theorem liteCut_no (s : Str) (w : World) (h : s.head? ≠ some 47) : Calls Tryz.prog 113 #[.string (strB s), .string ⟨#[47]⟩] w fun e w' => e = .returned (.tuple #[.string (strB s), .bool false]) ∧ w = w' := by
  have C : Calls Tryz.prog 127 #[.string (strB s), .string ⟨#[47]⟩] w fun e w' => e = .returned (.bool false) ∧ w = w' := by
    have := Tryz.stringslite_HasPrefix (strB s) ⟨#[47]⟩ w
    rw [hasP_no h] at this
    exact this.mono fun e w' ⟨a, b⟩ => ⟨a, b.symm⟩
  have HC := Lib.hid C
  clear C h
  go_enter Tryz.func113, Tryz.ntmps113
  go_wp2_with fail
  refine HC.out.mono ?_
  rintro e w' ⟨rfl, rfl⟩
  go_wp2_with fail
  go_ret2
  exact ⟨rfl, rfl⟩
set_option maxRecDepth 100000 in
theorem cutP_yes (r : Str) (w : World) (hr : r.length ≤ 3000000000) : Calls Tryz.prog 100 #[.string (strB (47 :: r)), .string ⟨#[47]⟩] w fun e w' => e = .returned (.tuple #[.string (strB r), .bool true]) ∧ w = w' := by
  have HC := Lib.hid (liteCut_yes r w hr)
  go_enter Tryz.func100, Tryz.ntmps100
  go_wp2_with fail
  refine HC.out.mono ?_
  rintro e w' ⟨rfl, rfl⟩
  go_wp2_with fail
  go_ret2
  exact ⟨rfl, rfl⟩
set_option maxRecDepth 100000 in
theorem cutP_no (s : Str) (w : World) (h : s.head? ≠ some 47) : Calls Tryz.prog 100 #[.string (strB s), .string ⟨#[47]⟩] w fun e w' => e = .returned (.tuple #[.string (strB s), .bool false]) ∧ w = w' := by
  have HC := Lib.hid (liteCut_no s w h)
  clear h
  go_enter Tryz.func100, Tryz.ntmps100
  go_wp2_with fail
  refine HC.out.mono ?_
  rintro e w' ⟨rfl, rfl⟩
  go_wp2_with fail
  go_ret2
  exact ⟨rfl, rfl⟩
set_option maxRecDepth 100000 in
theorem pathOf1_any (s : Str) (w : World) : Calls Tryz.prog 116 #[.string (strB s)] w fun e w' => e = .returned (.bool (!namB s)) ∧ Below w.heap.size w w' := by
  go_enter Tryz.func116, Tryz.ntmps116
  go_wp2_with fail
  refine (nameOk_any s w).mono ?_
  rintro e w1 ⟨rfl, hb⟩
  go_wp2_with fail
  go_ret
  exact ⟨rfl, hb⟩
def IdxN (b : Bool) (w : World) (e : Ending) (w' : World) : Prop := ∃ r : Int, e = .returned (.int .i64 r) ∧ decide (0 ≤ r) = b ∧ Below w.heap.size w w'
set_option maxRecDepth 100000 in
set_option maxHeartbeats 2000000 in
theorem indexName_any (A : Option Addr) (n c : Nat) (fs : List Str) (w : World) (h : RowAt w A n (fs.map strV)) (hn : n ≤ 9223372036854775807) :
    Calls Tryz.prog 131 #[.slice A n c, .func (.func 116) #[] #[]] w (IdxN (!fs.all namB) w) := by
  have HL : Hid (fs.length = n) := Lib.hid (by have := h.1; simpa using this)
  have H := Lib.hid h; clear h
  go_enter Tryz.func131, Tryz.ntmps131
  go_wp2_with fail
  go_loopw [8] (fun s wr => ∃ k : Nat, k ≤ n ∧ s = .int .i64 k ∧ Hid (∀ j x, j < k → fs[j]? = some x → namB x = true) ∧ Hid (Below w.heap.size w wr)) (fun s _ => n - (RowKit.intOf s).toNat)
  case atStart => exact ⟨0, Nat.zero_le _, rfl, Lib.hid (fun j x hj => absurd hj (by omega)), Lib.hid (Below.refl _ _)⟩
  case round =>
    obtain ⟨k, hk, rfl, HP, HB⟩ := hrel
    by_cases hlt : k < n
    · obtain ⟨x, hx⟩ : ∃ x, fs[k]? = some x := ⟨fs[k]'(by rw [HL.out]; exact hlt), List.getElem?_eq_getElem _⟩
      obtain ⟨b, off, rfl, bl, hc⟩ := (H.out.below HB.out).at_ hlt
      have q0 : wr.cell? ⟨b, off + k, none⟩ = some (.string (strB x)) := by rw [hc k hlt, List.getElem?_map, hx]; rfl
      clear hc
      have HX := Lib.hid hx; clear hx
      have R := pathOf1_any x wr
      have k0 : (0 : Int) ≤ (k : Int) := by omega
      have k1 : (k : Int) < (n : Int) := by omega
      cases e1 : namB x
      · have HF := Lib.hid (show (!fs.all namB) = true by rw [all_no' HX.out e1]; rfl)
        rw [e1] at R
        have HR := Lib.hid R; clear R e1
        go_wp2_with fail
        refine HR.out.mono ?_
        rintro e w2 ⟨rfl, hb2⟩
        have HB2 : Hid (Below w.heap.size w w2) := Lib.hid (HB.out.trans (hb2.mono HB.out.size))
        clear hb2
        go_wp2_with fail
        go_ret
        exact ⟨k, rfl, by rw [HF.out]; simp, HB2.out⟩
      · have HF := Lib.hid (upto_step' HP.out HX.out e1)
        rw [e1] at R
        have HR := Lib.hid R; clear R e1
        go_wp2_with fail
        refine HR.out.mono ?_
        rintro e w2 ⟨rfl, hb2⟩
        have HB2 : Hid (Below w.heap.size w w2) := Lib.hid (HB.out.trans (hb2.mono HB.out.size))
        clear hb2
        go_wp2_with fail
        go_roundw
        case rel => exact ⟨k + 1, by omega, by go_num, HF, HB2⟩
        case measure => simp [RowKit.intOf]; omega
    · obtain rfl : k = n := by omega
      have HF := Lib.hid (show (!fs.all namB) = false by rw [all_upto' HL.out HP.out]; rfl)
      go_wp2_with fail
      go_ret
      exact ⟨-1, rfl, by rw [HF.out]; rfl, HB.out⟩
set_option maxRecDepth 100000 in
set_option maxHeartbeats 1000000 in
theorem containsName_any (A : Option Addr) (n c : Nat) (fs : List Str) (w : World) (h : RowAt w A n (fs.map strV)) (hn : n ≤ 9223372036854775807) :
    Calls Tryz.prog 115 #[.slice A n c, .func (.func 116) #[] #[]] w fun e w' => e = .returned (.bool (!fs.all namB)) ∧ Below w.heap.size w w' := by
  have R := Lib.hid (indexName_any A n c fs w h hn)
  clear h
  go_enter Tryz.func115, Tryz.ntmps115
  go_wp2_with fail
  refine R.out.mono ?_
  rintro e w1 ⟨r, rfl, hr, hb⟩
  have HR := Lib.hid hr; clear hr
  go_wp2_with fail
  go_ret
  exact ⟨ret_bool HR.out, hb⟩
theorem joinP_dot (fs : List Str) : (⟨(Lib.join ((fs.map strB).map (·.data.toList)) (⟨#[47]⟩ : ByteArray).data.toList).toArray⟩ : ByteArray) = strB (join fs [47]) := by
  have : (fs.map strB).map (·.data.toList) = fs := by
    rw [List.map_map]
    have : ((fun x : ByteArray => x.data.toList) ∘ strB) = id := by funext x; simp [strB]
    rw [this, List.map_id]
  rw [this]
  rfl
set_option maxRecDepth 100000 in
set_option maxHeartbeats 1000000 in
theorem pathText_any (g c : Nat) (fs : List Str) (w : World) (n : Nat) (hn : n = fs.length) (hcs : ∀ (j : Nat) x, fs[j]? = some x → w.cell? ⟨g, j, none⟩ = some (.string (strB x))) (hg : g < w.heap.size) (hc : n ≤ c) (hl : (join fs [47]).length ≤ 1000000) (hn4 : n ≤ 4) :
    Calls Tryz.prog 117 #[.slice (some ⟨g, 0, none⟩) n c] w fun e w' => e = .returned (.string (strB (47 :: join fs [47]))) ∧ Below w.heap.size w w' := by
  subst hn
  have hmap : (fs.map strB).map (·.data.toList) = fs := by
    rw [List.map_map]
    have : ((fun x : ByteArray => x.data.toList) ∘ strB) = id := by funext x; simp [strB]
    rw [this, List.map_id]
  have HJ := Tryz.strings_Join g 0 c (fs.map strB) ⟨#[47]⟩ w (fun j x hx => by
    rw [List.getElem?_map] at hx
    cases hf : fs[j]? with
    | none => rw [hf] at hx; cases hx
    | some f =>
      rw [hf] at hx
      obtain rfl := Option.some.inj hx
      rw [Nat.zero_add]
      exact hcs j f hf) hg (by simp; omega) (by simpa using hc) (by rw [hmap]; exact Nat.le_trans hl (by omega))
  rw [joinP_dot, List.length_map] at HJ
  obtain ⟨J, hJ⟩ : ∃ J, J = join fs [47] := ⟨_, rfl⟩
  rw [← hJ] at HJ hl ⊢
  have HJ := Lib.hid HJ
  have hjs : (strB J).size ≤ 1000000 := hl
  have HA : Hid ((⟨#[47]⟩ : ByteArray) ++ strB J = strB (47 :: J)) := Lib.hid (strB_app [47] J)
  clear hcs hmap hJ hl
  go_enter Tryz.func117, Tryz.ntmps117
  go_wp2_with fail
  refine HJ.out.mono ?_
  rintro e w1 ⟨rfl, hb⟩
  go_wp2_with fail
  go_ret
  exact ⟨ret_str HA.out, hb⟩
end
section
open Go Go.Lib Go.RowKit

def pathOfB (fs : List Str) : Bool := decide (fs.length ≤ 4) && fs.all namB
def pathOfT (fs : List Str) : Str := if pathOfB fs = true then 47 :: join fs [47] else []
set_option maxRecDepth 100000 in
set_option maxHeartbeats 2000000 in
theorem pathOf_any (B : Nat) (A : Option Addr) (c n : Nat) (fs : List Str) (w : World) (hI : StrsIn B w A c fs) (hne : fs ≠ []) (hn : n = fs.length) (hl : n ≤ 1099511627776) :
    Calls Tryz.prog 102 #[.slice A n c] w fun e w' => e = .returned (.tuple #[.string (strB (pathOfT fs)), .bool (pathOfB fs)]) ∧ Below w.heap.size w w' := by
  have HN := Lib.hid hn
  have hR : RowAt w A n (fs.map strV) := by rw [hn]; exact hI.row
  have HR := Lib.hid hR
  have HI := Lib.hid hI
  have HNE := Lib.hid hne
  clear hn hR hI hne
  obtain ⟨T, hT⟩ : ∃ T, T = pathOfT fs := ⟨_, rfl⟩
  have HT := Lib.hid hT
  rw [← hT]
  clear hT
  have HRES : Hid (pathOfB fs = (decide (n ≤ 4) && fs.all namB)) := Lib.hid (by unfold pathOfB; rw [HN.out])
  obtain ⟨res, hres⟩ : ∃ res, res = pathOfB fs := ⟨_, rfl⟩
  have HRS := Lib.hid hres
  rw [← hres] at HRES ⊢
  clear hres
  by_cases h4 : n ≤ 4
  rotate_left
  · have k1 : (4 : Int) < (n : Int) := by omega
    have HF := Lib.hid (show res = false by rw [HRES.out, decide_eq_false h4]; rfl)
    have HTT := Lib.hid (show T = [] by rw [HT.out]; unfold pathOfT; rw [← HRS.out, HF.out]; rfl)
    clear h4
    go_enter Tryz.func102, Tryz.ntmps102
    go_wp2_with fail
    go_ret2
    exact ⟨by rw [HF.out, HTT.out]; rfl, Below.refl _ _⟩
  have k1 : ¬ (4 : Int) < (n : Int) := by omega
  have C := containsName_any A n c fs w HR.out (by omega)
  cases hall : fs.all namB
  · have HF := Lib.hid (show res = false by rw [HRES.out, hall, Bool.and_false])
    have HTT := Lib.hid (show T = [] by rw [HT.out]; unfold pathOfT; rw [← HRS.out, HF.out]; rfl)
    rw [hall] at C
    have HC := Lib.hid C
    clear C hall
    go_enter Tryz.func102, Tryz.ntmps102
    go_wp2_with fail
    refine HC.out.mono ?_
    rintro e w1 ⟨rfl, hb⟩
    go_wp2_with fail
    go_ret2
    exact ⟨by rw [HF.out, HTT.out]; rfl, hb⟩
  · have HF := Lib.hid (show res = true by rw [HRES.out, hall, decide_eq_true h4]; rfl)
    have HTT := Lib.hid (show T = 47 :: join fs [47] by rw [HT.out]; unfold pathOfT; rw [← HRS.out, HF.out]; rfl)
    have hj : (join fs [47]).length ≤ 1000000 := by
      cases hf : fs with
      | nil => exact absurd hf HNE.out
      | cons x xs =>
        have h1 := joinP_len x xs (fun y hy => (namB_iff.1 (List.all_eq_true.1 hall y (hf ▸ hy))).1.2)
        have h2 := HN.out
        rw [hf] at h2
        simp only [List.length_cons] at h2
        omega
    rw [hall] at C
    have HC := Lib.hid C
    obtain ⟨g, hA⟩ : ∃ g, A = some ⟨g, 0, none⟩ := by
      obtain ⟨f, hf⟩ : ∃ f, fs[0]? = some f := by
        cases hf : fs with
        | nil => exact absurd hf HNE.out
        | cons x xs => exact ⟨x, rfl⟩
      obtain ⟨g, hA, _⟩ := HI.out.cell hf
      exact ⟨g, hA⟩
    subst hA
    have P : ∀ w1, Below w.heap.size w w1 → Calls Tryz.prog 117 #[.slice (some ⟨g, 0, none⟩) n c] w1 fun e w' => e = .returned (.string (strB (47 :: join fs [47]))) ∧ Below w1.heap.size w1 w' := fun w1 hb => by
      have hI1 := HI.out.below hb
      refine pathText_any g c fs w1 n HN.out (fun j x hx => ?_) ?_ ?_ hj h4
      · obtain ⟨g', e, _, hc⟩ := hI1.cell hx
        injection e with e; injection e with e; subst e; exact hc
      · cases hf : fs with
        | nil => exact absurd hf HNE.out
        | cons x xs =>
          obtain ⟨g', e, hg, _⟩ := hI1.cell (j := 0) (f := x) (by rw [hf]; rfl)
          injection e with e; injection e with e; subst e; exact hg
      · rw [HN.out]; exact hI1.le
    obtain ⟨J, hJ⟩ : ∃ J, J = strB (47 :: join fs [47]) := ⟨_, rfl⟩
    rw [← hJ] at P
    have HP := Lib.hid P
    have HJ := Lib.hid hJ
    clear C hall hj P hJ
    go_enter Tryz.func102, Tryz.ntmps102
    go_wp2_with fail
    refine HC.out.mono ?_
    rintro e w1 ⟨rfl, hb⟩
    go_wp2_with fail
    refine (HP.out w1 hb).mono ?_
    rintro e w2 ⟨rfl, hb2⟩
    go_wp2_with fail
    go_ret2
    exact ⟨by rw [HF.out, HTT.out, HJ.out]; rfl, hb.trans (hb2.mono hb.size)⟩
def NamesAny (b : Bool) (w : World) (e : Ending) (w' : World) : Prop := ∃ A n c, e = .returned (.tuple #[.slice A n c, .bool b]) ∧ Below w.heap.size w w'
theorem NamesAny.mk {b b' : Bool} {w w' : World} {A : Option Addr} {n c : Nat} (h : b = b') (hb : Below w.heap.size w w') : NamesAny b w (.returned (.tuple #[.slice A n c, .bool b'])) w' := ⟨A, n, c, by rw [h], hb⟩
set_option maxRecDepth 100000 in
set_option maxHeartbeats 2000000 in
theorem pathNames_any (s : Str) (w : World) (hm : MLen w) (hs : s.length ≤ 3000000000) : Calls Tryz.prog 78 #[.string (strB s)] w (NamesAny (pathB s) w) := by
  by_cases h0 : s = [47]
  · subst h0
    have h1 : ((strB [47]).toList == [47]) = true := by rw [strB_list]; rfl
    have h2 : (strB [47]).toList = [47] := strB_list _
    have HF := Lib.hid path_one
    go_enter Tryz.func78, Tryz.ntmps78
    go_wp2_with fail
    go_ret2
    exact NamesAny.mk HF.out (Below.refl _ _)
  have h1 : ((strB s).toList == [47]) = false := by rw [strB_list]; simpa using h0
  have h2 : ¬ (strB s).toList = [47] := by rw [strB_list]; exact h0
  by_cases hh : s.head? = some 47
  rotate_left
  · have HF : Hid (pathB s = false) := Lib.hid (by
      cases s with
      | nil => exact path_nil
      | cons c r => exact path_not (fun e => hh (by rw [e]; rfl)))
    have HC := Lib.hid (cutP_no s w hh)
    clear hh h0
    go_enter Tryz.func78, Tryz.ntmps78
    go_wp2_with fail
    refine HC.out.mono ?_
    rintro e w' ⟨rfl, rfl⟩
    go_wp2_with fail
    go_ret2
    exact NamesAny.mk HF.out (Below.refl _ _)
  obtain ⟨r, rfl⟩ : ∃ r, s = 47 :: r := by
    cases s with
    | nil => cases hh
    | cons c r => simp at hh; exact ⟨r, by rw [hh]⟩
  have hr : r ≠ [] := fun e => h0 (by rw [e])
  have hrl : r.length ≤ 3000000000 := by simp at hs; omega
  have HC := Lib.hid (cutP_yes r w hrl)
  have hsz : (strB (47 :: r)).size = r.length + 1 := by rw [strB_size]; rfl
  by_cases h20 : r.length + 1 ≤ 20
  rotate_left
  · have k1 : (20 : Int) < ((r.length + 1 : Nat) : Int) := by omega
    have k2 : (20 : Int) < (r.length : Int) + 1 := by omega
    have HF : Hid (pathB (47 :: r) = false) := Lib.hid (by
      cases h : pathB (47 :: r) with
      | false => rfl
      | true => have := (path_len h).2; simp at this; omega)
    clear hh h0 hr h20
    go_enter Tryz.func78, Tryz.ntmps78
    go_wp2_with fail
    refine HC.out.mono ?_
    rintro e w' ⟨rfl, rfl⟩
    go_wp2_with fail
    go_ret2
    exact NamesAny.mk HF.out (Below.refl _ _)
  have k1 : ¬ (20 : Int) < ((r.length + 1 : Nat) : Int) := by omega
  have k2 : ¬ (20 : Int) < (r.length : Int) + 1 := by omega
  have HM := Lib.hid hm
  have HRES : Hid (pathB (47 :: r) = pathOfB (splitP r)) := Lib.hid (path_cons hr)
  have HJS := Lib.hid (join_splitP r)
  have HNE := Lib.hid (splitP_ne r)
  have hcnt := joinP_count r
  clear hh h0 hr hm
  go_enter Tryz.func78, Tryz.ntmps78
  go_wp2_with fail
  refine HC.out.mono ?_
  rintro e w' ⟨rfl, rfl⟩
  go_wp2_with fail
  refine (splitSP_any r w HM.out (by omega)).mono ?_
  rintro e w1 ⟨A, c, rfl, hI, hb⟩
  obtain ⟨fs, hfs⟩ : ∃ fs, fs = splitP r := ⟨_, rfl⟩
  rw [← hfs] at HRES HJS HNE hcnt hI
  rw [← hfs]
  obtain ⟨n, hn⟩ : ∃ n, n = fs.length := ⟨_, rfl⟩
  rw [← hn] at hcnt
  rw [← hn]
  have HN := Lib.hid hn
  have HI := Lib.hid hI
  clear hfs hn hI
  go_wp2_with fail
  refine (pathOf_any _ A c n fs w1 HI.out HNE.out HN.out (by omega)).mono ?_
  obtain ⟨T, hT⟩ : ∃ T, T = pathOfT fs := ⟨_, rfl⟩
  obtain ⟨ok, hok⟩ : ∃ ok, ok = pathOfB fs := ⟨_, rfl⟩
  rw [← hT, ← hok]
  rintro e w2 ⟨rfl, hb2⟩
  have HB2 := Lib.hid (hb.trans (hb2.mono hb.size))
  have HOK := Lib.hid (show pathB (47 :: r) = ok by rw [HRES.out, hok])
  clear hb hb2
  cases ok
  · clear hT hok
    go_wp2_with fail
    go_ret2
    exact NamesAny.mk HOK.out HB2.out
  · have e1 : T = 47 :: r := by rw [hT]; unfold pathOfT; rw [← hok, if_pos rfl, HJS.out]
    subst e1
    have q1 : ((strB (47 :: r)).toList == (strB (47 :: r)).toList) = true := by simp
    clear hT hok
    go_wp2_with fail
    go_ret2
    exact NamesAny.mk HOK.out HB2.out
set_option maxRecDepth 100000 in
theorem pathOk_any (s : Str) (w : World) (hm : MLen w) (hs : s.length ≤ 3000000000) : Calls Tryz.prog 48 #[.string (strB s)] w fun e w' => e = .returned (.bool (pathB s)) ∧ Below w.heap.size w w' := by
  have HC := Lib.hid (pathNames_any s w hm hs)
  clear hm
  go_enter Tryz.func48, Tryz.ntmps48
  go_wp2_with fail
  refine HC.out.mono ?_
  rintro e w1 ⟨A, n, c, rfl, hb⟩
  go_wp2_with fail
  go_ret
  exact ⟨rfl, hb⟩
end
end Go.Proofs.YtggdjiklgakfnaaGreatDoor
