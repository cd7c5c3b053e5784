/- Records of which one field may be empty, of the program and of the reference. Condition: the table of powers (the program's). -/
import Derived.Test.YtlacpcdbgimnmaaDoorDead
namespace Go.Proofs.YtlacpcdbgimnmaaDoor
set_option linter.unnecessarySimpa false
open Go Go.Lib Go.RowKit
set_option linter.unusedVariables false
set_option linter.unusedSimpArgs false
/-- No field is empty but one. -/
def RecOk (fs : List Str) (e : Int) : Prop := ∀ (j : Nat) (f : Str), fs[j]? = some f → f = [] → (j : Int) = e
open Classical in
noncomputable def recF (fs : List Str) (e : Int) : Str × Bool := if RecOk fs e then fieldsF fs else ([], false)
theorem recF_no {fs : List Str} {e : Int} {j : Nat} (h : fs[j]? = some []) (hj : ¬ (j : Int) = e) : recF fs e = ([], false) := by
  unfold recF
  rw [if_neg (fun c => hj (c j [] h rfl))]
theorem recF_yes {fs : List Str} {e : Int} {n : Nat} (hn : fs.length = n) (h : ∀ (j : Nat) (f : Str), j < n → fs[j]? = some f → f = [] → (j : Int) = e) : recF fs e = fieldsF fs := by
  unfold recF
  rw [if_pos (show RecOk fs e from fun j f hf => h j f (by have := (List.getElem?_eq_some_iff.1 hf).1; omega) hf)]
def RecR (fs : List Str) (e : Int) (w : World) (en : Ending) (w' : World) : Prop := en = .returned (.tuple #[.string (strB (recF fs e).1), .bool (recF fs e).2]) ∧ Below w.heap.size w w'
theorem row_cell {w : World} {A : Option Addr} {fs : List Str} (h : RowAt w A fs.length (fs.map strV)) {k : Nat} {f : Str} (hf : fs[k]? = some f) : ∃ b off, A = some ⟨b, off, none⟩ ∧ w.cell? ⟨b, off + k, none⟩ = some (.string (strB f)) := by
  have hk := (List.getElem?_eq_some_iff.1 hf).1
  obtain ⟨b, off, hA, hc⟩ := h.2 (by omega)
  exact ⟨b, off, hA, (hc k hk).trans (by rw [List.getElem?_map, hf]; rfl)⟩
set_option maxRecDepth 100000 in
set_option maxHeartbeats 2000000 in
theorem record_any (A : Option Addr) (c : Nat) (fs : List Str) (e : Int) (w : World) (ht : Tab w) (h : RowAt w A fs.length (fs.map strV)) (hb : ∀ f ∈ fs, f.length ≤ 1099511627776) (hl : fs.length ≤ 1000000) :
    Calls Tryd.prog 24 #[.slice A fs.length c, .int .i64 e] w (RecR fs e w) := by
  obtain ⟨n, hn⟩ : ∃ n, n = fs.length := ⟨_, rfl⟩
  have HN := Lib.hid hn.symm
  rw [← hn] at hl ⊢
  have H := Lib.hid h
  have HBB := Lib.hid hb
  clear hn h hb
  go_enter Tryd.func24, Tryd.ntmps24
  go_wp2_with fail
  go_loopw [10] (fun i wr => ∃ k : Nat, k ≤ n ∧ i = .int .i64 (k : Int) ∧ Hid (∀ (j : Nat) (f : Str), j < k → fs[j]? = some f → f = [] → (j : Int) = e) ∧ SameW wr w) (fun i _ => n - (RowKit.intOf i).toNat)
  case atStart => exact ⟨0, Nat.zero_le _, rfl, Lib.hid (fun j f hj => absurd hj (by omega)), SameW.refl _⟩
  case round =>
    obtain ⟨k, hk, rfl, HP, HW⟩ := hrel
    obtain rfl := HW.out
    clear HW
    by_cases hlt : k < n
    · obtain ⟨f, hf⟩ : ∃ x, fs[k]? = some x := ⟨fs[k]'(by rw [HN.out]; exact hlt), List.getElem?_eq_getElem _⟩
      obtain ⟨b, off, hA, hc⟩ := row_cell H.out hf
      subst hA
      have bl := World.block_lt_of_cell? _ _ hc
      have HX := Lib.hid hf; clear hf
      have k0 : (0 : Int) ≤ (k : Int) := by omega
      have k1 : (k : Int) < (n : Int) := by omega
      by_cases hf0 : f = []
      · have z6 : (strB f).toList.isEmpty = true := by rw [strB_list, hf0]; rfl
        have z7 : ((strB f).toList == []) = true := by rw [strB_list, hf0]; rfl
        by_cases hke : (k : Int) = e
        · have d0 : ((k : Int) != e) = false := by simp [hke]
          have HPN : Hid (∀ (j : Nat) (f : Str), j < k + 1 → fs[j]? = some f → f = [] → (j : Int) = e) := Lib.hid (fun j g hj hg h0 => by
            rcases Nat.lt_or_ge j k with h2 | h2
            · exact HP.out j g h2 hg h0
            · obtain rfl : j = k := by omega
              exact hke)
          have HKE := Lib.hid hke; have HF0 := Lib.hid hf0; clear hke hf0
          go_wp2_with fail
          go_roundw
          case rel => exact ⟨k + 1, by omega, by go_num, HPN, SameW.refl _⟩
          case measure => simp [RowKit.intOf]; omega
        · have d0 : ((k : Int) != e) = true := by simpa using hke
          have HR := Lib.hid (recF_no (e := e) (by rw [HX.out, hf0]) hke)
          have HF0 := Lib.hid hf0; clear hf0 hke
          go_wp2_with fail
          exact bodyPost_ret (v := .tuple #[.string ⟨#[]⟩, .bool false]) (by simp [results, Tryd.results24, go_sem]) rfl ⟨by rw [HR.out]; rfl, Below.refl _ _⟩
      · have z6 : (strB f).toList.isEmpty = false := by rw [strB_list]; cases f with | nil => exact absurd rfl hf0 | cons _ _ => rfl
        have z7 : ((strB f).toList == []) = false := by rw [strB_list]; cases f with | nil => exact absurd rfl hf0 | cons _ _ => rfl
        have HPN : Hid (∀ (j : Nat) (f : Str), j < k + 1 → fs[j]? = some f → f = [] → (j : Int) = e) := Lib.hid (fun j g hj hg h0 => by
          rcases Nat.lt_or_ge j k with h2 | h2
          · exact HP.out j g h2 hg h0
          · obtain rfl : j = k := by omega
            rw [HX.out] at hg
            obtain rfl := Option.some.inj hg
            exact absurd h0 hf0)
        have HF0 := Lib.hid hf0; clear hf0
        go_wp2_with fail
        go_roundw
        case rel => exact ⟨k + 1, by omega, by go_num, HPN, SameW.refl _⟩
        case measure => simp [RowKit.intOf]; omega
    · obtain rfl : k = n := by omega
      have HR := Lib.hid (recF_yes HN.out HP.out)
      have HC : Hid (Calls Tryd.prog 40 #[.slice A k c] wr (PutF fs wr)) := Lib.hid (by rw [← HN.out]; exact fieldsPut_any A c fs wr ht H.out HBB.out (by rw [HN.out]; omega))
      go_wp2_with fail
      refine HC.out.mono ?_
      unfold PutF
      rintro e_ w5 ⟨rfl, hb5⟩
      go_wp2_with fail
      exact bodyPost_ret (v := .tuple #[.string (strB (fieldsF fs).1), .bool (fieldsF fs).2]) (by simp [results, Tryd.results24, go_sem]) rfl ⟨by rw [HR.out], hb5⟩
set_option maxRecDepth 100000 in
set_option maxHeartbeats 2000000 in
theorem l21Rec_any (A : Option Addr) (c : Nat) (fs : List Str) (e : Int) (w : World) (h : RowAt w A fs.length (fs.map strV)) (hb : ∀ f ∈ fs, f.length ≤ 1099511627776) (hl : fs.length ≤ 1000000) :
    Calls Tryd.prog 15 #[.slice A fs.length c, .int .i64 e] w (RecR fs e w) := by
  obtain ⟨n, hn⟩ : ∃ n, n = fs.length := ⟨_, rfl⟩
  have HN := Lib.hid hn.symm
  rw [← hn] at hl ⊢
  have H := Lib.hid h
  have HBB := Lib.hid hb
  clear hn h hb
  go_enter Tryd.func15, Tryd.ntmps15
  go_wp2_with fail
  go_loopw [6] (fun i wr => ∃ k : Nat, k ≤ n ∧ i = .int .i64 (k : Int) ∧ Hid (∀ (j : Nat) (f : Str), j < k → fs[j]? = some f → f = [] → (j : Int) = e) ∧ SameW wr w) (fun i _ => n - (RowKit.intOf i).toNat)
  case atStart => exact ⟨0, Nat.zero_le _, rfl, Lib.hid (fun j f hj => absurd hj (by omega)), SameW.refl _⟩
  case round =>
    obtain ⟨k, hk, rfl, HP, HW⟩ := hrel
    obtain rfl := HW.out
    clear HW
    by_cases hlt : k < n
    · obtain ⟨f, hf⟩ : ∃ x, fs[k]? = some x := ⟨fs[k]'(by rw [HN.out]; exact hlt), List.getElem?_eq_getElem _⟩
      obtain ⟨b, off, hA, hc⟩ := row_cell H.out hf
      subst hA
      have bl := World.block_lt_of_cell? _ _ hc
      have HX := Lib.hid hf; clear hf
      have k0 : (0 : Int) ≤ (k : Int) := by omega
      have k1 : (k : Int) < (n : Int) := by omega
      by_cases hf0 : f = []
      · have z6 : (strB f).toList.isEmpty = true := by rw [strB_list, hf0]; rfl
        have z7 : ((strB f).toList == []) = true := by rw [strB_list, hf0]; rfl
        by_cases hke : (k : Int) = e
        · have d0 : ((k : Int) != e) = false := by simp [hke]
          have HPN : Hid (∀ (j : Nat) (f : Str), j < k + 1 → fs[j]? = some f → f = [] → (j : Int) = e) := Lib.hid (fun j g hj hg h0 => by
            rcases Nat.lt_or_ge j k with h2 | h2
            · exact HP.out j g h2 hg h0
            · obtain rfl : j = k := by omega
              exact hke)
          have HKE := Lib.hid hke; have HF0 := Lib.hid hf0; clear hke hf0
          go_wp2_with fail
          go_roundw
          case rel => exact ⟨k + 1, by omega, by go_num, HPN, SameW.refl _⟩
          case measure => simp [RowKit.intOf]; omega
        · have d0 : ((k : Int) != e) = true := by simpa using hke
          have HR := Lib.hid (recF_no (e := e) (by rw [HX.out, hf0]) hke)
          have HF0 := Lib.hid hf0; clear hf0 hke
          go_wp2_with fail
          exact bodyPost_ret (v := .tuple #[.string ⟨#[]⟩, .bool false]) (by simp [results, Tryd.results15, go_sem]) rfl ⟨by rw [HR.out]; rfl, Below.refl _ _⟩
      · have z6 : (strB f).toList.isEmpty = false := by rw [strB_list]; cases f with | nil => exact absurd rfl hf0 | cons _ _ => rfl
        have z7 : ((strB f).toList == []) = false := by rw [strB_list]; cases f with | nil => exact absurd rfl hf0 | cons _ _ => rfl
        have HPN : Hid (∀ (j : Nat) (f : Str), j < k + 1 → fs[j]? = some f → f = [] → (j : Int) = e) := Lib.hid (fun j g hj hg h0 => by
          rcases Nat.lt_or_ge j k with h2 | h2
          · exact HP.out j g h2 hg h0
          · obtain rfl : j = k := by omega
            rw [HX.out] at hg
            obtain rfl := Option.some.inj hg
            exact absurd h0 hf0)
        have HF0 := Lib.hid hf0; clear hf0
        go_wp2_with fail
        go_roundw
        case rel => exact ⟨k + 1, by omega, by go_num, HPN, SameW.refl _⟩
        case measure => simp [RowKit.intOf]; omega
    · obtain rfl : k = n := by omega
      have HR := Lib.hid (recF_yes HN.out HP.out)
      have HC : Hid (Calls Tryd.prog 33 #[.slice A k c] wr (PutF fs wr)) := Lib.hid (by rw [← HN.out]; exact spFieldsPut_any A c fs wr H.out HBB.out (by rw [HN.out]; omega))
      go_wp2_with fail
      refine HC.out.mono ?_
      unfold PutF
      rintro e_ w5 ⟨rfl, hb5⟩
      go_wp2_with fail
      exact bodyPost_ret (v := .tuple #[.string (strB (fieldsF fs).1), .bool (fieldsF fs).2]) (by simp [results, Tryd.results15, go_sem]) rfl ⟨by rw [HR.out], hb5⟩
def bitS (b : Bool) : Str := if b then [49] else [48]
theorem l21Bit_any (b : Bool) (w : World) : Calls Tryd.prog 12 #[.bool b] w fun e w' => e = .returned (.string (strB (bitS b))) ∧ w = w' := by
  cases b
  · go_enter Tryd.func12, Tryd.ntmps12
    go_wp2_with fail
    go_ret
    exact ⟨rfl, rfl⟩
  · go_enter Tryd.func12, Tryd.ntmps12
    go_wp2_with fail
    go_ret
    exact ⟨rfl, rfl⟩
end Go.Proofs.YtlacpcdbgimnmaaDoor
