/- The reference's text of dead references. No condition. -/
import Derived.Test.YtlacpcdbgimnmaaDoorDead
namespace Go.Proofs.YtlacpcdbgimnmaaDoor
set_option linter.unnecessarySimpa false
open Go Go.Lib Go.RowKit
set_option linter.unusedVariables false
set_option linter.unusedSimpArgs false
theorem dead_step {ps : List PtrD} {k : Nat} {p : PtrD} (h : ps[k]? = some p) : join ((ps.take (k + 1)).map ptrSD) [44] = (if k = 0 then [] else join ((ps.take k).map ptrSD) [44] ++ [44]) ++ ptrSD p := by
  rw [List.take_add_one, h, List.map_append]
  by_cases hk : k = 0
  · subst hk; simp [join, ptrSD]
  · rw [if_neg hk]
    have hl := (List.getElem?_eq_some_iff.1 h).1
    refine join_snocD _ _ _ (fun e => ?_)
    have h2 := congrArg List.length e
    rw [List.length_map, List.length_take, Nat.min_eq_left (by omega)] at h2
    exact hk h2
set_option maxRecDepth 100000 in
set_option maxHeartbeats 4000000 in
theorem l21Dead_any (A : Option Addr) (n c : Nat) (ps : List PtrD) (w : World) (lo hi : Nat) (h : SliceR PtrR 5 w lo hi A n c ps) (hn : n ≤ 2000000) :
    Calls Tryd.prog 14 #[.slice A n c] w (DeadR ps w) := by
  have HL := Lib.hid h.len
  have H := Lib.hid h; clear h
  go_enter Tryd.func14, Tryd.ntmps14
  go_wp2_with fail
  go_loopw [4, 5] (fun t i wr => ∃ (k : Nat) (T : Str), k ≤ n ∧ i = .int .i64 (k : Int) ∧ t = .string (strB T) ∧ Hid (∀ j p, j < k → ps[j]? = some p → goodD p = true) ∧ Hid (T = join ((ps.take k).map ptrSD) [44]) ∧ Hid (Below w.heap.size w wr)) (fun _ i _ => n - (RowKit.intOf i).toNat)
  case atStart => exact ⟨0, [], Nat.zero_le _, rfl, rfl, Lib.hid (fun j p hj => absurd hj (by omega)), Lib.hid (by simp [join]), Lib.hid (Below.refl _ _)⟩
  case round =>
    obtain ⟨k, T, hk, rfl, rfl, HP, HT, HB⟩ := hrel
    by_cases hlt : k < n
    · obtain ⟨p, hp⟩ : ∃ x, ps[k]? = some x := ⟨ps[k]'(by rw [HL.out]; exact hlt), List.getElem?_eq_getElem _⟩
      have hT60 : T.length ≤ k * 61 := by
        have h1 := join_len ((ps.take k).map ptrSD) [44] 60 (fun x hx => by obtain ⟨p, _, rfl⟩ := List.mem_map.1 hx; exact ptrS_len _ _ _ _ _)
        rw [← HT.out, List.length_map, List.length_take, HL.out, Nat.min_eq_left hk] at h1
        simpa using h1
      have HX := Lib.hid hp
      have HST := Lib.hid (dead_step hp)
      obtain ⟨a, b, s, q, l⟩ := p
      have hcell : ∀ W, Below w.heap.size w W → ∃ b_ off, A = some ⟨b_, off, none⟩ ∧ b_ < W.heap.size ∧ W.cell? ⟨b_, off + k * 5, none⟩ = some (.int .i64 a) ∧ W.cell? ⟨b_, off + k * 5 + 1, none⟩ = some (.int .i64 b) ∧ W.cell? ⟨b_, off + k * 5 + 2, none⟩ = some (.int .i64 s) ∧ W.cell? ⟨b_, off + k * 5 + 3, none⟩ = some (.int .i64 q) ∧ W.cell? ⟨b_, off + k * 5 + 4, none⟩ = some (.int .i64 l) := by
        intro W hb
        obtain ⟨b_, off, hA, _, _, bl, hc⟩ := (SliceR.below H.out hb (PtrR.below hb H.out.lo_le)).at_ (by omega)
        obtain ⟨cs, hcl, hcc, hr⟩ := hc k _ hp
        obtain rfl := hr
        exact ⟨b_, off, hA, bl, by simpa using hcc 0 _ rfl, hcc 1 _ rfl, hcc 2 _ rfl, hcc 3 _ rfl, hcc 4 _ rfl⟩
      have HCELL := Lib.hid hcell; clear hcell hp
      obtain ⟨b_, off, hA, bl, q0, q1, q2, q3, q4⟩ := HCELL.out wr HB.out
      subst hA
      have k0 : (0 : Int) ≤ (k : Int) := by omega
      have k1 : (k : Int) < (n : Int) := by omega
      have HNO : Hid (goodD (a, b, s, q, l) = false → deadF ps = ([], false)) := Lib.hid (fun h => deadF_no HX.out h)
      go_wp2_with fail
      refine (spPtrOk_any a b s q l _).mono ?_
      rintro e_ w3 ⟨rfl, hb3⟩
      have HB3 := Lib.hid (HB.out.trans (hb3.mono HB.out.size))
      clear hb3 q0 q1 q2 q3 q4 bl
      obtain ⟨b2_, off2, hA, bl, q0, q1, q2, q3, q4⟩ := HCELL.out w3 HB3.out
      injection hA with hA; injection hA with hA1 hA2; subst hA1 hA2
      cases e1 : ptrOkB a b s q l
      · have HN := Lib.hid (HNO.out (by unfold goodD; simp [e1]))
        clear HNO
        go_wp2_with fail
        exact bodyPost_ret (v := .tuple #[.string ⟨#[]⟩, .bool false]) (by simp [results, Tryd.results14, go_sem]) rfl ⟨by rw [HN.out]; rfl, HB3.out⟩
      go_wp2_with fail
      refine (spPtrHole_any a b s q l _).mono ?_
      rintro e_ w4 ⟨rfl, hb4⟩
      have HB4 := Lib.hid (HB3.out.trans (hb4.mono HB3.out.size))
      clear hb4 q0 q1 q2 q3 q4 bl
      obtain ⟨b2_, off2, hA, bl, q0, q1, q2, q3, q4⟩ := HCELL.out w4 HB4.out
      injection hA with hA; injection hA with hA1 hA2; subst hA1 hA2
      cases e2 : ptrHole a b s q l
      rotate_left
      · have HN := Lib.hid (HNO.out (by unfold goodD; simp [e2]))
        clear HNO
        go_wp2_with fail
        exact bodyPost_ret (v := .tuple #[.string ⟨#[]⟩, .bool false]) (by simp [results, Tryd.results14, go_sem]) rfl ⟨by rw [HN.out]; rfl, HB4.out⟩
      have HPN := Lib.hid (upto_stepD HP.out HX.out (goodD_parts rfl e1 e2))
      have hpl : (ptrS a b s q l).length ≤ 60 := ptrS_len _ _ _ _ _
      obtain ⟨x, hx⟩ : ∃ x, x = ptrS a b s q l := ⟨_, rfl⟩
      rw [← hx] at hpl
      have HX2 := Lib.hid hx
      clear e1 e2 HNO hx
      have HR := Lib.hid (fun W => spPtrPut_any a b s q l W)
      have sT : (strB T).size = T.length := rfl
      have sx : (strB x).size = x.length := rfl
      by_cases hk0 : k = 0
      · have d0 : ¬ (0 : Int) < (k : Int) := by omega
        have d0n : ¬ 0 < k := by omega
        have d1 : (strB T).size + (strB x).size ≤ 9223372036854775807 := by omega
        have HN : Hid (T ++ x = join ((ps.take (k + 1)).map ptrSD) [44]) := Lib.hid (by rw [HST.out, if_pos hk0, HX2.out]; have := HT.out; subst hk0; simp [join] at this; subst this; rfl)
        have HK0 := Lib.hid hk0; clear hk0
        go_wp2_with fail
        refine (HR.out _).mono ?_
        unfold TextR
        rw [← HX2.out]
        rintro e_ w5 ⟨rfl, hb5⟩
        have HB5 := Lib.hid (HB4.out.trans (hb5.mono HB4.out.size))
        clear hb5 q0 q1 q2 q3 q4
        go_wp2_with fail
        go_roundw
        case rel => exact ⟨k + 1, T ++ x, by omega, by go_num, by rw [strB_app], HPN, HN, HB5⟩
        case measure => simp [RowKit.intOf]; omega
      · have d0 : (0 : Int) < (k : Int) := by omega
        have d0n : 0 < k := by omega
        have d1 : (strB T).size + 1 ≤ 9223372036854775807 := by omega
        have d2 : (strB (T ++ [44])).size + (strB x).size ≤ 9223372036854775807 := by rw [strB_size, List.length_append, sx]; simp; omega
        have e44 : strB T ++ ⟨#[44]⟩ = strB (T ++ [44]) := strB_app T [44]
        have HN : Hid (T ++ [44] ++ x = join ((ps.take (k + 1)).map ptrSD) [44]) := Lib.hid (by rw [HST.out, if_neg hk0, HX2.out, HT.out]; rfl)
        have HK0 := Lib.hid hk0; clear hk0
        go_wp2_with fail
        refine (HR.out _).mono ?_
        unfold TextR
        rw [← HX2.out]
        rintro e_ w5 ⟨rfl, hb5⟩
        have HB5 := Lib.hid (HB4.out.trans (hb5.mono HB4.out.size))
        clear hb5 q0 q1 q2 q3 q4
        go_wp2_with fail
        go_roundw
        case rel => exact ⟨k + 1, T ++ [44] ++ x, by omega, by go_num, by first | rw [strB_app] | rw [e44, strB_app] | (rw [← strB_app, ← e44]), HPN, HN, HB5⟩
        case measure => simp [RowKit.intOf]; omega
    · obtain rfl : k = n := by omega
      have HF : Hid (deadF ps = (T, true)) := Lib.hid (by unfold deadF; rw [if_pos (all_uptoD HL.out HP.out), HT.out, List.take_of_length_le (by rw [HL.out]; exact Nat.le_refl _)])
      go_wp2_with fail
      exact bodyPost_ret (v := .tuple #[.string (strB T), .bool true]) (by simp [results, Tryd.results14, go_sem]) rfl ⟨by rw [HF.out], HB.out⟩
end Go.Proofs.YtlacpcdbgimnmaaDoor
