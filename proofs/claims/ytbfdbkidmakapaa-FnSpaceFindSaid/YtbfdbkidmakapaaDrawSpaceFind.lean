/- DrawSpaceFind: a space, a row, a list of rows. No condition. -/
import Derived.Test.YtbfdbkidmakapaaDrawTake
import Derived.Test.YtbfdbkidmakapaaApp
import Derived.Test.YtbfdbkidmakapaaRep
namespace Go.Proofs.Ytbfdbkidmakapaa
set_option linter.unusedVariables false
set_option linter.unusedSimpArgs false
set_option linter.unnecessarySimpa false
open Go.RowKit

/-- A drawn space, a row and a list. -/
def DrawnFind (w : World) (e : Ending) (w' : World) : Prop :=
  ∃ A n c B m d xs ys x C nb cb but, e = .returned (.tuple #[.agg #[.slice A n c, .slice B m d], .int .i64 x, .slice C nb cb]) ∧ IntsAt w' A n xs ∧ IntsAt w' B m ys ∧ ((A = none → n = 0 ∧ c = 0) ∧ (B = none → m = 0 ∧ d = 0) ∧ n ≤ c ∧ m ≤ d) ∧ IntsAt w' C nb but ∧ Below w.heap.size w w'
theorem Chg.own {P : Nat → Prop} {S : List Nat} {a b c : World} (h : Chg P a b) (k : Chg (· ∈ S) b c) (hS : ∀ g ∈ S, a.heap.size ≤ g) : Chg P a c :=
  ⟨k.os.trans h.os, k.tape.trans h.tape, k.output.trans h.output, Nat.le_trans h.size k.size, fun i hi hs => (k.block i (Nat.lt_of_lt_of_le hi h.size) (fun hm => by have := hS i hm; omega)).trans (h.block i hi hs)⟩
theorem ints_snoc (xs : List Int) (x : Int) : xs.map (Value.int .i64) ++ [.int .i64 x] = (xs ++ [x]).map (Value.int .i64) := by simp
theorem OwnA.ints {w : World} {S : List Nat} {A : Option Addr} {n c : Nat} {xs : List Int} (h : OwnA w 3 1 S A n c (xs.map (Value.int .i64))) (hn : n ≤ 140737488355328) : IntsAt w A n xs := (ownS_of_ownRow h.1 hn).at_

set_option maxRecDepth 100000 in
set_option maxHeartbeats 4000000 in
theorem drawSpaceFind_any (A : Option Addr) (n c : Nat) (zs : List Int) (w : World) (h : BytesIn w A n c zs) : Calls Try.prog 36 #[.slice A n c] w (DrawnFind w) := by
  obtain ⟨i0, hi, hz0, hz1, hz2⟩ := info_parts info_int'
  go_enter Try.func36, Try.ntmps36
  go_wp2_with fail
  refine (l6Open_any A n c zs _ ?_).mono ?_
  · exact h.below ((Below.refl _ _).alloc (Nat.le_refl _) _)
  rintro e w1 ⟨m, c', ys, rfl, hr, hb1⟩
  have s1 := hb1.size
  have hp1 := hr.2.2.2.1
  simp at s1 hr hp1
  have hz : w.heap.size < w1.heap.size := by omega
  have hq1 : w1.heap[w.heap.size]? = some (.cells #[.slice none 0 0, .slice none 0 0] 25 (0, 0)) := (hb1.block _ (by simp)).trans (heap_alloc_new _ _)
  have hb2 : Below w.heap.size w w1 := ((Below.refl _ _).alloc (Nat.le_refl _) _).trans (hb1.mono (by simp))
  have hAq : ∀ b off, 0 < m → A = some ⟨b, off, none⟩ → b ≠ w.heap.size := by
    intro b off hm hA e
    obtain ⟨b', off', hA', _, hcc⟩ := hr.bytes hm
    obtain ⟨z, _, _, hc⟩ := hcc 0 hm
    rw [hA] at hA'
    injection hA' with e1
    injection e1 with e2 e3
    subst e2 e3 e
    rw [cell_of_row _ _ (off + 0) _ _ (0, 0) hq1] at hc
    match off, hc with
    | 0, hc => simp at hc
    | 1, hc => simp at hc
    | k + 2, hc => simp at hc
  have HAQ := Lib.hid hAq; clear hAq
  have hAo : ∀ b off, 0 < m → A = some ⟨b, off, none⟩ → b < w1.heap.size := fun b off hm hA => hr.old hm hA
  have HAO := Lib.hid hAo; clear hAo
  have HQ1 := Lib.hid hq1; clear hq1
  have HB2 := Lib.hid hb2; clear hb1 hb2
  go_wp2_with fail
  refine (l91Space_any w1 _ A m c' ys 0 hr (by omega)).mono ?_
  rintro e w2 ⟨A1, n1, c1, B1, m1, d1, xs, zs2, k', rfl, h1, h2, g1, g2, l1, l2, e1, e2, hk', hr2, hc⟩
  clear hr
  have z2 := hc.size
  have HH1 := Lib.hid h1; have HH2 := Lib.hid h2; have HG1 := Lib.hid g1; have HG2 := Lib.hid g2; have HE1 := Lib.hid e1; have HE2 := Lib.hid e2; clear h1 h2 g1 g2 e1 e2
  have HQ2 : Hid (w2.heap[w.heap.size]? = _) := Lib.hid ((hc.block _ hz (by simp)).trans HQ1.out)
  have HB3 : Hid (Below w.heap.size w w2) := Lib.hid (HB2.out.trans (hc.below (fun k _ hk => by simp at hk; omega) HB2.out.size))
  clear HQ1 HB2 hc
  go_wp2_with fail
  refine (pick_any _ _ A m c' ys _ 5 (hr2.below bel2) (by omega) (by omega) (by omega)).mono ?_
  rintro e w3 ⟨r, rfl, hr5, rd3, hc3, hz3⟩
  have hr5 := hr5 (by omega)
  have z3 := hc3.size
  simp at z3
  have hne : ∀ k, k < w2.heap.size + 2 → k ≠ w.heap.size + 1 → w3.heap[k]? = ((w2.alloc (.cells #[.slice A1 n1 c1, .slice B1 m1 d1] 25)).alloc (.cells #[] 3)).heap[k]? := fun k hk hp => hc3.block k (by simp; omega) (by simpa using hp)
  have hbox : w3.heap[w2.heap.size]? = some (.cells #[.slice A1 n1 c1, .slice B1 m1 d1] 25 (0, 0)) := (hne _ (by omega) (by omega)).trans ((Below.heap_alloc _ _ _ (by simp)).trans (heap_alloc_new _ _))
  have hold : ∀ k, k < w2.heap.size → k ≠ w.heap.size + 1 → w3.heap[k]? = w2.heap[k]? := fun k hk hp => (hne k (by omega) hp).trans ((Below.heap_alloc _ _ _ (by simp; omega)).trans (Below.heap_alloc _ _ _ hk))
  have HQ3 : Hid (w3.heap[w.heap.size]? = _) := Lib.hid ((hold _ (by omega) (by omega)).trans HQ2.out)
  have HB4 : Hid (Below w.heap.size w w3) := Lib.hid (HB3.out.trans ⟨hc3.os, hc3.tape, hc3.output, by omega, fun k hk => hold k (by omega) (by omega)⟩)
  have HI1 : Hid (IntsAt w3 A1 n1 xs) := Lib.hid (HH1.out.keep fun b off hA hlt => hold b hlt (by have := HE1.out b off hA; omega))
  have HI2 : Hid (IntsAt w3 B1 m1 zs2) := Lib.hid (HH2.out.keep fun b off hA hlt => hold b hlt (by have := HE2.out b off hA; omega))
  have HBX := Lib.hid hbox
  clear HH1 HH2 HQ2 HB3 hbox hold hne hc3 hz3 hr2
  go_wp2_with fail
  go_loopw [7, 8] (fun b kk wr => ∃ (k : Nat) (C : Option Addr) (nb cb : Nat) (S : List Nat) (but : List Int) (rp : Nat), k ≤ 4 ∧ kk = .int .i64 k ∧ b = .slice C nb cb ∧ nb + k ≤ 4 ∧ rp + 2 * k ≤ 500 ∧ Hid (OwnA wr 3 1 S C nb cb (but.map (Value.int .i64))) ∧ Hid (∀ g ∈ S, w3.heap.size ≤ g) ∧ Rd wr (w.heap.size + 1) A m c' ys rp ∧ Hid (Chg (· ∈ [w.heap.size + 1]) w3 wr)) (fun _ kk _ => (intOf kk).toNat)
  case atStart => exact ⟨r, _, 0, 0, [], [], _, by omega, rfl, rfl, by omega, by omega, Lib.hid (OwnA.nil _), Lib.hid (by simp), rd3, Lib.hid (Chg.refl _ _)⟩
  case round =>
    clear rd3
    obtain ⟨k, C, nb, cb, S, but, rp, hk4, rfl, rfl, hnb, hrp, HO, HS, hrd, HC⟩ := hrel
    by_cases hk0 : 0 < k
    · obtain ⟨j, rfl⟩ : ∃ j, k = j + 1 := ⟨k - 1, by omega⟩
      have kp : decide ((0 : Int) < ((j + 1 : Nat) : Int)) = true := by simp <;> omega
      go_wp2_with fail
      refine (l91Row_any wr _ A m c' ys rp hrd (by omega)).mono ?_
      rintro e w4 ⟨x, k2, rfl, hk2, hr3, hc4⟩
      have z4 := hc4.size
      have z5 := HC.out.size
      have HO4 : Hid (OwnA w4 3 1 S C nb cb (but.map (Value.int .i64))) := Lib.hid (HO.out.keep fun g hg => hc4.block g (HO.out.lt g hg) (by have := HS.out g hg; simp; omega))
      have HC4 : Hid (Chg (· ∈ [w.heap.size + 1]) w3 w4) := Lib.hid (HC.out.trans hc4)
      have HR3 := Lib.hid hr3
      clear HO HC hc4 hrd hr3
      go_wp2_with (at_builtin; go_must (refine wpList_append_row rfl _ _ 23 rfl 3 i0 (.int .i64 0) 1 8 Try.underlying23 hi hz0 hz1 hz2 rfl (by decide) S C _ nb cb 1 1 (but.map (Value.int .i64)) [.int .i64 x] rfl rfl (HO4.out.below bel1) (RowAt.lit rfl) (by intro u hu; simp at hu; subst hu; rfl) (by unfold maxLen; omega) (by omega) ?_); intro C' cb' S' w5 hO5 hS5 hC5)
      go_roundw
      case rel =>
        have z6 := hC5.size
        simp at z6
        refine ⟨j, C', nb + 1, cb', S', but ++ [x], k2, by omega, by go_num, rfl, by omega, by omega, Lib.hid (by rw [← ints_snoc]; exact hO5), Lib.hid ?_, ?_, Lib.hid ?_⟩
        · intro g hg
          rcases hS5 g hg with h | h
          · exact HS.out g h
          · simp at h; omega
        · refine (HR3.out.below bel1).keep hC5.size fun b hlt hb => hC5.block b hlt fun hbs => ?_
          have h3 := HS.out b hbs
          rcases hb with rfl | ⟨hm, off, hA⟩
          · omega
          · have := HR3.out.old hm hA
            have := HAO.out b off hm hA
            omega
        · exact (HC4.out.alloc _).own hC5 HS.out
      case measure => simp [intOf] <;> omega
    · obtain rfl : k = 0 := by omega
      go_wp2_with fail
      have z5 := HC.out.size
      have hpq : w.heap.size + 1 ≠ w.heap.size := by omega
      have HQR : Hid (wr.heap[w.heap.size]? = _) := Lib.hid ((HC.out.block _ (by omega) (by simp)).trans HQ3.out)
      have HBR : Hid (wr.heap[w2.heap.size]? = _) := Lib.hid ((HC.out.block _ (by omega) (by simp; omega)).trans HBX.out)
      have HBB : Hid (Below w.heap.size w wr) := Lib.hid (HB4.out.trans (HC.out.below (fun k _ hk => by simp at hk; omega) HB4.out.size))
      have HIN : Hid (SpIn wr (w.heap.size + 1) w.heap.size A1 n1 c1 B1 m1 d1 xs zs2) := Lib.hid ⟨HI1.out.keep fun b off hA hlt => HC.out.block b hlt (by have := HE1.out b off hA; simp; omega), HI2.out.keep fun b off hA hlt => HC.out.block b hlt (by have := HE2.out b off hA; simp; omega), HG1.out, HG2.out, l1, l2, fun b off hA => by have := HE1.out b off hA; omega, fun b off hA => by have := HE2.out b off hA; omega⟩
      have HOI : Hid (IntsAt wr C nb but) := Lib.hid (HO.out.ints (by omega))
      have HON : Hid (∀ b off, 0 < nb → C = some ⟨b, off, none⟩ → w3.heap.size ≤ b) := Lib.hid (fun b off hn hC => by
        rcases HO.out.1 with ⟨_, h, _⟩ | ⟨g, cur, hS1, hC1, _⟩
        · omega
        · rw [hC] at hC1
          injection hC1 with e; injection e with e1
          subst e1
          exact HS.out b (by rw [hS1]; simp))
      have hzr : w.heap.size < wr.heap.size := by omega
      have hbr : w2.heap.size < wr.heap.size := by omega
      have HRD := Lib.hid hrd
      clear hrd HO HC HQ3 HBX HB4 HI1 HI2 HS
      have Sr : ∀ a, Goes (w.heap.size + 1) w.heap.size a a := fun a => Goes.refl _ _ a
      apply wp_region_rgb (Goes (w.heap.size + 1) w.heap.size) (fun w' k => ∃ k0, k0 ≤ k + 500 ∧ Rd w' (w.heap.size + 1) A m c' ys k0) [0, 0, 2, 0, 0, 0, 0] (by kernel_rfl) (false :: false :: false :: true :: true :: false :: false :: false :: false :: false :: false :: false :: false :: false :: false :: false :: false :: false :: false :: false :: false :: false :: false :: false :: false :: true :: true :: true :: true :: []) [some 25, some 26, some 27, some 28, none, some 3, some 4] [[], [], [1], [], [0], [2], [3]] [BStP.is _, BStP.is _, intStP (w.heap.size + 1) w.heap.size, BStP.is _, storedStP (w.heap.size + 1) w.heap.size, intStP (w.heap.size + 1) w.heap.size, BStP.is _] (by kernel_rfl)
      case hobs =>
        refine ⟨fun y w' k hS hj hk hF K hK => ?_, ?_⟩
        · skip -- 0: load
          simp only [fillL, cond_true, cond_false, List.getD_cons_zero, List.getD_cons_succ, StP.is, Act.put, List.setIfInBounds_toArray, List.set_cons_zero, List.set_cons_succ, Nat.reduceAdd, BStP.is, Option.isSome_some, Option.isSome_none] at hK ⊢
          simp only [List.sum_cons, List.sum_nil, List.getD_cons_zero, List.getD_cons_succ, Nat.reduceAdd, Nat.add_zero] at hk
          refine rg_yes (by kernel_rfl) ?_
          clear hF
          have hbw := (hS.1.block _ hbr (by simp; omega)).trans HBR.out
          have t0 : w'.cell? ⟨w2.heap.size, 0, none⟩ = some (.slice A1 n1 c1) := cell_of_row _ _ 0 _ _ (0, 0) hbw
          have t1 : w'.cell? ⟨w2.heap.size, 1, none⟩ = some (.slice B1 m1 d1) := cell_of_row _ _ 1 _ _ (0, 0) hbw
          clear hbw
          go_simp
          exact hK _ _ (Sr _) (by simpa using hj) rfl
        refine ⟨fun y w' k hS hj hk hF K hK => ?_, ?_⟩
        · skip -- 1: move
          simp only [fillL, cond_true, cond_false, List.getD_cons_zero, List.getD_cons_succ, StP.is, Act.put, List.setIfInBounds_toArray, List.set_cons_zero, List.set_cons_succ, Nat.reduceAdd, BStP.is, Option.isSome_some, Option.isSome_none] at hK ⊢
          simp only [List.sum_cons, List.sum_nil, List.getD_cons_zero, List.getD_cons_succ, Nat.reduceAdd, Nat.add_zero] at hk
          refine rg_yes (by kernel_rfl) ?_
          clear hF
          go_simp
          exact hK _ _ (Sr _) (by simpa using hj) rfl
        refine ⟨fun y w' k hS hj hk hF K hK => ?_, ?_⟩
        · skip -- 2: call
          have e26 : y 26 = _ := hF.1
          simp only [fillL, cond_true, cond_false, List.getD_cons_zero, List.getD_cons_succ, StP.is, Act.put, List.setIfInBounds_toArray, List.set_cons_zero, List.set_cons_succ, Nat.reduceAdd, e26, BStP.is, Option.isSome_some, Option.isSome_none] at hK ⊢
          simp only [List.sum_cons, List.sum_nil, List.getD_cons_zero, List.getD_cons_succ, Nat.reduceAdd, Nat.add_zero] at hk
          refine rg_yes (by kernel_rfl) ?_
          clear e26
          clear hF
          obtain ⟨k0, hk0, hrd⟩ := hj
          go_simp
          go_at_call 47
          refine (l91Row_any w' _ A m c' ys k0 hrd (by omega)).mono ?_
          rintro e w'' ⟨x, k2, rfl, hk2, hr3, hc3⟩
          exact hK _ _ (Goes.of hc3 (Nat.lt_of_lt_of_le hzr hS.1.size) hpq) ⟨k2, by omega, hr3⟩ ⟨x, rfl⟩
        refine ⟨fun y w' k hS hj hk hF K hK => ?_, ?_⟩
        · skip -- 3: move
          simp only [fillL, cond_true, cond_false, List.getD_cons_zero, List.getD_cons_succ, StP.is, Act.put, List.setIfInBounds_toArray, List.set_cons_zero, List.set_cons_succ, Nat.reduceAdd, BStP.is, Option.isSome_some, Option.isSome_none] at hK ⊢
          simp only [List.sum_cons, List.sum_nil, List.getD_cons_zero, List.getD_cons_succ, Nat.reduceAdd, Nat.add_zero] at hk
          refine rg_yes (by kernel_rfl) ?_
          clear hF
          go_simp
          exact hK _ _ (Sr _) (by simpa using hj) rfl
        refine ⟨fun y w' k hS hj hk hF K hK => ?_, ?_⟩
        · skip -- 4: store
          have e25 : y 25 = _ := hF.1
          simp only [fillL, cond_true, cond_false, List.getD_cons_zero, List.getD_cons_succ, StP.is, Act.put, List.setIfInBounds_toArray, List.set_cons_zero, List.set_cons_succ, Nat.reduceAdd, e25, BStP.is, Option.isSome_some, Option.isSome_none] at hK ⊢
          simp only [List.sum_cons, List.sum_nil, List.getD_cons_zero, List.getD_cons_succ, Nat.reduceAdd, Nat.add_zero] at hk
          refine rg_yes (by kernel_rfl) ?_
          clear e25
          clear hF
          obtain ⟨a, b, hsh⟩ := hS.2.1 ⟨_, _, HQR.out⟩
          have t0 : w'.cell? ⟨w.heap.size, 0, none⟩ = some a := cell_of_row _ _ 0 _ _ (0, 0) hsh
          have t1 : w'.cell? ⟨w.heap.size, 1, none⟩ = some b := cell_of_row _ _ 1 _ _ (0, 0) hsh
          have f0 : w'.frozen? ⟨w.heap.size, 0, none⟩ = false := by simp [World.frozen?, hsh]
          have f1 : w'.frozen? ⟨w.heap.size, 1, none⟩ = false := by simp [World.frozen?, hsh]
          have hst : ((w'.setCell ⟨w.heap.size, 0, none⟩ (.slice A1 n1 c1)).setCell ⟨w.heap.size, 1, none⟩ (.slice B1 m1 d1)).heap[w.heap.size]? = some (.cells #[.slice A1 n1 c1, .slice B1 m1 d1] 25 (0, 0)) := by simp [World.setCell, Array.getElem?_modify, hsh]
          have hch : Chg (· ∈ [w.heap.size + 1, w.heap.size]) w' ((w'.setCell ⟨w.heap.size, 0, none⟩ (.slice A1 n1 c1)).setCell ⟨w.heap.size, 1, none⟩ (.slice B1 m1 d1)) := ((Chg.refl _ _).setCell (.inl (by simp)) _).setCell (.inl (by simp)) _
          obtain ⟨k0, hk0, hrd⟩ := hj
          have hrd2 := Rd.keep (w' := (w'.setCell ⟨w.heap.size, 0, none⟩ (.slice A1 n1 c1)).setCell ⟨w.heap.size, 1, none⟩ (.slice B1 m1 d1)) hrd hch.size (fun b hlt hh => have hne : b ≠ w.heap.size := (by rcases hh with rfl | ⟨hm, off, hA⟩; (exact hpq); exact HAQ.out b off hm hA); (Below.heap_setCell _ ⟨w.heap.size, 1, none⟩ _ b hne).trans (Below.heap_setCell _ ⟨w.heap.size, 0, none⟩ _ b hne))
          have hin := HIN.out.keep hS.1
          have HH := Lib.hid (And.intro hst hch); have HRD2 := Lib.hid hrd2; have HIN2 := Lib.hid hin; clear hst hch hrd hrd2 hsh hin
          go_simp
          exact hK undef _ ⟨HH.out.2, fun _ => ⟨_, _, HH.out.1⟩, fun _ => ⟨_, _, _, _, _, _, _, _, HH.out.1, HIN2.out.keep HH.out.2⟩⟩ ⟨k0, by simpa using hk0, HRD2.out⟩ ⟨_, _, _, _, _, _, _, _, HH.out.1, HIN2.out.keep HH.out.2⟩
        refine ⟨fun y w' k hS hj hk hF K hK => ?_, ?_⟩
        · skip -- 5: assign
          obtain ⟨xe27, e27⟩ := hF.1
          simp only [fillL, cond_true, cond_false, List.getD_cons_zero, List.getD_cons_succ, StP.is, Act.put, List.setIfInBounds_toArray, List.set_cons_zero, List.set_cons_succ, Nat.reduceAdd, e27, BStP.is, Option.isSome_some, Option.isSome_none] at hK ⊢
          simp only [List.sum_cons, List.sum_nil, List.getD_cons_zero, List.getD_cons_succ, Nat.reduceAdd, Nat.add_zero] at hk
          refine rg_yes (by kernel_rfl) ?_
          clear e27
          clear hF
          go_simp
          exact hK _ _ (Sr _) (by simpa using hj) ⟨_, rfl⟩
        refine ⟨fun y w' k hS hj hk hF K hK => ?_, ?_⟩
        · skip -- 6: assign
          have e28 : y 28 = _ := hF.1
          simp only [fillL, cond_true, cond_false, List.getD_cons_zero, List.getD_cons_succ, StP.is, Act.put, List.setIfInBounds_toArray, List.set_cons_zero, List.set_cons_succ, Nat.reduceAdd, e28, BStP.is, Option.isSome_some, Option.isSome_none] at hK ⊢
          simp only [List.sum_cons, List.sum_nil, List.getD_cons_zero, List.getD_cons_succ, Nat.reduceAdd, Nat.add_zero] at hk
          refine rg_yes (by kernel_rfl) ?_
          clear e28
          clear hF
          go_simp
          exact hK _ _ (Sr _) (by simpa using hj) rfl
        trivial
      case hSr => exact Sr
      case hSt => exact fun a b => Goes.trans a b
      case hJ => exact fun _ _ _ h ⟨k0, h0, hr⟩ => ⟨k0, Nat.le_trans h0 (Nat.add_le_add_right h _), hr⟩
      case hdrew => exact Goes.of (Chg.of_below (Below.drew (Below.refl _ _)) _) hzr hpq
      case hj0 => exact ⟨rp, by omega, HRD.out⟩
      case hend =>
        intro y w5 hS hj hF
        obtain ⟨A1, n1, c1, B1, m1, d1, xs, zs2, hst, hin⟩ := hF.2.2.2.2.1
        obtain ⟨x, e3⟩ := hF.2.2.2.2.2.1
        have e4 : y 4 = _ := hF.2.2.2.2.2.2.1
        clear hF hj
        simp only [fillL, cond_true, cond_false, Nat.reduceAdd, e3, e4]
        clear e3 e4
        have c0 : w5.cell? ⟨w.heap.size, 0, none⟩ = some (.slice A1 n1 c1) := cell_of_row _ _ 0 _ _ (0, 0) hst
        have c1_ : w5.cell? ⟨w.heap.size, 1, none⟩ = some (.slice B1 m1 d1) := cell_of_row _ _ 1 _ _ (0, 0) hst
        have hbel : Below w.heap.size w w5 := HBB.out.trans (hS.1.below (fun k _ hk => by simp at hk; omega) HBB.out.size)
        have hC5 : IntsAt w5 C nb but := by
          rcases Nat.eq_zero_or_pos nb with h0 | h0
          · subst h0
            exact ⟨HOI.out.len, Nat.zero_le _, fun h => absurd h (by omega)⟩
          · exact HOI.out.keep fun b off hC hlt => hS.1.block b hlt (by have := HON.out b off h0 hC; simp; omega)
        obtain ⟨i1, i2, i3, i4, i5, i6, _, _⟩ := hin
        clear hS hst
        go_wp2_with fail
        exact bodyPost_ret (v := .tuple #[.agg #[.slice A1 n1 c1, .slice B1 m1 d1], .int .i64 x, .slice C nb cb]) (by simp [results, Try.results36, go_sem, c0, c1_]) rfl ⟨_, _, _, _, _, _, _, _, _, _, _, _, _, rfl, i1, i2, ⟨i3, i4, i5, i6⟩, hC5, hbel⟩
end Go.Proofs.Ytbfdbkidmakapaa
