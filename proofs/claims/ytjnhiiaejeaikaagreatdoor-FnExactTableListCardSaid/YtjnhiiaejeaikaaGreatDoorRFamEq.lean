/- eq at each type: equal data are told equal. No condition. -/
import Derived.Test.YtjnhiiaejeaikaaGreatDoorRTableOk
import Derived.Test.YtjnhiiaejeaikaaGreatDoorRTableOkS
import Derived.Test.YtjnhiiaejeaikaaGreatDoorRTypes
import Derived.Test.YtjnhiiaejeaikaaGreatDoorChecked
set_option linter.unnecessarySimpa false
set_option linter.unusedSimpArgs false
set_option linter.unusedVariables false
namespace Go.Proofs.YtjnhiiaejeaikaaGreatDoor
open Go.RowKit
end Go.Proofs.YtjnhiiaejeaikaaGreatDoor
namespace Go.Proofs.YtjnhiiaejeaikaaGreatDoor
open Go Go.Lib Go.RowKit
end Go.Proofs.YtjnhiiaejeaikaaGreatDoor
namespace Go.Proofs.YtjnhiiaejeaikaaGreatDoor
open Go Go.Lib Go.RowKit
theorem tableF_rows {x : StoreD} {a b s m l d n : Int} {L : List (Option NodeD)} (h : tableF x ((a, b, s, m, l), d, n) = some L) : ∃ (dn nn : Nat) (ls : List PtrD), d = (dn : Int) ∧ n = (nn : Int) ∧ TreeV x a b s m l dn nn ls ∧ L.length = nn ∧ nn ≤ 16 ∧ ∀ j p, j < nn → ls[j]? = some p → L[j]? = some (nodeP x p) ∧ rowN x p = true := by
 obtain ⟨ls, hT, hL, hrow, hlen, h16⟩ := tableF_some h
 obtain ⟨dn, nn, rfl, rfl, hv⟩ := TreeV.of hT
 simp only [Int.toNat_natCast] at hL hrow hlen
 refine ⟨dn, nn, ls, rfl, rfl, hv, hlen, by omega, fun j p hj hp => ?_⟩
 have ht : (ls.take nn)[j]? = some p := by rw [List.getElem?_take, if_pos hj]; exact hp
 exact ⟨by rw [hL, List.getElem?_map, ht]; rfl, hrow p (List.mem_of_getElem? ht)⟩
theorem tableG_ok {x : StoreD} {t : TreeD} {L : List (Option NodeD)} (h : tableG x t = some L) : storeOk x = true ∧ tableF x t = some L := by
 unfold tableG at h
 split at h
 · exact ⟨by assumption, h⟩
 cases h
end Go.Proofs.YtjnhiiaejeaikaaGreatDoor
namespace Go.Proofs.YtjnhiiaejeaikaaGreatDoor
open Go.RowKit
set_option maxHeartbeats 1000000 in
theorem eqPtr_yes (cs cs' : List Value) (x : PtrD) (w : World) (lo hi lo' hi' : Nat) (h : PtrR w lo hi cs x) (h' : PtrR w lo' hi' cs' x) :
 Calls Tryz.prog 52 #[.agg cs.toArray, .agg cs'.toArray] w fun e w' => e = .returned (.bool true) ∧ Below w.heap.size w w' := by
 obtain ⟨at_, birth_, size_, sum_, level_⟩ := x
 obtain rfl := h
 obtain rfl := h'
 show Calls Tryz.prog 52 #[.agg #[.int .i64 at_, .int .i64 birth_, .int .i64 size_, .int .i64 sum_, .int .i64 level_], .agg #[.int .i64 at_, .int .i64 birth_, .int .i64 size_, .int .i64 sum_, .int .i64 level_]] w _
 go_enter Tryz.func52, Tryz.ntmps52
 go_wp2_with fail
 go_ret
 exact ⟨rfl, bel2⟩
set_option maxRecDepth 100000 in
set_option maxHeartbeats 2000000 in
theorem eqPtrS_yes (A B : Option Addr) (n c m d : Nat) (xs : List PtrD) (w : World) (lo hi lo' hi' : Nat) (h : SliceR PtrR 5 w lo hi A n c xs) (h' : SliceR PtrR 5 w lo' hi' B m d xs) :
 Calls Tryz.prog 35 #[.slice A n c, .slice B m d] w fun e w' => e = .returned (.bool true) ∧ Below w.heap.size w w' := by
 obtain rfl : m = n := by have := h.len; have := h'.len; omega
 have hn := h.max
 have hl := Lib.hid h.len
 have H := Lib.hid h
 have H' := Lib.hid h'
 clear h h'
 go_enter Tryz.func35, Tryz.ntmps35
 go_wp2_with fail
 go_loopw [5] (fun i wr => ∃ k : Nat, k ≤ m ∧ i = .int .i64 k ∧ Below w.heap.size w wr) (fun i _ => m - (intOf i).toNat)
 case atStart => exact ⟨0, Nat.zero_le _, rfl, Below.refl _ _⟩
 obtain ⟨k, hk, rfl, hB⟩ := hrel
 by_cases hlt : k < m
 · obtain ⟨x, hx⟩ : ∃ x, xs[k]? = some x := ⟨xs[k]'(by rw [hl.out]; exact hlt), List.getElem?_eq_getElem _⟩
   have g := SliceR.below H.out hB (PtrR.below hB H.out.lo_le)
   have g' := SliceR.below H'.out hB (PtrR.below hB H'.out.lo_le)
   obtain ⟨b, off, rfl, _, _, bl, hc⟩ := g.at_ (by omega)
   obtain ⟨b', off', rfl, _, _, bl', hc'⟩ := g'.at_ (by omega)
   obtain ⟨cs, hcl, hcc, hr⟩ := hc k x hx
   obtain ⟨cs', hcl', hcc', hr'⟩ := hc' k x hx
   clear hc hc' hx g g'
   have G := Lib.hid hr
   have G' := Lib.hid hr'
   obtain ⟨v0, v1, v2, v3, v4, rfl⟩ := list5 hcl
   obtain ⟨u0, u1, u2, u3, u4, rfl⟩ := list5 hcl'
   have q0 := hcc 0 _ rfl
   have r0 := hcc' 0 _ rfl
   have q1 := hcc 1 _ rfl
   have r1 := hcc' 1 _ rfl
   have q2 := hcc 2 _ rfl
   have r2 := hcc' 2 _ rfl
   have q3 := hcc 3 _ rfl
   have r3 := hcc' 3 _ rfl
   have q4 := hcc 4 _ rfl
   have r4 := hcc' 4 _ rfl
   simp only [Nat.add_zero] at q0 r0
   clear hcc hcc' hcl hcl' hr hr'
   have hhi := H.out.lo_le
   have hhi' := H'.out.lo_le
   have hi1 : hi ≤ wr.heap.size := Nat.le_trans hhi hB.size
   have hi2 : hi' ≤ wr.heap.size := Nat.le_trans hhi' hB.size
   clear hhi hhi'
   have k0 : (0 : Int) ≤ (k : Int) := by omega
   have k1 : (k : Int) < (m : Int) := by omega
   go_wp2_with fail
   apply wp_region_rg (by kernel_rfl) [false, false, false, false, false, false, false, false, false, false, false, false, false, false, false, false, false, true, true, true, true, true, true, true, true, true, true] [some 17, some 18, some 19, some 20, some 21, some 22, some 23, some 24, some 25, some 26] [[], [], [0, 1], [2], [], [], [4, 5], [6], [3, 7], [8]] [.is _, .is _, .is _, .is _, .is _, .is _, .is _, .is _, .is _, .is _] (by kernel_rfl)
   case hobs =>
    refine ⟨fun y w' hS hF K hK => ?_, ?_⟩
    · skip
      simp only [fillL, cond_true, cond_false, zG0, zG1, StP.is, Act.put, zS2, zS0, zS1, Nat.reduceAdd] at hK ⊢
      refine rg_yes (by kernel_rfl) ?_
      clear hF
      go_simp
      exact hK _ _ (Ext.refl _) rfl
    refine ⟨fun y w' hS hF K hK => ?_, ?_⟩
    · skip
      simp only [fillL, cond_true, cond_false, zG0, zG1, StP.is, Act.put, zS2, zS0, zS1, Nat.reduceAdd] at hK ⊢
      refine rg_yes (by kernel_rfl) ?_
      clear hF
      go_simp
      exact hK _ _ (Ext.refl _) rfl
    refine ⟨fun y w' hS hF K hK => ?_, ?_⟩
    · skip
      have e17 : y 17 = _ := hF.1
      have e18 : y 18 = _ := hF.2.1
      simp only [fillL, cond_true, cond_false, zG0, zG1, StP.is, Act.put, zS2, zS0, zS1, Nat.reduceAdd, e17, e18] at hK ⊢
      refine rg_yes (by kernel_rfl) ?_
      clear e17 e18
      clear hF
      go_simp
      exact hK _ _ (Ext.refl _) rfl
    refine ⟨fun y w' hS hF K hK => ?_, ?_⟩
    · skip
      have e19 : y 19 = _ := hF.1
      simp only [fillL, cond_true, cond_false, zG0, zG1, StP.is, Act.put, zS2, zS0, zS1, Nat.reduceAdd, e19] at hK ⊢
      refine rg_yes (by kernel_rfl) ?_
      have q0 := (Below.cell hS bl).trans q0
      have q1 := (Below.cell hS bl).trans q1
      have q2 := (Below.cell hS bl).trans q2
      have q3 := (Below.cell hS bl).trans q3
      have q4 := (Below.cell hS bl).trans q4
      have q5 := (Below.cell hS bl').trans r0
      have q6 := (Below.cell hS bl').trans r1
      have q7 := (Below.cell hS bl').trans r2
      have q8 := (Below.cell hS bl').trans r3
      have q9 := (Below.cell hS bl').trans r4
      clear e19
      clear hF
      go_simp
      exact hK _ _ (Ext.refl _) rfl
    refine ⟨fun y w' hS hF K hK => ?_, ?_⟩
    · skip
      simp only [fillL, cond_true, cond_false, zG0, zG1, StP.is, Act.put, zS2, zS0, zS1, Nat.reduceAdd] at hK ⊢
      refine rg_yes (by kernel_rfl) ?_
      clear hF
      go_simp
      exact hK _ _ (Ext.refl _) rfl
    refine ⟨fun y w' hS hF K hK => ?_, ?_⟩
    · skip
      simp only [fillL, cond_true, cond_false, zG0, zG1, StP.is, Act.put, zS2, zS0, zS1, Nat.reduceAdd] at hK ⊢
      refine rg_yes (by kernel_rfl) ?_
      clear hF
      go_simp
      exact hK _ _ (Ext.refl _) rfl
    refine ⟨fun y w' hS hF K hK => ?_, ?_⟩
    · skip
      have e21 : y 21 = _ := hF.1
      have e22 : y 22 = _ := hF.2.1
      simp only [fillL, cond_true, cond_false, zG0, zG1, StP.is, Act.put, zS2, zS0, zS1, Nat.reduceAdd, e21, e22] at hK ⊢
      refine rg_yes (by kernel_rfl) ?_
      clear e21 e22
      clear hF
      go_simp
      exact hK _ _ (Ext.refl _) rfl
    refine ⟨fun y w' hS hF K hK => ?_, ?_⟩
    · skip
      have e23 : y 23 = _ := hF.1
      simp only [fillL, cond_true, cond_false, zG0, zG1, StP.is, Act.put, zS2, zS0, zS1, Nat.reduceAdd, e23] at hK ⊢
      refine rg_yes (by kernel_rfl) ?_
      have q0 := (Below.cell hS bl).trans q0
      have q1 := (Below.cell hS bl).trans q1
      have q2 := (Below.cell hS bl).trans q2
      have q3 := (Below.cell hS bl).trans q3
      have q4 := (Below.cell hS bl).trans q4
      have q5 := (Below.cell hS bl').trans r0
      have q6 := (Below.cell hS bl').trans r1
      have q7 := (Below.cell hS bl').trans r2
      have q8 := (Below.cell hS bl').trans r3
      have q9 := (Below.cell hS bl').trans r4
      clear e23
      clear hF
      go_simp
      exact hK _ _ (Ext.refl _) rfl
    refine ⟨fun y w' hS hF K hK => ?_, ?_⟩
    · skip
      have e20 : y 20 = _ := hF.1
      have e24 : y 24 = _ := hF.2.1
      simp only [fillL, cond_true, cond_false, zG0, zG1, StP.is, Act.put, zS2, zS0, zS1, Nat.reduceAdd, e20, e24] at hK ⊢
      refine rg_yes (by kernel_rfl) ?_
      clear e20 e24
      clear hF
      go_simp
      go_at_call 52
      refine (eqPtr_yes _ _ x _ _ _ _ _ (PtrR.below hS hi1 _ _ G.out) (PtrR.below hS hi2 _ _ G'.out)).mono ?_
      rintro e w'' ⟨rfl, hb⟩
      exact hK _ _ hb rfl
    refine ⟨fun y w' hS hF K hK => ?_, ?_⟩
    · skip
      have e25 : y 25 = _ := hF.1
      simp only [fillL, cond_true, cond_false, zG0, zG1, StP.is, Act.put, zS2, zS0, zS1, Nat.reduceAdd, e25] at hK ⊢
      refine rg_yes (by kernel_rfl) ?_
      clear e25
      clear hF
      go_simp
      exact hK _ _ (Ext.refl _) rfl
    trivial
   intro y w2 hX hF
   have e26 : y 26 = _ := hF.2.2.2.2.2.2.2.2.2.1
   clear hF
   simp only [fillL, cond_true, cond_false, Nat.reduceAdd, e26]
   clear e26
   have hB2 : Below w.heap.size w w2 := hB.trans (Below.mono hX hB.size)
   clear hX hB
   go_wp2_with fail
   go_roundw
   case rel => exact ⟨k + 1, by omega, by go_num, hB2⟩
   simp [intOf]; omega
 go_wp2_with fail
 go_ret
 exact ⟨rfl, hB⟩
end Go.Proofs.YtjnhiiaejeaikaaGreatDoor
