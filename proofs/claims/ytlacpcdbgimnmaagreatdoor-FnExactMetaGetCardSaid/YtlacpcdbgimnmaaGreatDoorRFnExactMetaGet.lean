/- FnExactMetaGet: the walk. Condition: the library's variables lie as the row says. -/
import Derived.Test.YtlacpcdbgimnmaaGreatDoorRMarkMeta
import Derived.Test.YtlacpcdbgimnmaaGreatDoorRSpMetaGet
import Derived.Test.YtlacpcdbgimnmaaGreatDoorRFamEq
set_option linter.unnecessarySimpa false
set_option linter.unusedSimpArgs false
set_option linter.unusedVariables false
namespace Go.Proofs.YtlacpcdbgimnmaaGreatDoor
open Go.RowKit
theorem ArrW.keep {o : Nat → Nat} {T : TypeId} {sz dp lb G : Nat} {w w' : World} {lo hi : Nat} {A : Option Addr} {n c : Nat} {ns : List Nat} (h : ArrW o T sz dp lb G w lo hi A n c ns) (hk : ∀ b, b < w.heap.size → (o b = G ∨ (lb ≤ o b ∧ o b < lb + ns.length)) → w'.heap[b]? = w.heap[b]?) : ArrW o T sz dp lb G w' lo hi A n c ns := by
 refine ⟨h.1, fun hn => ?_⟩
 obtain ⟨g, cur, rfl, h1, h2, h3, h4, h5, h6, h7, h8⟩ := h.2 hn
 refine ⟨g, cur, rfl, h1, h2, h3, (hk g (Array.getElem?_eq_some_iff.1 h4).1 (.inl h3)).trans h4, h5, h6, h7, fun l m hl => (h8 l m hl).keep rfl (fun b hb hob => hk b hb (.inr ?_))⟩
 have := (List.getElem?_eq_some_iff.1 hl).1
 omega
theorem ArrW.below {o : Nat → Nat} {T : TypeId} {sz dp lb G : Nat} {w w' : World} {lo hi : Nat} {A : Option Addr} {n c : Nat} {ns : List Nat} (h : ArrW o T sz dp lb G w lo hi A n c ns) (hb : Below w.heap.size w w') : ArrW o T sz dp lb G w' lo hi A n c ns := h.keep (fun b hlt _ => hb.block b hlt)
theorem nsum_le {sc M : Nat} : ∀ {ns : List Nat}, (∀ m ∈ ns, m ≤ M) → ∀ j, nsum sc ns j ≤ ns.length * (sc + M * 5)
 | [], _, j => by simp [nsum]
 | m :: ns, h, 0 => by simp [nsum]
 | m :: ns, h, j + 1 => by
   have ih := nsum_le (sc := sc) (M := M) (ns := ns) (fun x hx => h x (List.mem_cons_of_mem _ hx)) j
   have h0 := h m (by simp)
   unfold nsum at ih ⊢
   simp only [List.take_succ_cons, List.map_cons, List.sum_cons, List.length_cons]
   rw [Nat.add_mul, Nat.one_mul]
   omega
def MarkedM (o : Nat → Nat) (w : World) (k : Int) (A0 : Option Addr) (n0 : Nat) (ns0 : List Nat) (A1 : Option Addr) (n1 : Nat) (ns1 : List Nat) : Prop := MarkedL headM 11 10 9 o 46 0 200 w k A0 n0 ns0 ∧ MarkedL snapM 12 11 11 o 44 100 201 w (k + nsum 10 ns0 n0) A1 n1 ns1
theorem MarkedM.below {o : Nat → Nat} {w w' : World} {k : Int} {A0 A1 : Option Addr} {n0 n1 : Nat} {ns0 ns1 : List Nat} (h : MarkedM o w k A0 n0 ns0 A1 n1 ns1) (hb : Below w.heap.size w w') : MarkedM o w' k A0 n0 ns0 A1 n1 ns1 := ⟨h.1.below headM_len hb, h.2.below snapM_len hb⟩
set_option maxRecDepth 100000 in
set_option maxHeartbeats 4000000 in
theorem markMeta_any (o : Nat → Nat) (A0 : Option Addr) (n0 c0 : Nat) (ns0 : List Nat) (A1 : Option Addr) (n1 c1 : Nat) (ns1 : List Nat) (nx : Int) (bo : Bool) (k : Int) (w : World) (lo hi : Nat) (h0 : ArrW o 46 11 9 0 200 w lo hi A0 n0 c0 ns0) (h1 : ArrW o 44 12 11 100 201 w lo hi A1 n1 c1 ns1) (hhi : hi ≤ w.heap.size) (b0 : n0 ≤ 100) (b1 : n1 ≤ 100) (hk : 0 ≤ k) (hl : k + nsum 10 ns0 n0 + nsum 11 ns1 n1 ≤ 1099511627776) :
 Calls Tryz.prog 7 #[.agg #[.slice A0 n0 c0, .slice A1 n1 c1, .int .i64 nx, .bool bo], .int .i64 k] w fun e w' => e = .returned (.int .i64 (k + nsum 10 ns0 n0 + nsum 11 ns1 n1)) ∧ MarkedM o w' k A0 n0 ns0 A1 n1 ns1 ∧ Chg (fun b => lo ≤ b ∧ b < hi) w w' := by
 have l0 : ns0.length = n0 := h0.1
 have l1 : ns1.length = n1 := h1.1
 have H0 := Lib.hid (h0.below (bel1 (o := .cells #[.slice A0 n0 c0, .slice A1 n1 c1, .int .i64 nx, .bool bo] 25))); have H1 := Lib.hid (h1.below (bel1 (o := .cells #[.slice A0 n0 c0, .slice A1 n1 c1, .int .i64 nx, .bool bo] 25)))
 have HL0 := Lib.hid l0; have HL1 := Lib.hid l1
 clear h0 h1 l0 l1
 go_enter Tryz.func7, Tryz.ntmps7
 go_wp2_with fail
 refine (markHeadS_any o A0 n0 c0 ns0 k _ lo hi H0.out b0 hk (by omega)).mono ?_
 rintro e w1 ⟨rfl, m0, hc⟩
 have eb : w1.heap[w.heap.size]? = some (.cells #[.slice A0 n0 c0, .slice A1 n1 c1, .int .i64 nx, .bool bo] 25 (0, 0)) := (hc.block _ (by simp) (fun hb => by have := hb.2.1; omega)).trans (heap_alloc_new _ _)
 have H11 := Lib.hid (H1.out.keep (fun b hb hob => hc.block b hb (fun h => by have := h.2.2; have := HL0.out; have := HL1.out; omega)))
 have X1 : Hid (Chg (fun b => lo ≤ b ∧ b < hi) w w1) := Lib.hid (((Chg.refl _ _).alloc _).trans (hc.mono (fun b _ h => ⟨h.1, h.2.1⟩)))
 have M0 := Lib.hid m0
 have r0 := celR 0 eb; have r1 := celR 1 eb
 have EB := Lib.hid eb
 clear eb hc m0
 obtain ⟨t0, ht0⟩ : ∃ t, t = k + (nsum 10 ns0 n0 : Int) := ⟨_, rfl⟩
 have hk0 : 0 ≤ t0 := by rw [ht0]; omega
 rw [← ht0] at hl ⊢
 have HT0 := Lib.hid ht0; clear ht0
 go_wp2_with fail
 refine (markSnapS_any o A1 n1 c1 ns1 t0 _ lo hi H11.out b1 hk0 (by omega)).mono ?_
 rintro e w2 ⟨rfl, m1, hc⟩
 have M1 := Lib.hid m1
 have M02 := Lib.hid (M0.out.keep headM_len hc.size (fun b hb hob => hc.block b hb (fun h => by have := h.2.2; have := HL1.out; omega)))
 have X2 : Hid (Chg (fun b => lo ≤ b ∧ b < hi) w w2) := Lib.hid (X1.out.trans (hc.mono (fun b _ h => ⟨h.1, h.2.1⟩)))
 clear hc m1
 go_wp2_with fail
 go_ret
 exact ⟨ret_int (by have := HT0.out; omega), ⟨M02.out, by rw [← HT0.out]; exact M1.out⟩, X2.out⟩
set_option maxRecDepth 100000 in
set_option maxHeartbeats 4000000 in
theorem heldMeta_any (o : Nat → Nat) (A0 : Option Addr) (n0 c0 : Nat) (ns0 : List Nat) (A1 : Option Addr) (n1 c1 : Nat) (ns1 : List Nat) (nx : Int) (bo : Bool) (k : Int) (w : World) (h : MarkedM o w k A0 n0 ns0 A1 n1 ns1) (b0 : n0 ≤ 100) (b1 : n1 ≤ 100) (hk : 0 ≤ k) (hl : k + nsum 10 ns0 n0 + nsum 11 ns1 n1 ≤ 1099511627776) :
 Calls Tryz.prog 8 #[.agg #[.slice A0 n0 c0, .slice A1 n1 c1, .int .i64 nx, .bool bo], .int .i64 k] w fun e w' => e = .returned (.int .i64 (k + nsum 10 ns0 n0 + nsum 11 ns1 n1)) ∧ Below w.heap.size w w' := by
 have H := Lib.hid (h.below (bel1 (o := .cells #[.slice A0 n0 c0, .slice A1 n1 c1, .int .i64 nx, .bool bo] 25)))
 clear h
 go_enter Tryz.func8, Tryz.ntmps8
 go_wp2_with fail
 refine (heldHeadS_any o A0 n0 c0 ns0 k _ H.out.1 b0 hk (by omega)).mono ?_
 rintro e w1 ⟨rfl, hb1⟩
 have eb : w1.heap[w.heap.size]? = some (.cells #[.slice A0 n0 c0, .slice A1 n1 c1, .int .i64 nx, .bool bo] 25 (0, 0)) := (hb1.block _ (by simp)).trans (heap_alloc_new _ _)
 have M1 := Lib.hid (H.out.2.below snapM_len hb1)
 have X1 : Hid (Below w.heap.size w w1) := Lib.hid (bel1.trans (hb1.mono (by simp)))
 have r0 := celR 0 eb; have r1 := celR 1 eb
 have EB := Lib.hid eb
 clear eb hb1
 obtain ⟨t0, ht0⟩ : ∃ t, t = k + (nsum 10 ns0 n0 : Int) := ⟨_, rfl⟩
 have hk0 : 0 ≤ t0 := by rw [ht0]; omega
 have dk : decide (t0 < 0) = false := by simp; omega
 have dk2 : ¬ (t0 < 0) := by omega
 rw [← ht0] at hl ⊢
 have HT0 := Lib.hid ht0; clear ht0
 go_wp2_with fail
 refine (heldSnapS_any o A1 n1 c1 ns1 t0 _ (by have h_ := M1.out; rwa [← HT0.out] at h_) b1 hk0 (by omega)).mono ?_
 rintro e w2 ⟨rfl, hb2⟩
 have X2 : Hid (Below w.heap.size w w2) := Lib.hid (X1.out.trans (hb2.mono X1.out.size))
 clear hb2
 obtain ⟨t1, ht1⟩ : ∃ t, t = t0 + (nsum 11 ns1 n1 : Int) := ⟨_, rfl⟩
 have dk3 : decide (t1 < 0) = false := by simp; omega
 have dk4 : ¬ (t1 < 0) := by omega
 rw [← ht1]
 have HT1 := Lib.hid ht1; clear ht1
 go_wp2_with fail
 go_ret
 exact ⟨ret_int (by have := HT0.out; have := HT1.out; omega), X2.out⟩
end Go.Proofs.YtlacpcdbgimnmaaGreatDoor
namespace Go.Proofs.YtlacpcdbgimnmaaGreatDoor
open Go Go.Lib Go.RowKit
theorem MetaAt.metaR {B : Nat} {w : World} {A0 A1 : Option Addr} {c0 c1 : Nat} {hs : List HeadD} {ss : List SnapD} {nx : Int} {bo : Bool} (h : MetaAt B w A0 c0 A1 c1 hs ss) : MetaR w B w.heap.size [.slice A0 hs.length c0, .slice A1 ss.length c1, .int .i64 nx, .bool bo] (hs, ss, nx, bo) :=
 ⟨A0, _, c0, A1, _, c1, rfl, h.reads.1, h.reads.2⟩
theorem meta_sum {B : Nat} {w : World} {A0 A1 : Option Addr} {c0 c1 : Nat} {hs : List HeadD} {ss : List SnapD} (h : MetaAt B w A0 c0 A1 c1 hs ss) (h0 : hs.length ≤ 60) (h1 : ss.length ≤ 60) : nsum 10 (hs.map fun x => x.2.2.2.1.length) hs.length ≤ 100000000 ∧ nsum 11 (ss.map fun x => x.2.2.2.2.2.length) ss.length ≤ 100000000 := by
 have hb := h.bds
 constructor
 · refine Nat.le_trans (nsum_le (M := 100001) (fun m hm => ?_) _) ?_
   · obtain ⟨x, hx, rfl⟩ := List.mem_map.1 hm
     exact (hb.1 x hx).2
   rw [List.length_map]
   exact Nat.le_trans (Nat.mul_le_mul_right _ h0) (by decide)
 refine Nat.le_trans (nsum_le (M := 100001) (fun m hm => ?_) _) ?_
 · obtain ⟨x, hx, rfl⟩ := List.mem_map.1 hm
   exact (hb.2 x hx).2
 rw [List.length_map]
 exact Nat.le_trans (Nat.mul_le_mul_right _ h1) (by decide)
set_option maxRecDepth 100000 in
set_option maxHeartbeats 4000000 in
theorem fnExactMetaGet_walk (s : ByteArray) (w : World) (he : Env w) (hs : s.size ≤ maxLen) :
 Calls Tryz.prog 3 #[.string s] w fun e w' => e = .returned (.bool true) ∧ Below w.heap.size w w' := by
 obtain ⟨z, rfl⟩ : ∃ z : Str, s = strB z := ⟨s.data.toList, (strB_data s).symm⟩
 have hl : Hid ((strB z).size = z.length) := Lib.hid rfl
 have HE := Lib.hid he; clear he
 go_enter Tryz.func3, Tryz.ntmps3
 by_cases hb : 1048576 < z.length
 · have h0 : (1048576 : Int) < ((strB z).size : Int) := by rw [hl.out]; omega
   go_wp2_with fail
   go_ret
   exact ⟨rfl, Below.refl _ _⟩
 have h0 : ¬ (1048576 : Int) < ((strB z).size : Int) := by rw [hl.out]; omega
 have h1 : ((strB z).size : Int) ≤ 1048576 := by rw [hl.out]; omega
 clear hs
 go_wp2_with fail
 refine (spMetaGet_any z _ (by omega)).mono ?_
 rintro e w1 ⟨hs, ss, nx, bo, A0, n0, c0, A1, n1, c1, ok, rfl, rfl, rfl, hM1, hI1, hh1, hs1, hb1⟩
 have HI1 := Lib.hid hI1; have HR1 := Lib.hid (hM1.metaR (nx := nx) (bo := bo)); have H1 := Lib.hid hb1
 have HSM := Lib.hid (meta_sum hM1 hh1 hs1)
 have z1 : w.heap.size ≤ w1.heap.size := hb1.size
 clear hI1 hM1 hb1
 have hrr : (ok != ok) = false := by simp
 go_wp2_with fail
 refine (metaGet_any z _ (HE.out.below (Below.alloc H1.out H1.out.size _)) (by omega)).mono ?_
 rintro e w2 ⟨hs', ss', nx', bo', B0, m0, d0, B1, m1, d1, ok', rfl, rfl, rfl, hM2, hI2, _, _, hb2⟩
 obtain ⟨heq, rfl⟩ := HI1.out.one hI2
 obtain ⟨rfl, rfl, rfl, rfl⟩ : hs = hs' ∧ ss = ss' ∧ nx = nx' ∧ bo = bo' := by simpa only [Prod.mk.injEq] using heq
 obtain ⟨o, ha0, ha1⟩ := hM2.arr
 have HA0 := Lib.hid ha0; have HA1 := Lib.hid ha1
 have HR2 := Lib.hid (hM2.metaR (nx := nx) (bo := bo))
 have z2 : w1.heap.size + 1 ≤ w2.heap.size := by have := hb2.size; simpa using this
 obtain ⟨lo, hlo⟩ : ∃ x, x = (w1.alloc (.cells #[.slice A0 hs.length c0, .slice A1 ss.length c1, .int .i64 nx, .bool bo] 25)).heap.size := ⟨_, rfl⟩
 have hlo1 : lo = w1.heap.size + 1 := by rw [hlo]; simp
 rw [← hlo] at HA0 HA1 HR2
 have HR1 := Lib.hid (MetaR.below hb2 (by simp) _ _ (MetaR.below (bel1 (o := .cells #[.slice A0 hs.length c0, .slice A1 ss.length c1, .int .i64 nx, .bool bo] 25)) (Nat.le_refl _) _ _ HR1.out))
 have H2 := Lib.hid ((Below.alloc H1.out H1.out.size _).trans (hb2.mono (by simp; omega)))
 have HBW : Hid (w2.heap[w1.heap.size]? = some (.cells #[.slice A0 hs.length c0, .slice A1 ss.length c1, .int .i64 nx, .bool bo] 25 (0, 0))) := Lib.hid ((hb2.block _ (by simp)).trans (heap_alloc_new _ _))
 have lw : w1.heap.size < w2.heap.size := by omega
 have qw0 := celR 0 HBW.out; have qw1 := celR 1 HBW.out; have qw2 := celR 2 HBW.out; have qw3 := celR 3 HBW.out
 clear hM2 hI2 hb2 ha0 ha1 hlo heq H1
 go_wp2_with fail
 refine (eqMeta_yes _ _ (hs, ss, nx, bo) _ lo w2.heap.size w.heap.size w1.heap.size (MetaR.below bel1 (Nat.le_refl _) _ _ HR2.out) (MetaR.below bel1 (by omega) _ _ HR1.out)).mono ?_
 rintro e w3 ⟨rfl, hb3⟩
 have z3 : w2.heap.size + 1 ≤ w3.heap.size := by have := hb3.size; simpa using this
 have hb23 : Below w2.heap.size w2 w3 := bel1.trans (hb3.mono (by simp))
 have HBG3 : Hid (w3.heap[w2.heap.size]? = some (.cells #[.slice B0 hs.length d0, .slice B1 ss.length d1, .int .i64 nx, .bool bo] 25 (0, 0))) := Lib.hid ((hb3.block _ (by simp)).trans (heap_alloc_new _ _))
 have HBW3 := Lib.hid ((hb23.block _ lw).trans HBW.out)
 have HA0 := Lib.hid (HA0.out.below hb23); have HA1 := Lib.hid (HA1.out.below hb23)
 have HR1 := Lib.hid (MetaR.below hb23 (by omega) _ _ HR1.out)
 have H3 := Lib.hid (H2.out.trans (hb23.mono H2.out.size))
 have qg0 := celR 0 HBG3.out; have qg1 := celR 1 HBG3.out; have qg2 := celR 2 HBG3.out; have qg3 := celR 3 HBG3.out
 have lg3 : w2.heap.size < w3.heap.size := by omega
 clear hb3 hb23 HBW HR2 H2 qw0 qw1 qw2 qw3
 obtain ⟨v0, hv0⟩ : ∃ x, x = nsum 10 (hs.map fun x => x.2.2.2.1.length) hs.length := ⟨_, rfl⟩
 obtain ⟨v1, hv1⟩ : ∃ x, x = nsum 11 (ss.map fun x => x.2.2.2.2.2.length) ss.length := ⟨_, rfl⟩
 have hvb : v0 ≤ 100000000 ∧ v1 ≤ 100000000 := by rw [hv0, hv1]; exact HSM.out
 have HV0 := Lib.hid hv0; have HV1 := Lib.hid hv1; clear hv0 hv1
 obtain ⟨tt, htt⟩ : ∃ x : Int, x = 1 + (v0 : Int) + (v1 : Int) := ⟨_, rfl⟩
 have HTT := Lib.hid htt
 have dk : decide (tt < 0) = false := by simp; omega
 have dk2 : ¬ (tt < 0) := by omega
 have dk3 : (tt != tt) = false := by simp
 clear htt
 go_wp2_with fail
 refine (markMeta_any o B0 hs.length d0 (hs.map fun x => x.2.2.2.1.length) B1 ss.length d1 (ss.map fun x => x.2.2.2.2.2.length) nx bo 1 _ lo w2.heap.size HA0.out HA1.out (by omega) (by omega) (by omega) (by omega) (by rw [← HV0.out, ← HV1.out]; omega)).mono ?_
 rw [← HV0.out, ← HV1.out, ← HTT.out]
 rintro e w4 ⟨rfl, hmk, hc⟩
 have z4 : w3.heap.size ≤ w4.heap.size := hc.size
 have HMK := Lib.hid hmk
 have HBG4 := Lib.hid ((hc.block _ lg3 (fun h => by have := h.2; omega)).trans HBG3.out)
 have HBW4 := Lib.hid ((hc.block _ (by omega) (fun h => by have := h.1; omega)).trans HBW3.out)
 have HR1 := Lib.hid (MetaR.keep (fun b h1 h2 => hc.block b (by omega) (fun h => by have := h.1; omega)) hc.size _ _ HR1.out)
 have H4 := Lib.hid (H3.out.trans (hc.below (fun b _ h => by have := h.1; omega) H3.out.size))
 clear hmk hc HA0 HA1 HBG3 HBW3 H3 qg0 qg1 qg2 qg3
 have qg0 := celR 0 HBG4.out; have qg1 := celR 1 HBG4.out; have qg2 := celR 2 HBG4.out; have qg3 := celR 3 HBG4.out
 have lg4 : w2.heap.size < w4.heap.size := by omega
 go_wp2_with fail
 refine (heldMeta_any o B0 hs.length d0 (hs.map fun x => x.2.2.2.1.length) B1 ss.length d1 (ss.map fun x => x.2.2.2.2.2.length) nx bo 1 _ HMK.out (by omega) (by omega) (by omega) (by rw [← HV0.out, ← HV1.out]; omega)).mono ?_
 rw [← HV0.out, ← HV1.out, ← HTT.out]
 rintro e w5 ⟨rfl, hb5⟩
 have z5 : w4.heap.size ≤ w5.heap.size := hb5.size
 have HMK := Lib.hid (HMK.out.below hb5)
 have HBG5 := Lib.hid ((hb5.block _ lg4).trans HBG4.out); have HBW5 := Lib.hid ((hb5.block _ (by omega)).trans HBW4.out)
 have HR1 := Lib.hid (MetaR.below hb5 (by omega) _ _ HR1.out)
 have H5 := Lib.hid (H4.out.trans (hb5.mono H4.out.size))
 clear hb5 HBG4 HBW4 H4 qg0 qg1 qg2 qg3
 go_wp2_with fail
 refine (metaGet_any z _ (HE.out.below H5.out) (by omega)).mono ?_
 rintro e w6 ⟨hs', ss', nx', bo', E0, k0, f0, E1, k1, f1, ok', rfl, rfl, rfl, hM6, hI6, _, _, hb6⟩
 obtain ⟨heq, rfl⟩ := HI1.out.one hI6
 obtain ⟨rfl, rfl, rfl, rfl⟩ : hs = hs' ∧ ss = ss' ∧ nx = nx' ∧ bo = bo' := by simpa only [Prod.mk.injEq] using heq
 have HR6 := Lib.hid (hM6.metaR (nx := nx) (bo := bo))
 have z6 : w5.heap.size ≤ w6.heap.size := hb6.size
 have HMK := Lib.hid (HMK.out.below hb6)
 have HBG6 := Lib.hid ((hb6.block _ (by omega)).trans HBG5.out); have HBW6 := Lib.hid ((hb6.block _ (by omega)).trans HBW5.out)
 have HR1 := Lib.hid (MetaR.below hb6 (by omega) _ _ HR1.out)
 have H6 := Lib.hid (H5.out.trans (hb6.mono H5.out.size))
 have lw6 : w1.heap.size < w6.heap.size := by omega
 have qw0 := celR 0 HBW6.out; have qw1 := celR 1 HBW6.out; have qw2 := celR 2 HBW6.out; have qw3 := celR 3 HBW6.out
 clear hb6 hM6 hI6 heq HBG5 HBW5 H5
 go_wp2_with fail
 refine (eqMeta_yes _ _ (hs, ss, nx, bo) _ w5.heap.size w6.heap.size w.heap.size w1.heap.size (MetaR.below bel1 (Nat.le_refl _) _ _ HR6.out) (MetaR.below bel1 (by omega) _ _ HR1.out)).mono ?_
 rintro e w7 ⟨rfl, hb7⟩
 have z7 : w6.heap.size + 1 ≤ w7.heap.size := by have := hb7.size; simpa using this
 have hb67 : Below w6.heap.size w6 w7 := bel1.trans (hb7.mono (by simp))
 have HBG7 := Lib.hid ((hb67.block _ (by omega)).trans HBG6.out)
 have HMK := Lib.hid (HMK.out.below hb67)
 have H7 := Lib.hid (H6.out.trans (hb67.mono H6.out.size))
 have lg7 : w2.heap.size < w7.heap.size := by omega
 have qg0 := celR 0 HBG7.out; have qg1 := celR 1 HBG7.out; have qg2 := celR 2 HBG7.out; have qg3 := celR 3 HBG7.out
 clear hb7 hb67 HBG6 HBW6 H6 qw0 qw1 qw2 qw3
 go_wp2_with fail
 refine (heldMeta_any o B0 hs.length d0 (hs.map fun x => x.2.2.2.1.length) B1 ss.length d1 (ss.map fun x => x.2.2.2.2.2.length) nx bo 1 _ HMK.out (by omega) (by omega) (by omega) (by rw [← HV0.out, ← HV1.out]; omega)).mono ?_
 rw [← HV0.out, ← HV1.out, ← HTT.out]
 rintro e w8 ⟨rfl, hb8⟩
 have H8 := Lib.hid (H7.out.trans (hb8.mono H7.out.size))
 clear hb8 H7
 go_wp2_with fail
 go_ret
 exact ⟨rfl, H8.out⟩
end Go.Proofs.YtlacpcdbgimnmaaGreatDoor
