/- The drawing of numbers: l6Open and pick. No condition. -/
import Derived.Test.YtfokpjoeankobaaTypes
import Derived.Test.YtfokpjoeankobaaFrame
import Derived.Laws.BitsAllLaws
import Derived.Laws.BitsLemmas
namespace Go.Proofs.Ytfokpjoeankobaa
set_option linter.unnecessarySimpa false
open Go.RowKit
set_option linter.unusedVariables false
set_option linter.unusedSimpArgs false

theorem ofInt_i64 (a : Nat) (ha : a < 9223372036854775808) : (BitVec.ofInt 64 (a : Int)).toNat = a := by
  rw [BitVec.ofInt_natCast, BitVec.toNat_ofNat]; exact Nat.mod_eq_of_lt (by omega)
theorem i64_xor_nat (a b : Nat) (ha : a < 9223372036854775808) (hb : b < 9223372036854775808) : bits .xor .i64 (a : Int) (b : Int) = ((a ^^^ b : Nat) : Int) := by
  have hx : a ^^^ b < 2 ^ 63 := Nat.xor_lt_two_pow (by omega) (by omega)
  show IntKind.i64.wrap ((BitVec.ofInt 64 (a : Int) ^^^ BitVec.ofInt 64 (b : Int)).toNat : Int) = _
  rw [BitVec.toNat_xor, ofInt_i64 a ha, ofInt_i64 b hb, IntKind.wrap_i64]
  omega

/-- The reader: block p holds the bytes and the place k. -/
def Rd (w : World) (p : Nat) (A : Option Addr) (n c : Nat) (zs : List Int) (k : Nat) : Prop :=
  w.cell? ⟨p, 0, none⟩ = some (.slice A n c) ∧ w.cell? ⟨p, 1, none⟩ = some (.int .i64 k) ∧ w.frozen? ⟨p, 1, none⟩ = false ∧ p < w.heap.size ∧
  n ≤ 2000 ∧ zs.length = n ∧ (∀ z ∈ zs, 0 ≤ z ∧ z ≤ 255) ∧
  (0 < n → ∃ b off, A = some ⟨b, off, none⟩ ∧ b ≠ p ∧ ∀ j, j < n → w.cell? ⟨b, off + j, none⟩ = some (.int .u8 (zs.getD j 0)))
theorem Rd.bytes {w : World} {p : Nat} {A : Option Addr} {n c : Nat} {zs : List Int} {k : Nat} (h : Rd w p A n c zs k) (hn : 0 < n) :
    ∃ b off, A = some ⟨b, off, none⟩ ∧ b ≠ p ∧ ∀ j, j < n → ∃ z : Int, 0 ≤ z ∧ z ≤ 255 ∧ w.cell? ⟨b, off + j, none⟩ = some (.int .u8 z) := by
  obtain ⟨_, _, _, _, _, hl, hz, hb⟩ := h
  obtain ⟨b, off, hA, hne, hc⟩ := hb hn
  refine ⟨b, off, hA, hne, fun j hj => ⟨zs.getD j 0, ?_, ?_, hc j hj⟩⟩
  · have : zs.getD j 0 = zs[j]'(by omega) := by simp [List.getD, List.getElem?_eq_getElem (show j < zs.length by omega)]
    rw [this]; exact (hz _ (List.getElem_mem _)).1
  · have : zs.getD j 0 = zs[j]'(by omega) := by simp [List.getD, List.getElem?_eq_getElem (show j < zs.length by omega)]
    rw [this]; exact (hz _ (List.getElem_mem _)).2
theorem Rd.step {w w' : World} {p : Nat} {A : Option Addr} {n c : Nat} {zs : List Int} {k k' : Nat} (h : Rd w p A n c zs k) (hc : Chg (· ∈ [p]) w w')
    (h0 : w'.cell? ⟨p, 0, none⟩ = some (.slice A n c)) (h1 : w'.cell? ⟨p, 1, none⟩ = some (.int .i64 k')) (h2 : w'.frozen? ⟨p, 1, none⟩ = false) : Rd w' p A n c zs k' := by
  obtain ⟨_, _, _, hp, hn, hl, hz, hb⟩ := h
  refine ⟨h0, h1, h2, Nat.lt_of_lt_of_le hp hc.size, hn, hl, hz, fun h => ?_⟩
  obtain ⟨b, off, hA, hne, hcc⟩ := hb h
  refine ⟨b, off, hA, hne, fun j hj => (World.cell?_of_block (hc.block b (World.block_lt_of_cell? w _ (hcc j hj)) (by simpa using hne))).trans (hcc j hj)⟩
theorem Rd.keep {w w' : World} {p : Nat} {A : Option Addr} {n c : Nat} {zs : List Int} {k : Nat} (h : Rd w p A n c zs k) (hs : w.heap.size ≤ w'.heap.size)
    (hk : ∀ b, b < w.heap.size → (b = p ∨ (0 < n ∧ ∃ off, A = some ⟨b, off, none⟩)) → w'.heap[b]? = w.heap[b]?) : Rd w' p A n c zs k := by
  obtain ⟨h0, h1, h2, hp, hn, hl, hz, hb⟩ := h
  have e := hk p hp (.inl rfl)
  refine ⟨(World.cell?_of_block e).trans h0, (World.cell?_of_block e).trans h1, (World.frozen?_of_block e).trans h2, Nat.lt_of_lt_of_le hp hs, hn, hl, hz, fun h => ?_⟩
  obtain ⟨b, off, hA, hne, hcc⟩ := hb h
  exact ⟨b, off, hA, hne, fun j hj => (World.cell?_of_block (hk b (World.block_lt_of_cell? w _ (hcc j hj)) (.inr ⟨h, off, hA⟩))).trans (hcc j hj)⟩
theorem Rd.below {w w' : World} {p : Nat} {A : Option Addr} {n c : Nat} {zs : List Int} {k : Nat} (h : Rd w p A n c zs k) (hb : Below w.heap.size w w') : Rd w' p A n c zs k :=
  h.keep hb.size fun b hlt _ => hb.block b hlt

theorem Rd.old {w : World} {p : Nat} {A : Option Addr} {n c : Nat} {zs : List Int} {k : Nat} (h : Rd w p A n c zs k) (hn : 0 < n) {b off : Nat} (hA : A = some ⟨b, off, none⟩) : b < w.heap.size := by
  obtain ⟨_, _, _, hp, _, hl, hz, hb⟩ := h
  obtain ⟨b', off', hA', _, hcc⟩ := hb hn
  rw [hA] at hA'
  injection hA' with e
  injection e with e1 e2
  subst e1 e2
  exact World.block_lt_of_cell? w _ (hcc 0 hn)

/-- What a call of pick returns. -/
def Picked (w : World) (p : Nat) (A : Option Addr) (n c : Nat) (zs : List Int) (k : Nat) (m : Int) (e : Ending) (w' : World) : Prop :=
  ∃ r : Nat, e = .returned (.int .i64 (r : Int)) ∧ (1 ≤ m → (r : Int) < m) ∧ Rd w' p A n c zs (k + 1) ∧ Chg (· ∈ [p]) w w' ∧ w'.heap.size = w.heap.size

set_option maxHeartbeats 2000000 in
theorem pick_any (w : World) (p : Nat) (A : Option Addr) (n c : Nat) (zs : List Int) (k : Nat) (m : Int) (h : Rd w p A n c zs k) (hk : k ≤ 1000000) (hm0 : -1000000 ≤ m) (hm : m ≤ 1000000) :
    Calls Try.prog 17 #[.pointer (some ⟨p, 0, none⟩), .int .i64 m] w (Picked w p A n c zs k m) := by
  have H := Lib.hid h
  obtain ⟨h0, h1, h2, hp, hn, hrest⟩ := h
  clear hrest
  have hch : Chg (· ∈ [p]) w (w.setCell ⟨p, 1, none⟩ (.int .i64 ((k : Int) + 1))) := (Chg.refl _ _).setCell (.inl (by simp)) _
  have hrd : Rd (w.setCell ⟨p, 1, none⟩ (.int .i64 ((k : Int) + 1))) p A n c zs (k + 1) := by
    refine H.out.step hch ?_ ?_ ?_
    · simp [go_sem, h0]
    · have e : ((k : Int) + 1) = ((k + 1 : Nat) : Int) := by omega
      rw [e]; exact World.cell?_setCell_same _ _ _ h1
    · simp [go_sem, h2]
  have HCH := Lib.hid hch
  have HRD := Lib.hid hrd
  clear hch hrd
  by_cases hm1 : m < 1
  · go_enter Try.func17, Try.ntmps17
    go_wp2_with fail
    go_ret
    exact ⟨0, rfl, fun h => by omega, HRD.out, HCH.out, by simp [World.setCell]⟩
  · by_cases hn0 : n = 0
    · subst hn0
      go_enter Try.func17, Try.ntmps17
      go_wp2_with fail
      go_ret
      exact ⟨0, rfl, fun h => by omega, HRD.out, HCH.out, by simp [World.setCell]⟩
    · obtain ⟨b, off, rfl, hbp, hc⟩ := H.out.bytes (by omega)
      have hne : ((n : Int) == 0) = false := by simp; omega
      have hnp : 0 < n := by omega
      have hbp2 := hbp.symm
      by_cases hkn : k < n
      · obtain ⟨z, hz0, hz1, hcz⟩ := hc k hkn
        clear hc hn0
        go_enter Try.func17, Try.ntmps17
        go_wp2_with fail
        go_ret
        exact ⟨(z % m).toNat, ret_int (Int.toNat_of_nonneg (Int.emod_nonneg _ (by omega))).symm, fun h => by rw [Int.toNat_of_nonneg (Int.emod_nonneg _ (by omega))]; exact Int.emod_lt_of_pos _ (by omega), HRD.out, HCH.out, by simp [World.setCell]⟩
      · obtain ⟨j1, hj1, t1⟩ : ∃ j1 : Nat, j1 < n ∧ (k : Int).tmod (n : Int) = (j1 : Int) := ⟨k % n, Nat.mod_lt _ hnp, by rw [Int.tmod_eq_emod_of_nonneg (by omega)]; rfl⟩
        obtain ⟨q1, hq1, e1⟩ : ∃ q1 : Int, q1 = 7 * k ∧ IntKind.i64.wrap ((k : Int) * 7) = q1 := ⟨7 * k, rfl, by rw [IntWalk.i64_in _ (by omega)]; omega⟩
        obtain ⟨q2, hq2, e2⟩ : ∃ q2 : Int, q2 = 7 * k + 3 ∧ IntKind.i64.wrap (q1 + 3) = q2 := ⟨7 * k + 3, rfl, by rw [IntWalk.i64_in _ (by omega)]; omega⟩
        obtain ⟨j2, hj2, t2⟩ : ∃ j2 : Nat, j2 < n ∧ q2.tmod (n : Int) = (j2 : Int) := ⟨(7 * k + 3) % n, Nat.mod_lt _ hnp, by rw [hq2, Int.tmod_eq_emod_of_nonneg (by omega)]; rfl⟩
        obtain ⟨z, hz0, hz1, hcz⟩ := hc j1 hj1
        obtain ⟨y, hy0, hy1, hcy⟩ := hc j2 hj2
        obtain ⟨p1, g1, g1', e3⟩ : ∃ p1 : Int, 0 ≤ p1 ∧ p1 ≤ 100000 ∧ IntKind.i64.wrap (z * 131) = p1 := ⟨z * 131, by omega, by omega, by rw [IntWalk.i64_in _ (by omega)]⟩
        obtain ⟨p2, g2, g2', e4⟩ : ∃ p2 : Int, 0 ≤ p2 ∧ p2 ≤ 1000000 ∧ IntKind.i64.wrap (y * 1117) = p2 := ⟨y * 1117, by omega, by omega, by rw [IntWalk.i64_in _ (by omega)]⟩
        obtain ⟨p3, g3, g3', e5⟩ : ∃ p3 : Int, 0 ≤ p3 ∧ p3 ≤ 1100000 ∧ IntKind.i64.wrap (p1 + p2) = p3 := ⟨p1 + p2, by omega, by omega, by rw [IntWalk.i64_in _ (by omega)]⟩
        obtain ⟨p4, g4, g4', e6⟩ : ∃ p4 : Int, 0 ≤ p4 ∧ p4 ≤ 29000000 ∧ IntKind.i64.wrap ((k : Int) * 29) = p4 := ⟨k * 29, by omega, by omega, by rw [IntWalk.i64_in _ (by omega)]⟩
        obtain ⟨p5, g5, g5', e7⟩ : ∃ p5 : Int, 0 ≤ p5 ∧ p5 ≤ 31000000 ∧ IntKind.i64.wrap (p3 + p4) = p5 := ⟨p3 + p4, by omega, by omega, by rw [IntWalk.i64_in _ (by omega)]⟩
        obtain ⟨p6, g6, g6', e8⟩ : ∃ p6 : Int, 0 ≤ p6 ∧ p6 ≤ 1000000 ∧ (k : Int).tdiv (n : Int) = p6 := ⟨_, Int.tdiv_nonneg (by omega) (by omega), Int.le_trans (by rw [Int.tdiv_eq_ediv_of_nonneg (by omega)]; exact Int.ediv_le_self _ (by omega)) (by omega), rfl⟩
        have e8' : IntKind.i64.wrap p6 = p6 := by rw [IntWalk.i64_in _ (by omega)]
        obtain ⟨p7, g7, g7', e9⟩ : ∃ p7 : Int, 0 ≤ p7 ∧ p7 ≤ 53000000 ∧ IntKind.i64.wrap (p6 * 53) = p7 := ⟨p6 * 53, by omega, by omega, by rw [IntWalk.i64_in _ (by omega)]⟩
        obtain ⟨p8, g8, g8', e10⟩ : ∃ p8 : Int, 0 ≤ p8 ∧ p8 ≤ 100000000 ∧ IntKind.i64.wrap (p5 + p7) = p8 := ⟨p5 + p7, by omega, by omega, by rw [IntWalk.i64_in _ (by omega)]⟩
        have ej1 : (j1 : Int) < (n : Int) := by omega
        have ej2 : (j2 : Int) < (n : Int) := by omega
        clear hc hn0 hq1 hq2
        go_enter Try.func17, Try.ntmps17
        go_wp2_with fail
        go_quiet (fail)
        obtain ⟨p9, g9, e11⟩ : ∃ p9 : Int, 0 ≤ p9 ∧ bits .xor .i64 p8 (p8 / 64) = p9 := by
          obtain ⟨u, rfl⟩ := Int.eq_ofNat_of_zero_le g8
          have e : (u : Int) / 64 = ((u / 64 : Nat) : Int) := by omega
          exact ⟨_, by rw [e, i64_xor_nat u (u / 64) (by omega) (by omega)]; omega, rfl⟩
        clear t1 t2 e1 e2 e3 e4 e5 e6 e7 e8 e8' e9 e10
        go_wp2_with fail
        go_ret
        refine ⟨(p9 % m).toNat, ret_int (Int.toNat_of_nonneg (Int.emod_nonneg _ (by omega))).symm, fun h => by rw [Int.toNat_of_nonneg (Int.emod_nonneg _ (by omega))]; exact Int.emod_lt_of_pos _ (by omega), ?_, ?_, by simp [World.setCell, World.drewN]⟩
        · exact HRD.out
        · exact HCH.out.drewN _

def Opened (w : World) (A : Option Addr) (e : Ending) (w' : World) : Prop :=
  ∃ m c' ys, e = .returned (.pointer (some ⟨w.heap.size, 0, none⟩)) ∧ Rd w' w.heap.size A m c' ys 0 ∧ Below w.heap.size w w'
set_option maxRecDepth 100000 in
set_option maxHeartbeats 400000 in
theorem l6Open_any (A : Option Addr) (n c : Nat) (zs : List Int) (w : World) (h : BytesIn w A n c zs) :
    Calls Try.prog 16 #[.slice A n c] w (Opened w A) := by
  obtain ⟨hl, hnc, hcm, hz, hc⟩ := h
  have hbel : ∀ o, Below w.heap.size w (w.alloc o) := fun o => (Below.refl _ _).alloc (Nat.le_refl _) _
  unfold maxLen at hcm
  by_cases hn : n ≤ 2000
  · have HC := Lib.hid hc
    have HZ := Lib.hid hz
    have HL := Lib.hid hl
    clear hc hz hl
    go_enter Try.func16, Try.ntmps16
    go_wp2_with fail
    go_ret
    refine ⟨n, c, zs, rfl, ⟨by simp [go_sem], by simp [go_sem], by simp [go_sem], by simp, hn, HL.out, HZ.out, fun hp => ?_⟩, hbel _⟩
    obtain ⟨b, off, hA, hcc⟩ := HC.out hp
    have hb := World.block_lt_of_cell? w _ (hcc 0 hp)
    exact ⟨b, off, hA, Nat.ne_of_lt hb, fun j hj => (World.cell?_alloc_lt w _ ⟨b, off + j, none⟩ hb).trans (hcc j hj)⟩
  · have HZ := Lib.hid hz
    have HL := Lib.hid hl
    obtain ⟨b, off, rfl, hcc⟩ := hc (by omega)
    have hb := World.block_lt_of_cell? w _ (hcc 0 (by omega))
    have HC := Lib.hid hcc
    have hcn : ¬ ((c : Int) < 2000) := by omega
    clear hz hl hc hcc
    go_enter Try.func16, Try.ntmps16
    go_wp2_with fail
    go_ret
    refine ⟨2000, c, zs.take 2000, rfl, ⟨by simp [go_sem], by simp [go_sem], by simp [go_sem], by simp, Nat.le_refl _, by have := HL.out; simp; omega, fun z hz => HZ.out z (List.mem_of_mem_take hz), fun hp => ?_⟩, hbel _⟩
    refine ⟨b, off, rfl, Nat.ne_of_lt hb, fun j hj => (World.cell?_alloc_lt w _ ⟨b, off + j, none⟩ hb).trans ((HC.out j (by omega)).trans ?_)⟩
    simp only [List.getD, List.getElem?_take]
    rw [if_pos hj]
end Go.Proofs.Ytfokpjoeankobaa
