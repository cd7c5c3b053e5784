/- l91Raid: disks as they are drawn. No condition. -/
import Derived.Test.YtfokpjoeankobaaRaidGood
import Derived.Test.YtfokpjoeankobaaPtrOfR
import Derived.Test.YtfokpjoeankobaaDrawDisk2
import Derived.Test.YtfokpjoeankobaaRaidDisk
namespace Go.Proofs.Ytfokpjoeankobaa
set_option linter.unnecessarySimpa false
open Go Go.Lib Go.RowKit
set_option linter.unusedVariables false
set_option linter.unusedSimpArgs false
theorem Rd.own {w W W' : World} {p : Nat} {A : Option Addr} {n c : Nat} {zs : List Int} {k k0 : Nat} (h0 : Rd w p A n c zs k0) (h : Rd W p A n c zs k) (hs : W.heap.size ≤ W'.heap.size) (hk : ∀ b, b < w.heap.size → W'.heap[b]? = W.heap[b]?) : Rd W' p A n c zs k :=
  h.keep hs (fun b _ hb => hk b (by
    rcases hb with rfl | ⟨hn, off, hA⟩
    · exact h0.2.2.2.1
    · exact h0.old hn hA))
/-- The disks drawn so far, in the box bx; none has more than j waits. -/
structure B91 (j : Nat) (w : World) (p bx lo : Nat) (W : World) : Prop where
  chg : Chg (· ∈ [p]) w W
  res : W.heap[w.heap.size]? = some (.cells #[.slice none 0 0] 35 (0, 0))
  raid : ∃ g c hi xs, W.heap[bx]? = some (.cells #[.slice (some ⟨g, 0, none⟩) 3 c] 35 (0, 0)) ∧ RaidN W lo hi [.slice (some ⟨g, 0, none⟩) 3 c] xs ∧ hi ≤ W.heap.size ∧ GoodR j xs
theorem B91.step {j p bx lo : Nat} {w W W' : World} (h : B91 j w p bx lo W) (hc : Chg (· ∈ [p]) W W') (hp : p < w.heap.size) (hlo : w.heap.size < lo) (hb : lo ≤ bx) : B91 j w p bx lo W' := by
  obtain ⟨g, c, hi, xs, h1, h2, h3, h4⟩ := h.raid
  have lb := (Array.getElem?_eq_some_iff.1 h1).1
  have lr := (Array.getElem?_eq_some_iff.1 h.res).1
  exact ⟨h.chg.trans hc, (hc.block _ lr (by simp; omega)).trans h.res, g, c, hi, xs, (hc.block _ lb (by simp; omega)).trans h1, RaidN.keep (fun k a b => hc.block k (by omega) (by simp; omega)) hc.size _ _ h2, Nat.le_trans h3 hc.size, h4⟩
theorem B91.mono {j k p bx lo : Nat} {w W : World} (h : B91 j w p bx lo W) (hk : j ≤ k) : B91 k w p bx lo W := by
  obtain ⟨g, c, hi, xs, h1, h2, h3, h4⟩ := h.raid
  exact ⟨h.chg, h.res, g, c, hi, xs, h1, h2, h3, h4.mono hk⟩
/-- The list of pointers drawn so far. -/
def L91 (z : Nat) (S : List Nat) (m : Nat) (A : Option Addr) (c : Nat) (W : World) : Prop :=
  ∃ vs, OwnA W 79 5 S A m c vs ∧ (∀ b ∈ S, z ≤ b) ∧ (0 < m → ∃ a : Int, 0 ≤ a ∧ a ≤ 63 ∧ vs[0]? = some (.int .i64 a))
theorem L91.keep {z m c : Nat} {S : List Nat} {A : Option Addr} {W W' : World} (h : L91 z S m A c W) (hk : ∀ b ∈ S, W'.heap[b]? = W.heap[b]?) : L91 z S m A c W' := by
  obtain ⟨vs, h1, h2, h3⟩ := h
  exact ⟨vs, h1.keep hk, h2, h3⟩
theorem L91.lt {z m c : Nat} {S : List Nat} {A : Option Addr} {W : World} (h : L91 z S m A c W) : ∀ b ∈ S, b < W.heap.size := by
  obtain ⟨vs, h1, _⟩ := h
  exact h1.lt
theorem L91.notT {z m c : Nat} {S : List Nat} {A : Option Addr} {W : World} (h : L91 z S m A c W) : ∀ b ∈ S, NotT b W := by
  obtain ⟨vs, h1, _⟩ := h
  intro b hb
  rcases h1.1 with ⟨rfl, _⟩ | ⟨g, cur, rfl, _, _, _, _, hg, _⟩
  · cases hb
  · simp at hb; subst hb
    exact NotT.of hg (by decide) (by decide)
theorem L91.head {z m c : Nat} {S : List Nat} {A : Option Addr} {W : World} (h : L91 z S m A c W) (hm : 0 < m) : ∃ (gS a : Nat) (cur : Array Value), A = some ⟨gS, 0, none⟩ ∧ a < 64 ∧ W.heap[gS]? = some (.cells cur 79 (0, 0)) ∧ cur[0]? = some (.int .i64 (a : Int)) ∧ z ≤ gS := by
  obtain ⟨vs, h1, h2, h3⟩ := h
  obtain ⟨a, ha0, ha1, hv⟩ := h3 hm
  rcases h1.1 with ⟨rfl, h0, _⟩ | ⟨g, cur, rfl, hA, _, _, _, hg, _, hc⟩
  · omega
  · refine ⟨g, a.toNat, cur, hA, by omega, hg, ?_, h2 g (by simp)⟩
    rw [hc 0 (by omega), hv, Int.toNat_of_nonneg ha0]
theorem info_PtrS : (Try.prog.info? 79).map (fun i => (i.zero, i.size, i.bytes)) = some (some (.agg #[.int .i64 0, .int .i64 0, .int .i64 0, .int .i64 0, .int .i64 0]), 5, 40) := by kernel_rfl
theorem L91.typed {z m c : Nat} {S : List Nat} {A : Option Addr} {W : World} (h : L91 z S m A c W) : ∀ b ∈ S, ∃ cur, W.heap[b]? = some (.cells cur 79 (0, 0)) := by
  obtain ⟨vs, h1, _⟩ := h
  intro b hb
  rcases h1.1 with ⟨rfl, _⟩ | ⟨g, cur, rfl, _, _, _, _, hg, _⟩
  · cases hb
  · simp at hb; subst hb
    exact ⟨cur, hg⟩
/-- Where only blocks of pointers turn, behind the box. -/
theorem B91.keepP {j p bx lo : Nat} {w W W' : World} {S : List Nat} (h : B91 j w p bx lo W) (hc : Chg (· ∈ S) W W') (hlo : w.heap.size < lo) (hb : lo ≤ bx) (hS : ∀ b ∈ S, bx < b) (ht : ∀ b ∈ S, ∃ cur, W.heap[b]? = some (.cells cur 79 (0, 0))) : B91 j w p bx lo W' := by
  obtain ⟨g, c, hi, xs, h1, h2, h3, h4⟩ := h.raid
  have lb := (Array.getElem?_eq_some_iff.1 h1).1
  have lr := (Array.getElem?_eq_some_iff.1 h.res).1
  have nS : ∀ b, b ≤ bx → b ∉ S := fun b h1 h2 => by have := hS b h2; omega
  refine ⟨⟨hc.os.trans h.chg.os, hc.tape.trans h.chg.tape, hc.output.trans h.chg.output, Nat.le_trans h.chg.size hc.size, fun b hb1 hs => (hc.block b (Nat.lt_of_lt_of_le hb1 h.chg.size) (nS b (by omega))).trans (h.chg.block b hb1 hs)⟩,
    (hc.block _ lr (nS _ (by omega))).trans h.res, g, c, hi, xs, (hc.block _ lb (nS _ (Nat.le_refl _))).trans h1, ?_, Nat.le_trans h3 hc.size, h4⟩
  exact RaidN.keepT (U := 79) (by decide) (by decide) (by decide) hc.size (fun i hi hn => hc.block i hi (fun h => by
    obtain ⟨cur, e⟩ := ht i h
    exact hn cur e)) _ _ h2
theorem RaidN.arrG {w : World} {lo hi g c : Nat} {xs : RaidD} (h : RaidN w lo hi [.slice (some ⟨g, 0, none⟩) 3 c] xs) : ∃ cur, w.heap[g]? = some (.cells cur 45 (0, 0)) ∧ cur.size = c * 3 ∧ 3 ≤ c := by
  obtain ⟨g', cur, _, e, _, _, h1, h2, h3, _⟩ := h.arr (by omega)
  injection e with e; injection e with e _
  exact ⟨cur, by rw [e]; exact h1, h2, h3⟩
theorem RaidN.drop1 {w : World} {lo hi g c : Nat} {xs : RaidD} (h : RaidN w lo hi [.slice (some ⟨g, 0, none⟩) 3 c] xs) : RaidR w lo hi [.slice (some ⟨g, 3, none⟩) 2 (c - 1)] (xs.drop 1) := by
  obtain ⟨A, n, c', o, e, h0, _⟩ := h
  injection e with e _; injection e with e1 e2 e3; subst e1 e2 e3
  have h2 : SliceR DiskR 3 w lo hi (some ⟨g, 0, none⟩) 3 c xs := h0.unzip.imp fun _ _ h => DiskN.r h
  obtain ⟨a1, a2, a3, a4, a5, a6⟩ := h2
  refine ⟨_, _, _, rfl, by simp [a1], by omega, by omega, a4, (fun h => by cases h), fun _ => ?_⟩
  obtain ⟨b, off, hA, hlo, hhi, hc⟩ := a6 (by omega)
  injection hA with hA; injection hA with hA1 hA2; subst hA1 hA2
  refine ⟨g, 3, rfl, hlo, hhi, fun j x hx => ?_⟩
  rw [List.getElem?_drop] at hx
  obtain ⟨cs, hl, hcs, hr⟩ := hc (1 + j) x hx
  exact ⟨cs, hl, fun i v hv => by have := hcs i v hv; rw [show 3 + j * 3 + i = 0 + (1 + j) * 3 + i by omega]; exact this, hr⟩
/-- The disks drawn, in the box bx. -/
structure C91 (w : World) (p bx lo : Nat) (W : World) : Prop where
  chg : Chg (· ∈ [p]) w W
  res : W.heap[w.heap.size]? = some (.cells #[.slice none 0 0] 35 (0, 0))
  raid : ∃ g c hi xs, W.heap[bx]? = some (.cells #[.slice (some ⟨g, 0, none⟩) 3 c] 35 (0, 0)) ∧ RaidN W lo hi [.slice (some ⟨g, 0, none⟩) 3 c] xs ∧ hi ≤ W.heap.size ∧ xs.length = 3
theorem B91.c {j p bx lo : Nat} {w W : World} (h : B91 j w p bx lo W) : C91 w p bx lo W := by
  obtain ⟨g, c, hi, xs, h1, h2, h3, h4⟩ := h.raid
  exact ⟨h.chg, h.res, g, c, hi, xs, h1, h2, h3, h4.1⟩
theorem C91.step {p bx lo : Nat} {w W W' : World} (h : C91 w p bx lo W) (hc : Chg (· ∈ [p]) W W') (hp : p < w.heap.size) (hlo : w.heap.size < lo) (hb : lo ≤ bx) : C91 w p bx lo W' := by
  obtain ⟨g, c, hi, xs, h1, h2, h3, h4⟩ := h.raid
  have lb := (Array.getElem?_eq_some_iff.1 h1).1
  have lr := (Array.getElem?_eq_some_iff.1 h.res).1
  exact ⟨h.chg.trans hc, (hc.block _ lr (by simp; omega)).trans h.res, g, c, hi, xs, (hc.block _ lb (by simp; omega)).trans h1, RaidN.keep (fun k a b => hc.block k (by omega) (by simp; omega)) hc.size _ _ h2, Nat.le_trans h3 hc.size, h4⟩
/-- Drawn disks, and a list. -/
def PickedR91 (d : Nat) (w : World) (p : Nat) (A : Option Addr) (n c : Nat) (zs : List Int) (k : Nat) (e : Ending) (w' : World) : Prop :=
  ∃ (cs : List Value) (x : RaidD) (v : Value) (k' : Nat), e = .returned (.tuple #[.agg cs.toArray, v]) ∧ RaidR w' w.heap.size w'.heap.size cs x ∧ k' ≤ k + d ∧ Rd w' p A n c zs k' ∧ Chg (· ∈ [p]) w w'
set_option maxRecDepth 100000 in
set_option maxHeartbeats 8000000 in
theorem l91Raid_any (w : World) (p : Nat) (A : Option Addr) (n c : Nat) (zs : List Int) (k : Nat) (h : Rd w p A n c zs k) (hk : k ≤ 300000) :
    Calls Try.prog 25 #[.pointer (some ⟨p, 0, none⟩)] w (PickedR91 1200 w p A n c zs k) := by
  have hp := h.2.2.2.1
  have HRD := Lib.hid h
  obtain ⟨iP, hiP, hz0P, hz1P, hz2P⟩ := info_parts info_PtrS
  clear h
  go_enter Try.func25, Try.ntmps25
  go_wp2_with fail
  refine (spRaidNew_any _).mono ?_
  rintro e w1 ⟨cs, rfl, hN, hb1⟩
  obtain ⟨lo, hlo⟩ : ∃ lo, lo = w.heap.size + 1 := ⟨_, rfl⟩
  have hN : RaidN w1 lo w1.heap.size cs newR := by rw [hlo]; simpa using hN
  have hN2 := hN
  obtain ⟨A3, n3, c3, o3, rfl, hs3, hw3⟩ := hN2
  obtain rfl : 3 = n3 := by have := hs3.len; simpa [newR] using this
  obtain ⟨g, _, _, rfl, hg1, hg2, -⟩ := hN.arr (by omega)
  have z1 : lo ≤ w1.heap.size := by have := hb1.size; simp at this; omega
  have res1 : w1.heap[w.heap.size]? = some (.cells #[.slice none 0 0] 35 (0, 0)) := (hb1.block _ (by simp)).trans (heap_alloc_new _ _)
  have X1 : Chg (· ∈ [p]) w w1 := ((Chg.refl _ _).alloc _).trans (Chg.of_below hb1 _)
  have rd1 := Rd.below (Rd.below HRD.out bel1) hb1
  have hlow : w.heap.size < lo := by omega
  obtain ⟨bx, hbx⟩ : ∃ b, b = w1.heap.size := ⟨_, rfl⟩
  obtain ⟨w2, hw2⟩ : ∃ W, W = (w1.alloc (.cells #[.slice (some ⟨g, 0, none⟩) 3 c3] 35)).alloc (.cells #[] 79) := ⟨_, rfl⟩
  have hb2 : Below w1.heap.size w1 w2 := by rw [hw2]; exact bel2
  have z2 : w2.heap.size = w1.heap.size + 2 := by rw [hw2]; simp
  have HB2 : Hid (B91 0 w p bx lo w2) := Lib.hid ⟨X1.trans (Chg.of_below hb2 _), (hb2.block _ (by omega)).trans res1, g, c3, w1.heap.size, newR, by rw [hw2, hbx]; exact (Below.heap_alloc _ _ _ (by simp)).trans (heap_alloc_new _ _), RaidN.below hb2 (Nat.le_refl _) _ _ hN, by omega, GoodR.new⟩
  have HR2 := Lib.hid (rd1.below hb2)
  have hbl : lo ≤ bx := by omega
  have HW2 := Lib.hid hw2
  clear hN hs3 hw3 hb1 res1 X1 rd1 hlo hb2 hw2
  go_wp2_with fail
  rw [← HW2.out, ← hbx]
  have HBW : Hid (bx < w2.heap.size) := Lib.hid (by omega)
  have HSZ1 : Hid (w1.heap.size + 1 = bx + 1) := Lib.hid (by omega)
  clear hbx
  refine (pick_any w2 p A n c zs k 5 HR2.out (by omega) (by omega) (by omega)).mono ?_
  rintro e w3 ⟨r0, rfl, hr0, rd3, hc3, hz3⟩
  have hr0 := hr0 (by omega)
  have HB3 := Lib.hid (HB2.out.step hc3 hp hlow hbl)
  have HR3 := Lib.hid rd3
  have HBW3 : Hid (bx < w3.heap.size) := Lib.hid (by have := HBW.out; omega)
  have nu1 : IntKind.i64.wrap (1 + (r0 : Int)) = ((r0 + 1 : Nat) : Int) := by rw [IntWalk.i64_in _ (by omega)]; omega
  clear rd3 hc3 HB2 HR2 HW2
  go_wp2_with fail
  go_loopw [5, 6] (fun t i wr => ∃ (r m q : Nat) (A' : Option Addr) (c' : Nat) (S : List Nat), i = .int .i64 (r : Int) ∧ t = .slice A' m c' ∧ r + m = r0 + 1 ∧ q ≤ k + 1 + 60 * m ∧ bx < wr.heap.size ∧ Hid (B91 m w p bx lo wr) ∧ Hid (L91 (bx + 1) S m A' c' wr) ∧ Hid (Rd wr p A n c zs q)) (fun _ i _ => (RowKit.intOf i).toNat)
  case atStart => exact ⟨r0 + 1, 0, k + 1, _, 0, [], rfl, rfl, by omega, by omega, HBW3.out, HB3, Lib.hid ⟨[], OwnA.nil _, (fun b hb => by cases hb), fun h => absurd h (by omega)⟩, HR3⟩
  case round =>
    clear HB3 HR3 HBW3 nu1
    obtain ⟨r, m, q, A', c', S, rfl, rfl, hrm, hq, lbx, HB, HL, HR⟩ := hrel
    by_cases hr : 0 < r
    · have hr' : (0 : Int) < (r : Int) := by omega
      have nu1 : IntKind.i64.wrap ((r : Int) - 1) = ((r - 1 : Nat) : Int) := by rw [IntWalk.i64_in _ (by omega)]; omega
      go_wp2_with fail
      refine (l91Text_any wr p A n c zs q 20 HR.out (by omega) (by omega)).mono ?_
      rintro e w4 ⟨s0, q4, rfl, hs0, hq4, rd4, hc4⟩
      obtain ⟨s, hs⟩ : ∃ s : ByteArray, s = ⟨#[98]⟩ ++ s0 := ⟨_, rfl⟩
      have hss : s.size = 1 + s0.size := by rw [hs, ByteArray.size_append]; rfl
      have d1 : (⟨#[98]⟩ : ByteArray).size + s0.size ≤ 9223372036854775807 := by have : (⟨#[98]⟩ : ByteArray).size = 1 := rfl; omega
      have hS1 : ∀ b ∈ S, b ≠ p := fun b hb he => by obtain ⟨_, _, h2, _⟩ := HL.out; have := h2 b hb; omega
      have HB4 := Lib.hid (HB.out.step hc4 hp hlow hbl)
      have HL4 := Lib.hid (HL.out.keep (fun b hb => hc4.block b (HL.out.lt b hb) (by simp; exact hS1 b hb)))
      have HR4 := Lib.hid rd4
      have l4 : bx < w4.heap.size := by have := hc4.size; omega
      have HSS := Lib.hid hs
      clear rd4 hc4 hs
      go_wp2_with fail
      rw [← HSS.out]
      clear d1
      refine (pick_any w4 p A n c zs q4 9 HR4.out (by omega) (by omega) (by omega)).mono ?_
      rintro e w5 ⟨r5, rfl, hr5, rd5, hc5, hz5⟩
      have hr5 := hr5 (by omega)
      have HB5 := Lib.hid (HB4.out.step hc5 hp hlow hbl)
      have HL5 := Lib.hid (HL4.out.keep (fun b hb => hc5.block b (HL4.out.lt b hb) (by simp; exact hS1 b hb)))
      have HR5 := Lib.hid rd5
      obtain ⟨a5, ha5⟩ : ∃ a : Int, a = 8 + (r5 : Int) := ⟨_, rfl⟩
      have nu2 : IntKind.i64.wrap (8 + (r5 : Int)) = a5 := by rw [IntWalk.i64_in _ (by omega)]; omega
      have ha6 : 8 ≤ a5 ∧ a5 ≤ 16 := by omega
      clear rd5 hc5 HB4 HL4 HR4 ha5
      go_wp2_with fail
      refine (pick_any w5 p A n c zs (q4 + 1) 9 HR5.out (by omega) (by omega) (by omega)).mono ?_
      rintro e w6 ⟨r6, rfl, hr6, rd6, hc6, hz6⟩
      have hr6 := hr6 (by omega)
      have HB6 := Lib.hid (HB5.out.step hc6 hp hlow hbl)
      have HL6 := Lib.hid (HL5.out.keep (fun b hb => hc6.block b (HL5.out.lt b hb) (by simp; exact hS1 b hb)))
      have HR6 := Lib.hid rd6
      have nu3 : IntKind.i64.wrap (1 + (r6 : Int)) = 1 + (r6 : Int) := IntWalk.i64_in _ (by omega)
      clear rd6 hc6 HB5 HL5 HR5 nu2
      go_wp2_with fail
      refine (pick_any w6 p A n c zs (q4 + 1 + 1) 3 HR6.out (by omega) (by omega) (by omega)).mono ?_
      rintro e w7 ⟨r7, rfl, hr7, rd7, hc7, hz7⟩
      have hr7 := hr7 (by omega)
      have HB7 := Lib.hid (HB6.out.step hc7 hp hlow hbl)
      have HL7 := Lib.hid (HL6.out.keep (fun b hb => hc7.block b (HL6.out.lt b hb) (by simp; exact hS1 b hb)))
      have HR7 := Lib.hid rd7
      clear rd7 hc7 HB6 HL6 HR6 nu3
      go_wp2_with fail
      refine (spPtrOfR_any a5 _ _ s w7 (by omega)).mono ?_
      rintro e w8 ⟨pa, pb, ps, pm, pl, okp, rfl, hpa, hb8⟩
      have HB8 := Lib.hid (HB7.out.step (Chg.of_below hb8 _) hp hlow hbl)
      have HL8 := Lib.hid (HL7.out.keep (fun b hb => hb8.block b (HL7.out.lt b hb)))
      have HR8 := Lib.hid (HR7.out.below hb8)
      have hpa1 : 0 ≤ pa ∧ pa ≤ 63 := by rcases hpa with h | h <;> omega
      have z8 := hb8.size
      obtain ⟨w9, hw9⟩ : ∃ W, W = w8.alloc (.cells #[.int .i64 pa, .int .i64 pb, .int .i64 ps, .int .i64 pm, .int .i64 pl] 79) := ⟨_, rfl⟩
      have hb9 : Below w8.heap.size w8 w9 := by rw [hw9]; exact bel1
      have z9 : w9.heap.size = w8.heap.size + 1 := by rw [hw9]; simp
      have HQ9 : Hid (w9.heap[w8.heap.size]? = some (.cells #[.int .i64 pa, .int .i64 pb, .int .i64 ps, .int .i64 pm, .int .i64 pl] 79 (0, 0))) := Lib.hid (by rw [hw9]; exact heap_alloc_new _ _)
      have HB9 := Lib.hid (HB8.out.step (Chg.of_below hb9 _) hp hlow hbl)
      have HL9 := Lib.hid (HL8.out.keep (fun b hb => hb9.block b (HL8.out.lt b hb)))
      have HR9 := Lib.hid (HR8.out.below hb9)
      have HW9 := Lib.hid hw9
      clear hw9 hb9 hb8 HB7 HL7 HR7 HB8 HL8 HR8 hpa
      go_wp2_with fail
      rw [← HW9.out]
      clear HW9
      obtain ⟨g9, c9, hi9, xs, hbx9, hN9, hhi9, hG9⟩ := HB9.out.raid
      have l9 : bx < w9.heap.size := (Array.getElem?_eq_some_iff.1 hbx9).1
      obtain ⟨g9', cur9, _, eg9, hg91, hg92, hgc9, -⟩ := hN9.arr (by omega)
      injection eg9 with eg9; injection eg9 with eg9 _; subst eg9
      have lg9 : g9 < w9.heap.size := by omega
      have hgb : g9 ≠ bx := fun e => by
        rw [e, hbx9] at hgc9
        injection hgc9 with e; injection e with _ e; exact absurd e (by decide)
      have HBX9 := Lib.hid hbx9; have HN9 := Lib.hid hN9; have HG9 := Lib.hid hG9
      have ha : inB a5 0 63 = true := inB_yes (by omega)
      have HPUT := Lib.hid (hG9.put (row := a5) (s := s) (by omega) ha (fun i => col_small (by omega) i))
      have HGC9 := Lib.hid hgc9
      clear hbx9 hN9 hG9 hgc9
      apply wp_region_rgz (Chg (fun b => b = g9 ∨ b = bx)) (Ext) (fun y w' k' => (k' < 1000 → Below w9.heap.size w9 w') ∧ w'.heap[bx]? = some (.cells #[.slice (some ⟨g9, 0, none⟩) 3 c9] 35 (0, 0)) ∧ (k' = 1000 ∨ k' = 3000 → ∃ hi' rd, RaidN w' lo hi' [.slice (some ⟨g9, 0, none⟩) 3 c9] rd ∧ hi' ≤ w'.heap.size ∧ GoodR (m + 1) rd ∧ Chg (fun b => b = g9 ∨ b = bx) w9 w')) [0, 0, 0, 0, 0, 1000, 0, 0, 0, 2000] [3000, 3000, 3000, 3000, 3000, 3000, 2000, 2000, 0, 2000] (by kernel_rfl) (false :: false :: false :: false :: false :: false :: false :: false :: false :: false :: false :: false :: false :: false :: false :: false :: false :: false :: false :: false :: false :: false :: false :: false :: false :: false :: false :: false :: false :: false :: false :: false :: false :: false :: false :: false :: false :: false :: false :: true :: true :: true :: true :: true :: true :: true :: true :: true :: false :: false :: false :: false :: false :: false :: false :: false :: false :: false :: false :: false :: false :: false :: false :: false :: false :: false :: false :: false :: false :: false :: false :: false :: false :: false :: false :: false :: false :: false :: false :: false :: false :: false :: false :: false :: false :: false :: false :: false :: false :: false :: false :: false :: false :: false :: false :: false :: false :: false :: false :: false :: false :: false :: false :: false :: false :: false :: false :: false :: false :: false :: false :: false :: false :: false :: false :: false :: []) [some 40, some 41, some 42, some 43, some 44, some 45, some 39, some 46, some 47, none] [[], [], [], [2], [], [0, 1, 3, 4], [5], [6], [6], [7]] [false, false, false, false, false, true, false, false, false, true] [true, true, true, false, false, true, true, true, true, true] [] [MStP.is _, MStP.is _, MStP.is _, ⟨fun v w' => ∃ AC cc lo2 hi2, v = .slice AC 3 cc ∧ w9.heap.size ≤ lo2 ∧ hi2 ≤ w'.heap.size ∧ SliceR StrR 1 w' lo2 hi2 AC 3 cc (cutS s), false, fun v w' w'' hs h => by obtain ⟨AC, cc, lo2, hi2, e, h1, h2, h3⟩ := h; exact ⟨AC, cc, lo2, hi2, e, h1, Nat.le_trans h2 (Below.size hs), SliceR.below h3 hs (StrR.below hs h3.lo_le)⟩, fun h => by cases h⟩, ⟨fun v w' => ∃ qb, v = .slice (some ⟨qb, 0, none⟩) 3 3 ∧ w'.heap[qb]? = some (.cells #[.bool true, .bool true, .bool true] 4 (0, 0)), false, fun v w' w'' hs h => by obtain ⟨qb, e, h1⟩ := h; exact ⟨qb, e, (Below.block hs qb (Array.getElem?_eq_some_iff.1 h1).1).trans h1⟩, fun h => by cases h⟩, MStP.is _, MStP.is _, MStP.is _, MStP.is _, MStP.is _] (by kernel_rfl) (by kernel_rfl) (by kernel_rfl) (by kernel_rfl)
      case hobs =>
        refine ⟨fun y w' k hS hj hk hF K hK => ?_, ?_⟩
        · skip -- 0: load
          simp only [fillL, cond_true, cond_false, List.getD_cons_zero, List.getD_cons_succ, StP.is, Act.put, List.setIfInBounds_toArray, List.set_cons_zero, List.set_cons_succ, Nat.reduceAdd, MStP.is, Option.isSome_some, Option.isSome_none] at hK ⊢
          simp only [List.sum_cons, List.sum_nil, List.getD_cons_zero, List.getD_cons_succ, Nat.reduceAdd, Nat.add_zero] at hk
          refine rg_yes (by kernel_rfl) ?_
          clear hF
          have hE := hj.1 (by omega)
          have q0_ := cell_of_row _ _ 0 _ _ (0, 0) hj.2.1
          have lq_ := (Array.getElem?_eq_some_iff.1 hj.2.1).1
          go_simp
          exact hK _ _ (Ext.refl _) ⟨fun h => hj.1 h, hj.2.1, fun h => hj.2.2 h⟩ rfl
        refine ⟨fun y w' k hS hj hk hF K hK => ?_, ?_⟩
        · skip -- 1: move
          simp only [fillL, cond_true, cond_false, List.getD_cons_zero, List.getD_cons_succ, StP.is, Act.put, List.setIfInBounds_toArray, List.set_cons_zero, List.set_cons_succ, Nat.reduceAdd, MStP.is, Option.isSome_some, Option.isSome_none] at hK ⊢
          simp only [List.sum_cons, List.sum_nil, List.getD_cons_zero, List.getD_cons_succ, Nat.reduceAdd, Nat.add_zero] at hk
          refine rg_yes (by kernel_rfl) ?_
          clear hF
          go_simp
          exact hK _ _ (Ext.refl _) ⟨fun h => hj.1 h, hj.2.1, fun h => hj.2.2 h⟩ rfl
        refine ⟨fun y w' k hS hj hk hF K hK => ?_, ?_⟩
        · skip -- 2: move
          simp only [fillL, cond_true, cond_false, List.getD_cons_zero, List.getD_cons_succ, StP.is, Act.put, List.setIfInBounds_toArray, List.set_cons_zero, List.set_cons_succ, Nat.reduceAdd, MStP.is, Option.isSome_some, Option.isSome_none] at hK ⊢
          simp only [List.sum_cons, List.sum_nil, List.getD_cons_zero, List.getD_cons_succ, Nat.reduceAdd, Nat.add_zero] at hk
          refine rg_yes (by kernel_rfl) ?_
          clear hF
          go_simp
          exact hK _ _ (Ext.refl _) ⟨fun h => hj.1 h, hj.2.1, fun h => hj.2.2 h⟩ rfl
        refine ⟨fun y w' k hS hj hk hF K hK => ?_, ?_⟩
        · skip -- 3: call
          have e42 : y 42 = _ := hF.1
          have e42' := Lib.hid e42
          simp only [fillL, cond_true, cond_false, List.getD_cons_zero, List.getD_cons_succ, StP.is, Act.put, List.setIfInBounds_toArray, List.set_cons_zero, List.set_cons_succ, Nat.reduceAdd, e42, MStP.is, Option.isSome_some, Option.isSome_none] at hK ⊢
          simp only [List.sum_cons, List.sum_nil, List.getD_cons_zero, List.getD_cons_succ, Nat.reduceAdd, Nat.add_zero] at hk
          refine rg_yes (by kernel_rfl) ?_
          clear e42
          clear hF
          have hE := hj.1 (by omega)
          go_simp
          go_at_call 46
          refine (l4Cut_any s w' (by omega) (by omega)).mono ?_
          rintro e w'' ⟨AC, cc, rfl, hcut, hb⟩
          exact hK _ _ hb ⟨fun h => hE.trans (hb.mono hE.size), (hb.block bx (by have := hE.size; omega)).trans hj.2.1, fun h => absurd h (by omega)⟩ ⟨AC, cc, w'.heap.size, w''.heap.size, rfl, hE.size, Nat.le_refl _, hcut⟩
        refine ⟨fun y w' k hS hj hk hF K hK => ?_, ?_⟩
        · skip -- 4: buildSlice
          simp only [fillL, cond_true, cond_false, List.getD_cons_zero, List.getD_cons_succ, StP.is, Act.put, List.setIfInBounds_toArray, List.set_cons_zero, List.set_cons_succ, Nat.reduceAdd, MStP.is, Option.isSome_some, Option.isSome_none] at hK ⊢
          simp only [List.sum_cons, List.sum_nil, List.getD_cons_zero, List.getD_cons_succ, Nat.reduceAdd, Nat.add_zero] at hk
          refine rg_yes (by kernel_rfl) ?_
          clear hF
          have hE := hj.1 (by omega)
          go_simp
          exact hK _ _ (Ext.alloc _ _) ⟨fun h => hE.alloc hE.size _, (Below.heap_alloc _ _ _ (by have := hE.size; omega)).trans hj.2.1, fun h => absurd h (by omega)⟩ ⟨_, rfl, heap_alloc_new _ _⟩
        refine ⟨fun y w' k hS hj hk hF K hK => ?_, ?_⟩
        · skip -- 5: call
          have e40 : y 40 = _ := hF.1
          have e41 : y 41 = _ := hF.2.1
          obtain ⟨AC, cc, lo2, hi2, e43, hlo2, hhi2, hcut⟩ := hF.2.2.1
          obtain ⟨qb, e44, hqb⟩ := hF.2.2.2.1
          have e40' := Lib.hid e40
          have e41' := Lib.hid e41
          have e43' := Lib.hid e43
          have e44' := Lib.hid e44
          simp only [fillL, cond_true, cond_false, List.getD_cons_zero, List.getD_cons_succ, StP.is, Act.put, List.setIfInBounds_toArray, List.set_cons_zero, List.set_cons_succ, Nat.reduceAdd, e40, e41, e43, e44, MStP.is, Option.isSome_some, Option.isSome_none] at hK ⊢
          simp only [List.sum_cons, List.sum_nil, List.getD_cons_zero, List.getD_cons_succ, Nat.reduceAdd, Nat.add_zero] at hk
          refine rg_yes (by kernel_rfl) ?_
          clear e40 e41 e43 e44
          clear hF
          have hE := hj.1 (by omega)
          have hsw := hE.size
          go_simp
          go_at_call 45
          have PP := l4Put2_any g9 c9 xs a5 s AC cc qb w' lo hi9 lo2 hi2 (RaidN.below hE hhi9 _ _ HN9.out) (by omega) HG9.out.ok hcut (fun b hb he => by
              obtain ⟨b', off', hA', hlb, _⟩ := hcut.at_ (by omega)
              subst hA'
              rw [blkOf_iff] at hb
              omega) hqb
          rw [HPUT.out.1] at PP
          refine PP.mono ?_
          rintro e w'' ⟨cs, hi', rfl, hN, hhi', hC, hcs⟩
          obtain rfl := hcs rfl
          exact hK _ _ (hC.mono fun b _ hb => .inl (by simpa using hb)) ⟨fun h => absurd h (by omega), (hC.block bx (by omega) (by simp; exact fun e => hgb e.symm)).trans hj.2.1, fun _ => ⟨hi', _, hN, hhi', HPUT.out.2, (Chg.of_below hE _).trans (hC.mono fun b _ hb => .inl (by simpa using hb))⟩⟩ rfl
        refine ⟨fun y w' k hS hj hk hF K hK => ?_, ?_⟩
        · skip -- 6: move
          have e45 : y 45 = _ := hF.1
          have e45' := Lib.hid e45
          simp only [fillL, cond_true, cond_false, List.getD_cons_zero, List.getD_cons_succ, StP.is, Act.put, List.setIfInBounds_toArray, List.set_cons_zero, List.set_cons_succ, Nat.reduceAdd, e45, MStP.is, Option.isSome_some, Option.isSome_none] at hK ⊢
          simp only [List.sum_cons, List.sum_nil, List.getD_cons_zero, List.getD_cons_succ, Nat.reduceAdd, Nat.add_zero] at hk
          refine rg_yes (by kernel_rfl) ?_
          clear e45
          clear hF
          go_simp
          exact hK _ _ (Ext.refl _) ⟨fun h => hj.1 h, hj.2.1, fun h => hj.2.2 h⟩ rfl
        refine ⟨fun y w' k hS hj hk hF K hK => ?_, ?_⟩
        · skip -- 7: extract
          have e39 : y 39 = _ := hF.1
          have e39' := Lib.hid e39
          simp only [fillL, cond_true, cond_false, List.getD_cons_zero, List.getD_cons_succ, StP.is, Act.put, List.setIfInBounds_toArray, List.set_cons_zero, List.set_cons_succ, Nat.reduceAdd, e39, MStP.is, Option.isSome_some, Option.isSome_none] at hK ⊢
          simp only [List.sum_cons, List.sum_nil, List.getD_cons_zero, List.getD_cons_succ, Nat.reduceAdd, Nat.add_zero] at hk
          refine rg_yes (by kernel_rfl) ?_
          clear e39
          clear hF
          go_simp
          exact hK _ _ (Ext.refl _) ⟨fun h => hj.1 h, hj.2.1, fun h => hj.2.2 h⟩ rfl
        refine ⟨fun y w' k hS hj hk hF K hK => ?_, ?_⟩
        · skip -- 8: extract
          have e39 : y 39 = _ := hF.1
          have e39' := Lib.hid e39
          simp only [fillL, cond_true, cond_false, List.getD_cons_zero, List.getD_cons_succ, StP.is, Act.put, List.setIfInBounds_toArray, List.set_cons_zero, List.set_cons_succ, Nat.reduceAdd, e39, MStP.is, Option.isSome_some, Option.isSome_none] at hK ⊢
          simp only [List.sum_cons, List.sum_nil, List.getD_cons_zero, List.getD_cons_succ, Nat.reduceAdd, Nat.add_zero] at hk
          refine rg_yes (by kernel_rfl) ?_
          clear e39
          clear hF
          go_simp
          exact hK _ _ (Ext.refl _) ⟨fun h => hj.1 h, hj.2.1, fun h => hj.2.2 h⟩ rfl
        refine ⟨fun y w' k hS hj hk hF K hK => ?_, ?_⟩
        · skip -- 9: store
          have e46 : y 46 = _ := hF.1
          have e46' := Lib.hid e46
          simp only [fillL, cond_true, cond_false, List.getD_cons_zero, List.getD_cons_succ, StP.is, Act.put, List.setIfInBounds_toArray, List.set_cons_zero, List.set_cons_succ, Nat.reduceAdd, e46, MStP.is, Option.isSome_some, Option.isSome_none] at hK ⊢
          simp only [List.sum_cons, List.sum_nil, List.getD_cons_zero, List.getD_cons_succ, Nat.reduceAdd, Nat.add_zero] at hk
          refine rg_yes (by kernel_rfl) ?_
          clear e46
          clear hF
          have hb8 := hj.2.1
          have f0_ := block_free hb8 0
          have c0_ := cell_of_row _ _ 0 _ _ (0, 0) hb8
          have HJ := Lib.hid hj
          clear hb8
          go_simp
          refine hK undef _ ((Chg.refl _ _).setCell (p := ⟨bx, 0, none⟩) (.inl (.inr rfl)) _) ⟨fun h => absurd h (by omega), block_set (o := 0) HJ.out.2.1, fun h => ?_⟩ rfl
          obtain ⟨hi', rd, hN8, hh8, hG8, hC8⟩ := HJ.out.2.2 (.inl (by omega))
          refine ⟨hi', rd, ?_, by simp [World.setCell]; omega, hG8, hC8.setCell (p := ⟨bx, 0, none⟩) (.inl (.inr rfl)) _⟩
          exact RaidN.keepT (U := 35) (by decide) (by decide) (by decide) (by simp [World.setCell]) (fun i _ hn => heap_far (fun e => by have e2 : i = bx := e; subst e2; exact hn _ HJ.out.2.1)) _ _ hN8
        trivial
      case hH => rfl
      case hNS => exact fun _ _ h => Chg.of_below h _
      case hSt => exact fun a b => Chg.trans a b
      case hb => rfl
      case hdrew => exact (Chg.refl _ _).drewN 1
      case hj0 => exact fun y => ⟨fun _ => below_drewN (Below.refl _ _) 1, HBX9.out, fun h => absurd h (by omega)⟩
      case hend =>
        intro y wa hSS hJ hF
        have hbx := hJ.2.1
        obtain ⟨hi', rd, hN, hh, hG, hC⟩ := hJ.2.2 (.inr (by decide))
        simp only [fillL, cond_true, cond_false, Nat.reduceAdd]
        have nk : ∀ b, b < lo → ¬ (b = g9 ∨ b = bx) := fun b h1 h2 => by omega
        have HBa : Hid (B91 (m + 1) w p bx lo wa) := Lib.hid ⟨⟨hC.os.trans HB9.out.chg.os, hC.tape.trans HB9.out.chg.tape, hC.output.trans HB9.out.chg.output, Nat.le_trans HB9.out.chg.size hC.size, fun b hb1 hs => (hC.block b (Nat.lt_of_lt_of_le hb1 HB9.out.chg.size) (nk b (by omega))).trans (HB9.out.chg.block b hb1 hs)⟩,
          (hC.block _ (Array.getElem?_eq_some_iff.1 HB9.out.res).1 (nk _ hlow)).trans HB9.out.res, g9, c9, hi', rd, hbx, hN, hh, hG⟩
        have HLa : Hid (L91 (bx + 1) S m A' c' wa) := Lib.hid (HL9.out.keep (fun b hb => hC.block b (HL9.out.lt b hb) (fun h => by
          rcases h with h | h
          · exact (HL9.out.notT b hb).2 _ (by rw [h]; exact HGC9.out)
          · obtain ⟨_, _, h2, _⟩ := HL9.out; have := h2 b hb; omega)))
        have HRa : Hid (Rd wa p A n c zs (q4 + 1 + 1 + 1)) := Lib.hid (Rd.own HRD.out HR9.out hC.size (fun b hb => hC.block b (by have := HB9.out.chg.size; omega) (nk b (by omega))))
        have hqa := (hC.block w8.heap.size (by omega) (fun h => by
          rcases h with h | h
          · have e := HGC9.out; rw [← h, HQ9.out] at e; injection e with e; injection e with _ e; exact absurd e (by decide)
          · have := l4; omega)).trans HQ9.out
        have v0 := cell_of_row _ _ 0 _ _ (0, 0) hqa; have v1 := cell_of_row _ _ 1 _ _ (0, 0) hqa; have v2 := cell_of_row _ _ 2 _ _ (0, 0) hqa; have v3 := cell_of_row _ _ 3 _ _ (0, 0) hqa; have v4 := cell_of_row _ _ 4 _ _ (0, 0) hqa
        have vl := (Array.getElem?_eq_some_iff.1 hqa).1
        have lba : bx < wa.heap.size := by have := hC.size; omega
        obtain ⟨vs, hO, hSb, hv0⟩ := HLa.out
        have hvl : vs.length = m * 5 := hO.at_.1
        have HOA := Lib.hid (hO.below (bel1 (o := .cells #[.int .i64 pa, .int .i64 pb, .int .i64 ps, .int .i64 pm, .int .i64 pl] 79)))
        have HLT : Hid (RowAt (wa.alloc (.cells #[.int .i64 pa, .int .i64 pb, .int .i64 ps, .int .i64 pm, .int .i64 pl] 79)) (some ⟨wa.heap.size, 0, none⟩) (1 * 5) [.int .i64 pa, .int .i64 pb, .int .i64 ps, .int .i64 pm, .int .i64 pl]) := Lib.hid (by have := RowAt.lit (w := wa) (e := 79) (cur := #[.int .i64 pa, .int .i64 pb, .int .i64 ps, .int .i64 pm, .int .i64 pl]) (m := 5) rfl; simpa using this)
        have HON : Hid (∀ u ∈ ([.int .i64 pa, .int .i64 pb, .int .i64 ps, .int .i64 pm, .int .i64 pl] : List Value), u.oneCell' = true) := Lib.hid (by intro u hu; simp at hu; rcases hu with rfl | rfl | rfl | rfl | rfl <;> rfl)
        have HV0 := Lib.hid hv0; have HVL := Lib.hid hvl; have HSb := Lib.hid hSb
        have HTY := Lib.hid HLa.out.typed
        clear hJ hF hSS hbx hN hG hC hqa hO hv0 hSb hh nk HB9 HL9 HR9 HN9 HG9 HBX9 HPUT HGC9 HQ9
        go_wp2_with (at_builtin; go_must (refine wpList_append_row rfl _ _ 55 rfl 79 iP (.agg #[.int .i64 0, .int .i64 0, .int .i64 0, .int .i64 0, .int .i64 0]) 5 40 Try.underlying55 hiP hz0P hz1P hz2P rfl (by decide) S A' (some ⟨wa.heap.size, 0, none⟩) m c' 1 1 vs [.int .i64 pa, .int .i64 pb, .int .i64 ps, .int .i64 pm, .int .i64 pl] rfl rfl HOA.out HLT.out HON.out (by unfold maxLen; omega) (by omega) ?_))
        intro A2 c4 S2 wb hO' hS' hC'
        have hba : Chg (· ∈ S) wa wb := (Chg.of_below bel1 _).trans hC'
        have HBb : Hid (B91 (m + 1) w p bx lo wb) := Lib.hid (HBa.out.keepP hba hlow hbl (fun b hb => by have := HSb.out b hb; omega) HTY.out)
        have HRb : Hid (Rd wb p A n c zs (q4 + 1 + 1 + 1)) := Lib.hid (Rd.own HRD.out HRa.out hba.size (fun b hb => hba.block b (by have := HBa.out.chg.size; omega) (fun h => by have := HSb.out b h; omega)))
        have HLb : Hid (L91 (bx + 1) S2 (m + 1) A2 c4 wb) := Lib.hid ⟨_, hO', (fun b hb => by
            rcases hS' b hb with h | h
            · exact HSb.out b h
            · first | omega | (simp at h; omega)), (fun _ => by
            rcases Nat.eq_zero_or_pos m with h0 | h0
            · have e : vs = [] := List.eq_nil_of_length_eq_zero (by rw [HVL.out, h0])
              exact ⟨pa, hpa1.1, hpa1.2, by rw [e]; rfl⟩
            · obtain ⟨a, ha1, ha2, ha3⟩ := HV0.out h0
              exact ⟨a, ha1, ha2, by rw [List.getElem?_append_left (by rw [HVL.out]; omega)]; exact ha3⟩)⟩
        have lbb : bx < wb.heap.size := by have := hba.size; omega
        clear hO' hS' hC' hba HOA HLT HON v0 v1 v2 v3 v4 vl HBa HLa HRa
        go_wp2_with fail
        refine (pick_any wb p A n c zs (q4 + 1 + 1 + 1) 3 HRb.out (by omega) (by omega) (by omega)).mono ?_
        rintro e wc ⟨rc, rfl, hrc, rdc, hcc, hzc⟩
        have HBc := Lib.hid (HBb.out.step hcc hp hlow hbl)
        have HLc := Lib.hid (HLb.out.keep (fun b hb => hcc.block b (HLb.out.lt b hb) (by simp; intro he; obtain ⟨_, _, h2, _⟩ := HLb.out; have := h2 b hb; omega)))
        have HRc := Lib.hid rdc
        have lbc : bx < wc.heap.size := by omega
        clear rdc hcc HBb HLb HRb
        by_cases hrc0 : (rc : Int) = 0
        rotate_left
        · have hrcb : ((rc : Int) == 0) = false := by simpa using hrc0
          go_wp2_with fail
          go_roundw
          case rel => exact ⟨r - 1, m + 1, q4 + 1 + 1 + 1 + 1, A2, c4, S2, by go_num, rfl, by omega, by omega, lbc, HBc, HLc, HRc⟩
          case measure => simp [RowKit.intOf]; omega
        · have hrcb : ((rc : Int) == 0) = true := by simpa using hrc0
          obtain ⟨gc, cc, hic, xc, hbxc, hNc, hhic, hGc⟩ := HBc.out.raid
          have u0 := cell_of_row _ _ 0 _ _ (0, 0) hbxc
          have HBXC := Lib.hid hbxc; have HNC := Lib.hid hNc; have HGC := Lib.hid hGc
          clear hbxc hNc hGc
          go_wp2_with fail
          refine (l4Flush_any gc cc xc wc lo hic HNC.out hhic HGC.out.ok).mono ?_
          rintro e wd ⟨rfl, hNd, hhd, hTK⟩
          have hbxd := (hTK.at_ lbc (.inr (NotT.of HBXC.out (by decide) (by decide)))).trans HBXC.out
          have u1 := cell_of_row _ _ 0 _ _ (0, 0) hbxd; have f1 := block_free hbxd 0
          have hlt_ : ∀ b, b < w.heap.size + 1 → wd.heap[b]? = wc.heap[b]? := fun b hb => hTK.at_ (by have := HBc.out.chg.size; omega) (.inl (by omega))
          have HNd := Lib.hid hNd
          have HBd : Hid (B91 (m + 1) w p bx lo (wd.setCell ⟨bx, 0, none⟩ (.slice (some ⟨gc, 0, none⟩) 3 cc))) := Lib.hid ⟨Chg.setCell (p := ⟨bx, 0, none⟩) ⟨hTK.os.trans HBc.out.chg.os, hTK.tape.trans HBc.out.chg.tape, hTK.output.trans HBc.out.chg.output, Nat.le_trans HBc.out.chg.size hTK.size, fun b hb1 hs => (hlt_ b (by omega)).trans (HBc.out.chg.block b hb1 hs)⟩ (.inr (by show w.heap.size ≤ bx; omega)) _,
            (heap_far (by show w.heap.size ≠ bx; omega)).trans ((hlt_ _ (by omega)).trans HBc.out.res), gc, cc, hic, _, block_set (o := 0) hbxd,
            RaidN.keepT (U := 35) (by decide) (by decide) (by decide) (by simp [World.setCell]) (fun i _ hn => heap_far (fun e => by have e2 : i = bx := e; subst e2; exact hn _ hbxd)) _ _ hNd, (by simp [World.setCell]; exact hhd), HGC.out.flush.mono (Nat.zero_le _)⟩
          have HLd : Hid (L91 (bx + 1) S2 (m + 1) A2 c4 (wd.setCell ⟨bx, 0, none⟩ (.slice (some ⟨gc, 0, none⟩) 3 cc))) := Lib.hid (HLc.out.keep (fun b hb => (heap_far (by show b ≠ bx; obtain ⟨_, _, h2, _⟩ := HLc.out; have := h2 b hb; omega)).trans (hTK.at_ (HLc.out.lt b hb) (.inr (HLc.out.notT b hb)))))
          have HRd : Hid (Rd (wd.setCell ⟨bx, 0, none⟩ (.slice (some ⟨gc, 0, none⟩) 3 cc)) p A n c zs (q4 + 1 + 1 + 1 + 1)) := Lib.hid (Rd.own HRD.out HRc.out (by simp [World.setCell]; exact hTK.size) (fun b hb => (heap_far (by show b ≠ bx; omega)).trans (hlt_ b (by omega))))
          have lbd : bx < wd.heap.size := by have := hTK.size; omega
          have lbd2 : bx < (wd.setCell ⟨bx, 0, none⟩ (.slice (some ⟨gc, 0, none⟩) 3 cc)).heap.size := by simp [World.setCell]; exact lbd
          clear hNd hhd hTK hbxd hlt_ u0
          go_wp2_with fail
          go_roundw
          case rel => exact ⟨r - 1, m + 1, q4 + 1 + 1 + 1 + 1, A2, c4, S2, by go_num, rfl, by omega, by omega, lbd2, HBd, HLd, HRd⟩
          case measure => simp [RowKit.intOf]; omega
    · obtain rfl : r = 0 := by omega
      have hr' : ¬ (0 : Int) < ((0 : Nat) : Int) := by omega
      go_wp2_with fail
      refine (pick_any wr p A n c zs q 4 HR.out (by omega) (by omega) (by omega)).mono ?_
      rintro e we ⟨r4, rfl, hr4, rd4, hc4, hz4⟩
      have hr4 := hr4 (by omega)
      have HBe := Lib.hid (HB.out.step hc4 hp hlow hbl)
      have HLe := Lib.hid (HL.out.keep (fun b hb => hc4.block b (HL.out.lt b hb) (by simp; intro he; obtain ⟨_, _, h2, _⟩ := HL.out; have := h2 b hb; omega)))
      have HRe := Lib.hid rd4
      have lbe : bx < we.heap.size := by omega
      clear rd4 hc4 HB HL HR
      have hx4 : r4 = 0 ∨ r4 = 1 ∨ r4 = 2 ∨ r4 = 3 := by omega
      rcases hx4 with rfl | rfl | rfl | rfl
      · skip
        go_wp2_with fail
        refine (pick_any we p A n c zs (q + 1) 3 HRe.out (by omega) (by omega) (by omega)).mono ?_
        rintro e wf ⟨j, rfl, hj, rdf, hcf, hzf⟩
        have hj3 : j < 3 := by have := hj (by omega); omega
        have HBf := Lib.hid (HBe.out.step hcf hp hlow hbl)
        have HRf := Lib.hid rdf
        have lbf : bx < wf.heap.size := by omega
        clear rdf hcf HBe HRe HLe
        obtain ⟨g, c3, hif, x, hbxf, hNf, hhif, hGf⟩ := HBf.out.raid
        obtain ⟨g_, cur_, o_, e_, hg1f, hg2f, hgcf, -⟩ := hNf.arr (by omega)
        injection e_ with e_; injection e_ with e_ _; subst e_
        have hgb : g ≠ bx := fun e => by
          rw [e, hbxf] at hgcf
          injection hgcf with e; injection e with _ e; exact absurd e (by decide)
        have HBX := Lib.hid hbxf; have HNF := Lib.hid hNf; have HGF := Lib.hid hGf
        have j0 : (0 : Int) ≤ (j : Int) := by omega
        have j1 : (j : Int) < 3 := by omega
        clear hbxf hNf hGf hgcf
        go_wp2_with fail
        apply wp_region_rgz (Chg (· ∈ [g])) (Ext) (fun y w' k' => (k' < 1000 → RaidN w' lo hif [.slice (some ⟨g, 0, none⟩) 3 c3] x) ∧ (1000 ≤ k' → ∃ hi2, hi2 ≤ w'.heap.size ∧ RaidN w' lo hi2 [.slice (some ⟨g, 0, none⟩) 3 c3] (x.set j loseD))) [0, 0, 0, 0, 0, 1000] [1000, 1000, 1000, 1000, 1000, 1000] (by kernel_rfl) (false :: false :: false :: false :: false :: false :: false :: false :: false :: false :: false :: false :: false :: false :: false :: false :: false :: false :: false :: false :: false :: false :: false :: false :: false :: false :: false :: false :: false :: false :: false :: false :: false :: false :: false :: false :: false :: false :: false :: false :: false :: false :: false :: false :: false :: false :: false :: false :: false :: false :: false :: false :: false :: false :: false :: false :: false :: false :: false :: false :: false :: false :: false :: true :: true :: true :: true :: true :: false :: false :: false :: false :: false :: false :: false :: false :: false :: false :: false :: false :: false :: false :: false :: false :: false :: false :: false :: false :: false :: false :: false :: false :: false :: false :: false :: false :: false :: false :: false :: false :: false :: false :: false :: false :: false :: false :: false :: false :: false :: false :: false :: false :: false :: false :: false :: false :: []) [some 63, some 64, some 65, some 66, some 67, none] [[], [0], [], [], [1, 2], [3, 4]] [false, false, false, false, false, true] [true, true, true, false, true, true] [] [MStP.is _, MStP.is _, MStP.is _, ⟨fun v w' => ∃ cs lo2 hi2, v = .agg (List.toArray cs) ∧ wf.heap.size ≤ lo2 ∧ lo2 ≤ hi2 ∧ hi2 ≤ w'.heap.size ∧ DiskN w' lo2 hi2 cs loseD, false, fun v w' w'' hs h => by obtain ⟨cs, lo2, hi2, e, h1, h2, h3, h4⟩ := h; exact ⟨cs, lo2, hi2, e, h1, h2, Nat.le_trans h3 (Below.size hs), DiskN.below hs h3 _ _ h4⟩, fun h => by cases h⟩, MStP.is _, MStP.is _] (by kernel_rfl) (by kernel_rfl) (by kernel_rfl) (by kernel_rfl)
        case hobs =>
          refine ⟨fun y w' k hS hj hk hF K hK => ?_, ?_⟩
          · skip -- 0: fieldAddr
            simp only [fillL, cond_true, cond_false, List.getD_cons_zero, List.getD_cons_succ, StP.is, Act.put, List.setIfInBounds_toArray, List.set_cons_zero, List.set_cons_succ, Nat.reduceAdd, MStP.is, Option.isSome_some, Option.isSome_none] at hK ⊢
            simp only [List.sum_cons, List.sum_nil, List.getD_cons_zero, List.getD_cons_succ, Nat.reduceAdd, Nat.add_zero] at hk
            refine rg_yes (by kernel_rfl) ?_
            have hsw := hS.size
            clear hF
            go_simp
            exact hK _ _ (Ext.refl _) ⟨fun h => hj.1 (by omega), fun h => absurd h (by omega)⟩ rfl
          refine ⟨fun y w' k hS hj hk hF K hK => ?_, ?_⟩
          · skip -- 1: load
            have e63 : y 63 = _ := hF.1
            have e63' := Lib.hid e63
            simp only [fillL, cond_true, cond_false, List.getD_cons_zero, List.getD_cons_succ, StP.is, Act.put, List.setIfInBounds_toArray, List.set_cons_zero, List.set_cons_succ, Nat.reduceAdd, e63, MStP.is, Option.isSome_some, Option.isSome_none] at hK ⊢
            simp only [List.sum_cons, List.sum_nil, List.getD_cons_zero, List.getD_cons_succ, Nat.reduceAdd, Nat.add_zero] at hk
            refine rg_yes (by kernel_rfl) ?_
            have hsw := hS.size
            clear e63
            clear hF
            have q0_ := (World.cell?_of_block (a := ⟨bx, 0, none⟩) (hS.block bx (by omega) (by simp; exact fun e => hgb e.symm))).trans (cell_of_row _ _ 0 _ _ (0, 0) HBX.out)
            have lq_ : bx < w'.heap.size := by omega
            go_simp
            exact hK _ _ (Ext.refl _) ⟨fun h => hj.1 (by omega), fun h => absurd h (by omega)⟩ rfl
          refine ⟨fun y w' k hS hj hk hF K hK => ?_, ?_⟩
          · skip -- 2: move
            simp only [fillL, cond_true, cond_false, List.getD_cons_zero, List.getD_cons_succ, StP.is, Act.put, List.setIfInBounds_toArray, List.set_cons_zero, List.set_cons_succ, Nat.reduceAdd, MStP.is, Option.isSome_some, Option.isSome_none] at hK ⊢
            simp only [List.sum_cons, List.sum_nil, List.getD_cons_zero, List.getD_cons_succ, Nat.reduceAdd, Nat.add_zero] at hk
            refine rg_yes (by kernel_rfl) ?_
            have hsw := hS.size
            clear hF
            go_simp
            exact hK _ _ (Ext.refl _) ⟨fun h => hj.1 (by omega), fun h => absurd h (by omega)⟩ rfl
          refine ⟨fun y w' k hS hj hk hF K hK => ?_, ?_⟩
          · skip -- 3: call
            simp only [fillL, cond_true, cond_false, List.getD_cons_zero, List.getD_cons_succ, StP.is, Act.put, List.setIfInBounds_toArray, List.set_cons_zero, List.set_cons_succ, Nat.reduceAdd, MStP.is, Option.isSome_some, Option.isSome_none] at hK ⊢
            simp only [List.sum_cons, List.sum_nil, List.getD_cons_zero, List.getD_cons_succ, Nat.reduceAdd, Nat.add_zero] at hk
            refine rg_yes (by kernel_rfl) ?_
            have hsw := hS.size
            clear hF
            go_simp
            go_at_call 30
            refine (spDiskLose_any _).mono ?_
            rintro e w'' ⟨csd, rfl, hr, hb⟩
            exact hK _ _ hb ⟨fun h => RaidN.below hb (by omega) _ _ (hj.1 (by omega)), fun h => absurd h (by omega)⟩ ⟨csd, w'.heap.size, w''.heap.size, rfl, by omega, hb.size, Nat.le_refl _, hr⟩
          refine ⟨fun y w' k hS hj hk hF K hK => ?_, ?_⟩
          · skip -- 4: indexAddr
            have e64 : y 64 = _ := hF.1
            have e65 : y 65 = _ := hF.2.1
            have e64' := Lib.hid e64
            have e65' := Lib.hid e65
            simp only [fillL, cond_true, cond_false, List.getD_cons_zero, List.getD_cons_succ, StP.is, Act.put, List.setIfInBounds_toArray, List.set_cons_zero, List.set_cons_succ, Nat.reduceAdd, e64, e65, MStP.is, Option.isSome_some, Option.isSome_none] at hK ⊢
            simp only [List.sum_cons, List.sum_nil, List.getD_cons_zero, List.getD_cons_succ, Nat.reduceAdd, Nat.add_zero] at hk
            refine rg_yes (by kernel_rfl) ?_
            have hsw := hS.size
            clear e64 e65
            clear hF
            go_simp
            exact hK _ _ (Ext.refl _) ⟨fun h => hj.1 (by omega), fun h => absurd h (by omega)⟩ rfl
          refine ⟨fun y w' k hS hj hk hF K hK => ?_, ?_⟩
          · skip -- 5: store
            obtain ⟨csd, lo2, hi2, e66, hlo2, hlh2, hhi2, hd⟩ := hF.1
            have HD := Lib.hid hd
            obtain ⟨D0, d0_, dc0, D1, d1_, dc1, rfl, -⟩ := hd
            have e67 : y 67 = _ := hF.2.1
            have e66' := Lib.hid e66
            have e67' := Lib.hid e67
            simp only [fillL, cond_true, cond_false, List.getD_cons_zero, List.getD_cons_succ, StP.is, Act.put, List.setIfInBounds_toArray, List.set_cons_zero, List.set_cons_succ, Nat.reduceAdd, e66, e67, MStP.is, Option.isSome_some, Option.isSome_none] at hK ⊢
            simp only [List.sum_cons, List.sum_nil, List.getD_cons_zero, List.getD_cons_succ, Nat.reduceAdd, Nat.add_zero] at hk
            refine rg_yes (by kernel_rfl) ?_
            have hsw := hS.size
            clear e66 e67
            clear hF
            have HRN := Lib.hid (hj.1 (by omega))
            obtain ⟨cur, hgc, hgs, hgc3⟩ := HRN.out.arrG
            have t0 : w'.cell? ⟨g, j * 3, none⟩ = some _ := block_cell hgc (by rw [hgs]; omega)
            have t1 : w'.cell? ⟨g, j * 3 + 1, none⟩ = some _ := block_cell hgc (by rw [hgs]; omega)
            have t2 : w'.cell? ⟨g, j * 3 + 2, none⟩ = some _ := block_cell hgc (by rw [hgs]; omega)
            have fr0 : w'.frozen? ⟨g, j * 3, none⟩ = false := block_free hgc _
            have fr1 : w'.frozen? ⟨g, j * 3 + 1, none⟩ = false := block_free hgc _
            have fr2 : w'.frozen? ⟨g, j * 3 + 2, none⟩ = false := block_free hgc _
            generalize cur[j * 3]'_ = y0_ at t0
            generalize cur[j * 3 + 1]'_ = y1_ at t1
            generalize cur[j * 3 + 2]'_ = y2_ at t2
            clear hgc hgs
            go_simp
            refine hK undef _ (Chg.setCell (p := ⟨g, _, none⟩) (Chg.setCell (p := ⟨g, _, none⟩) (Chg.setCell (p := ⟨g, _, none⟩) (Chg.refl _ _) (.inl (by simp)) _) (.inl (by simp)) _) (.inl (by simp)) _) ⟨fun h => absurd h (by omega), fun _ => ⟨hi2, by simpa [World.setCell] using hhi2, ?_⟩⟩ rfl
            exact RaidN.set HRN.out hj3 (by omega) HD.out hlh2 hhi2 (by simp [World.setCell]) (fun i hi => set3_far hi) (fun cur h => set3 h)
          trivial
        case hH => rfl
        case hNS => exact fun _ _ h => Chg.of_below h _
        case hSt => exact fun a b => Chg.trans a b
        case hb => rfl
        case hdrew => exact (Chg.refl _ _).drewN 1
        case hj0 => exact fun y => ⟨fun _ => RaidN.below (below_drewN (Below.refl _ _) 1) hhif _ _ HNF.out, fun h => absurd h (by omega)⟩
        case hend =>
          intro y wg hSS hJ hF
          obtain ⟨hi2, hh2, hN2⟩ := hJ.2 (by decide)
          simp only [fillL, cond_true, cond_false, Nat.reduceAdd]
          have HCy : Hid (C91 w p bx lo wg) := Lib.hid ⟨⟨hSS.os.trans HBf.out.chg.os, hSS.tape.trans HBf.out.chg.tape, hSS.output.trans HBf.out.chg.output, Nat.le_trans HBf.out.chg.size hSS.size, fun b hb1 hs => (hSS.block b (Nat.lt_of_lt_of_le hb1 HBf.out.chg.size) (by simp; omega)).trans (HBf.out.chg.block b hb1 hs)⟩,
            (hSS.block _ (Array.getElem?_eq_some_iff.1 HBf.out.res).1 (by simp; omega)).trans HBf.out.res, g, c3, hi2, _, (hSS.block bx lbf (by simp; exact fun e => hgb e.symm)).trans HBX.out, hN2, hh2, by rw [List.length_set]; exact HGF.out.1⟩
          have HRy : Hid (Rd wg p A n c zs (q + 1 + 1)) := Lib.hid (Rd.own HRD.out HRf.out hSS.size (fun b hb => hSS.block b (by have := HBf.out.chg.size; omega) (by simp; omega)))
          have lby : bx < wg.heap.size := by have := hSS.size; omega
          clear hJ hF hSS hN2 HBf HRf
          go_wp2_with fail
          refine (pick_any wg p A n c zs (q + 1 + 1) 40 HRy.out (by omega) (by omega) (by omega)).mono ?_
          rintro e wz ⟨rz, rfl, hrz, rdz, hcz, hzz⟩
          have HCz := Lib.hid (HCy.out.step hcz hp hlow hbl)
          have HRz := Lib.hid rdz
          have lbz : bx < wz.heap.size := by omega
          clear rdz hcz HCy HRy
          by_cases rz0 : (rz : Int) = 0
          · have rzb : ((rz : Int) == 0) = true := by simpa using rz0
            obtain ⟨gz, cz, hiz, xz, hbz, hNz, hhz, hlz⟩ := HCz.out.raid
            have hcz : 3 ≤ cz := by obtain ⟨_, _, _, h⟩ := hNz.arrG; exact h
            have cc1 : (1 : Int) ≤ (3 : Int) := by omega
            have cc2 : (3 : Int) ≤ (cz : Int) := by omega
            have u0 := cell_of_row _ _ 0 _ _ (0, 0) hbz; have uf := block_free hbz 0
            have HBZ := Lib.hid hbz; have HNZ := Lib.hid hNz
            clear hbz hNz hlz
            have HNW : Hid (RaidN (World.setCell wz ⟨bx, 0, none⟩ (.slice (some ⟨gz, 3, none⟩) 2 (cz - 1))) lo hiz [.slice (some ⟨gz, 0, none⟩) 3 cz] xz) := Lib.hid (RaidN.keepT (U := 35) (by decide) (by decide) (by decide) (by simp [World.setCell]) (fun i _ hn => heap_far (fun e => by have e2 : i = bx := e; subst e2; exact hn _ HBZ.out)) _ _ HNZ.out)
            have hbf := block_set (o := 0) (v := .slice (some ⟨gz, 3, none⟩) 2 (cz - 1)) HBZ.out
            have hrf := ((heap_far (p := ⟨bx, 0, none⟩) (v := .slice (some ⟨gz, 3, none⟩) 2 (cz - 1)) (by show w.heap.size ≠ bx; omega)).trans HCz.out.res)
            have g0 := cell_of_row _ _ 0 _ _ (0, 0) hbf; have gl := (Array.getElem?_eq_some_iff.1 hbf).1
            have g1 := cell_of_row _ _ 0 _ _ (0, 0) hrf; have gf := block_free hrf 0; have gr := (Array.getElem?_eq_some_iff.1 hrf).1
            have t0 := cell_of_row _ _ 0 _ _ (0, 0) (block_set (o := 0) (v := .slice (some ⟨gz, 3, none⟩) 2 (cz - 1)) hrf)
            have HP : Hid (∀ v, PickedR91 1200 w p A n c zs k (.returned (.tuple #[.agg #[.slice (some ⟨gz, 3, none⟩) 2 (cz - 1)], v])) (World.setCell (World.setCell wz ⟨bx, 0, none⟩ (.slice (some ⟨gz, 3, none⟩) 2 (cz - 1))) ⟨w.heap.size, 0, none⟩ (.slice (some ⟨gz, 3, none⟩) 2 (cz - 1)))) := Lib.hid (fun v => ⟨[.slice (some ⟨gz, 3, none⟩) 2 (cz - 1)], _, v, _, rfl, RaidR.keep (fun b a1 a2 => heap_far (by show b ≠ w.heap.size; omega)) (by simp [World.setCell]) _ _ (HNW.out.drop1) |> fun h => RaidR.wide (Nat.le_of_lt hlow) (by simp [World.setCell]; exact hhz) (Nat.le_refl _) _ _ h, by omega, Rd.own HRD.out (Rd.own HRD.out HRz.out (by simp [World.setCell]) (fun b hb => heap_far (by show b ≠ bx; omega))) (by simp [World.setCell]) (fun b hb => heap_far (by show b ≠ w.heap.size; omega)), Chg.setCell (p := ⟨w.heap.size, 0, none⟩) (Chg.setCell (p := ⟨bx, 0, none⟩) HCz.out.chg (.inr (by show w.heap.size ≤ bx; omega)) _) (.inr (Nat.le_refl _)) _⟩)
            clear hbf hrf
            go_wp2_with fail
            exact bodyPost_ret (v := .tuple #[.agg #[.slice (some ⟨gz, 3, none⟩) 2 (cz - 1)], .slice A' m c']) (by simp [results, Try.results25, go_sem, t0]) rfl (HP.out _)
          have rzb : ((rz : Int) == 0) = false := by simpa using rz0
          by_cases rz1 : (rz : Int) = 1
          · have rzc : ((rz : Int) == 1) = true := by simpa using rz1
            obtain ⟨gz, cz, hiz, xz, hbz, hNz, hhz, hlz⟩ := HCz.out.raid
            have hlgz : lo ≤ gz := by
              obtain ⟨g_, cur_, o_, e2_, hg2_, _⟩ := hNz.arr (by omega)
              injection e2_ with e2_; injection e2_ with e2_ _; omega
            obtain ⟨curz, hgz, hgsz, hcz3⟩ := hNz.arrG
            have hgbz : gz ≠ bx := fun e => by
              rw [e, hbz] at hgz
              injection hgz with e; injection e with _ e; exact absurd e (by decide)
            have lgz : gz < wz.heap.size := (Array.getElem?_eq_some_iff.1 hgz).1
            have HBZ := Lib.hid hbz; have HNZ := Lib.hid hNz; have HGZ := Lib.hid hgz; have HGSZ := Lib.hid hgsz
            obtain ⟨qz, hqz⟩ : ∃ qq : Nat, qq = (q + 1 + 1) + 1 := ⟨_, rfl⟩
            have HRy : Hid (Rd wz p A n c zs qz) := Lib.hid (by rw [hqz]; exact HRz.out)
            clear hbz hNz hlz hgz hgsz HRz
            go_wp2_with fail
            apply wp_region_rgz (Chg (fun b => b = p ∨ b = gz)) (Ext) (fun y w' k' => (∃ q', q' ≤ qz + 600 ∧ (k' < 1000 → q' ≤ qz) ∧ Rd w' p A n c zs q') ∧ (k' < 2000 → Chg (· ∈ [p]) wz w') ∧ (3000 ≤ k' → Chg (fun b => b = p ∨ b = gz) wz w' ∧ ∃ d, RaidR w' lo w'.heap.size [.slice (some ⟨gz, 0, none⟩) 3 cz] (xz.set 1 d))) [0, 0, 0, 1000, 0, 2000] [2000, 2000, 3000, 3000, 2000, 2000] (by kernel_rfl) (false :: false :: false :: false :: false :: false :: false :: false :: false :: false :: false :: false :: false :: false :: false :: false :: false :: false :: false :: false :: false :: false :: false :: false :: false :: false :: false :: false :: false :: false :: false :: false :: false :: false :: false :: false :: false :: false :: false :: false :: false :: false :: false :: false :: false :: false :: false :: false :: false :: false :: false :: false :: false :: false :: false :: false :: false :: false :: false :: false :: false :: false :: false :: false :: false :: false :: false :: false :: false :: false :: false :: false :: false :: false :: false :: false :: false :: false :: false :: false :: false :: false :: false :: false :: false :: false :: false :: false :: false :: false :: false :: false :: false :: false :: false :: false :: false :: false :: false :: false :: false :: false :: false :: false :: false :: false :: false :: false :: false :: true :: true :: true :: true :: true :: false :: false :: []) [some 109, some 110, some 111, some 112, some 113, none] [[], [0], [], [2], [1], [3, 4]] [false, false, false, true, false, true] [true, true, true, false, true, true] [] [MStP.is _, MStP.is _, MStP.is _, ⟨fun v w' => ∃ cs lo2 hi2 d, v = .agg (List.toArray cs) ∧ wz.heap.size ≤ lo2 ∧ lo2 ≤ hi2 ∧ hi2 ≤ w'.heap.size ∧ DiskR w' lo2 hi2 cs d, false, fun v w' w'' hs h => by obtain ⟨cs, lo2, hi2, d, e, h1, h2, h3, h4⟩ := h; exact ⟨cs, lo2, hi2, d, e, h1, h2, Nat.le_trans h3 (Below.size hs), DiskR.below hs h3 _ _ h4⟩, fun h => by cases h⟩, MStP.is _, MStP.is _] (by kernel_rfl) (by kernel_rfl) (by kernel_rfl) (by kernel_rfl)
            case hobs =>
              refine ⟨fun y w' k hS hj hk hF K hK => ?_, ?_⟩
              · skip -- 0: fieldAddr
                simp only [fillL, cond_true, cond_false, List.getD_cons_zero, List.getD_cons_succ, StP.is, Act.put, List.setIfInBounds_toArray, List.set_cons_zero, List.set_cons_succ, Nat.reduceAdd, MStP.is, Option.isSome_some, Option.isSome_none] at hK ⊢
                simp only [List.sum_cons, List.sum_nil, List.getD_cons_zero, List.getD_cons_succ, Nat.reduceAdd, Nat.add_zero] at hk
                refine rg_yes (by kernel_rfl) ?_
                have hsw := hS.size
                clear hF
                go_simp
                exact hK _ _ (Ext.refl _) hj rfl
              refine ⟨fun y w' k hS hj hk hF K hK => ?_, ?_⟩
              · skip -- 1: load
                have e109 : y 109 = _ := hF.1
                have e109' := Lib.hid e109
                simp only [fillL, cond_true, cond_false, List.getD_cons_zero, List.getD_cons_succ, StP.is, Act.put, List.setIfInBounds_toArray, List.set_cons_zero, List.set_cons_succ, Nat.reduceAdd, e109, MStP.is, Option.isSome_some, Option.isSome_none] at hK ⊢
                simp only [List.sum_cons, List.sum_nil, List.getD_cons_zero, List.getD_cons_succ, Nat.reduceAdd, Nat.add_zero] at hk
                refine rg_yes (by kernel_rfl) ?_
                have hsw := hS.size
                clear e109
                clear hF
                have hC_ := hj.2.1 (by omega)
                have q0_ := (World.cell?_of_block (a := ⟨bx, 0, none⟩) (hC_.block bx lbz (by simp; omega))).trans (cell_of_row _ _ 0 _ _ (0, 0) HBZ.out)
                have lq_ : bx < w'.heap.size := by have := hC_.size; omega
                go_simp
                exact hK _ _ (Ext.refl _) hj rfl
              refine ⟨fun y w' k hS hj hk hF K hK => ?_, ?_⟩
              · skip -- 2: move
                simp only [fillL, cond_true, cond_false, List.getD_cons_zero, List.getD_cons_succ, StP.is, Act.put, List.setIfInBounds_toArray, List.set_cons_zero, List.set_cons_succ, Nat.reduceAdd, MStP.is, Option.isSome_some, Option.isSome_none] at hK ⊢
                simp only [List.sum_cons, List.sum_nil, List.getD_cons_zero, List.getD_cons_succ, Nat.reduceAdd, Nat.add_zero] at hk
                refine rg_yes (by kernel_rfl) ?_
                have hsw := hS.size
                clear hF
                go_simp
                exact hK _ _ (Ext.refl _) hj rfl
              refine ⟨fun y w' k hS hj hk hF K hK => ?_, ?_⟩
              · skip -- 3: call
                have e111 : y 111 = _ := hF.1
                have e111' := Lib.hid e111
                simp only [fillL, cond_true, cond_false, List.getD_cons_zero, List.getD_cons_succ, StP.is, Act.put, List.setIfInBounds_toArray, List.set_cons_zero, List.set_cons_succ, Nat.reduceAdd, e111, MStP.is, Option.isSome_some, Option.isSome_none] at hK ⊢
                simp only [List.sum_cons, List.sum_nil, List.getD_cons_zero, List.getD_cons_succ, Nat.reduceAdd, Nat.add_zero] at hk
                refine rg_yes (by kernel_rfl) ?_
                have hsw := hS.size
                clear e111
                clear hF
                obtain ⟨q1_, hq1_, hq2_, hrd_⟩ := hj.1
                have hC_ := hj.2.1 (by omega)
                go_simp
                go_at_call 49
                refine (l91Disk_any w' p A n c zs q1_ hrd_ (by omega)).mono ?_
                rintro e w'' ⟨csd, xd, q2_, rfl, hdR, hl1_, hl2_, hq3_, rd2_, hc2_⟩
                exact hK _ _ (hc2_.mono fun b _ hb => .inl (by simpa using hb)) ⟨⟨q2_, by have := hq2_ (by omega); omega, fun h => absurd h (by omega), rd2_⟩, fun _ => hC_.trans hc2_, fun h => absurd h (by omega)⟩ ⟨csd, w'.heap.size, w''.heap.size, xd, rfl, hC_.size, hc2_.size, Nat.le_refl _, hdR⟩
              refine ⟨fun y w' k hS hj hk hF K hK => ?_, ?_⟩
              · skip -- 4: indexAddr
                have e110 : y 110 = _ := hF.1
                have e110' := Lib.hid e110
                simp only [fillL, cond_true, cond_false, List.getD_cons_zero, List.getD_cons_succ, StP.is, Act.put, List.setIfInBounds_toArray, List.set_cons_zero, List.set_cons_succ, Nat.reduceAdd, e110, MStP.is, Option.isSome_some, Option.isSome_none] at hK ⊢
                simp only [List.sum_cons, List.sum_nil, List.getD_cons_zero, List.getD_cons_succ, Nat.reduceAdd, Nat.add_zero] at hk
                refine rg_yes (by kernel_rfl) ?_
                have hsw := hS.size
                clear e110
                clear hF
                go_simp
                exact hK _ _ (Ext.refl _) hj rfl
              refine ⟨fun y w' k hS hj hk hF K hK => ?_, ?_⟩
              · skip -- 5: store
                obtain ⟨csd, lo2, hi2, dd, e112, hlo2, hlh2, hhi2, hd⟩ := hF.1
                have HD := Lib.hid hd
                obtain ⟨D0, d0_, dc0, D1, d1_, dc1, rfl, -⟩ := hd
                have e113 : y 113 = _ := hF.2.1
                have e112' := Lib.hid e112
                have e113' := Lib.hid e113
                simp only [fillL, cond_true, cond_false, List.getD_cons_zero, List.getD_cons_succ, StP.is, Act.put, List.setIfInBounds_toArray, List.set_cons_zero, List.set_cons_succ, Nat.reduceAdd, e112, e113, MStP.is, Option.isSome_some, Option.isSome_none] at hK ⊢
                simp only [List.sum_cons, List.sum_nil, List.getD_cons_zero, List.getD_cons_succ, Nat.reduceAdd, Nat.add_zero] at hk
                refine rg_yes (by kernel_rfl) ?_
                have hsw := hS.size
                clear e112 e113
                clear hF
                have hC_ := hj.2.1 (by omega)
                have hg_ := (hC_.block gz lgz (by simp; omega)).trans HGZ.out
                have HNW := Lib.hid (RaidN.keep (fun b a1 a2 => hC_.block b (by omega) (by simp; omega)) hC_.size _ _ HNZ.out)
                obtain ⟨q1_, hq1_, hq2_, hrd_⟩ := hj.1
                have HG_ := Lib.hid hg_
                have hgs_ := HGSZ.out
                have t0 : w'.cell? ⟨gz, 3, none⟩ = some _ := block_cell hg_ (by rw [hgs_]; omega)
                have t1 : w'.cell? ⟨gz, 4, none⟩ = some _ := block_cell hg_ (by rw [hgs_]; omega)
                have t2 : w'.cell? ⟨gz, 5, none⟩ = some _ := block_cell hg_ (by rw [hgs_]; omega)
                have fr0 : w'.frozen? ⟨gz, 3, none⟩ = false := block_free hg_ _
                have fr1 : w'.frozen? ⟨gz, 4, none⟩ = false := block_free hg_ _
                have fr2 : w'.frozen? ⟨gz, 5, none⟩ = false := block_free hg_ _
                generalize curz[3]'_ = y0_ at t0
                generalize curz[4]'_ = y1_ at t1
                generalize curz[5]'_ = y2_ at t2
                have HC_ := Lib.hid hC_; have HRD_ := Lib.hid hrd_
                clear hg_ hgs_ hC_ hrd_
                go_simp
                refine hK undef _ (Chg.setCell (p := ⟨gz, _, none⟩) (Chg.setCell (p := ⟨gz, _, none⟩) (Chg.setCell (p := ⟨gz, _, none⟩) (Chg.refl _ _) (.inl (.inr rfl)) _) (.inl (.inr rfl)) _) (.inl (.inr rfl)) _) ⟨⟨q1_, hq1_, fun h => absurd h (by omega), ?_⟩, fun h => absurd h (by omega), fun _ => ⟨?_, dd, ?_⟩⟩ rfl
                · exact Rd.own HRD.out HRD_.out (by simp [World.setCell]) (fun b hb => set3_far (by omega))
                · exact ((((HC_.out.mono fun b _ hb => .inl (by simpa using hb)).setCell (p := ⟨gz, 3, none⟩) (.inl (.inr rfl)) _).setCell (p := ⟨gz, 4, none⟩) (.inl (.inr rfl)) _)).setCell (p := ⟨gz, 5, none⟩) (.inl (.inr rfl)) _
                · exact RaidN.putR HNW.out (by omega) HD.out (by omega) (by omega) hhi2 (by simp [World.setCell]) (fun i hi => set3_far hi) (fun cur h => set3 h)
              trivial
            case hH => rfl
            case hNS => exact fun _ _ h => Chg.of_below h _
            case hSt => exact fun a b => Chg.trans a b
            case hb => rfl
            case hdrew => exact (Chg.refl _ _).drewN 1
            case hj0 => exact fun y => ⟨⟨qz, by omega, fun _ => Nat.le_refl _, HRy.out.below (below_drewN (Below.refl _ _) 1)⟩, fun _ => (Chg.refl _ _).drewN 1, fun h => absurd h (by omega)⟩
            case hend =>
              intro y wy hSS hJ hF
              have hsz := hSS.size
              obtain ⟨q2, hq2, -, hRq⟩ := hJ.1
              obtain ⟨hCy, d, hRR⟩ := hJ.2.2 (by decide)
              have HRR := Lib.hid hRR
              have HRq : Hid (Rd wy p A n c zs q2) := Lib.hid hRq
              have hoy : ∀ b, b ≠ p → b ≠ gz → b < wz.heap.size → wy.heap[b]? = wz.heap[b]? := fun b h1 h2 hb => hCy.block b hb (fun h => h.elim h1 h2)
              have HBy : Hid (wy.heap[bx]? = some (.cells #[.slice (some ⟨gz, 0, none⟩) 3 cz] 35 (0, 0))) := Lib.hid ((hoy bx (by omega) (fun e => hgbz e.symm) lbz).trans HBZ.out)
              have hwz := HCz.out.chg.size
              have HXy : Hid (Chg (· ∈ [p]) w wy) := Lib.hid ⟨hCy.os.trans HCz.out.chg.os, hCy.tape.trans HCz.out.chg.tape, hCy.output.trans HCz.out.chg.output, by omega, fun b hb1 hs => (hoy b (by simpa using hs) (by omega) (by omega)).trans (HCz.out.chg.block b hb1 hs)⟩
              have HREy : Hid (wy.heap[w.heap.size]? = some (.cells #[.slice none 0 0] 35 (0, 0))) := Lib.hid ((hoy _ (by omega) (by omega) (by omega)).trans HCz.out.res)
              have lby2 : bx < wy.heap.size := by omega
              clear hJ hF hSS hRR hRq hCy hoy HCz HBZ HNZ HGZ HGSZ HRy
              simp only [fillL, cond_true, cond_false, Nat.reduceAdd]
              have hbf := HBy.out
              have hrf := HREy.out
              have g0 := cell_of_row _ _ 0 _ _ (0, 0) hbf; have gl := (Array.getElem?_eq_some_iff.1 hbf).1
              have g1 := cell_of_row _ _ 0 _ _ (0, 0) hrf; have gf := block_free hrf 0; have gr := (Array.getElem?_eq_some_iff.1 hrf).1
              have t0 := cell_of_row _ _ 0 _ _ (0, 0) (block_set (o := 0) (v := .slice (some ⟨gz, 0, none⟩) 3 cz) hrf)
              have HP : Hid (∀ v, PickedR91 1200 w p A n c zs k (.returned (.tuple #[.agg #[.slice (some ⟨gz, 0, none⟩) 3 cz], v])) (World.setCell wy ⟨w.heap.size, 0, none⟩ (.slice (some ⟨gz, 0, none⟩) 3 cz))) := Lib.hid (fun v => ⟨[.slice (some ⟨gz, 0, none⟩) 3 cz], _, v, _, rfl, RaidR.keep (fun b a1 a2 => heap_far (by show b ≠ w.heap.size; omega)) (by simp [World.setCell]) _ _ HRR.out |> fun h => RaidR.wide (Nat.le_of_lt hlow) (by simp [World.setCell]) (by simp [World.setCell]) _ _ h, by omega, Rd.own HRD.out HRq.out (by simp [World.setCell]) (fun b hb => heap_far (by show b ≠ w.heap.size; omega)), Chg.setCell (p := ⟨w.heap.size, 0, none⟩) HXy.out (.inr (Nat.le_refl _)) _⟩)
              clear hbf hrf
              go_wp2_with fail
              exact bodyPost_ret (v := .tuple #[.agg #[.slice (some ⟨gz, 0, none⟩) 3 cz], .slice A' m c']) (by simp [results, Try.results25, go_sem, t0]) rfl (HP.out _)
          have rzc : ((rz : Int) == 1) = false := by simpa using rz1
          obtain ⟨gz, cz, hiz, xz, hbz, hNz, hhz, hlz⟩ := HCz.out.raid
          have HBZ := Lib.hid hbz; have HNZ := Lib.hid hNz
          clear hbz hNz hlz
          have hbf := HBZ.out
          have hrf := HCz.out.res
          have g0 := cell_of_row _ _ 0 _ _ (0, 0) hbf; have gl := (Array.getElem?_eq_some_iff.1 hbf).1
          have g1 := cell_of_row _ _ 0 _ _ (0, 0) hrf; have gf := block_free hrf 0; have gr := (Array.getElem?_eq_some_iff.1 hrf).1
          have t0 := cell_of_row _ _ 0 _ _ (0, 0) (block_set (o := 0) (v := .slice (some ⟨gz, 0, none⟩) 3 cz) hrf)
          have HP : Hid (∀ v, PickedR91 1200 w p A n c zs k (.returned (.tuple #[.agg #[.slice (some ⟨gz, 0, none⟩) 3 cz], v])) (World.setCell wz ⟨w.heap.size, 0, none⟩ (.slice (some ⟨gz, 0, none⟩) 3 cz))) := Lib.hid (fun v => ⟨[.slice (some ⟨gz, 0, none⟩) 3 cz], _, v, _, rfl, RaidR.keep (fun b a1 a2 => heap_far (by show b ≠ w.heap.size; omega)) (by simp [World.setCell]) _ _ (RaidR.wide (lo := lo) (hi := hiz) (by omega) hhz (Nat.le_refl _) _ _ HNZ.out.r) |> fun h => RaidR.wide (Nat.le_of_lt hlow) (by simp [World.setCell]) (by simp [World.setCell]) _ _ h, by omega, Rd.own HRD.out HRz.out (by simp [World.setCell]) (fun b hb => heap_far (by show b ≠ w.heap.size; omega)), Chg.setCell (p := ⟨w.heap.size, 0, none⟩) HCz.out.chg (.inr (Nat.le_refl _)) _⟩)
          clear hbf hrf
          go_wp2_with fail
          exact bodyPost_ret (v := .tuple #[.agg #[.slice (some ⟨gz, 0, none⟩) 3 cz], .slice A' m c']) (by simp [results, Try.results25, go_sem, t0]) rfl (HP.out _)
      · skip
        go_wp2_with fail
        refine (pick_any we p A n c zs (q + 1) 3 HRe.out (by omega) (by omega) (by omega)).mono ?_
        rintro e wf ⟨j, rfl, hj, rdf, hcf, hzf⟩
        have hj3 : j < 3 := by have := hj (by omega); omega
        have HBf := Lib.hid (HBe.out.step hcf hp hlow hbl)
        have HLf := Lib.hid (HLe.out.keep (fun b hb => hcf.block b (HLe.out.lt b hb) (by simp; intro he; obtain ⟨_, _, h2, _⟩ := HLe.out; have := h2 b hb; omega)))
        have HRf := Lib.hid rdf
        have lbf : bx < wf.heap.size := by omega
        clear rdf hcf HBe HRe HLe
        obtain ⟨g, c3, hif, x, hbxf, hNf, hhif, hGf⟩ := HBf.out.raid
        obtain ⟨xd, hxd⟩ : ∃ d, x[j]? = some d := ⟨x[j]'(by rw [hGf.1]; exact hj3), List.getElem?_eq_getElem _⟩
        obtain ⟨x0, x1, gone⟩ := xd
        obtain ⟨hdk, -, hwl⟩ := hGf.2 _ (List.mem_of_getElem? hxd)
        unfold diskOk at hdk
        simp only [Bool.and_eq_true, decide_eq_true_eq, List.all_eq_true] at hdk
        obtain ⟨⟨⟨⟨hx0, hx1⟩, hx2⟩, hx3⟩, hx4⟩ := hdk
        have HT : Hid (∀ s ∈ x0, s.size ≤ 200) := Lib.hid (fun s hs => by have := hx2 s hs; unfold textOk at this; simp at this; exact this.1)
        have HW : Hid (∀ y ∈ x1, inB y.1 0 63 = true ∧ y.2.size ≤ 200) := Lib.hid (fun y hy => by have := hx4 y hy; unfold waitOk at this; simpa using this)
        obtain ⟨o, hO⟩ := hNf.o
        obtain ⟨cur, gi, c0, A1, n1, c1, hD⟩ := hO.disk hxd hx0
        have hn1 : n1 ≤ 120 := by have := hD.wait.len; omega
        have HL1 : Hid (x1.length = n1) := Lib.hid hD.wait.len
        have q0 := hD.q0; have q1 := hD.q1; have q2 := hD.q2
        have hgb : g ≠ bx := fun e => by
          have := hD.hg
          rw [e, hbxf] at this
          injection this with e; injection e with _ e; exact absurd e (by decide)
        have hib : gi ≠ bx := fun e => by
          obtain ⟨c5, h5, _⟩ := hD.str
          rw [e, hbxf] at h5
          injection h5 with h5; injection h5 with _ h5; exact absurd h5 (by decide)
        have hgg := hD.ng
        have lgr : g < wf.heap.size := (Array.getElem?_eq_some_iff.1 hD.hg).1
        have lgi : gi < wf.heap.size := hD.str.lt
        have hlgi := hD.h1
        have hlg : lo ≤ g := by
          obtain ⟨g_, cur_, o_, e2_, hg2_, _⟩ := hNf.arr (by omega)
          injection e2_ with e2_; injection e2_ with e2_ _; omega
        have hg9 : j * 3 + 3 ≤ cur.size := by
          obtain ⟨cur_, h_, hs_, h3_⟩ := hNf.arrG
          have e_ := hD.hg.symm.trans h_
          injection e_ with e_; injection e_ with e_; rw [e_, hs_]; omega
        have HBX := Lib.hid hbxf; have HGF := Lib.hid hGf; have HO := Lib.hid hO; have HD := Lib.hid hD; have HXD := Lib.hid hxd; have HX0 := Lib.hid hx0; have HGSZ := Lib.hid hg9
        have HQ0 := Lib.hid q0; have HQ1 := Lib.hid q1; have HQ2 := Lib.hid q2
        have j0 : (0 : Int) ≤ (j : Int) := by omega
        have j1 : (j : Int) < 3 := by omega
        clear hbxf hNf hGf hO hD hxd hx0 hx1 hx2 hx3 hx4 hwl q0 q1 q2 hg9
        go_wp2_with fail
        apply wp_region_rgz (Chg (fun b => b = gi ∨ b = g)) (Ext) (fun y w' k' => (k' < 1000 → Below wf.heap.size wf w') ∧ w'.heap[bx]? = wf.heap[bx]? ∧ (3000 ≤ k' → ∃ B, Chg (fun b => b = gi ∨ b = g) wf w' ∧ StrArr 9 w' gi c0 (settleTo flushF x1 x0 n1) ∧ w'.heap[g]? = some (.cells (putAt cur (j * 3) [.slice (some ⟨gi, 0, none⟩) 64 c0, .slice B 0 0, .bool gone]) 45 (0, 0)))) [0, 0, 0, 0, 0, 0, 0, 0, 1000, 0, 2000] [2000, 2000, 2000, 3000, 3000, 3000, 3000, 3000, 3000, 2000, 2000] (by kernel_rfl) (false :: false :: false :: false :: false :: false :: false :: false :: false :: false :: false :: false :: false :: false :: false :: false :: false :: false :: false :: false :: false :: false :: false :: false :: false :: false :: false :: false :: false :: false :: false :: false :: false :: false :: false :: false :: false :: false :: false :: false :: false :: false :: false :: false :: false :: false :: false :: false :: false :: false :: false :: false :: false :: false :: false :: false :: false :: false :: false :: false :: false :: false :: false :: false :: false :: false :: false :: false :: false :: false :: false :: false :: true :: true :: true :: true :: true :: true :: true :: true :: true :: true :: false :: false :: false :: false :: false :: false :: false :: false :: false :: false :: false :: false :: false :: false :: false :: false :: false :: false :: false :: false :: false :: false :: false :: false :: false :: false :: false :: false :: false :: false :: false :: false :: false :: false :: []) [some 72, some 73, some 74, some 75, some 76, some 77, some 78, some 79, some 80, some 81, none] [[], [0], [], [], [3], [], [4, 5], [6], [7], [1, 2], [8, 9]] [false, false, false, false, false, false, false, false, true, false, true] [true, true, true, true, true, true, true, true, false, true, true] [] [MStP.is _, MStP.is _, MStP.is _, MStP.is _, MStP.is _, MStP.is _, MStP.is _, MStP.is _, ⟨fun v w' => ∃ B, v = .agg #[.slice (some ⟨gi, 0, none⟩) 64 c0, .slice B 0 0, .bool gone] ∧ Chg (· ∈ [gi]) wf w' ∧ StrArr 9 w' gi c0 (settleTo flushF x1 x0 n1), false, fun v w' w'' hs h => by obtain ⟨B, e, h1, h2⟩ := h; exact ⟨B, e, h1.trans (Chg.of_below hs _), h2.below hs⟩, fun h => by cases h⟩, MStP.is _, MStP.is _] (by kernel_rfl) (by kernel_rfl) (by kernel_rfl) (by kernel_rfl)
        case hobs =>
          refine ⟨fun y w' k hS hj hk hF K hK => ?_, ?_⟩
          · skip -- 0: fieldAddr
            simp only [fillL, cond_true, cond_false, List.getD_cons_zero, List.getD_cons_succ, StP.is, Act.put, List.setIfInBounds_toArray, List.set_cons_zero, List.set_cons_succ, Nat.reduceAdd, MStP.is, Option.isSome_some, Option.isSome_none] at hK ⊢
            simp only [List.sum_cons, List.sum_nil, List.getD_cons_zero, List.getD_cons_succ, Nat.reduceAdd, Nat.add_zero] at hk
            refine rg_yes (by kernel_rfl) ?_
            clear hF
            go_simp
            exact hK _ _ (Ext.refl _) ⟨fun h => hj.1 h, hj.2.1, fun h => hj.2.2 h⟩ rfl
          refine ⟨fun y w' k hS hj hk hF K hK => ?_, ?_⟩
          · skip -- 1: load
            have e72 : y 72 = _ := hF.1
            have e72' := Lib.hid e72
            simp only [fillL, cond_true, cond_false, List.getD_cons_zero, List.getD_cons_succ, StP.is, Act.put, List.setIfInBounds_toArray, List.set_cons_zero, List.set_cons_succ, Nat.reduceAdd, e72, MStP.is, Option.isSome_some, Option.isSome_none] at hK ⊢
            simp only [List.sum_cons, List.sum_nil, List.getD_cons_zero, List.getD_cons_succ, Nat.reduceAdd, Nat.add_zero] at hk
            refine rg_yes (by kernel_rfl) ?_
            clear e72
            clear hF
            have qb_ := (World.cell?_of_block (a := ⟨bx, 0, none⟩) hj.2.1).trans (cell_of_row _ _ 0 _ _ (0, 0) HBX.out)
            have lqb_ := World.block_lt_of_cell? _ _ qb_
            go_simp
            exact hK _ _ (Ext.refl _) ⟨fun h => hj.1 h, hj.2.1, fun h => hj.2.2 h⟩ rfl
          refine ⟨fun y w' k hS hj hk hF K hK => ?_, ?_⟩
          · skip -- 2: move
            simp only [fillL, cond_true, cond_false, List.getD_cons_zero, List.getD_cons_succ, StP.is, Act.put, List.setIfInBounds_toArray, List.set_cons_zero, List.set_cons_succ, Nat.reduceAdd, MStP.is, Option.isSome_some, Option.isSome_none] at hK ⊢
            simp only [List.sum_cons, List.sum_nil, List.getD_cons_zero, List.getD_cons_succ, Nat.reduceAdd, Nat.add_zero] at hk
            refine rg_yes (by kernel_rfl) ?_
            clear hF
            go_simp
            exact hK _ _ (Ext.refl _) ⟨fun h => hj.1 h, hj.2.1, fun h => hj.2.2 h⟩ rfl
          refine ⟨fun y w' k hS hj hk hF K hK => ?_, ?_⟩
          · skip -- 3: fieldAddr
            simp only [fillL, cond_true, cond_false, List.getD_cons_zero, List.getD_cons_succ, StP.is, Act.put, List.setIfInBounds_toArray, List.set_cons_zero, List.set_cons_succ, Nat.reduceAdd, MStP.is, Option.isSome_some, Option.isSome_none] at hK ⊢
            simp only [List.sum_cons, List.sum_nil, List.getD_cons_zero, List.getD_cons_succ, Nat.reduceAdd, Nat.add_zero] at hk
            refine rg_yes (by kernel_rfl) ?_
            clear hF
            go_simp
            exact hK _ _ (Ext.refl _) ⟨fun h => hj.1 h, hj.2.1, fun h => hj.2.2 h⟩ rfl
          refine ⟨fun y w' k hS hj hk hF K hK => ?_, ?_⟩
          · skip -- 4: load
            have e75 : y 75 = _ := hF.1
            have e75' := Lib.hid e75
            simp only [fillL, cond_true, cond_false, List.getD_cons_zero, List.getD_cons_succ, StP.is, Act.put, List.setIfInBounds_toArray, List.set_cons_zero, List.set_cons_succ, Nat.reduceAdd, e75, MStP.is, Option.isSome_some, Option.isSome_none] at hK ⊢
            simp only [List.sum_cons, List.sum_nil, List.getD_cons_zero, List.getD_cons_succ, Nat.reduceAdd, Nat.add_zero] at hk
            refine rg_yes (by kernel_rfl) ?_
            clear e75
            clear hF
            have qb_ := (World.cell?_of_block (a := ⟨bx, 0, none⟩) hj.2.1).trans (cell_of_row _ _ 0 _ _ (0, 0) HBX.out)
            have lqb_ := World.block_lt_of_cell? _ _ qb_
            go_simp
            exact hK _ _ (Ext.refl _) ⟨fun h => hj.1 h, hj.2.1, fun h => hj.2.2 h⟩ rfl
          refine ⟨fun y w' k hS hj hk hF K hK => ?_, ?_⟩
          · skip -- 5: move
            simp only [fillL, cond_true, cond_false, List.getD_cons_zero, List.getD_cons_succ, StP.is, Act.put, List.setIfInBounds_toArray, List.set_cons_zero, List.set_cons_succ, Nat.reduceAdd, MStP.is, Option.isSome_some, Option.isSome_none] at hK ⊢
            simp only [List.sum_cons, List.sum_nil, List.getD_cons_zero, List.getD_cons_succ, Nat.reduceAdd, Nat.add_zero] at hk
            refine rg_yes (by kernel_rfl) ?_
            clear hF
            go_simp
            exact hK _ _ (Ext.refl _) ⟨fun h => hj.1 h, hj.2.1, fun h => hj.2.2 h⟩ rfl
          refine ⟨fun y w' k hS hj hk hF K hK => ?_, ?_⟩
          · skip -- 6: indexAddr
            have e76 : y 76 = _ := hF.1
            have e77 : y 77 = _ := hF.2.1
            have e76' := Lib.hid e76
            have e77' := Lib.hid e77
            simp only [fillL, cond_true, cond_false, List.getD_cons_zero, List.getD_cons_succ, StP.is, Act.put, List.setIfInBounds_toArray, List.set_cons_zero, List.set_cons_succ, Nat.reduceAdd, e76, e77, MStP.is, Option.isSome_some, Option.isSome_none] at hK ⊢
            simp only [List.sum_cons, List.sum_nil, List.getD_cons_zero, List.getD_cons_succ, Nat.reduceAdd, Nat.add_zero] at hk
            refine rg_yes (by kernel_rfl) ?_
            clear e76 e77
            clear hF
            go_simp
            exact hK _ _ (Ext.refl _) ⟨fun h => hj.1 h, hj.2.1, fun h => hj.2.2 h⟩ rfl
          refine ⟨fun y w' k hS hj hk hF K hK => ?_, ?_⟩
          · skip -- 7: load
            have e78 : y 78 = _ := hF.1
            have e78' := Lib.hid e78
            simp only [fillL, cond_true, cond_false, List.getD_cons_zero, List.getD_cons_succ, StP.is, Act.put, List.setIfInBounds_toArray, List.set_cons_zero, List.set_cons_succ, Nat.reduceAdd, e78, MStP.is, Option.isSome_some, Option.isSome_none] at hK ⊢
            simp only [List.sum_cons, List.sum_nil, List.getD_cons_zero, List.getD_cons_succ, Nat.reduceAdd, Nat.add_zero] at hk
            refine rg_yes (by kernel_rfl) ?_
            clear e78
            clear hF
            have hE := hj.1 (by omega)
            have hsw := hE.size
            have q0_ := (World.cell?_of_block (a := ⟨g, _, none⟩) (hE.block _ lgr)).trans HQ0.out
            have q1_ := (World.cell?_of_block (a := ⟨g, _, none⟩) (hE.block _ lgr)).trans HQ1.out
            have q2_ := (World.cell?_of_block (a := ⟨g, _, none⟩) (hE.block _ lgr)).trans HQ2.out
            go_simp
            exact hK _ _ (Ext.refl _) ⟨fun h => hE, hj.2.1, fun h => absurd h (by omega)⟩ rfl
          refine ⟨fun y w' k hS hj hk hF K hK => ?_, ?_⟩
          · skip -- 8: call
            have e79 : y 79 = _ := hF.1
            have e79' := Lib.hid e79
            simp only [fillL, cond_true, cond_false, List.getD_cons_zero, List.getD_cons_succ, StP.is, Act.put, List.setIfInBounds_toArray, List.set_cons_zero, List.set_cons_succ, Nat.reduceAdd, e79, MStP.is, Option.isSome_some, Option.isSome_none] at hK ⊢
            simp only [List.sum_cons, List.sum_nil, List.getD_cons_zero, List.getD_cons_succ, Nat.reduceAdd, Nat.add_zero] at hk
            refine rg_yes (by kernel_rfl) ?_
            clear e79
            clear hF
            have hE := hj.1 (by omega)
            go_simp
            go_at_call 48
            refine (l3Flush_any gi c0 A1 n1 c1 x0 x1 gone w' lo hif (HD.out.str.below hE) (SliceR.below HD.out.wait hE (WaitR.below hE HD.out.wait.lo_le)) HD.out.ne HX0.out hn1 (fun y hy => (HW.out y hy).1)).mono ?_
            rintro e w'' ⟨B, rfl, hA8, hC8⟩
            exact hK _ _ (hC8.mono fun b _ hb => .inl (by simpa using hb)) ⟨fun h => absurd h (by omega), (hC8.block _ (by have := hE.size; omega) (by simp; omega)).trans hj.2.1, fun h => absurd h (by omega)⟩ ⟨B, rfl, (Chg.of_below hE _).trans hC8, hA8⟩
          refine ⟨fun y w' k hS hj hk hF K hK => ?_, ?_⟩
          · skip -- 9: indexAddr
            have e73 : y 73 = _ := hF.1
            have e74 : y 74 = _ := hF.2.1
            have e73' := Lib.hid e73
            have e74' := Lib.hid e74
            simp only [fillL, cond_true, cond_false, List.getD_cons_zero, List.getD_cons_succ, StP.is, Act.put, List.setIfInBounds_toArray, List.set_cons_zero, List.set_cons_succ, Nat.reduceAdd, e73, e74, MStP.is, Option.isSome_some, Option.isSome_none] at hK ⊢
            simp only [List.sum_cons, List.sum_nil, List.getD_cons_zero, List.getD_cons_succ, Nat.reduceAdd, Nat.add_zero] at hk
            refine rg_yes (by kernel_rfl) ?_
            clear e73 e74
            clear hF
            go_simp
            exact hK _ _ (Ext.refl _) ⟨fun h => hj.1 h, hj.2.1, fun h => hj.2.2 h⟩ rfl
          refine ⟨fun y w' k hS hj hk hF K hK => ?_, ?_⟩
          · skip -- 10: store
            obtain ⟨B, e80, hC8, hA8⟩ := hF.1
            have e81 : y 81 = _ := hF.2.1
            have e80' := Lib.hid e80
            have e81' := Lib.hid e81
            simp only [fillL, cond_true, cond_false, List.getD_cons_zero, List.getD_cons_succ, StP.is, Act.put, List.setIfInBounds_toArray, List.set_cons_zero, List.set_cons_succ, Nat.reduceAdd, e80, e81, MStP.is, Option.isSome_some, Option.isSome_none] at hK ⊢
            simp only [List.sum_cons, List.sum_nil, List.getD_cons_zero, List.getD_cons_succ, Nat.reduceAdd, Nat.add_zero] at hk
            refine rg_yes (by kernel_rfl) ?_
            clear e80 e81
            clear hF
            have hg8 := (hC8.block g lgr (by simp; exact fun e => hgg e.symm)).trans HD.out.hg
            have f0_ := block_free hg8 (j * 3); have f1_ := block_free hg8 (j * 3 + 1); have f2_ := block_free hg8 (j * 3 + 2)
            have hgsz := HGSZ.out
            have c0_ : (w'.cell? ⟨g, j * 3, none⟩) = some _ := block_cell hg8 (by omega)
            have c1_ : (w'.cell? ⟨g, j * 3 + 1, none⟩) = some _ := block_cell hg8 (by omega)
            have c2_ : (w'.cell? ⟨g, j * 3 + 2, none⟩) = some _ := block_cell hg8 (by omega)
            have HC8 := Lib.hid hC8; have HA8 := Lib.hid hA8; have HG8 := Lib.hid hg8
            clear hC8 hA8 hg8
            go_simp
            refine hK undef _ (((((Chg.refl _ _).setCell (p := ⟨g, j * 3, none⟩) (.inl (.inr rfl)) _).setCell (p := ⟨g, j * 3 + 1, none⟩) (.inl (.inr rfl)) _)).setCell (p := ⟨g, j * 3 + 2, none⟩) (.inl (.inr rfl)) _) ⟨fun h => absurd h (by omega), (set3_far (by omega)).trans hj.2.1, fun _ => ⟨B, ?_, ?_, ?_⟩⟩ rfl
            · exact (((HC8.out.mono fun b _ hb => .inl (by simpa using hb)).setCell (p := ⟨g, j * 3, none⟩) (.inl (.inr rfl)) _).setCell (p := ⟨g, j * 3 + 1, none⟩) (.inl (.inr rfl)) _).setCell (p := ⟨g, j * 3 + 2, none⟩) (.inl (.inr rfl)) _
            · exact HA8.out.block ((heap_far hgg).trans ((heap_far hgg).trans (heap_far hgg)))
            · exact set3 HG8.out
          trivial
        case hH => rfl
        case hNS => exact fun _ _ h => Chg.of_below h _
        case hSt => exact fun a b => Chg.trans a b
        case hb => rfl
        case hdrew => exact (Chg.refl _ _).drewN 1
        case hj0 => exact fun y => ⟨fun _ => below_drewN (Below.refl _ _) 1, rfl, fun h => absurd h (by omega)⟩
        case hend =>
          intro y w6 hSS hJ hF
          obtain ⟨B, hC, hA, hG⟩ := hJ.2.2 (by decide)
          have hl : (settleTo flushF x1 x0 n1).length = 64 := settleTo_len.trans HX0.out
          have hT6 : ∀ s ∈ settleTo flushF x1 x0 n1, s.size ≤ 200 := settleTo_le (fun y hy => (HW.out y hy).2) HT.out (fun _ _ _ h _ => h) n1
          have hs1 := hA.slice (lo := lo) (hi := hif) HD.out.h1 HD.out.h2 (by have := hC.size; omega) (fun s hs => by have := hT6 s hs; unfold maxLen; omega)
          have hs2 := hA.whole (lo := lo) (hi := hif) HD.out.h1 HD.out.h2
          rw [hl] at hs1 hs2
          have hDN : DiskN w6 lo hif [.slice (some ⟨gi, 0, none⟩) 64 c0, .slice B 0 0, .bool gone] (settleTo flushF x1 x0 n1, [], gone) := ⟨_, _, _, _, _, _, rfl, hs1, hs2, ⟨rfl, Nat.le_refl _, Nat.zero_le _, by have := hC.size; omega, fun _ => rfl, fun h => absurd h (Nat.lt_irrefl _)⟩, .inl ⟨rfl, rfl⟩⟩
          have hN6 : RaidN w6 lo hif [.slice (some ⟨g, 0, none⟩) 3 c3] (x.set j (settleTo flushF x1 x0 n1, [], gone)) := by
            refine (RaidO.put (gi := gi) HO.out (by omega) hDN hC.size (fun A m k b hm hp hb => ?_) HD.out.og (fun i _ hi h1 h2 => hC.block i hi (fun h => h.elim h2 h1)) (fun cur' hcur' => ?_)).n
            · simp only [List.mem_cons, Value.slice.injEq, List.not_mem_nil, or_false, reduceCtorEq] at hm
              rcases hm with ⟨rfl, rfl, rfl⟩ | ⟨rfl, rfl, rfl⟩
              · rw [blkOf_iff] at hb; rw [hb]; exact HD.out.og
              · omega
            · rw [HD.out.hg] at hcur'
              injection hcur' with e; injection e with e _; subst e
              exact hG
          have hx6 : (x.set j (settleTo flushF x1 x0 n1, [], gone))[j]? = some (settleTo flushF x1 x0 n1, [], gone) := by
            have := HGF.out.1
            rw [List.getElem?_set_self (by omega)]
          have HX6 : Hid ((x.set j (settleTo flushF x1 x0 n1, [], gone)).length = 3) := Lib.hid (by rw [List.length_set]; exact HGF.out.1)
          generalize x.set j (settleTo flushF x1 x0 n1, [], gone) = x6 at hN6 hx6 HX6
          generalize settleTo flushF x1 x0 n1 = t6 at hl hT6 hx6
          have nG : NotT bx wf := NotT.of HBX.out (by decide) (by decide)
          have nS : ∀ b, NotT b wf → b ≠ gi ∧ b ≠ g := fun b hn => by
            obtain ⟨c5, h5, _⟩ := HD.out.str
            exact ⟨fun e => hn.1 c5 (e ▸ h5), fun e => hn.2 _ (e ▸ HD.out.hg)⟩
          have hwf := HBf.out.chg.size
          have hz6 := hC.size
          have HB6 : Hid (w6.heap[bx]? = some (.cells #[.slice (some ⟨g, 0, none⟩) 3 c3] 35 (0, 0))) := Lib.hid ((hC.block bx lbf (fun h => h.elim (nS bx nG).1 (nS bx nG).2)).trans HBX.out)
          have HX_ : Hid (Chg (· ∈ [p]) w w6) := Lib.hid ⟨hC.os.trans HBf.out.chg.os, hC.tape.trans HBf.out.chg.tape, hC.output.trans HBf.out.chg.output, by omega, fun b hb1 hs => (hC.block b (by omega) (fun h => by omega)).trans (HBf.out.chg.block b hb1 hs)⟩
          have HRE6 : Hid (w6.heap[w.heap.size]? = some (.cells #[.slice none 0 0] 35 (0, 0))) := Lib.hid ((hC.block _ (by omega) (fun h => by omega)).trans HBf.out.res)
          have HL6 := Lib.hid (HLf.out.keep (fun b hb => hC.block b (HLf.out.lt b hb) (fun h => h.elim (nS b (HLf.out.notT b hb)).1 (nS b (HLf.out.notT b hb)).2)))
          have HR6 : Hid (Rd w6 p A n c zs (q + 1 + 1)) := Lib.hid (Rd.own HRD.out HRf.out hz6 (fun b hb => hC.block b (by omega) (fun h => by omega)))
          have lb6 : bx < w6.heap.size := by omega
          have hi6 : hif ≤ w6.heap.size := by omega
          obtain ⟨o6, hO6⟩ := hN6.o
          obtain ⟨cur6, gi6, c6, A6, n6, d6, hD6⟩ := hO6.disk hx6 hl
          obtain ⟨gS, aS, curS, rfl, haS, hgS, hvS, hzS⟩ := HL6.out.head (by omega)
          have HO6 := Lib.hid hO6; have HD6 := Lib.hid hD6; have HL6_ := Lib.hid hl; have HT6 := Lib.hid hT6; have HGS := Lib.hid hgS; have HVS := Lib.hid hvS
          have lgS : gS < w6.heap.size := (Array.getElem?_eq_some_iff.1 hgS).1
          have lg6 : g < w6.heap.size := by omega
          have li6 : gi6 < w6.heap.size := hD6.str.lt
          have hli6 := hD6.h1
          have hgg6 := hD6.ng
          have hib6 : gi6 ≠ bx := fun e => by
            obtain ⟨c5, h5, _⟩ := hD6.str
            rw [e, HB6.out] at h5
            injection h5 with h5; injection h5 with _ h5; exact absurd h5 (by decide)
          obtain ⟨q6, hq6⟩ : ∃ q6 : Nat, q6 = q + 1 + 1 := ⟨_, rfl⟩
          have HR6 : Hid (Rd w6 p A n c zs q6) := Lib.hid (by rw [hq6]; exact HR6.out)
          have lm : (0 : Int) < (m : Int) := by omega
          have lmn : 0 < m := by omega
          have la : (aS : Int) < 64 := by omega
          have la0 : (0 : Int) ≤ (aS : Int) := by omega
          clear hJ hF hSS hC hA hG hs1 hs2 hDN hN6 hx6 hl hT6 nG nS hO6 hD6 hgS hvS HBf HRf HLf HO HD HXD HX0 HGSZ HQ0 HQ1 HQ2 HBX HGF HT HW
          simp only [fillL, cond_true, cond_false, Nat.reduceAdd]
          go_wp2_with fail
          apply wp_region_rgz (Chg (fun b => b = p ∨ b = gi6)) (Ext) (fun y w' k' => (∃ q', q' ≤ q6 + 26 ∧ (k' < 1000 → q' ≤ q6) ∧ Rd w' p A n c zs q') ∧ (k' < 2000 → Chg (· ∈ [p]) w6 w') ∧ (3000 ≤ k' → Chg (fun b => b = p ∨ b = gi6) w6 w' ∧ ∃ s : ByteArray, s.size ≤ 12 ∧ StrArr 9 w' gi6 c6 (t6.set aS s))) (0 :: 0 :: 0 :: 0 :: 0 :: 0 :: 0 :: 0 :: 0 :: 0 :: 0 :: 1000 :: 0 :: 2000 :: []) (2000 :: 2000 :: 2000 :: 2000 :: 2000 :: 2000 :: 2000 :: 2000 :: 2000 :: 2000 :: 3000 :: 3000 :: 2000 :: 2000 :: []) (by kernel_rfl) (false :: false :: false :: false :: false :: false :: false :: false :: false :: false :: false :: false :: false :: false :: false :: false :: false :: false :: false :: false :: false :: false :: false :: false :: false :: false :: false :: false :: false :: false :: false :: false :: false :: false :: false :: false :: false :: false :: false :: false :: false :: false :: false :: false :: false :: false :: false :: false :: false :: false :: false :: false :: false :: false :: false :: false :: false :: false :: false :: false :: false :: false :: false :: false :: false :: false :: false :: false :: false :: false :: false :: false :: false :: false :: false :: false :: false :: false :: false :: false :: false :: false :: true :: true :: true :: true :: true :: true :: true :: true :: true :: true :: true :: true :: true :: false :: false :: false :: false :: false :: false :: false :: false :: false :: false :: false :: false :: false :: false :: false :: false :: false :: false :: false :: false :: false :: []) (some 82 :: some 83 :: some 84 :: some 85 :: some 86 :: some 87 :: some 88 :: some 89 :: some 90 :: some 91 :: some 92 :: some 93 :: some 94 :: none :: []) ([] :: [0] :: [] :: [1, 2] :: [3] :: [4] :: [] :: [6] :: [7] :: [8] :: [] :: [10] :: [5, 9] :: [11, 12] :: []) (false :: false :: false :: false :: false :: false :: false :: false :: false :: false :: false :: true :: false :: true :: []) (true :: true :: true :: true :: true :: true :: true :: true :: true :: true :: true :: true :: true :: true :: []) [] (MStP.is _ :: MStP.is _ :: MStP.is _ :: MStP.is _ :: MStP.is _ :: MStP.is _ :: MStP.is _ :: MStP.is _ :: MStP.is _ :: MStP.is _ :: MStP.is _ :: ⟨fun v w' => ∃ s : ByteArray, v = .string s ∧ s.size ≤ 12, true, fun v w' w'' hs h => h, fun _ v w' w'' hs h => h⟩ :: MStP.is _ :: MStP.is _ :: []) (by kernel_rfl) (by kernel_rfl) (by kernel_rfl) (by kernel_rfl)
          case hobs =>
            refine ⟨fun y w' k hS hj hk hF K hK => ?_, ?_⟩
            · skip -- 0: fieldAddr
              simp only [fillL, cond_true, cond_false, List.getD_cons_zero, List.getD_cons_succ, StP.is, Act.put, List.setIfInBounds_toArray, List.set_cons_zero, List.set_cons_succ, Nat.reduceAdd, MStP.is, Option.isSome_some, Option.isSome_none] at hK ⊢
              simp only [List.sum_cons, List.sum_nil, List.getD_cons_zero, List.getD_cons_succ, Nat.reduceAdd, Nat.add_zero] at hk
              refine rg_yes (by kernel_rfl) ?_
              have hsw := hS.size
              clear hF
              go_simp
              exact hK _ _ (Ext.refl _) hj rfl
            refine ⟨fun y w' k hS hj hk hF K hK => ?_, ?_⟩
            · skip -- 1: load
              have e82 : y 82 = _ := hF.1
              have e82' := Lib.hid e82
              simp only [fillL, cond_true, cond_false, List.getD_cons_zero, List.getD_cons_succ, StP.is, Act.put, List.setIfInBounds_toArray, List.set_cons_zero, List.set_cons_succ, Nat.reduceAdd, e82, MStP.is, Option.isSome_some, Option.isSome_none] at hK ⊢
              simp only [List.sum_cons, List.sum_nil, List.getD_cons_zero, List.getD_cons_succ, Nat.reduceAdd, Nat.add_zero] at hk
              refine rg_yes (by kernel_rfl) ?_
              have hsw := hS.size
              clear e82
              clear hF
              have hC_ := hj.2.1 (by omega)
              have lq_ : bx < w'.heap.size := by have := hC_.size; omega
              have q0_ := (World.cell?_of_block (a := ⟨bx, _, none⟩) (hC_.block bx lb6 (by simp; omega))).trans (cell_of_row _ _ 0 _ _ (0, 0) HB6.out)
              go_simp
              exact hK _ _ (Ext.refl _) hj rfl
            refine ⟨fun y w' k hS hj hk hF K hK => ?_, ?_⟩
            · skip -- 2: move
              simp only [fillL, cond_true, cond_false, List.getD_cons_zero, List.getD_cons_succ, StP.is, Act.put, List.setIfInBounds_toArray, List.set_cons_zero, List.set_cons_succ, Nat.reduceAdd, MStP.is, Option.isSome_some, Option.isSome_none] at hK ⊢
              simp only [List.sum_cons, List.sum_nil, List.getD_cons_zero, List.getD_cons_succ, Nat.reduceAdd, Nat.add_zero] at hk
              refine rg_yes (by kernel_rfl) ?_
              have hsw := hS.size
              clear hF
              go_simp
              exact hK _ _ (Ext.refl _) hj rfl
            refine ⟨fun y w' k hS hj hk hF K hK => ?_, ?_⟩
            · skip -- 3: indexAddr
              have e83 : y 83 = _ := hF.1
              have e84 : y 84 = _ := hF.2.1
              have e83' := Lib.hid e83
              have e84' := Lib.hid e84
              simp only [fillL, cond_true, cond_false, List.getD_cons_zero, List.getD_cons_succ, StP.is, Act.put, List.setIfInBounds_toArray, List.set_cons_zero, List.set_cons_succ, Nat.reduceAdd, e83, e84, MStP.is, Option.isSome_some, Option.isSome_none] at hK ⊢
              simp only [List.sum_cons, List.sum_nil, List.getD_cons_zero, List.getD_cons_succ, Nat.reduceAdd, Nat.add_zero] at hk
              refine rg_yes (by kernel_rfl) ?_
              have hsw := hS.size
              clear e83 e84
              clear hF
              go_simp
              exact hK _ _ (Ext.refl _) hj rfl
            refine ⟨fun y w' k hS hj hk hF K hK => ?_, ?_⟩
            · skip -- 4: fieldAddr
              have e85 : y 85 = _ := hF.1
              have e85' := Lib.hid e85
              simp only [fillL, cond_true, cond_false, List.getD_cons_zero, List.getD_cons_succ, StP.is, Act.put, List.setIfInBounds_toArray, List.set_cons_zero, List.set_cons_succ, Nat.reduceAdd, e85, MStP.is, Option.isSome_some, Option.isSome_none] at hK ⊢
              simp only [List.sum_cons, List.sum_nil, List.getD_cons_zero, List.getD_cons_succ, Nat.reduceAdd, Nat.add_zero] at hk
              refine rg_yes (by kernel_rfl) ?_
              have hsw := hS.size
              clear e85
              clear hF
              go_simp
              exact hK _ _ (Ext.refl _) hj rfl
            refine ⟨fun y w' k hS hj hk hF K hK => ?_, ?_⟩
            · skip -- 5: load
              have e86 : y 86 = _ := hF.1
              have e86' := Lib.hid e86
              simp only [fillL, cond_true, cond_false, List.getD_cons_zero, List.getD_cons_succ, StP.is, Act.put, List.setIfInBounds_toArray, List.set_cons_zero, List.set_cons_succ, Nat.reduceAdd, e86, MStP.is, Option.isSome_some, Option.isSome_none] at hK ⊢
              simp only [List.sum_cons, List.sum_nil, List.getD_cons_zero, List.getD_cons_succ, Nat.reduceAdd, Nat.add_zero] at hk
              refine rg_yes (by kernel_rfl) ?_
              have hsw := hS.size
              clear e86
              clear hF
              have hC_ := hj.2.1 (by omega)
              have lq_ : g < w'.heap.size := by have := hC_.size; omega
              have q0_ := (World.cell?_of_block (a := ⟨g, _, none⟩) (hC_.block g lg6 (by simp; omega))).trans HD6.out.q0
              go_simp
              exact hK _ _ (Ext.refl _) hj rfl
            refine ⟨fun y w' k hS hj hk hF K hK => ?_, ?_⟩
            · skip -- 6: move
              simp only [fillL, cond_true, cond_false, List.getD_cons_zero, List.getD_cons_succ, StP.is, Act.put, List.setIfInBounds_toArray, List.set_cons_zero, List.set_cons_succ, Nat.reduceAdd, MStP.is, Option.isSome_some, Option.isSome_none] at hK ⊢
              simp only [List.sum_cons, List.sum_nil, List.getD_cons_zero, List.getD_cons_succ, Nat.reduceAdd, Nat.add_zero] at hk
              refine rg_yes (by kernel_rfl) ?_
              have hsw := hS.size
              clear hF
              go_simp
              exact hK _ _ (Ext.refl _) hj rfl
            refine ⟨fun y w' k hS hj hk hF K hK => ?_, ?_⟩
            · skip -- 7: indexAddr
              have e88 : y 88 = _ := hF.1
              have e88' := Lib.hid e88
              simp only [fillL, cond_true, cond_false, List.getD_cons_zero, List.getD_cons_succ, StP.is, Act.put, List.setIfInBounds_toArray, List.set_cons_zero, List.set_cons_succ, Nat.reduceAdd, e88, MStP.is, Option.isSome_some, Option.isSome_none] at hK ⊢
              simp only [List.sum_cons, List.sum_nil, List.getD_cons_zero, List.getD_cons_succ, Nat.reduceAdd, Nat.add_zero] at hk
              refine rg_yes (by kernel_rfl) ?_
              have hsw := hS.size
              clear e88
              clear hF
              go_simp
              exact hK _ _ (Ext.refl _) hj rfl
            refine ⟨fun y w' k hS hj hk hF K hK => ?_, ?_⟩
            · skip -- 8: fieldAddr
              have e89 : y 89 = _ := hF.1
              have e89' := Lib.hid e89
              simp only [fillL, cond_true, cond_false, List.getD_cons_zero, List.getD_cons_succ, StP.is, Act.put, List.setIfInBounds_toArray, List.set_cons_zero, List.set_cons_succ, Nat.reduceAdd, e89, MStP.is, Option.isSome_some, Option.isSome_none] at hK ⊢
              simp only [List.sum_cons, List.sum_nil, List.getD_cons_zero, List.getD_cons_succ, Nat.reduceAdd, Nat.add_zero] at hk
              refine rg_yes (by kernel_rfl) ?_
              have hsw := hS.size
              clear e89
              clear hF
              go_simp
              exact hK _ _ (Ext.refl _) hj rfl
            refine ⟨fun y w' k hS hj hk hF K hK => ?_, ?_⟩
            · skip -- 9: load
              have e90 : y 90 = _ := hF.1
              have e90' := Lib.hid e90
              simp only [fillL, cond_true, cond_false, List.getD_cons_zero, List.getD_cons_succ, StP.is, Act.put, List.setIfInBounds_toArray, List.set_cons_zero, List.set_cons_succ, Nat.reduceAdd, e90, MStP.is, Option.isSome_some, Option.isSome_none] at hK ⊢
              simp only [List.sum_cons, List.sum_nil, List.getD_cons_zero, List.getD_cons_succ, Nat.reduceAdd, Nat.add_zero] at hk
              refine rg_yes (by kernel_rfl) ?_
              have hsw := hS.size
              clear e90
              clear hF
              have hC_ := hj.2.1 (by omega)
              have lq_ : gS < w'.heap.size := by have := hC_.size; omega
              have q0_ := (World.cell?_of_block (a := ⟨gS, _, none⟩) (hC_.block gS lgS (by simp; omega))).trans ((cell_of_row _ _ 0 _ _ (0, 0) HGS.out).trans HVS.out)
              go_simp
              exact hK _ _ (Ext.refl _) hj rfl
            refine ⟨fun y w' k hS hj hk hF K hK => ?_, ?_⟩
            · skip -- 10: move
              simp only [fillL, cond_true, cond_false, List.getD_cons_zero, List.getD_cons_succ, StP.is, Act.put, List.setIfInBounds_toArray, List.set_cons_zero, List.set_cons_succ, Nat.reduceAdd, MStP.is, Option.isSome_some, Option.isSome_none] at hK ⊢
              simp only [List.sum_cons, List.sum_nil, List.getD_cons_zero, List.getD_cons_succ, Nat.reduceAdd, Nat.add_zero] at hk
              refine rg_yes (by kernel_rfl) ?_
              have hsw := hS.size
              clear hF
              go_simp
              exact hK _ _ (Ext.refl _) hj rfl
            refine ⟨fun y w' k hS hj hk hF K hK => ?_, ?_⟩
            · skip -- 11: call
              have e92 : y 92 = _ := hF.1
              have e92' := Lib.hid e92
              simp only [fillL, cond_true, cond_false, List.getD_cons_zero, List.getD_cons_succ, StP.is, Act.put, List.setIfInBounds_toArray, List.set_cons_zero, List.set_cons_succ, Nat.reduceAdd, e92, MStP.is, Option.isSome_some, Option.isSome_none] at hK ⊢
              simp only [List.sum_cons, List.sum_nil, List.getD_cons_zero, List.getD_cons_succ, Nat.reduceAdd, Nat.add_zero] at hk
              refine rg_yes (by kernel_rfl) ?_
              have hsw := hS.size
              clear e92
              clear hF
              obtain ⟨q1_, hq1_, hq2_, hrd_⟩ := hj.1
              have hC_ := hj.2.1 (by omega)
              go_simp
              go_at_call 43
              refine (l91Text_any w' p A n c zs q1_ 12 hrd_ (by omega) (by omega)).mono ?_
              rintro e w'' ⟨s_, q2_, rfl, hs_, hq3_, rd2_, hc2_⟩
              exact hK _ _ (hc2_.mono fun b _ hb => .inl (by simpa using hb)) ⟨⟨q2_, by have := hq2_ (by omega); omega, fun h => absurd h (by omega), rd2_⟩, fun _ => hC_.trans hc2_, fun h => absurd h (by omega)⟩ ⟨s_, rfl, hs_⟩
            refine ⟨fun y w' k hS hj hk hF K hK => ?_, ?_⟩
            · skip -- 12: indexAddr
              have e87 : y 87 = _ := hF.1
              have e91 : y 91 = _ := hF.2.1
              have e87' := Lib.hid e87
              have e91' := Lib.hid e91
              simp only [fillL, cond_true, cond_false, List.getD_cons_zero, List.getD_cons_succ, StP.is, Act.put, List.setIfInBounds_toArray, List.set_cons_zero, List.set_cons_succ, Nat.reduceAdd, e87, e91, MStP.is, Option.isSome_some, Option.isSome_none] at hK ⊢
              simp only [List.sum_cons, List.sum_nil, List.getD_cons_zero, List.getD_cons_succ, Nat.reduceAdd, Nat.add_zero] at hk
              refine rg_yes (by kernel_rfl) ?_
              have hsw := hS.size
              clear e87 e91
              clear hF
              go_simp
              exact hK _ _ (Ext.refl _) hj rfl
            refine ⟨fun y w' k hS hj hk hF K hK => ?_, ?_⟩
            · skip -- 13: store
              obtain ⟨s_, e93, hs_⟩ := hF.1
              have e94 : y 94 = _ := hF.2.1
              have e93' := Lib.hid e93
              have e94' := Lib.hid e94
              simp only [fillL, cond_true, cond_false, List.getD_cons_zero, List.getD_cons_succ, StP.is, Act.put, List.setIfInBounds_toArray, List.set_cons_zero, List.set_cons_succ, Nat.reduceAdd, e93, e94, MStP.is, Option.isSome_some, Option.isSome_none] at hK ⊢
              simp only [List.sum_cons, List.sum_nil, List.getD_cons_zero, List.getD_cons_succ, Nat.reduceAdd, Nat.add_zero] at hk
              refine rg_yes (by kernel_rfl) ?_
              have hsw := hS.size
              clear e93 e94
              clear hF
              have hC_ := hj.2.1 (by omega)
              obtain ⟨q1_, hq1_, hq2_, hrd_⟩ := hj.1
              have hA_ := HD6.out.str.block (hC_.block gi6 li6 (by simp; omega))
              have ha_ : aS < t6.length := by rw [HL6_.out]; omega
              have c0_ := hA_.cell (List.getElem?_eq_getElem ha_)
              have f0_ : w'.frozen? ⟨gi6, aS, none⟩ = false := hA_.free
              generalize t6[aS] = old_ at c0_
              have HC_ := Lib.hid hC_; have HRD_ := Lib.hid hrd_; have HA_ := Lib.hid hA_
              clear hC_ hrd_ hA_
              go_simp
              refine hK undef _ (Chg.setCell (p := ⟨gi6, _, none⟩) (Chg.refl _ _) (.inl (.inr rfl)) _) ⟨⟨q1_, hq1_, fun h => absurd h (by omega), ?_⟩, fun h => absurd h (by omega), fun _ => ⟨?_, s_, hs_, ?_⟩⟩ rfl
              · exact Rd.own HRD.out HRD_.out (by simp [World.setCell]) (fun b hb => heap_far (by show b ≠ gi6; omega))
              · exact (HC_.out.mono fun b _ hb => .inl (by simpa using hb)).setCell (p := ⟨gi6, _, none⟩) (.inl (.inr rfl)) _
              · exact HA_.out.set ha_
            trivial
          case hH => rfl
          case hNS => exact fun _ _ h => Chg.of_below h _
          case hSt => exact fun a b => Chg.trans a b
          case hb => rfl
          case hdrew => exact (Chg.refl _ _).drewN 1
          case hj0 => exact fun y => ⟨⟨q6, by omega, fun _ => Nat.le_refl _, HR6.out.below (below_drewN (Below.refl _ _) 1)⟩, fun _ => (Chg.refl _ _).drewN 1, fun h => absurd h (by omega)⟩
          case hend =>
            intro y w7 hSS hJ hF
            obtain ⟨q7, hq7, -, hR7⟩ := hJ.1
            obtain ⟨hC, s7, hs7, hA⟩ := hJ.2.2 (by decide)
            have hz7 := hC.size
            have hw6 := HX_.out.size
            have hN7 := RaidO.text (W := w7) (RaidO.keep (w := w6) (w' := w6) (Same.refl _ _ _) (Nat.le_refl _) _ _ HO6.out) HD6.out hj3 hz7 hA (by rw [List.length_set]; exact HL6_.out) (fun s hs => by
              have : s.size ≤ 200 := by
                rcases List.mem_or_eq_of_mem_set hs with h | h
                · exact HT6.out s h
                · rw [h]; omega
              unfold maxLen; omega) (fun i hl hi h1 => hC.block i hi (fun h => by omega))
            have HCy : Hid (C91 w p bx lo w7) := Lib.hid ⟨⟨hC.os.trans HX_.out.os, hC.tape.trans HX_.out.tape, hC.output.trans HX_.out.output, by omega, fun b hb1 hs => (hC.block b (by omega) (fun h => by simp at hs; omega)).trans (HX_.out.block b hb1 hs)⟩,
              (hC.block _ (by omega) (fun h => by omega)).trans HRE6.out, g, c3, hif, _, (hC.block bx lb6 (fun h => by omega)).trans HB6.out, hN7, by omega, by rw [List.length_set]; exact HX6.out⟩
            have HRy := Lib.hid hR7
            have lby : bx < w7.heap.size := by omega
            clear hJ hF hSS hC hA hN7 hR7 HX_ HRE6 HL6 HR6 HO6 HD6 HL6_ HT6 HGS HVS HB6 HX6
            simp only [fillL, cond_true, cond_false, Nat.reduceAdd]
            go_wp2_with fail
            refine (pick_any w7 p A n c zs q7 40 HRy.out (by omega) (by omega) (by omega)).mono ?_
            rintro e wz ⟨rz, rfl, hrz, rdz, hcz, hzz⟩
            have HCz := Lib.hid (HCy.out.step hcz hp hlow hbl)
            have HRz := Lib.hid rdz
            have lbz : bx < wz.heap.size := by omega
            clear rdz hcz HCy HRy
            by_cases rz0 : (rz : Int) = 0
            · have rzb : ((rz : Int) == 0) = true := by simpa using rz0
              obtain ⟨gz, cz, hiz, xz, hbz, hNz, hhz, hlz⟩ := HCz.out.raid
              have hcz : 3 ≤ cz := by obtain ⟨_, _, _, h⟩ := hNz.arrG; exact h
              have cc1 : (1 : Int) ≤ (3 : Int) := by omega
              have cc2 : (3 : Int) ≤ (cz : Int) := by omega
              have u0 := cell_of_row _ _ 0 _ _ (0, 0) hbz; have uf := block_free hbz 0
              have HBZ := Lib.hid hbz; have HNZ := Lib.hid hNz
              clear hbz hNz hlz
              have HNW : Hid (RaidN (World.setCell wz ⟨bx, 0, none⟩ (.slice (some ⟨gz, 3, none⟩) 2 (cz - 1))) lo hiz [.slice (some ⟨gz, 0, none⟩) 3 cz] xz) := Lib.hid (RaidN.keepT (U := 35) (by decide) (by decide) (by decide) (by simp [World.setCell]) (fun i _ hn => heap_far (fun e => by have e2 : i = bx := e; subst e2; exact hn _ HBZ.out)) _ _ HNZ.out)
              have hbf := block_set (o := 0) (v := .slice (some ⟨gz, 3, none⟩) 2 (cz - 1)) HBZ.out
              have hrf := ((heap_far (p := ⟨bx, 0, none⟩) (v := .slice (some ⟨gz, 3, none⟩) 2 (cz - 1)) (by show w.heap.size ≠ bx; omega)).trans HCz.out.res)
              have g0 := cell_of_row _ _ 0 _ _ (0, 0) hbf; have gl := (Array.getElem?_eq_some_iff.1 hbf).1
              have g1 := cell_of_row _ _ 0 _ _ (0, 0) hrf; have gf := block_free hrf 0; have gr := (Array.getElem?_eq_some_iff.1 hrf).1
              have t0 := cell_of_row _ _ 0 _ _ (0, 0) (block_set (o := 0) (v := .slice (some ⟨gz, 3, none⟩) 2 (cz - 1)) hrf)
              have HP : Hid (∀ v, PickedR91 1200 w p A n c zs k (.returned (.tuple #[.agg #[.slice (some ⟨gz, 3, none⟩) 2 (cz - 1)], v])) (World.setCell (World.setCell wz ⟨bx, 0, none⟩ (.slice (some ⟨gz, 3, none⟩) 2 (cz - 1))) ⟨w.heap.size, 0, none⟩ (.slice (some ⟨gz, 3, none⟩) 2 (cz - 1)))) := Lib.hid (fun v => ⟨[.slice (some ⟨gz, 3, none⟩) 2 (cz - 1)], _, v, _, rfl, RaidR.keep (fun b a1 a2 => heap_far (by show b ≠ w.heap.size; omega)) (by simp [World.setCell]) _ _ (HNW.out.drop1) |> fun h => RaidR.wide (Nat.le_of_lt hlow) (by simp [World.setCell]; exact hhz) (Nat.le_refl _) _ _ h, by omega, Rd.own HRD.out (Rd.own HRD.out HRz.out (by simp [World.setCell]) (fun b hb => heap_far (by show b ≠ bx; omega))) (by simp [World.setCell]) (fun b hb => heap_far (by show b ≠ w.heap.size; omega)), Chg.setCell (p := ⟨w.heap.size, 0, none⟩) (Chg.setCell (p := ⟨bx, 0, none⟩) HCz.out.chg (.inr (by show w.heap.size ≤ bx; omega)) _) (.inr (Nat.le_refl _)) _⟩)
              clear hbf hrf
              go_wp2_with fail
              exact bodyPost_ret (v := .tuple #[.agg #[.slice (some ⟨gz, 3, none⟩) 2 (cz - 1)], .slice (some ⟨gS, 0, none⟩) m c']) (by simp [results, Try.results25, go_sem, t0]) rfl (HP.out _)
            have rzb : ((rz : Int) == 0) = false := by simpa using rz0
            by_cases rz1 : (rz : Int) = 1
            · have rzc : ((rz : Int) == 1) = true := by simpa using rz1
              obtain ⟨gz, cz, hiz, xz, hbz, hNz, hhz, hlz⟩ := HCz.out.raid
              have hlgz : lo ≤ gz := by
                obtain ⟨g_, cur_, o_, e2_, hg2_, _⟩ := hNz.arr (by omega)
                injection e2_ with e2_; injection e2_ with e2_ _; omega
              obtain ⟨curz, hgz, hgsz, hcz3⟩ := hNz.arrG
              have hgbz : gz ≠ bx := fun e => by
                rw [e, hbz] at hgz
                injection hgz with e; injection e with _ e; exact absurd e (by decide)
              have lgz : gz < wz.heap.size := (Array.getElem?_eq_some_iff.1 hgz).1
              have HBZ := Lib.hid hbz; have HNZ := Lib.hid hNz; have HGZ := Lib.hid hgz; have HGSZ := Lib.hid hgsz
              obtain ⟨qz, hqz⟩ : ∃ qq : Nat, qq = q7 + 1 := ⟨_, rfl⟩
              have HRy : Hid (Rd wz p A n c zs qz) := Lib.hid (by rw [hqz]; exact HRz.out)
              clear hbz hNz hlz hgz hgsz HRz
              go_wp2_with fail
              apply wp_region_rgz (Chg (fun b => b = p ∨ b = gz)) (Ext) (fun y w' k' => (∃ q', q' ≤ qz + 600 ∧ (k' < 1000 → q' ≤ qz) ∧ Rd w' p A n c zs q') ∧ (k' < 2000 → Chg (· ∈ [p]) wz w') ∧ (3000 ≤ k' → Chg (fun b => b = p ∨ b = gz) wz w' ∧ ∃ d, RaidR w' lo w'.heap.size [.slice (some ⟨gz, 0, none⟩) 3 cz] (xz.set 1 d))) [0, 0, 0, 1000, 0, 2000] [2000, 2000, 3000, 3000, 2000, 2000] (by kernel_rfl) (false :: false :: false :: false :: false :: false :: false :: false :: false :: false :: false :: false :: false :: false :: false :: false :: false :: false :: false :: false :: false :: false :: false :: false :: false :: false :: false :: false :: false :: false :: false :: false :: false :: false :: false :: false :: false :: false :: false :: false :: false :: false :: false :: false :: false :: false :: false :: false :: false :: false :: false :: false :: false :: false :: false :: false :: false :: false :: false :: false :: false :: false :: false :: false :: false :: false :: false :: false :: false :: false :: false :: false :: false :: false :: false :: false :: false :: false :: false :: false :: false :: false :: false :: false :: false :: false :: false :: false :: false :: false :: false :: false :: false :: false :: false :: false :: false :: false :: false :: false :: false :: false :: false :: false :: false :: false :: false :: false :: false :: true :: true :: true :: true :: true :: false :: false :: []) [some 109, some 110, some 111, some 112, some 113, none] [[], [0], [], [2], [1], [3, 4]] [false, false, false, true, false, true] [true, true, true, false, true, true] [] [MStP.is _, MStP.is _, MStP.is _, ⟨fun v w' => ∃ cs lo2 hi2 d, v = .agg (List.toArray cs) ∧ wz.heap.size ≤ lo2 ∧ lo2 ≤ hi2 ∧ hi2 ≤ w'.heap.size ∧ DiskR w' lo2 hi2 cs d, false, fun v w' w'' hs h => by obtain ⟨cs, lo2, hi2, d, e, h1, h2, h3, h4⟩ := h; exact ⟨cs, lo2, hi2, d, e, h1, h2, Nat.le_trans h3 (Below.size hs), DiskR.below hs h3 _ _ h4⟩, fun h => by cases h⟩, MStP.is _, MStP.is _] (by kernel_rfl) (by kernel_rfl) (by kernel_rfl) (by kernel_rfl)
              case hobs =>
                refine ⟨fun y w' k hS hj hk hF K hK => ?_, ?_⟩
                · skip -- 0: fieldAddr
                  simp only [fillL, cond_true, cond_false, List.getD_cons_zero, List.getD_cons_succ, StP.is, Act.put, List.setIfInBounds_toArray, List.set_cons_zero, List.set_cons_succ, Nat.reduceAdd, MStP.is, Option.isSome_some, Option.isSome_none] at hK ⊢
                  simp only [List.sum_cons, List.sum_nil, List.getD_cons_zero, List.getD_cons_succ, Nat.reduceAdd, Nat.add_zero] at hk
                  refine rg_yes (by kernel_rfl) ?_
                  have hsw := hS.size
                  clear hF
                  go_simp
                  exact hK _ _ (Ext.refl _) hj rfl
                refine ⟨fun y w' k hS hj hk hF K hK => ?_, ?_⟩
                · skip -- 1: load
                  have e109 : y 109 = _ := hF.1
                  have e109' := Lib.hid e109
                  simp only [fillL, cond_true, cond_false, List.getD_cons_zero, List.getD_cons_succ, StP.is, Act.put, List.setIfInBounds_toArray, List.set_cons_zero, List.set_cons_succ, Nat.reduceAdd, e109, MStP.is, Option.isSome_some, Option.isSome_none] at hK ⊢
                  simp only [List.sum_cons, List.sum_nil, List.getD_cons_zero, List.getD_cons_succ, Nat.reduceAdd, Nat.add_zero] at hk
                  refine rg_yes (by kernel_rfl) ?_
                  have hsw := hS.size
                  clear e109
                  clear hF
                  have hC_ := hj.2.1 (by omega)
                  have q0_ := (World.cell?_of_block (a := ⟨bx, 0, none⟩) (hC_.block bx lbz (by simp; omega))).trans (cell_of_row _ _ 0 _ _ (0, 0) HBZ.out)
                  have lq_ : bx < w'.heap.size := by have := hC_.size; omega
                  go_simp
                  exact hK _ _ (Ext.refl _) hj rfl
                refine ⟨fun y w' k hS hj hk hF K hK => ?_, ?_⟩
                · skip -- 2: move
                  simp only [fillL, cond_true, cond_false, List.getD_cons_zero, List.getD_cons_succ, StP.is, Act.put, List.setIfInBounds_toArray, List.set_cons_zero, List.set_cons_succ, Nat.reduceAdd, MStP.is, Option.isSome_some, Option.isSome_none] at hK ⊢
                  simp only [List.sum_cons, List.sum_nil, List.getD_cons_zero, List.getD_cons_succ, Nat.reduceAdd, Nat.add_zero] at hk
                  refine rg_yes (by kernel_rfl) ?_
                  have hsw := hS.size
                  clear hF
                  go_simp
                  exact hK _ _ (Ext.refl _) hj rfl
                refine ⟨fun y w' k hS hj hk hF K hK => ?_, ?_⟩
                · skip -- 3: call
                  have e111 : y 111 = _ := hF.1
                  have e111' := Lib.hid e111
                  simp only [fillL, cond_true, cond_false, List.getD_cons_zero, List.getD_cons_succ, StP.is, Act.put, List.setIfInBounds_toArray, List.set_cons_zero, List.set_cons_succ, Nat.reduceAdd, e111, MStP.is, Option.isSome_some, Option.isSome_none] at hK ⊢
                  simp only [List.sum_cons, List.sum_nil, List.getD_cons_zero, List.getD_cons_succ, Nat.reduceAdd, Nat.add_zero] at hk
                  refine rg_yes (by kernel_rfl) ?_
                  have hsw := hS.size
                  clear e111
                  clear hF
                  obtain ⟨q1_, hq1_, hq2_, hrd_⟩ := hj.1
                  have hC_ := hj.2.1 (by omega)
                  go_simp
                  go_at_call 49
                  refine (l91Disk_any w' p A n c zs q1_ hrd_ (by omega)).mono ?_
                  rintro e w'' ⟨csd, xd, q2_, rfl, hdR, hl1_, hl2_, hq3_, rd2_, hc2_⟩
                  exact hK _ _ (hc2_.mono fun b _ hb => .inl (by simpa using hb)) ⟨⟨q2_, by have := hq2_ (by omega); omega, fun h => absurd h (by omega), rd2_⟩, fun _ => hC_.trans hc2_, fun h => absurd h (by omega)⟩ ⟨csd, w'.heap.size, w''.heap.size, xd, rfl, hC_.size, hc2_.size, Nat.le_refl _, hdR⟩
                refine ⟨fun y w' k hS hj hk hF K hK => ?_, ?_⟩
                · skip -- 4: indexAddr
                  have e110 : y 110 = _ := hF.1
                  have e110' := Lib.hid e110
                  simp only [fillL, cond_true, cond_false, List.getD_cons_zero, List.getD_cons_succ, StP.is, Act.put, List.setIfInBounds_toArray, List.set_cons_zero, List.set_cons_succ, Nat.reduceAdd, e110, MStP.is, Option.isSome_some, Option.isSome_none] at hK ⊢
                  simp only [List.sum_cons, List.sum_nil, List.getD_cons_zero, List.getD_cons_succ, Nat.reduceAdd, Nat.add_zero] at hk
                  refine rg_yes (by kernel_rfl) ?_
                  have hsw := hS.size
                  clear e110
                  clear hF
                  go_simp
                  exact hK _ _ (Ext.refl _) hj rfl
                refine ⟨fun y w' k hS hj hk hF K hK => ?_, ?_⟩
                · skip -- 5: store
                  obtain ⟨csd, lo2, hi2, dd, e112, hlo2, hlh2, hhi2, hd⟩ := hF.1
                  have HD := Lib.hid hd
                  obtain ⟨D0, d0_, dc0, D1, d1_, dc1, rfl, -⟩ := hd
                  have e113 : y 113 = _ := hF.2.1
                  have e112' := Lib.hid e112
                  have e113' := Lib.hid e113
                  simp only [fillL, cond_true, cond_false, List.getD_cons_zero, List.getD_cons_succ, StP.is, Act.put, List.setIfInBounds_toArray, List.set_cons_zero, List.set_cons_succ, Nat.reduceAdd, e112, e113, MStP.is, Option.isSome_some, Option.isSome_none] at hK ⊢
                  simp only [List.sum_cons, List.sum_nil, List.getD_cons_zero, List.getD_cons_succ, Nat.reduceAdd, Nat.add_zero] at hk
                  refine rg_yes (by kernel_rfl) ?_
                  have hsw := hS.size
                  clear e112 e113
                  clear hF
                  have hC_ := hj.2.1 (by omega)
                  have hg_ := (hC_.block gz lgz (by simp; omega)).trans HGZ.out
                  have HNW := Lib.hid (RaidN.keep (fun b a1 a2 => hC_.block b (by omega) (by simp; omega)) hC_.size _ _ HNZ.out)
                  obtain ⟨q1_, hq1_, hq2_, hrd_⟩ := hj.1
                  have HG_ := Lib.hid hg_
                  have hgs_ := HGSZ.out
                  have t0 : w'.cell? ⟨gz, 3, none⟩ = some _ := block_cell hg_ (by rw [hgs_]; omega)
                  have t1 : w'.cell? ⟨gz, 4, none⟩ = some _ := block_cell hg_ (by rw [hgs_]; omega)
                  have t2 : w'.cell? ⟨gz, 5, none⟩ = some _ := block_cell hg_ (by rw [hgs_]; omega)
                  have fr0 : w'.frozen? ⟨gz, 3, none⟩ = false := block_free hg_ _
                  have fr1 : w'.frozen? ⟨gz, 4, none⟩ = false := block_free hg_ _
                  have fr2 : w'.frozen? ⟨gz, 5, none⟩ = false := block_free hg_ _
                  generalize curz[3]'_ = y0_ at t0
                  generalize curz[4]'_ = y1_ at t1
                  generalize curz[5]'_ = y2_ at t2
                  have HC_ := Lib.hid hC_; have HRD_ := Lib.hid hrd_
                  clear hg_ hgs_ hC_ hrd_
                  go_simp
                  refine hK undef _ (Chg.setCell (p := ⟨gz, _, none⟩) (Chg.setCell (p := ⟨gz, _, none⟩) (Chg.setCell (p := ⟨gz, _, none⟩) (Chg.refl _ _) (.inl (.inr rfl)) _) (.inl (.inr rfl)) _) (.inl (.inr rfl)) _) ⟨⟨q1_, hq1_, fun h => absurd h (by omega), ?_⟩, fun h => absurd h (by omega), fun _ => ⟨?_, dd, ?_⟩⟩ rfl
                  · exact Rd.own HRD.out HRD_.out (by simp [World.setCell]) (fun b hb => set3_far (by omega))
                  · exact ((((HC_.out.mono fun b _ hb => .inl (by simpa using hb)).setCell (p := ⟨gz, 3, none⟩) (.inl (.inr rfl)) _).setCell (p := ⟨gz, 4, none⟩) (.inl (.inr rfl)) _)).setCell (p := ⟨gz, 5, none⟩) (.inl (.inr rfl)) _
                  · exact RaidN.putR HNW.out (by omega) HD.out (by omega) (by omega) hhi2 (by simp [World.setCell]) (fun i hi => set3_far hi) (fun cur h => set3 h)
                trivial
              case hH => rfl
              case hNS => exact fun _ _ h => Chg.of_below h _
              case hSt => exact fun a b => Chg.trans a b
              case hb => rfl
              case hdrew => exact (Chg.refl _ _).drewN 1
              case hj0 => exact fun y => ⟨⟨qz, by omega, fun _ => Nat.le_refl _, HRy.out.below (below_drewN (Below.refl _ _) 1)⟩, fun _ => (Chg.refl _ _).drewN 1, fun h => absurd h (by omega)⟩
              case hend =>
                intro y wy hSS hJ hF
                have hsz := hSS.size
                obtain ⟨q2, hq2, -, hRq⟩ := hJ.1
                obtain ⟨hCy, d, hRR⟩ := hJ.2.2 (by decide)
                have HRR := Lib.hid hRR
                have HRq : Hid (Rd wy p A n c zs q2) := Lib.hid hRq
                have hoy : ∀ b, b ≠ p → b ≠ gz → b < wz.heap.size → wy.heap[b]? = wz.heap[b]? := fun b h1 h2 hb => hCy.block b hb (fun h => h.elim h1 h2)
                have HBy : Hid (wy.heap[bx]? = some (.cells #[.slice (some ⟨gz, 0, none⟩) 3 cz] 35 (0, 0))) := Lib.hid ((hoy bx (by omega) (fun e => hgbz e.symm) lbz).trans HBZ.out)
                have hwz := HCz.out.chg.size
                have HXy : Hid (Chg (· ∈ [p]) w wy) := Lib.hid ⟨hCy.os.trans HCz.out.chg.os, hCy.tape.trans HCz.out.chg.tape, hCy.output.trans HCz.out.chg.output, by omega, fun b hb1 hs => (hoy b (by simpa using hs) (by omega) (by omega)).trans (HCz.out.chg.block b hb1 hs)⟩
                have HREy : Hid (wy.heap[w.heap.size]? = some (.cells #[.slice none 0 0] 35 (0, 0))) := Lib.hid ((hoy _ (by omega) (by omega) (by omega)).trans HCz.out.res)
                have lby2 : bx < wy.heap.size := by omega
                clear hJ hF hSS hRR hRq hCy hoy HCz HBZ HNZ HGZ HGSZ HRy
                simp only [fillL, cond_true, cond_false, Nat.reduceAdd]
                have hbf := HBy.out
                have hrf := HREy.out
                have g0 := cell_of_row _ _ 0 _ _ (0, 0) hbf; have gl := (Array.getElem?_eq_some_iff.1 hbf).1
                have g1 := cell_of_row _ _ 0 _ _ (0, 0) hrf; have gf := block_free hrf 0; have gr := (Array.getElem?_eq_some_iff.1 hrf).1
                have t0 := cell_of_row _ _ 0 _ _ (0, 0) (block_set (o := 0) (v := .slice (some ⟨gz, 0, none⟩) 3 cz) hrf)
                have HP : Hid (∀ v, PickedR91 1200 w p A n c zs k (.returned (.tuple #[.agg #[.slice (some ⟨gz, 0, none⟩) 3 cz], v])) (World.setCell wy ⟨w.heap.size, 0, none⟩ (.slice (some ⟨gz, 0, none⟩) 3 cz))) := Lib.hid (fun v => ⟨[.slice (some ⟨gz, 0, none⟩) 3 cz], _, v, _, rfl, RaidR.keep (fun b a1 a2 => heap_far (by show b ≠ w.heap.size; omega)) (by simp [World.setCell]) _ _ HRR.out |> fun h => RaidR.wide (Nat.le_of_lt hlow) (by simp [World.setCell]) (by simp [World.setCell]) _ _ h, by omega, Rd.own HRD.out HRq.out (by simp [World.setCell]) (fun b hb => heap_far (by show b ≠ w.heap.size; omega)), Chg.setCell (p := ⟨w.heap.size, 0, none⟩) HXy.out (.inr (Nat.le_refl _)) _⟩)
                clear hbf hrf
                go_wp2_with fail
                exact bodyPost_ret (v := .tuple #[.agg #[.slice (some ⟨gz, 0, none⟩) 3 cz], .slice (some ⟨gS, 0, none⟩) m c']) (by simp [results, Try.results25, go_sem, t0]) rfl (HP.out _)
            have rzc : ((rz : Int) == 1) = false := by simpa using rz1
            obtain ⟨gz, cz, hiz, xz, hbz, hNz, hhz, hlz⟩ := HCz.out.raid
            have HBZ := Lib.hid hbz; have HNZ := Lib.hid hNz
            clear hbz hNz hlz
            have hbf := HBZ.out
            have hrf := HCz.out.res
            have g0 := cell_of_row _ _ 0 _ _ (0, 0) hbf; have gl := (Array.getElem?_eq_some_iff.1 hbf).1
            have g1 := cell_of_row _ _ 0 _ _ (0, 0) hrf; have gf := block_free hrf 0; have gr := (Array.getElem?_eq_some_iff.1 hrf).1
            have t0 := cell_of_row _ _ 0 _ _ (0, 0) (block_set (o := 0) (v := .slice (some ⟨gz, 0, none⟩) 3 cz) hrf)
            have HP : Hid (∀ v, PickedR91 1200 w p A n c zs k (.returned (.tuple #[.agg #[.slice (some ⟨gz, 0, none⟩) 3 cz], v])) (World.setCell wz ⟨w.heap.size, 0, none⟩ (.slice (some ⟨gz, 0, none⟩) 3 cz))) := Lib.hid (fun v => ⟨[.slice (some ⟨gz, 0, none⟩) 3 cz], _, v, _, rfl, RaidR.keep (fun b a1 a2 => heap_far (by show b ≠ w.heap.size; omega)) (by simp [World.setCell]) _ _ (RaidR.wide (lo := lo) (hi := hiz) (by omega) hhz (Nat.le_refl _) _ _ HNZ.out.r) |> fun h => RaidR.wide (Nat.le_of_lt hlow) (by simp [World.setCell]) (by simp [World.setCell]) _ _ h, by omega, Rd.own HRD.out HRz.out (by simp [World.setCell]) (fun b hb => heap_far (by show b ≠ w.heap.size; omega)), Chg.setCell (p := ⟨w.heap.size, 0, none⟩) HCz.out.chg (.inr (Nat.le_refl _)) _⟩)
            clear hbf hrf
            go_wp2_with fail
            exact bodyPost_ret (v := .tuple #[.agg #[.slice (some ⟨gz, 0, none⟩) 3 cz], .slice (some ⟨gS, 0, none⟩) m c']) (by simp [results, Try.results25, go_sem, t0]) rfl (HP.out _)
      · skip
        obtain ⟨gc, cc, hic, xc, hbxc, hNc, hhic, hGc⟩ := HBe.out.raid
        have u0 := cell_of_row _ _ 0 _ _ (0, 0) hbxc
        have HBXC := Lib.hid hbxc; have HNC := Lib.hid hNc; have HGC := Lib.hid hGc
        clear hbxc hNc hGc
        go_wp2_with fail
        refine (l4Flush_any gc cc xc we lo hic HNC.out hhic HGC.out.ok).mono ?_
        rintro e wd ⟨rfl, hNd, hhd, hTK⟩
        have hbxd := (hTK.at_ lbe (.inr (NotT.of HBXC.out (by decide) (by decide)))).trans HBXC.out
        have u1 := cell_of_row _ _ 0 _ _ (0, 0) hbxd; have f1 := block_free hbxd 0
        have hlt_ : ∀ b, b < w.heap.size + 1 → wd.heap[b]? = we.heap[b]? := fun b hb => hTK.at_ (by have := HBe.out.chg.size; omega) (.inl (by omega))
        have HCy : Hid (C91 w p bx lo (wd.setCell ⟨bx, 0, none⟩ (.slice (some ⟨gc, 0, none⟩) 3 cc))) := Lib.hid ⟨Chg.setCell (p := ⟨bx, 0, none⟩) ⟨hTK.os.trans HBe.out.chg.os, hTK.tape.trans HBe.out.chg.tape, hTK.output.trans HBe.out.chg.output, Nat.le_trans HBe.out.chg.size hTK.size, fun b hb1 hs => (hlt_ b (by omega)).trans (HBe.out.chg.block b hb1 hs)⟩ (.inr (by show w.heap.size ≤ bx; omega)) _,
          (heap_far (by show w.heap.size ≠ bx; omega)).trans ((hlt_ _ (by omega)).trans HBe.out.res), gc, cc, hic, _, block_set (o := 0) hbxd,
          RaidN.keepT (U := 35) (by decide) (by decide) (by decide) (by simp [World.setCell]) (fun i _ hn => heap_far (fun e => by have e2 : i = bx := e; subst e2; exact hn _ hbxd)) _ _ hNd, (by simp [World.setCell]; exact hhd), by rw [List.length_map]; exact HGC.out.1⟩
        have HRy : Hid (Rd (wd.setCell ⟨bx, 0, none⟩ (.slice (some ⟨gc, 0, none⟩) 3 cc)) p A n c zs (q + 1)) := Lib.hid (Rd.own HRD.out HRe.out (by simp [World.setCell]; exact hTK.size) (fun b hb => (heap_far (by show b ≠ bx; omega)).trans (hlt_ b (by omega))))
        have lbd : bx < wd.heap.size := by have := hTK.size; omega
        have lby : bx < (wd.setCell ⟨bx, 0, none⟩ (.slice (some ⟨gc, 0, none⟩) 3 cc)).heap.size := by simp [World.setCell]; exact lbd
        clear hNd hhd hTK hbxd hlt_ u0 HBe HRe
        go_wp2_with fail
        refine (pick_any _ p A n c zs (q + 1) 40 HRy.out (by omega) (by omega) (by omega)).mono ?_
        rintro e wz ⟨rz, rfl, hrz, rdz, hcz, hzz⟩
        have HCz := Lib.hid (HCy.out.step hcz hp hlow hbl)
        have HRz := Lib.hid rdz
        have lbz : bx < wz.heap.size := by omega
        clear rdz hcz HCy HRy
        by_cases rz0 : (rz : Int) = 0
        · have rzb : ((rz : Int) == 0) = true := by simpa using rz0
          obtain ⟨gz, cz, hiz, xz, hbz, hNz, hhz, hlz⟩ := HCz.out.raid
          have hcz : 3 ≤ cz := by obtain ⟨_, _, _, h⟩ := hNz.arrG; exact h
          have cc1 : (1 : Int) ≤ (3 : Int) := by omega
          have cc2 : (3 : Int) ≤ (cz : Int) := by omega
          have u0 := cell_of_row _ _ 0 _ _ (0, 0) hbz; have uf := block_free hbz 0
          have HBZ := Lib.hid hbz; have HNZ := Lib.hid hNz
          clear hbz hNz hlz
          have HNW : Hid (RaidN (World.setCell wz ⟨bx, 0, none⟩ (.slice (some ⟨gz, 3, none⟩) 2 (cz - 1))) lo hiz [.slice (some ⟨gz, 0, none⟩) 3 cz] xz) := Lib.hid (RaidN.keepT (U := 35) (by decide) (by decide) (by decide) (by simp [World.setCell]) (fun i _ hn => heap_far (fun e => by have e2 : i = bx := e; subst e2; exact hn _ HBZ.out)) _ _ HNZ.out)
          have hbf := block_set (o := 0) (v := .slice (some ⟨gz, 3, none⟩) 2 (cz - 1)) HBZ.out
          have hrf := ((heap_far (p := ⟨bx, 0, none⟩) (v := .slice (some ⟨gz, 3, none⟩) 2 (cz - 1)) (by show w.heap.size ≠ bx; omega)).trans HCz.out.res)
          have g0 := cell_of_row _ _ 0 _ _ (0, 0) hbf; have gl := (Array.getElem?_eq_some_iff.1 hbf).1
          have g1 := cell_of_row _ _ 0 _ _ (0, 0) hrf; have gf := block_free hrf 0; have gr := (Array.getElem?_eq_some_iff.1 hrf).1
          have t0 := cell_of_row _ _ 0 _ _ (0, 0) (block_set (o := 0) (v := .slice (some ⟨gz, 3, none⟩) 2 (cz - 1)) hrf)
          have HP : Hid (∀ v, PickedR91 1200 w p A n c zs k (.returned (.tuple #[.agg #[.slice (some ⟨gz, 3, none⟩) 2 (cz - 1)], v])) (World.setCell (World.setCell wz ⟨bx, 0, none⟩ (.slice (some ⟨gz, 3, none⟩) 2 (cz - 1))) ⟨w.heap.size, 0, none⟩ (.slice (some ⟨gz, 3, none⟩) 2 (cz - 1)))) := Lib.hid (fun v => ⟨[.slice (some ⟨gz, 3, none⟩) 2 (cz - 1)], _, v, _, rfl, RaidR.keep (fun b a1 a2 => heap_far (by show b ≠ w.heap.size; omega)) (by simp [World.setCell]) _ _ (HNW.out.drop1) |> fun h => RaidR.wide (Nat.le_of_lt hlow) (by simp [World.setCell]; exact hhz) (Nat.le_refl _) _ _ h, by omega, Rd.own HRD.out (Rd.own HRD.out HRz.out (by simp [World.setCell]) (fun b hb => heap_far (by show b ≠ bx; omega))) (by simp [World.setCell]) (fun b hb => heap_far (by show b ≠ w.heap.size; omega)), Chg.setCell (p := ⟨w.heap.size, 0, none⟩) (Chg.setCell (p := ⟨bx, 0, none⟩) HCz.out.chg (.inr (by show w.heap.size ≤ bx; omega)) _) (.inr (Nat.le_refl _)) _⟩)
          clear hbf hrf
          go_wp2_with fail
          exact bodyPost_ret (v := .tuple #[.agg #[.slice (some ⟨gz, 3, none⟩) 2 (cz - 1)], .slice A' m c']) (by simp [results, Try.results25, go_sem, t0]) rfl (HP.out _)
        have rzb : ((rz : Int) == 0) = false := by simpa using rz0
        by_cases rz1 : (rz : Int) = 1
        · have rzc : ((rz : Int) == 1) = true := by simpa using rz1
          obtain ⟨gz, cz, hiz, xz, hbz, hNz, hhz, hlz⟩ := HCz.out.raid
          have hlgz : lo ≤ gz := by
            obtain ⟨g_, cur_, o_, e2_, hg2_, _⟩ := hNz.arr (by omega)
            injection e2_ with e2_; injection e2_ with e2_ _; omega
          obtain ⟨curz, hgz, hgsz, hcz3⟩ := hNz.arrG
          have hgbz : gz ≠ bx := fun e => by
            rw [e, hbz] at hgz
            injection hgz with e; injection e with _ e; exact absurd e (by decide)
          have lgz : gz < wz.heap.size := (Array.getElem?_eq_some_iff.1 hgz).1
          have HBZ := Lib.hid hbz; have HNZ := Lib.hid hNz; have HGZ := Lib.hid hgz; have HGSZ := Lib.hid hgsz
          obtain ⟨qz, hqz⟩ : ∃ qq : Nat, qq = (q + 1) + 1 := ⟨_, rfl⟩
          have HRy : Hid (Rd wz p A n c zs qz) := Lib.hid (by rw [hqz]; exact HRz.out)
          clear hbz hNz hlz hgz hgsz HRz
          go_wp2_with fail
          apply wp_region_rgz (Chg (fun b => b = p ∨ b = gz)) (Ext) (fun y w' k' => (∃ q', q' ≤ qz + 600 ∧ (k' < 1000 → q' ≤ qz) ∧ Rd w' p A n c zs q') ∧ (k' < 2000 → Chg (· ∈ [p]) wz w') ∧ (3000 ≤ k' → Chg (fun b => b = p ∨ b = gz) wz w' ∧ ∃ d, RaidR w' lo w'.heap.size [.slice (some ⟨gz, 0, none⟩) 3 cz] (xz.set 1 d))) [0, 0, 0, 1000, 0, 2000] [2000, 2000, 3000, 3000, 2000, 2000] (by kernel_rfl) (false :: false :: false :: false :: false :: false :: false :: false :: false :: false :: false :: false :: false :: false :: false :: false :: false :: false :: false :: false :: false :: false :: false :: false :: false :: false :: false :: false :: false :: false :: false :: false :: false :: false :: false :: false :: false :: false :: false :: false :: false :: false :: false :: false :: false :: false :: false :: false :: false :: false :: false :: false :: false :: false :: false :: false :: false :: false :: false :: false :: false :: false :: false :: false :: false :: false :: false :: false :: false :: false :: false :: false :: false :: false :: false :: false :: false :: false :: false :: false :: false :: false :: false :: false :: false :: false :: false :: false :: false :: false :: false :: false :: false :: false :: false :: false :: false :: false :: false :: false :: false :: false :: false :: false :: false :: false :: false :: false :: false :: true :: true :: true :: true :: true :: false :: false :: []) [some 109, some 110, some 111, some 112, some 113, none] [[], [0], [], [2], [1], [3, 4]] [false, false, false, true, false, true] [true, true, true, false, true, true] [] [MStP.is _, MStP.is _, MStP.is _, ⟨fun v w' => ∃ cs lo2 hi2 d, v = .agg (List.toArray cs) ∧ wz.heap.size ≤ lo2 ∧ lo2 ≤ hi2 ∧ hi2 ≤ w'.heap.size ∧ DiskR w' lo2 hi2 cs d, false, fun v w' w'' hs h => by obtain ⟨cs, lo2, hi2, d, e, h1, h2, h3, h4⟩ := h; exact ⟨cs, lo2, hi2, d, e, h1, h2, Nat.le_trans h3 (Below.size hs), DiskR.below hs h3 _ _ h4⟩, fun h => by cases h⟩, MStP.is _, MStP.is _] (by kernel_rfl) (by kernel_rfl) (by kernel_rfl) (by kernel_rfl)
          case hobs =>
            refine ⟨fun y w' k hS hj hk hF K hK => ?_, ?_⟩
            · skip -- 0: fieldAddr
              simp only [fillL, cond_true, cond_false, List.getD_cons_zero, List.getD_cons_succ, StP.is, Act.put, List.setIfInBounds_toArray, List.set_cons_zero, List.set_cons_succ, Nat.reduceAdd, MStP.is, Option.isSome_some, Option.isSome_none] at hK ⊢
              simp only [List.sum_cons, List.sum_nil, List.getD_cons_zero, List.getD_cons_succ, Nat.reduceAdd, Nat.add_zero] at hk
              refine rg_yes (by kernel_rfl) ?_
              have hsw := hS.size
              clear hF
              go_simp
              exact hK _ _ (Ext.refl _) hj rfl
            refine ⟨fun y w' k hS hj hk hF K hK => ?_, ?_⟩
            · skip -- 1: load
              have e109 : y 109 = _ := hF.1
              have e109' := Lib.hid e109
              simp only [fillL, cond_true, cond_false, List.getD_cons_zero, List.getD_cons_succ, StP.is, Act.put, List.setIfInBounds_toArray, List.set_cons_zero, List.set_cons_succ, Nat.reduceAdd, e109, MStP.is, Option.isSome_some, Option.isSome_none] at hK ⊢
              simp only [List.sum_cons, List.sum_nil, List.getD_cons_zero, List.getD_cons_succ, Nat.reduceAdd, Nat.add_zero] at hk
              refine rg_yes (by kernel_rfl) ?_
              have hsw := hS.size
              clear e109
              clear hF
              have hC_ := hj.2.1 (by omega)
              have q0_ := (World.cell?_of_block (a := ⟨bx, 0, none⟩) (hC_.block bx lbz (by simp; omega))).trans (cell_of_row _ _ 0 _ _ (0, 0) HBZ.out)
              have lq_ : bx < w'.heap.size := by have := hC_.size; omega
              go_simp
              exact hK _ _ (Ext.refl _) hj rfl
            refine ⟨fun y w' k hS hj hk hF K hK => ?_, ?_⟩
            · skip -- 2: move
              simp only [fillL, cond_true, cond_false, List.getD_cons_zero, List.getD_cons_succ, StP.is, Act.put, List.setIfInBounds_toArray, List.set_cons_zero, List.set_cons_succ, Nat.reduceAdd, MStP.is, Option.isSome_some, Option.isSome_none] at hK ⊢
              simp only [List.sum_cons, List.sum_nil, List.getD_cons_zero, List.getD_cons_succ, Nat.reduceAdd, Nat.add_zero] at hk
              refine rg_yes (by kernel_rfl) ?_
              have hsw := hS.size
              clear hF
              go_simp
              exact hK _ _ (Ext.refl _) hj rfl
            refine ⟨fun y w' k hS hj hk hF K hK => ?_, ?_⟩
            · skip -- 3: call
              have e111 : y 111 = _ := hF.1
              have e111' := Lib.hid e111
              simp only [fillL, cond_true, cond_false, List.getD_cons_zero, List.getD_cons_succ, StP.is, Act.put, List.setIfInBounds_toArray, List.set_cons_zero, List.set_cons_succ, Nat.reduceAdd, e111, MStP.is, Option.isSome_some, Option.isSome_none] at hK ⊢
              simp only [List.sum_cons, List.sum_nil, List.getD_cons_zero, List.getD_cons_succ, Nat.reduceAdd, Nat.add_zero] at hk
              refine rg_yes (by kernel_rfl) ?_
              have hsw := hS.size
              clear e111
              clear hF
              obtain ⟨q1_, hq1_, hq2_, hrd_⟩ := hj.1
              have hC_ := hj.2.1 (by omega)
              go_simp
              go_at_call 49
              refine (l91Disk_any w' p A n c zs q1_ hrd_ (by omega)).mono ?_
              rintro e w'' ⟨csd, xd, q2_, rfl, hdR, hl1_, hl2_, hq3_, rd2_, hc2_⟩
              exact hK _ _ (hc2_.mono fun b _ hb => .inl (by simpa using hb)) ⟨⟨q2_, by have := hq2_ (by omega); omega, fun h => absurd h (by omega), rd2_⟩, fun _ => hC_.trans hc2_, fun h => absurd h (by omega)⟩ ⟨csd, w'.heap.size, w''.heap.size, xd, rfl, hC_.size, hc2_.size, Nat.le_refl _, hdR⟩
            refine ⟨fun y w' k hS hj hk hF K hK => ?_, ?_⟩
            · skip -- 4: indexAddr
              have e110 : y 110 = _ := hF.1
              have e110' := Lib.hid e110
              simp only [fillL, cond_true, cond_false, List.getD_cons_zero, List.getD_cons_succ, StP.is, Act.put, List.setIfInBounds_toArray, List.set_cons_zero, List.set_cons_succ, Nat.reduceAdd, e110, MStP.is, Option.isSome_some, Option.isSome_none] at hK ⊢
              simp only [List.sum_cons, List.sum_nil, List.getD_cons_zero, List.getD_cons_succ, Nat.reduceAdd, Nat.add_zero] at hk
              refine rg_yes (by kernel_rfl) ?_
              have hsw := hS.size
              clear e110
              clear hF
              go_simp
              exact hK _ _ (Ext.refl _) hj rfl
            refine ⟨fun y w' k hS hj hk hF K hK => ?_, ?_⟩
            · skip -- 5: store
              obtain ⟨csd, lo2, hi2, dd, e112, hlo2, hlh2, hhi2, hd⟩ := hF.1
              have HD := Lib.hid hd
              obtain ⟨D0, d0_, dc0, D1, d1_, dc1, rfl, -⟩ := hd
              have e113 : y 113 = _ := hF.2.1
              have e112' := Lib.hid e112
              have e113' := Lib.hid e113
              simp only [fillL, cond_true, cond_false, List.getD_cons_zero, List.getD_cons_succ, StP.is, Act.put, List.setIfInBounds_toArray, List.set_cons_zero, List.set_cons_succ, Nat.reduceAdd, e112, e113, MStP.is, Option.isSome_some, Option.isSome_none] at hK ⊢
              simp only [List.sum_cons, List.sum_nil, List.getD_cons_zero, List.getD_cons_succ, Nat.reduceAdd, Nat.add_zero] at hk
              refine rg_yes (by kernel_rfl) ?_
              have hsw := hS.size
              clear e112 e113
              clear hF
              have hC_ := hj.2.1 (by omega)
              have hg_ := (hC_.block gz lgz (by simp; omega)).trans HGZ.out
              have HNW := Lib.hid (RaidN.keep (fun b a1 a2 => hC_.block b (by omega) (by simp; omega)) hC_.size _ _ HNZ.out)
              obtain ⟨q1_, hq1_, hq2_, hrd_⟩ := hj.1
              have HG_ := Lib.hid hg_
              have hgs_ := HGSZ.out
              have t0 : w'.cell? ⟨gz, 3, none⟩ = some _ := block_cell hg_ (by rw [hgs_]; omega)
              have t1 : w'.cell? ⟨gz, 4, none⟩ = some _ := block_cell hg_ (by rw [hgs_]; omega)
              have t2 : w'.cell? ⟨gz, 5, none⟩ = some _ := block_cell hg_ (by rw [hgs_]; omega)
              have fr0 : w'.frozen? ⟨gz, 3, none⟩ = false := block_free hg_ _
              have fr1 : w'.frozen? ⟨gz, 4, none⟩ = false := block_free hg_ _
              have fr2 : w'.frozen? ⟨gz, 5, none⟩ = false := block_free hg_ _
              generalize curz[3]'_ = y0_ at t0
              generalize curz[4]'_ = y1_ at t1
              generalize curz[5]'_ = y2_ at t2
              have HC_ := Lib.hid hC_; have HRD_ := Lib.hid hrd_
              clear hg_ hgs_ hC_ hrd_
              go_simp
              refine hK undef _ (Chg.setCell (p := ⟨gz, _, none⟩) (Chg.setCell (p := ⟨gz, _, none⟩) (Chg.setCell (p := ⟨gz, _, none⟩) (Chg.refl _ _) (.inl (.inr rfl)) _) (.inl (.inr rfl)) _) (.inl (.inr rfl)) _) ⟨⟨q1_, hq1_, fun h => absurd h (by omega), ?_⟩, fun h => absurd h (by omega), fun _ => ⟨?_, dd, ?_⟩⟩ rfl
              · exact Rd.own HRD.out HRD_.out (by simp [World.setCell]) (fun b hb => set3_far (by omega))
              · exact ((((HC_.out.mono fun b _ hb => .inl (by simpa using hb)).setCell (p := ⟨gz, 3, none⟩) (.inl (.inr rfl)) _).setCell (p := ⟨gz, 4, none⟩) (.inl (.inr rfl)) _)).setCell (p := ⟨gz, 5, none⟩) (.inl (.inr rfl)) _
              · exact RaidN.putR HNW.out (by omega) HD.out (by omega) (by omega) hhi2 (by simp [World.setCell]) (fun i hi => set3_far hi) (fun cur h => set3 h)
            trivial
          case hH => rfl
          case hNS => exact fun _ _ h => Chg.of_below h _
          case hSt => exact fun a b => Chg.trans a b
          case hb => rfl
          case hdrew => exact (Chg.refl _ _).drewN 1
          case hj0 => exact fun y => ⟨⟨qz, by omega, fun _ => Nat.le_refl _, HRy.out.below (below_drewN (Below.refl _ _) 1)⟩, fun _ => (Chg.refl _ _).drewN 1, fun h => absurd h (by omega)⟩
          case hend =>
            intro y wy hSS hJ hF
            have hsz := hSS.size
            obtain ⟨q2, hq2, -, hRq⟩ := hJ.1
            obtain ⟨hCy, d, hRR⟩ := hJ.2.2 (by decide)
            have HRR := Lib.hid hRR
            have HRq : Hid (Rd wy p A n c zs q2) := Lib.hid hRq
            have hoy : ∀ b, b ≠ p → b ≠ gz → b < wz.heap.size → wy.heap[b]? = wz.heap[b]? := fun b h1 h2 hb => hCy.block b hb (fun h => h.elim h1 h2)
            have HBy : Hid (wy.heap[bx]? = some (.cells #[.slice (some ⟨gz, 0, none⟩) 3 cz] 35 (0, 0))) := Lib.hid ((hoy bx (by omega) (fun e => hgbz e.symm) lbz).trans HBZ.out)
            have hwz := HCz.out.chg.size
            have HXy : Hid (Chg (· ∈ [p]) w wy) := Lib.hid ⟨hCy.os.trans HCz.out.chg.os, hCy.tape.trans HCz.out.chg.tape, hCy.output.trans HCz.out.chg.output, by omega, fun b hb1 hs => (hoy b (by simpa using hs) (by omega) (by omega)).trans (HCz.out.chg.block b hb1 hs)⟩
            have HREy : Hid (wy.heap[w.heap.size]? = some (.cells #[.slice none 0 0] 35 (0, 0))) := Lib.hid ((hoy _ (by omega) (by omega) (by omega)).trans HCz.out.res)
            have lby2 : bx < wy.heap.size := by omega
            clear hJ hF hSS hRR hRq hCy hoy HCz HBZ HNZ HGZ HGSZ HRy
            simp only [fillL, cond_true, cond_false, Nat.reduceAdd]
            have hbf := HBy.out
            have hrf := HREy.out
            have g0 := cell_of_row _ _ 0 _ _ (0, 0) hbf; have gl := (Array.getElem?_eq_some_iff.1 hbf).1
            have g1 := cell_of_row _ _ 0 _ _ (0, 0) hrf; have gf := block_free hrf 0; have gr := (Array.getElem?_eq_some_iff.1 hrf).1
            have t0 := cell_of_row _ _ 0 _ _ (0, 0) (block_set (o := 0) (v := .slice (some ⟨gz, 0, none⟩) 3 cz) hrf)
            have HP : Hid (∀ v, PickedR91 1200 w p A n c zs k (.returned (.tuple #[.agg #[.slice (some ⟨gz, 0, none⟩) 3 cz], v])) (World.setCell wy ⟨w.heap.size, 0, none⟩ (.slice (some ⟨gz, 0, none⟩) 3 cz))) := Lib.hid (fun v => ⟨[.slice (some ⟨gz, 0, none⟩) 3 cz], _, v, _, rfl, RaidR.keep (fun b a1 a2 => heap_far (by show b ≠ w.heap.size; omega)) (by simp [World.setCell]) _ _ HRR.out |> fun h => RaidR.wide (Nat.le_of_lt hlow) (by simp [World.setCell]) (by simp [World.setCell]) _ _ h, by omega, Rd.own HRD.out HRq.out (by simp [World.setCell]) (fun b hb => heap_far (by show b ≠ w.heap.size; omega)), Chg.setCell (p := ⟨w.heap.size, 0, none⟩) HXy.out (.inr (Nat.le_refl _)) _⟩)
            clear hbf hrf
            go_wp2_with fail
            exact bodyPost_ret (v := .tuple #[.agg #[.slice (some ⟨gz, 0, none⟩) 3 cz], .slice A' m c']) (by simp [results, Try.results25, go_sem, t0]) rfl (HP.out _)
        have rzc : ((rz : Int) == 1) = false := by simpa using rz1
        obtain ⟨gz, cz, hiz, xz, hbz, hNz, hhz, hlz⟩ := HCz.out.raid
        have HBZ := Lib.hid hbz; have HNZ := Lib.hid hNz
        clear hbz hNz hlz
        have hbf := HBZ.out
        have hrf := HCz.out.res
        have g0 := cell_of_row _ _ 0 _ _ (0, 0) hbf; have gl := (Array.getElem?_eq_some_iff.1 hbf).1
        have g1 := cell_of_row _ _ 0 _ _ (0, 0) hrf; have gf := block_free hrf 0; have gr := (Array.getElem?_eq_some_iff.1 hrf).1
        have t0 := cell_of_row _ _ 0 _ _ (0, 0) (block_set (o := 0) (v := .slice (some ⟨gz, 0, none⟩) 3 cz) hrf)
        have HP : Hid (∀ v, PickedR91 1200 w p A n c zs k (.returned (.tuple #[.agg #[.slice (some ⟨gz, 0, none⟩) 3 cz], v])) (World.setCell wz ⟨w.heap.size, 0, none⟩ (.slice (some ⟨gz, 0, none⟩) 3 cz))) := Lib.hid (fun v => ⟨[.slice (some ⟨gz, 0, none⟩) 3 cz], _, v, _, rfl, RaidR.keep (fun b a1 a2 => heap_far (by show b ≠ w.heap.size; omega)) (by simp [World.setCell]) _ _ (RaidR.wide (lo := lo) (hi := hiz) (by omega) hhz (Nat.le_refl _) _ _ HNZ.out.r) |> fun h => RaidR.wide (Nat.le_of_lt hlow) (by simp [World.setCell]) (by simp [World.setCell]) _ _ h, by omega, Rd.own HRD.out HRz.out (by simp [World.setCell]) (fun b hb => heap_far (by show b ≠ w.heap.size; omega)), Chg.setCell (p := ⟨w.heap.size, 0, none⟩) HCz.out.chg (.inr (Nat.le_refl _)) _⟩)
        clear hbf hrf
        go_wp2_with fail
        exact bodyPost_ret (v := .tuple #[.agg #[.slice (some ⟨gz, 0, none⟩) 3 cz], .slice A' m c']) (by simp [results, Try.results25, go_sem, t0]) rfl (HP.out _)
      · have HCy := Lib.hid HBe.out.c
        have HRy := HRe
        go_wp2_with fail
        refine (pick_any we p A n c zs (q + 1) 40 HRy.out (by omega) (by omega) (by omega)).mono ?_
        rintro e wz ⟨rz, rfl, hrz, rdz, hcz, hzz⟩
        have HCz := Lib.hid (HCy.out.step hcz hp hlow hbl)
        have HRz := Lib.hid rdz
        have lbz : bx < wz.heap.size := by omega
        clear rdz hcz HCy HRy
        by_cases rz0 : (rz : Int) = 0
        · have rzb : ((rz : Int) == 0) = true := by simpa using rz0
          obtain ⟨gz, cz, hiz, xz, hbz, hNz, hhz, hlz⟩ := HCz.out.raid
          have hcz : 3 ≤ cz := by obtain ⟨_, _, _, h⟩ := hNz.arrG; exact h
          have cc1 : (1 : Int) ≤ (3 : Int) := by omega
          have cc2 : (3 : Int) ≤ (cz : Int) := by omega
          have u0 := cell_of_row _ _ 0 _ _ (0, 0) hbz; have uf := block_free hbz 0
          have HBZ := Lib.hid hbz; have HNZ := Lib.hid hNz
          clear hbz hNz hlz
          have HNW : Hid (RaidN (World.setCell wz ⟨bx, 0, none⟩ (.slice (some ⟨gz, 3, none⟩) 2 (cz - 1))) lo hiz [.slice (some ⟨gz, 0, none⟩) 3 cz] xz) := Lib.hid (RaidN.keepT (U := 35) (by decide) (by decide) (by decide) (by simp [World.setCell]) (fun i _ hn => heap_far (fun e => by have e2 : i = bx := e; subst e2; exact hn _ HBZ.out)) _ _ HNZ.out)
          have hbf := block_set (o := 0) (v := .slice (some ⟨gz, 3, none⟩) 2 (cz - 1)) HBZ.out
          have hrf := ((heap_far (p := ⟨bx, 0, none⟩) (v := .slice (some ⟨gz, 3, none⟩) 2 (cz - 1)) (by show w.heap.size ≠ bx; omega)).trans HCz.out.res)
          have g0 := cell_of_row _ _ 0 _ _ (0, 0) hbf; have gl := (Array.getElem?_eq_some_iff.1 hbf).1
          have g1 := cell_of_row _ _ 0 _ _ (0, 0) hrf; have gf := block_free hrf 0; have gr := (Array.getElem?_eq_some_iff.1 hrf).1
          have t0 := cell_of_row _ _ 0 _ _ (0, 0) (block_set (o := 0) (v := .slice (some ⟨gz, 3, none⟩) 2 (cz - 1)) hrf)
          have HP : Hid (∀ v, PickedR91 1200 w p A n c zs k (.returned (.tuple #[.agg #[.slice (some ⟨gz, 3, none⟩) 2 (cz - 1)], v])) (World.setCell (World.setCell wz ⟨bx, 0, none⟩ (.slice (some ⟨gz, 3, none⟩) 2 (cz - 1))) ⟨w.heap.size, 0, none⟩ (.slice (some ⟨gz, 3, none⟩) 2 (cz - 1)))) := Lib.hid (fun v => ⟨[.slice (some ⟨gz, 3, none⟩) 2 (cz - 1)], _, v, _, rfl, RaidR.keep (fun b a1 a2 => heap_far (by show b ≠ w.heap.size; omega)) (by simp [World.setCell]) _ _ (HNW.out.drop1) |> fun h => RaidR.wide (Nat.le_of_lt hlow) (by simp [World.setCell]; exact hhz) (Nat.le_refl _) _ _ h, by omega, Rd.own HRD.out (Rd.own HRD.out HRz.out (by simp [World.setCell]) (fun b hb => heap_far (by show b ≠ bx; omega))) (by simp [World.setCell]) (fun b hb => heap_far (by show b ≠ w.heap.size; omega)), Chg.setCell (p := ⟨w.heap.size, 0, none⟩) (Chg.setCell (p := ⟨bx, 0, none⟩) HCz.out.chg (.inr (by show w.heap.size ≤ bx; omega)) _) (.inr (Nat.le_refl _)) _⟩)
          clear hbf hrf
          go_wp2_with fail
          exact bodyPost_ret (v := .tuple #[.agg #[.slice (some ⟨gz, 3, none⟩) 2 (cz - 1)], .slice A' m c']) (by simp [results, Try.results25, go_sem, t0]) rfl (HP.out _)
        have rzb : ((rz : Int) == 0) = false := by simpa using rz0
        by_cases rz1 : (rz : Int) = 1
        · have rzc : ((rz : Int) == 1) = true := by simpa using rz1
          obtain ⟨gz, cz, hiz, xz, hbz, hNz, hhz, hlz⟩ := HCz.out.raid
          have hlgz : lo ≤ gz := by
            obtain ⟨g_, cur_, o_, e2_, hg2_, _⟩ := hNz.arr (by omega)
            injection e2_ with e2_; injection e2_ with e2_ _; omega
          obtain ⟨curz, hgz, hgsz, hcz3⟩ := hNz.arrG
          have hgbz : gz ≠ bx := fun e => by
            rw [e, hbz] at hgz
            injection hgz with e; injection e with _ e; exact absurd e (by decide)
          have lgz : gz < wz.heap.size := (Array.getElem?_eq_some_iff.1 hgz).1
          have HBZ := Lib.hid hbz; have HNZ := Lib.hid hNz; have HGZ := Lib.hid hgz; have HGSZ := Lib.hid hgsz
          obtain ⟨qz, hqz⟩ : ∃ qq : Nat, qq = (q + 1) + 1 := ⟨_, rfl⟩
          have HRy : Hid (Rd wz p A n c zs qz) := Lib.hid (by rw [hqz]; exact HRz.out)
          clear hbz hNz hlz hgz hgsz HRz
          go_wp2_with fail
          apply wp_region_rgz (Chg (fun b => b = p ∨ b = gz)) (Ext) (fun y w' k' => (∃ q', q' ≤ qz + 600 ∧ (k' < 1000 → q' ≤ qz) ∧ Rd w' p A n c zs q') ∧ (k' < 2000 → Chg (· ∈ [p]) wz w') ∧ (3000 ≤ k' → Chg (fun b => b = p ∨ b = gz) wz w' ∧ ∃ d, RaidR w' lo w'.heap.size [.slice (some ⟨gz, 0, none⟩) 3 cz] (xz.set 1 d))) [0, 0, 0, 1000, 0, 2000] [2000, 2000, 3000, 3000, 2000, 2000] (by kernel_rfl) (false :: false :: false :: false :: false :: false :: false :: false :: false :: false :: false :: false :: false :: false :: false :: false :: false :: false :: false :: false :: false :: false :: false :: false :: false :: false :: false :: false :: false :: false :: false :: false :: false :: false :: false :: false :: false :: false :: false :: false :: false :: false :: false :: false :: false :: false :: false :: false :: false :: false :: false :: false :: false :: false :: false :: false :: false :: false :: false :: false :: false :: false :: false :: false :: false :: false :: false :: false :: false :: false :: false :: false :: false :: false :: false :: false :: false :: false :: false :: false :: false :: false :: false :: false :: false :: false :: false :: false :: false :: false :: false :: false :: false :: false :: false :: false :: false :: false :: false :: false :: false :: false :: false :: false :: false :: false :: false :: false :: false :: true :: true :: true :: true :: true :: false :: false :: []) [some 109, some 110, some 111, some 112, some 113, none] [[], [0], [], [2], [1], [3, 4]] [false, false, false, true, false, true] [true, true, true, false, true, true] [] [MStP.is _, MStP.is _, MStP.is _, ⟨fun v w' => ∃ cs lo2 hi2 d, v = .agg (List.toArray cs) ∧ wz.heap.size ≤ lo2 ∧ lo2 ≤ hi2 ∧ hi2 ≤ w'.heap.size ∧ DiskR w' lo2 hi2 cs d, false, fun v w' w'' hs h => by obtain ⟨cs, lo2, hi2, d, e, h1, h2, h3, h4⟩ := h; exact ⟨cs, lo2, hi2, d, e, h1, h2, Nat.le_trans h3 (Below.size hs), DiskR.below hs h3 _ _ h4⟩, fun h => by cases h⟩, MStP.is _, MStP.is _] (by kernel_rfl) (by kernel_rfl) (by kernel_rfl) (by kernel_rfl)
          case hobs =>
            refine ⟨fun y w' k hS hj hk hF K hK => ?_, ?_⟩
            · skip -- 0: fieldAddr
              simp only [fillL, cond_true, cond_false, List.getD_cons_zero, List.getD_cons_succ, StP.is, Act.put, List.setIfInBounds_toArray, List.set_cons_zero, List.set_cons_succ, Nat.reduceAdd, MStP.is, Option.isSome_some, Option.isSome_none] at hK ⊢
              simp only [List.sum_cons, List.sum_nil, List.getD_cons_zero, List.getD_cons_succ, Nat.reduceAdd, Nat.add_zero] at hk
              refine rg_yes (by kernel_rfl) ?_
              have hsw := hS.size
              clear hF
              go_simp
              exact hK _ _ (Ext.refl _) hj rfl
            refine ⟨fun y w' k hS hj hk hF K hK => ?_, ?_⟩
            · skip -- 1: load
              have e109 : y 109 = _ := hF.1
              have e109' := Lib.hid e109
              simp only [fillL, cond_true, cond_false, List.getD_cons_zero, List.getD_cons_succ, StP.is, Act.put, List.setIfInBounds_toArray, List.set_cons_zero, List.set_cons_succ, Nat.reduceAdd, e109, MStP.is, Option.isSome_some, Option.isSome_none] at hK ⊢
              simp only [List.sum_cons, List.sum_nil, List.getD_cons_zero, List.getD_cons_succ, Nat.reduceAdd, Nat.add_zero] at hk
              refine rg_yes (by kernel_rfl) ?_
              have hsw := hS.size
              clear e109
              clear hF
              have hC_ := hj.2.1 (by omega)
              have q0_ := (World.cell?_of_block (a := ⟨bx, 0, none⟩) (hC_.block bx lbz (by simp; omega))).trans (cell_of_row _ _ 0 _ _ (0, 0) HBZ.out)
              have lq_ : bx < w'.heap.size := by have := hC_.size; omega
              go_simp
              exact hK _ _ (Ext.refl _) hj rfl
            refine ⟨fun y w' k hS hj hk hF K hK => ?_, ?_⟩
            · skip -- 2: move
              simp only [fillL, cond_true, cond_false, List.getD_cons_zero, List.getD_cons_succ, StP.is, Act.put, List.setIfInBounds_toArray, List.set_cons_zero, List.set_cons_succ, Nat.reduceAdd, MStP.is, Option.isSome_some, Option.isSome_none] at hK ⊢
              simp only [List.sum_cons, List.sum_nil, List.getD_cons_zero, List.getD_cons_succ, Nat.reduceAdd, Nat.add_zero] at hk
              refine rg_yes (by kernel_rfl) ?_
              have hsw := hS.size
              clear hF
              go_simp
              exact hK _ _ (Ext.refl _) hj rfl
            refine ⟨fun y w' k hS hj hk hF K hK => ?_, ?_⟩
            · skip -- 3: call
              have e111 : y 111 = _ := hF.1
              have e111' := Lib.hid e111
              simp only [fillL, cond_true, cond_false, List.getD_cons_zero, List.getD_cons_succ, StP.is, Act.put, List.setIfInBounds_toArray, List.set_cons_zero, List.set_cons_succ, Nat.reduceAdd, e111, MStP.is, Option.isSome_some, Option.isSome_none] at hK ⊢
              simp only [List.sum_cons, List.sum_nil, List.getD_cons_zero, List.getD_cons_succ, Nat.reduceAdd, Nat.add_zero] at hk
              refine rg_yes (by kernel_rfl) ?_
              have hsw := hS.size
              clear e111
              clear hF
              obtain ⟨q1_, hq1_, hq2_, hrd_⟩ := hj.1
              have hC_ := hj.2.1 (by omega)
              go_simp
              go_at_call 49
              refine (l91Disk_any w' p A n c zs q1_ hrd_ (by omega)).mono ?_
              rintro e w'' ⟨csd, xd, q2_, rfl, hdR, hl1_, hl2_, hq3_, rd2_, hc2_⟩
              exact hK _ _ (hc2_.mono fun b _ hb => .inl (by simpa using hb)) ⟨⟨q2_, by have := hq2_ (by omega); omega, fun h => absurd h (by omega), rd2_⟩, fun _ => hC_.trans hc2_, fun h => absurd h (by omega)⟩ ⟨csd, w'.heap.size, w''.heap.size, xd, rfl, hC_.size, hc2_.size, Nat.le_refl _, hdR⟩
            refine ⟨fun y w' k hS hj hk hF K hK => ?_, ?_⟩
            · skip -- 4: indexAddr
              have e110 : y 110 = _ := hF.1
              have e110' := Lib.hid e110
              simp only [fillL, cond_true, cond_false, List.getD_cons_zero, List.getD_cons_succ, StP.is, Act.put, List.setIfInBounds_toArray, List.set_cons_zero, List.set_cons_succ, Nat.reduceAdd, e110, MStP.is, Option.isSome_some, Option.isSome_none] at hK ⊢
              simp only [List.sum_cons, List.sum_nil, List.getD_cons_zero, List.getD_cons_succ, Nat.reduceAdd, Nat.add_zero] at hk
              refine rg_yes (by kernel_rfl) ?_
              have hsw := hS.size
              clear e110
              clear hF
              go_simp
              exact hK _ _ (Ext.refl _) hj rfl
            refine ⟨fun y w' k hS hj hk hF K hK => ?_, ?_⟩
            · skip -- 5: store
              obtain ⟨csd, lo2, hi2, dd, e112, hlo2, hlh2, hhi2, hd⟩ := hF.1
              have HD := Lib.hid hd
              obtain ⟨D0, d0_, dc0, D1, d1_, dc1, rfl, -⟩ := hd
              have e113 : y 113 = _ := hF.2.1
              have e112' := Lib.hid e112
              have e113' := Lib.hid e113
              simp only [fillL, cond_true, cond_false, List.getD_cons_zero, List.getD_cons_succ, StP.is, Act.put, List.setIfInBounds_toArray, List.set_cons_zero, List.set_cons_succ, Nat.reduceAdd, e112, e113, MStP.is, Option.isSome_some, Option.isSome_none] at hK ⊢
              simp only [List.sum_cons, List.sum_nil, List.getD_cons_zero, List.getD_cons_succ, Nat.reduceAdd, Nat.add_zero] at hk
              refine rg_yes (by kernel_rfl) ?_
              have hsw := hS.size
              clear e112 e113
              clear hF
              have hC_ := hj.2.1 (by omega)
              have hg_ := (hC_.block gz lgz (by simp; omega)).trans HGZ.out
              have HNW := Lib.hid (RaidN.keep (fun b a1 a2 => hC_.block b (by omega) (by simp; omega)) hC_.size _ _ HNZ.out)
              obtain ⟨q1_, hq1_, hq2_, hrd_⟩ := hj.1
              have HG_ := Lib.hid hg_
              have hgs_ := HGSZ.out
              have t0 : w'.cell? ⟨gz, 3, none⟩ = some _ := block_cell hg_ (by rw [hgs_]; omega)
              have t1 : w'.cell? ⟨gz, 4, none⟩ = some _ := block_cell hg_ (by rw [hgs_]; omega)
              have t2 : w'.cell? ⟨gz, 5, none⟩ = some _ := block_cell hg_ (by rw [hgs_]; omega)
              have fr0 : w'.frozen? ⟨gz, 3, none⟩ = false := block_free hg_ _
              have fr1 : w'.frozen? ⟨gz, 4, none⟩ = false := block_free hg_ _
              have fr2 : w'.frozen? ⟨gz, 5, none⟩ = false := block_free hg_ _
              generalize curz[3]'_ = y0_ at t0
              generalize curz[4]'_ = y1_ at t1
              generalize curz[5]'_ = y2_ at t2
              have HC_ := Lib.hid hC_; have HRD_ := Lib.hid hrd_
              clear hg_ hgs_ hC_ hrd_
              go_simp
              refine hK undef _ (Chg.setCell (p := ⟨gz, _, none⟩) (Chg.setCell (p := ⟨gz, _, none⟩) (Chg.setCell (p := ⟨gz, _, none⟩) (Chg.refl _ _) (.inl (.inr rfl)) _) (.inl (.inr rfl)) _) (.inl (.inr rfl)) _) ⟨⟨q1_, hq1_, fun h => absurd h (by omega), ?_⟩, fun h => absurd h (by omega), fun _ => ⟨?_, dd, ?_⟩⟩ rfl
              · exact Rd.own HRD.out HRD_.out (by simp [World.setCell]) (fun b hb => set3_far (by omega))
              · exact ((((HC_.out.mono fun b _ hb => .inl (by simpa using hb)).setCell (p := ⟨gz, 3, none⟩) (.inl (.inr rfl)) _).setCell (p := ⟨gz, 4, none⟩) (.inl (.inr rfl)) _)).setCell (p := ⟨gz, 5, none⟩) (.inl (.inr rfl)) _
              · exact RaidN.putR HNW.out (by omega) HD.out (by omega) (by omega) hhi2 (by simp [World.setCell]) (fun i hi => set3_far hi) (fun cur h => set3 h)
            trivial
          case hH => rfl
          case hNS => exact fun _ _ h => Chg.of_below h _
          case hSt => exact fun a b => Chg.trans a b
          case hb => rfl
          case hdrew => exact (Chg.refl _ _).drewN 1
          case hj0 => exact fun y => ⟨⟨qz, by omega, fun _ => Nat.le_refl _, HRy.out.below (below_drewN (Below.refl _ _) 1)⟩, fun _ => (Chg.refl _ _).drewN 1, fun h => absurd h (by omega)⟩
          case hend =>
            intro y wy hSS hJ hF
            have hsz := hSS.size
            obtain ⟨q2, hq2, -, hRq⟩ := hJ.1
            obtain ⟨hCy, d, hRR⟩ := hJ.2.2 (by decide)
            have HRR := Lib.hid hRR
            have HRq : Hid (Rd wy p A n c zs q2) := Lib.hid hRq
            have hoy : ∀ b, b ≠ p → b ≠ gz → b < wz.heap.size → wy.heap[b]? = wz.heap[b]? := fun b h1 h2 hb => hCy.block b hb (fun h => h.elim h1 h2)
            have HBy : Hid (wy.heap[bx]? = some (.cells #[.slice (some ⟨gz, 0, none⟩) 3 cz] 35 (0, 0))) := Lib.hid ((hoy bx (by omega) (fun e => hgbz e.symm) lbz).trans HBZ.out)
            have hwz := HCz.out.chg.size
            have HXy : Hid (Chg (· ∈ [p]) w wy) := Lib.hid ⟨hCy.os.trans HCz.out.chg.os, hCy.tape.trans HCz.out.chg.tape, hCy.output.trans HCz.out.chg.output, by omega, fun b hb1 hs => (hoy b (by simpa using hs) (by omega) (by omega)).trans (HCz.out.chg.block b hb1 hs)⟩
            have HREy : Hid (wy.heap[w.heap.size]? = some (.cells #[.slice none 0 0] 35 (0, 0))) := Lib.hid ((hoy _ (by omega) (by omega) (by omega)).trans HCz.out.res)
            have lby2 : bx < wy.heap.size := by omega
            clear hJ hF hSS hRR hRq hCy hoy HCz HBZ HNZ HGZ HGSZ HRy
            simp only [fillL, cond_true, cond_false, Nat.reduceAdd]
            have hbf := HBy.out
            have hrf := HREy.out
            have g0 := cell_of_row _ _ 0 _ _ (0, 0) hbf; have gl := (Array.getElem?_eq_some_iff.1 hbf).1
            have g1 := cell_of_row _ _ 0 _ _ (0, 0) hrf; have gf := block_free hrf 0; have gr := (Array.getElem?_eq_some_iff.1 hrf).1
            have t0 := cell_of_row _ _ 0 _ _ (0, 0) (block_set (o := 0) (v := .slice (some ⟨gz, 0, none⟩) 3 cz) hrf)
            have HP : Hid (∀ v, PickedR91 1200 w p A n c zs k (.returned (.tuple #[.agg #[.slice (some ⟨gz, 0, none⟩) 3 cz], v])) (World.setCell wy ⟨w.heap.size, 0, none⟩ (.slice (some ⟨gz, 0, none⟩) 3 cz))) := Lib.hid (fun v => ⟨[.slice (some ⟨gz, 0, none⟩) 3 cz], _, v, _, rfl, RaidR.keep (fun b a1 a2 => heap_far (by show b ≠ w.heap.size; omega)) (by simp [World.setCell]) _ _ HRR.out |> fun h => RaidR.wide (Nat.le_of_lt hlow) (by simp [World.setCell]) (by simp [World.setCell]) _ _ h, by omega, Rd.own HRD.out HRq.out (by simp [World.setCell]) (fun b hb => heap_far (by show b ≠ w.heap.size; omega)), Chg.setCell (p := ⟨w.heap.size, 0, none⟩) HXy.out (.inr (Nat.le_refl _)) _⟩)
            clear hbf hrf
            go_wp2_with fail
            exact bodyPost_ret (v := .tuple #[.agg #[.slice (some ⟨gz, 0, none⟩) 3 cz], .slice A' m c']) (by simp [results, Try.results25, go_sem, t0]) rfl (HP.out _)
        have rzc : ((rz : Int) == 1) = false := by simpa using rz1
        obtain ⟨gz, cz, hiz, xz, hbz, hNz, hhz, hlz⟩ := HCz.out.raid
        have HBZ := Lib.hid hbz; have HNZ := Lib.hid hNz
        clear hbz hNz hlz
        have hbf := HBZ.out
        have hrf := HCz.out.res
        have g0 := cell_of_row _ _ 0 _ _ (0, 0) hbf; have gl := (Array.getElem?_eq_some_iff.1 hbf).1
        have g1 := cell_of_row _ _ 0 _ _ (0, 0) hrf; have gf := block_free hrf 0; have gr := (Array.getElem?_eq_some_iff.1 hrf).1
        have t0 := cell_of_row _ _ 0 _ _ (0, 0) (block_set (o := 0) (v := .slice (some ⟨gz, 0, none⟩) 3 cz) hrf)
        have HP : Hid (∀ v, PickedR91 1200 w p A n c zs k (.returned (.tuple #[.agg #[.slice (some ⟨gz, 0, none⟩) 3 cz], v])) (World.setCell wz ⟨w.heap.size, 0, none⟩ (.slice (some ⟨gz, 0, none⟩) 3 cz))) := Lib.hid (fun v => ⟨[.slice (some ⟨gz, 0, none⟩) 3 cz], _, v, _, rfl, RaidR.keep (fun b a1 a2 => heap_far (by show b ≠ w.heap.size; omega)) (by simp [World.setCell]) _ _ (RaidR.wide (lo := lo) (hi := hiz) (by omega) hhz (Nat.le_refl _) _ _ HNZ.out.r) |> fun h => RaidR.wide (Nat.le_of_lt hlow) (by simp [World.setCell]) (by simp [World.setCell]) _ _ h, by omega, Rd.own HRD.out HRz.out (by simp [World.setCell]) (fun b hb => heap_far (by show b ≠ w.heap.size; omega)), Chg.setCell (p := ⟨w.heap.size, 0, none⟩) HCz.out.chg (.inr (Nat.le_refl _)) _⟩)
        clear hbf hrf
        go_wp2_with fail
        exact bodyPost_ret (v := .tuple #[.agg #[.slice (some ⟨gz, 0, none⟩) 3 cz], .slice A' m c']) (by simp [results, Try.results25, go_sem, t0]) rfl (HP.out _)
end Go.Proofs.Ytfokpjoeankobaa
