/- One disk among others: its parts, a text laid into it, a drawn disk in its place. No condition. -/
import Derived.Test.YtfokpjoeankobaaRaidGood
import Derived.Test.YtfokpjoeankobaaDrawDisk2
namespace Go.Proofs.Ytfokpjoeankobaa
set_option linter.unnecessarySimpa false
open Go Go.Lib Go.RowKit
set_option linter.unusedVariables false
set_option linter.unusedSimpArgs false
/-- Where the parts of disk j lie. -/
structure DiskAt (o : Nat → Nat) (w : World) (lo hi g j : Nat) (x0 : List ByteArray) (x1 : List WaitD) (gone : Bool) (cur : Array Value) (gi c0 : Nat) (A1 : Option Addr) (n1 c1 : Nat) : Prop where
  q0 : w.cell? ⟨g, j * 3, none⟩ = some (.slice (some ⟨gi, 0, none⟩) 64 c0)
  q1 : w.cell? ⟨g, j * 3 + 1, none⟩ = some (.slice A1 n1 c1)
  q2 : w.cell? ⟨g, j * 3 + 2, none⟩ = some (.bool gone)
  h1 : lo ≤ gi
  h2 : gi < hi
  str : StrArr 9 w gi c0 x0
  wait : SliceR WaitR 2 w lo hi A1 n1 c1 x1
  wh : Whole w 63 2 lo hi A1 n1 c1
  ne : ∀ b off, A1 = some ⟨b, off, none⟩ → 0 < n1 → b ≠ gi
  ng : gi ≠ g
  og : o gi = j
  lab : Lab o [.slice (some ⟨gi, 0, none⟩) 64 c0, .slice A1 n1 c1, .bool gone] j
  hg : w.heap[g]? = some (.cells cur 45 (0, 0))
  same : putAt cur (j * 3) [.slice (some ⟨gi, 0, none⟩) 64 c0, .slice A1 n1 c1, .bool gone] = cur
theorem putAt_same {cur : Array Value} {o : Nat} {vs : List Value} (ho : o + vs.length ≤ cur.size) (h : ∀ i v, vs[i]? = some v → cur[o + i]? = some v) : putAt cur o vs = cur := by
  apply Array.ext_getElem?
  intro i
  by_cases hi : o ≤ i ∧ i < o + vs.length
  · have e := h (i - o) (vs[i - o]'(by omega)) (List.getElem?_eq_getElem _)
    have e2 := putAt_in vs cur o (i - o) _ ho (List.getElem?_eq_getElem (by omega : i - o < vs.length))
    rw [show o + (i - o) = i by omega] at e e2
    rw [e, e2]
  · exact putAt_out vs cur o i (by omega)
theorem RaidO.disk {o : Nat → Nat} {w : World} {lo hi g c j : Nat} {xs : RaidD} {x0 : List ByteArray} {x1 : List WaitD} {gone : Bool} (h : RaidO o w lo hi [.slice (some ⟨g, 0, none⟩) 3 c] xs) (hx : xs[j]? = some (x0, x1, gone)) (hl : x0.length = 64) :
    ∃ cur gi c0 A1 n1 c1, DiskAt o w lo hi g j x0 x1 gone cur gi c0 A1 n1 c1 := by
  obtain ⟨g', cur, e', hg1, hg2, hgc, hgs, hc1, hc2, hgl, hgw, hgx⟩ := h.arr (by omega)
  injection e' with e'; injection e' with e' _; subst e'
  obtain ⟨cs, hcl, hcc, hdo⟩ := hgx j _ hx
  have hj : j < 3 := by rw [← hgl]; exact (List.getElem?_eq_some_iff.1 hx).1
  obtain ⟨hdn, hlab⟩ := hdo
  obtain ⟨A0, n0, c0, A1, n1, c1, rfl, d0, d1, d2, d3⟩ := hdn
  simp only at d0 d2
  have hL0 := d0.len
  obtain rfl : n0 = 64 := by omega
  obtain ⟨gi, rfl, hgi1, hgi2, hsa⟩ := StrArr.of_whole d0 d1 (by omega)
  have hc0 : 0 < c0 := d1.pos (by omega)
  refine ⟨cur, gi, c0, A1, n1, c1, ⟨(cell_of_row _ _ _ _ _ (0, 0) hgc).trans (hcc 0 _ rfl), (cell_of_row _ _ _ _ _ (0, 0) hgc).trans (hcc 1 _ rfl), (cell_of_row _ _ _ _ _ (0, 0) hgc).trans (hcc 2 _ rfl), hgi1, hgi2, hsa, d2, d3, fun b off hB hn he => ?_, fun e => ?_, hlab (some ⟨gi, 0, none⟩) 64 c0 gi (by simp) hc0 ⟨0, rfl⟩, hlab, hgc, putAt_same (by rw [hgs]; simp; omega) hcc⟩⟩
  · subst hB he
    rcases d3 with h | ⟨g', cur, hA, _, _, h4, _⟩
    · omega
    · injection hA with e; injection e with e1 e2
      subst e1
      obtain ⟨cur', h5, _⟩ := hsa
      rw [h4] at h5
      injection h5 with h5; injection h5 with _ h5; exact absurd h5 (by decide)
  · subst e
    obtain ⟨cur', h5, _⟩ := hsa
    rw [hgc] at h5
    injection h5 with h5; injection h5 with _ h5; exact absurd h5 (by decide)
/-- Its texts are laid anew. -/
theorem RaidO.text {o : Nat → Nat} {w W : World} {lo hi g c j : Nat} {xs : RaidD} {x0 t : List ByteArray} {x1 : List WaitD} {gone : Bool} {cur : Array Value} {gi c0 : Nat} {A1 : Option Addr} {n1 c1 : Nat} (h : RaidO o w lo hi [.slice (some ⟨g, 0, none⟩) 3 c] xs) (hd : DiskAt o w lo hi g j x0 x1 gone cur gi c0 A1 n1 c1)
    (hj : j < 3) (hz : w.heap.size ≤ W.heap.size) (hs : StrArr 9 W gi c0 t) (ht : t.length = 64) (hb : ∀ s ∈ t, s.size ≤ maxLen) (hk : ∀ i, lo ≤ i → i < w.heap.size → i ≠ gi → W.heap[i]? = w.heap[i]?) : RaidN W lo hi [.slice (some ⟨g, 0, none⟩) 3 c] (xs.set j (t, x1, gone)) := by
  have hhi : hi ≤ w.heap.size := hd.wait.lo_le
  have hgl := (Array.getElem?_eq_some_iff.1 hd.hg).1
  have hlg : lo ≤ g := by
    obtain ⟨g', cur', e', h1, _⟩ := h.arr (by omega)
    injection e' with e'; injection e' with e' _; omega
  have s1 := hs.slice (lo := lo) (hi := hi) hd.h1 hd.h2 (by omega) hb
  have s2 := hs.whole (lo := lo) (hi := hi) hd.h1 hd.h2
  rw [ht] at s1 s2
  refine (RaidO.put (gi := gi) h hj (⟨_, _, _, _, _, _, rfl, s1, s2, hd.wait.keepB hz (fun hn b hb b1 b2 => hk b b1 (by omega) ?_) (fun cs x hr => hr), hd.wh.keepB (fun hc b hb b1 b2 => hk b b1 (by omega) ?_)⟩ : DiskN W lo hi [.slice (some ⟨gi, 0, none⟩) 64 c0, .slice A1 n1 c1, .bool gone] (t, x1, gone)) hz hd.lab hd.og (fun i hl hi _ h2 => hk i hl hi h2) (fun cur' hc' => ?_)).n
  · obtain ⟨off, rfl⟩ := hb
    exact hd.ne b off rfl hn
  · rcases hd.wh with ⟨_, h0⟩ | ⟨b', cur', rfl, _, _, h3, _⟩
    · omega
    · rw [blkOf_iff] at hb; subst hb
      intro he; subst he
      obtain ⟨c5, h5, _⟩ := hd.str
      rw [h3] at h5
      injection h5 with h5; injection h5 with _ h5; exact absurd h5 (by decide)
  · have e : cur' = cur := by have := hc'.symm.trans hd.hg; injection this with e; injection e
    subst e
    rw [hd.same, hk g hlg hgl hd.ng.symm]
    exact hd.hg
/-- A drawn disk in its place. -/
theorem RaidN.putR {w W : World} {lo hi lo2 hi2 g c j : Nat} {xs : RaidD} {cs : List Value} {d : DiskD} (h : RaidN w lo hi [.slice (some ⟨g, 0, none⟩) 3 c] xs) (hj : j < 3) (hd : DiskR w lo2 hi2 cs d) (hlo : lo ≤ lo2) (hg2 : g < lo2) (h2 : hi2 ≤ w.heap.size)
    (hW : W.heap.size = w.heap.size) (hk : ∀ i, i ≠ g → W.heap[i]? = w.heap[i]?) (hgW : ∀ cur, w.heap[g]? = some (.cells cur 45 (0, 0)) → W.heap[g]? = some (.cells (putAt cur (j * 3) cs) 45 (0, 0))) : RaidR W lo W.heap.size [.slice (some ⟨g, 0, none⟩) 3 c] (xs.set j d) := by
  obtain ⟨o, hO⟩ := h.o
  obtain ⟨g', cur, e, h1, h5, h6, h7, h8, h9, hl, h10, hc⟩ := hO.arr (by omega)
  injection e with e; injection e with e1 e2; subst e1
  have hG := hgW cur h6
  have hcl : cs.length = 3 := DiskR.len hd
  have hj3 : j * 3 + 3 ≤ c * 3 := by omega
  refine ⟨_, _, _, rfl, ⟨by simpa using hl, h8, by omega, Nat.le_refl _, (fun h => by cases h), fun _ => ⟨g, 0, rfl, h1, by omega, fun i x hx => ?_⟩⟩⟩
  rw [List.getElem?_set] at hx
  by_cases hij : j = i
  · subst hij
    rw [if_pos rfl, if_pos (by omega)] at hx
    injection hx with hx; subst hx
    refine ⟨cs, hcl, fun i v hv => ?_, DiskR.wide hlo (by omega) (Nat.le_refl _) _ _ (DiskR.keep (fun b b1 b2 => hk b (by omega)) (by omega) _ _ hd)⟩
    rw [Nat.zero_add, cell_of_row _ _ _ _ _ (0, 0) hG]
    exact putAt_in _ _ _ _ _ (by omega) hv
  · rw [if_neg hij] at hx
    obtain ⟨cs', hl', hc', ho'⟩ := hc i x hx
    refine ⟨cs', hl', fun t v hv => ?_, DiskR.wide (Nat.le_refl _) (by omega) (Nat.le_refl _) _ _ (DiskN.keepL (by omega) (fun A m k b hm hp hb => hk b (ho'.1.ne h6 hm hp hb)) ho'.1).r⟩
    have ht : t < 3 := by rw [← hl']; exact (List.getElem?_eq_some_iff.1 hv).1
    rw [Nat.zero_add, cell_of_row _ _ _ _ _ (0, 0) hG, putAt_out _ _ _ _ (by omega)]
    exact hc' t v hv
end Go.Proofs.Ytfokpjoeankobaa
