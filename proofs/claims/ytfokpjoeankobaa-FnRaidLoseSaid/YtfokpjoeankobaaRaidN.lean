/- Disks in new memory of which no two share an array: each block bears the number of its disk. No condition. -/
import Derived.Test.YtfokpjoeankobaaFamDTo
import Derived.Test.YtfokpjoeankobaaFamRSz
import Derived.Test.YtfokpjoeankobaaDiskWrite
namespace Go.Proofs.Ytfokpjoeankobaa
set_option linter.unusedSimpArgs false
set_option linter.unnecessarySimpa false
open Go.RowKit
set_option linter.unusedVariables false
/-- The arrays of cells cs bear the label i. -/
def Lab (o : Nat → Nat) (cs : List Value) (i : Nat) : Prop := ∀ A n c b, Value.slice A n c ∈ cs → 0 < c → blkOf A b → o b = i
def DiskO (o : Nat → Nat) : Reads (DiskD × Nat) := fun w lo hi cs p => DiskN w lo hi cs p.1 ∧ Lab o cs p.2
theorem DiskO.keep {o : Nat → Nat} {w w' : World} {lo hi : Nat} (hs : Same lo hi w w') (hz : w.heap.size ≤ w'.heap.size) (cs : List Value) (p : DiskD × Nat) (h : DiskO o w lo hi cs p) : DiskO o w' lo hi cs p := ⟨DiskN.keep hs hz _ _ h.1, h.2⟩
theorem DiskO.wide {o : Nat → Nat} {w : World} {lo hi lo' hi' : Nat} (b1 : lo' ≤ lo) (b2 : hi ≤ hi') (b3 : hi' ≤ w.heap.size) (cs : List Value) (p : DiskD × Nat) (h : DiskO o w lo hi cs p) : DiskO o w lo' hi' cs p := ⟨DiskN.wide b1 b2 b3 _ _ h.1, h.2⟩
theorem DiskO.below {o : Nat → Nat} {w w' : World} {lo hi : Nat} (hb : Below w.heap.size w w') (hhi : hi ≤ w.heap.size) (cs : List Value) (p : DiskD × Nat) (h : DiskO o w lo hi cs p) : DiskO o w' lo hi cs p := ⟨DiskN.below hb hhi _ _ h.1, h.2⟩
theorem DiskN.blk {w : World} {lo hi : Nat} {cs : List Value} {x : DiskD} (h : DiskN w lo hi cs x) {A : Option Addr} {n c b : Nat} (hm : Value.slice A n c ∈ cs) (hc : 0 < c) (hb : blkOf A b) : lo ≤ b ∧ b < hi := by
  obtain ⟨A0, n0, c0, A1, n1, c1, rfl, _, k0, _, k1⟩ := h
  have key : ∀ {T : TypeId} {sz : Nat} {A : Option Addr} {n c : Nat}, Whole w T sz lo hi A n c → 0 < c → blkOf A b → lo ≤ b ∧ b < hi := by
    intro T sz A n c k hc hb
    rcases k with h | ⟨g, cur, rfl, h1, h2, _⟩
    · omega
    · rw [blkOf_iff] at hb; subst hb; exact ⟨h1, h2⟩
  simp only [List.mem_cons, Value.slice.injEq, List.not_mem_nil, or_false, reduceCtorEq] at hm
  rcases hm with ⟨rfl, rfl, rfl⟩ | ⟨rfl, rfl, rfl⟩
  · exact key k0 hc hb
  · exact key k1 hc hb
theorem DiskO.of {o : Nat → Nat} {w : World} {lo hi i : Nat} {cs : List Value} {x : DiskD} (h : DiskN w lo hi cs x) (ho : ∀ b, lo ≤ b → b < hi → o b = i) : DiskO o w lo hi cs (x, i) :=
  ⟨h, fun A n c b hm hc hb => ho b (h.blk hm hc hb).1 (h.blk hm hc hb).2⟩
theorem DiskO.relabel {o o' : Nat → Nat} {w : World} {lo hi : Nat} {cs : List Value} {p : DiskD × Nat} (h : DiskO o w lo hi cs p) (ho : ∀ b, lo ≤ b → b < hi → o' b = o b) : DiskO o' w lo hi cs p :=
  ⟨h.1, fun A n c b hm hc hb => (ho b (h.1.blk hm hc hb).1 (h.1.blk hm hc hb).2).trans (h.2 A n c b hm hc hb)⟩
/-- A disk stays where only blocks of disks turn. -/
theorem DiskN.keepT {w w' : World} {lo hi : Nat} (hz : w.heap.size ≤ w'.heap.size) (hk : ∀ i, i < w.heap.size → (∀ cur, w.heap[i]? ≠ some (.cells cur 45 (0, 0))) → w'.heap[i]? = w.heap[i]?) (cs : List Value) (x : DiskD) (h : DiskN w lo hi cs x) : DiskN w' lo hi cs x := by
  obtain ⟨A0, n0, c0, A1, n1, c1, rfl, h0, k0, h1, k1⟩ := h
  have key : ∀ {T : TypeId} {sz : Nat} {A : Option Addr} {n c : Nat}, T ≠ 45 → Whole w T sz lo hi A n c → 0 < c → ∀ b, blkOf A b → lo ≤ b → b < hi → w'.heap[b]? = w.heap[b]? := by
    intro T sz A n c hT k hc b hb _ _
    rcases k with h | ⟨g, cur, rfl, h1, h2, h3, _⟩
    · omega
    · rw [blkOf_iff] at hb; subst hb
      refine hk b (Array.getElem?_eq_some_iff.1 h3).1 (fun cur' e => ?_)
      rw [h3] at e
      injection e with e; injection e with _ e; exact hT e
  exact ⟨A0, n0, c0, A1, n1, c1, rfl, h0.keepB hz (fun hn => key (by decide) k0 (k0.pos hn)) (fun _ _ h => h), k0.keepB (key (by decide) k0), h1.keepB hz (fun hn => key (by decide) k1 (k1.pos hn)) (fun _ _ h => h), k1.keepB (key (by decide) k1)⟩
theorem DiskO.keepT {o : Nat → Nat} {w w' : World} {lo hi : Nat} (hz : w.heap.size ≤ w'.heap.size) (hk : ∀ i, i < w.heap.size → (∀ cur, w.heap[i]? ≠ some (.cells cur 45 (0, 0))) → w'.heap[i]? = w.heap[i]?) (cs : List Value) (p : DiskD × Nat) (h : DiskO o w lo hi cs p) : DiskO o w' lo hi cs p := ⟨DiskN.keepT hz hk _ _ h.1, h.2⟩
theorem RowR.imp {α : Type} {R R' : Reads α} {sz : Nat} {w : World} {lo hi : Nat} {cur : Array Value} {k : Nat} {xs : List α} (h : RowR R sz w lo hi cur k xs) (hR : ∀ cs x, R w lo hi cs x → R' w lo hi cs x) : RowR R' sz w lo hi cur k xs :=
  fun j x hj hx => (h j x hj hx).imp fun cs h => ⟨h.1, h.2.1, hR _ _ h.2.2⟩
/-- Disks in memory of their own, no two of which share an array. -/
def RaidN : Reads RaidD := fun w lo hi cs x => ∃ (A : Option Addr) (n c : Nat) (o : Nat → Nat), cs = [.slice A n c] ∧ SliceR (DiskO o) 3 w lo hi A n c x.zipIdx ∧ Whole w 45 3 lo hi A n c
theorem SliceR.unzip {o : Nat → Nat} {w : World} {lo hi : Nat} {A : Option Addr} {n c : Nat} {x : RaidD} (h : SliceR (DiskO o) 3 w lo hi A n c x.zipIdx) : SliceR DiskN 3 w lo hi A n c x := by
  obtain ⟨h1, h2, h3, h4, h5, h6⟩ := h
  refine ⟨by simpa using h1, h2, h3, h4, h5, fun hn => ?_⟩
  obtain ⟨b, off, hA, hlo, hhi, hc⟩ := h6 hn
  refine ⟨b, off, hA, hlo, hhi, fun j d hd => ?_⟩
  obtain ⟨cs, hl, hcs, hr⟩ := hc j (d, j) (by rw [List.getElem?_zipIdx, hd]; simp)
  exact ⟨cs, hl, hcs, hr.1⟩
theorem SliceR.imp {α : Type} {R R' : Reads α} {sz : Nat} {w : World} {lo hi : Nat} {A : Option Addr} {n c : Nat} {xs : List α} (h : SliceR R sz w lo hi A n c xs) (hR : ∀ cs x, R w lo hi cs x → R' w lo hi cs x) : SliceR R' sz w lo hi A n c xs := by
  obtain ⟨h1, h2, h3, h4, h5, h6⟩ := h
  refine ⟨h1, h2, h3, h4, h5, fun hn => ?_⟩
  obtain ⟨b, off, hA, hlo, hhi, hc⟩ := h6 hn
  refine ⟨b, off, hA, hlo, hhi, fun j d hd => ?_⟩
  obtain ⟨cs, hl, hcs, hr⟩ := hc j d hd
  exact ⟨cs, hl, hcs, hR _ _ hr⟩
theorem RaidN.r {w : World} {lo hi : Nat} {cs : List Value} {x : RaidD} (h : RaidN w lo hi cs x) : RaidR w lo hi cs x := by
  obtain ⟨A, n, c, o, rfl, h0, _⟩ := h
  exact ⟨A, n, c, rfl, h0.unzip.imp fun _ _ h => DiskN.r h⟩
theorem RaidN.keep {w w' : World} {lo hi : Nat} (hs : Same lo hi w w') (hz : w.heap.size ≤ w'.heap.size) (cs : List Value) (x : RaidD) (h : RaidN w lo hi cs x) : RaidN w' lo hi cs x := by
  obtain ⟨A, n, c, o, rfl, h0, h1⟩ := h
  exact ⟨A, n, c, o, rfl, h0.keep hs hz (DiskO.keep hs hz), h1.keep hs⟩
theorem RaidN.wide {w : World} {lo hi lo' hi' : Nat} (b1 : lo' ≤ lo) (b2 : hi ≤ hi') (b3 : hi' ≤ w.heap.size) (cs : List Value) (x : RaidD) (h : RaidN w lo hi cs x) : RaidN w lo' hi' cs x := by
  obtain ⟨A, n, c, o, rfl, h0, h1⟩ := h
  exact ⟨A, n, c, o, rfl, h0.wide b1 b2 b3 (DiskO.wide b1 b2 b3), h1.wide b1 b2⟩
theorem RaidN.below {w w' : World} {lo hi : Nat} (hb : Below w.heap.size w w') (hhi : hi ≤ w.heap.size) (cs : List Value) (x : RaidD) (h : RaidN w lo hi cs x) : RaidN w' lo hi cs x := RaidN.keep (Same.of_below hb hhi) hb.size cs x h
theorem noRaid {w : World} {lo hi : Nat} (A : Option Addr) (h : hi ≤ w.heap.size) : RaidN w lo hi [.slice A 0 0] [] :=
  ⟨A, 0, 0, fun _ => 0, rfl, ⟨rfl, Nat.le_refl _, Nat.zero_le _, h, fun _ => rfl, fun h => absurd h (Nat.lt_irrefl _)⟩, .inl ⟨rfl, rfl⟩⟩
theorem info_DiskS : (Try.prog.info? 45).map (fun i => (i.zero, i.size, i.bytes)) = some (some (.agg #[.slice none 0 0, .slice none 0 0, .bool false]), 3, 56) := by kernel_rfl
theorem make_DiskS (n : Nat) (hn : n ≤ 1048576) (w : World) :
    (Instr.makeSlice 33 (.int .i64 (n : Int)) (.int .i64 (n : Int))).run Try.prog w = .ok (.slice (some ⟨w.heap.size, 0, none⟩) n n) (w.alloc (.cells (madeCells #[.slice none 0 0, .slice none 0 0, .bool false] (n * 3)) 45)) := by
  obtain ⟨i, hi, hz, hs, hb⟩ := info_parts info_DiskS
  have hr := run_make (P := Try.prog) w 33 45 i (.agg #[.slice none 0 0, .slice none 0 0, .bool false]) Try.underlying33 hi hz .i64 .i64 n n (by omega) (by omega) (by rw [hb]; omega) (by omega)
  simp only [Int.toNat_natCast, hs] at hr
  exact hr
end Go.Proofs.Ytfokpjoeankobaa
