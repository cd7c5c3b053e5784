/- RaidWrite both: the columns of a block to each disk that is not gone. No condition on the memory. -/
import Derived.Test.YtfokpjoeankobaaRaidLose
import Derived.Test.YtfokpjoeankobaaStripe
import Derived.Test.YtfokpjoeankobaaDiskWrite
import Derived.Test.YtfokpjoeankobaaSettle
namespace Go.Proofs.Ytfokpjoeankobaa
set_option linter.unusedSimpArgs false
set_option linter.unnecessarySimpa false
open Go.RowKit
set_option linter.unusedVariables false
def colAt (s : ByteArray) (i : Nat) : ByteArray := (cutS s).getD i ByteArray.empty
def FW (row : Int) (s : ByteArray) (i : Nat) (d : DiskD) : DiskD := if d.2.2 = true then d else writeD d row (colAt s i)
def GW (row : Int) (s : ByteArray) (i : Nat) (d : DiskD) : Bool := d.2.2 || writeOk d row (colAt s i)
def wrOk (x : RaidD) (row : Int) (s : ByteArray) : Bool := raidOk x && (inB row 8 63 && inB (s.size : Int) 1 128)
def writeR (x : RaidD) (row : Int) (s : ByteArray) : RaidD := if wrOk x row s = true then eachD (FW row s) (GW row s) x else []
def writeRok (x : RaidD) (row : Int) (s : ByteArray) : Bool := wrOk x row s && allG (GW row s) x
theorem inB_nat2 {n : Nat} (h : inB (n : Int) 1 128 = true) : ∃ _ : Unit, 1 ≤ n ∧ n ≤ 128 := by
  unfold inB at h
  have := of_decide_eq_true h
  exact ⟨(), by omega, by omega⟩
theorem col_at {w : World} {lo hi : Nat} {A : Option Addr} {c i : Nat} {s : ByteArray} (h : SliceR StrR 1 w lo hi A 3 c (cutS s)) (hi3 : i < 3) :
    ∃ b off, A = some ⟨b, off, none⟩ ∧ b < w.heap.size ∧ w.cell? ⟨b, off + i, none⟩ = some (.string (colAt s i)) ∧ (colAt s i).size ≤ maxLen := by
  obtain ⟨b, off, hA, _, _, hb, hc⟩ := h.at_ (by omega)
  have hx : (cutS s)[i]? = some (colAt s i) := by
    unfold colAt
    rw [List.getD_eq_getElem?_getD, List.getElem?_eq_getElem (show i < (cutS s).length from hi3)]
    rfl
  obtain ⟨cs, _, hcs, rfl, hm⟩ := hc i _ hx
  have := hcs 0 _ rfl
  exact ⟨b, off, hA, hb, by simpa using this, hm⟩
/-- As RaidN, the labels known. -/
def RaidO (o : Nat → Nat) : Reads RaidD := fun w lo hi cs x => ∃ (A : Option Addr) (n c : Nat), cs = [.slice A n c] ∧ SliceR (DiskO o) 3 w lo hi A n c x.zipIdx ∧ Whole w 45 3 lo hi A n c
theorem RaidN.o {w : World} {lo hi : Nat} {cs : List Value} {x : RaidD} (h : RaidN w lo hi cs x) : ∃ o, RaidO o w lo hi cs x := by
  obtain ⟨A, n, c, o, e, h⟩ := h
  exact ⟨o, A, n, c, e, h⟩
theorem RaidO.n {o : Nat → Nat} {w : World} {lo hi : Nat} {cs : List Value} {x : RaidD} (h : RaidO o w lo hi cs x) : RaidN w lo hi cs x := by
  obtain ⟨A, n, c, e, h⟩ := h
  exact ⟨A, n, c, o, e, h⟩
theorem RaidO.keep {o : Nat → Nat} {w w' : World} {lo hi : Nat} (hs : Same lo hi w w') (hz : w.heap.size ≤ w'.heap.size) (cs : List Value) (x : RaidD) (h : RaidO o w lo hi cs x) : RaidO o w' lo hi cs x := by
  obtain ⟨A, n, c, rfl, h0, h1⟩ := h
  exact ⟨A, n, c, rfl, h0.keep hs hz (DiskO.keep hs hz), h1.keep hs⟩
theorem RaidO.below {o : Nat → Nat} {w w' : World} {lo hi : Nat} (hb : Below w.heap.size w w') (hhi : hi ≤ w.heap.size) (cs : List Value) (x : RaidD) (h : RaidO o w lo hi cs x) : RaidO o w' lo hi cs x := RaidO.keep (Same.of_below hb hhi) hb.size cs x h
theorem RaidO.arr {o : Nat → Nat} {w : World} {lo hi : Nat} {A : Option Addr} {n c : Nat} {xs : RaidD} (h : RaidO o w lo hi [.slice A n c] xs) (hn : 0 < n) :
    ∃ (g : Nat) (cur : Array Value), A = some ⟨g, 0, none⟩ ∧ lo ≤ g ∧ g < hi ∧ w.heap[g]? = some (.cells cur 45 (0, 0)) ∧ cur.size = c * 3 ∧ n ≤ c ∧ c ≤ maxLen ∧ xs.length = n ∧ hi ≤ w.heap.size ∧
      ∀ j x, xs[j]? = some x → ∃ cs, cs.length = 3 ∧ (∀ i v, cs[i]? = some v → cur[j * 3 + i]? = some v) ∧ DiskO o w lo hi cs (x, j) := by
  obtain ⟨A', n', c', e, h0, h1⟩ := h
  injection e with e _; injection e with e1 e2 e3; subst e1 e2 e3
  have hl := h0.len
  obtain ⟨b, off, rfl, _, _, _, hc⟩ := h0.at_ hn
  rcases h1 with ⟨h, _⟩ | ⟨g, cur, hA, a1, a2, a3, a4, a5, a6⟩
  · omega
  · injection hA with e; injection e with e1 e2; subst e1 e2
    refine ⟨b, cur, rfl, a1, a2, a3, a4, a5, a6, by simpa using hl, h0.lo_le, fun j x hx => ?_⟩
    obtain ⟨cs, hcl, hcc, hr⟩ := hc j (x, j) (by rw [List.getElem?_zipIdx, hx]; simp)
    refine ⟨cs, hcl, fun i v hv => ?_, hr⟩
    have := hcc i v hv
    rw [Nat.zero_add, cell_of_row _ _ _ _ _ (0, 0) a3] at this
    exact this
/-- A disk laid in place of another, that may keep arrays of its own. -/
theorem RaidO.set {o : Nat → Nat} {w W : World} {lo hi hi2 g c j n : Nat} {xs : RaidD} {d : DiskD} {cs : List Value} (h : RaidO o w lo hi [.slice (some ⟨g, 0, none⟩) n c] xs) (hj : j < n) (hd : DiskN w lo hi2 cs d) (h2 : hi ≤ hi2) (h3 : hi2 ≤ w.heap.size)
    (hlab : ∀ A m k b, Value.slice A m k ∈ cs → 0 < k → blkOf A b → hi ≤ b ∨ o b = j)
    (hW : W.heap.size = w.heap.size) (hk : ∀ i, i ≠ g → W.heap[i]? = w.heap[i]?) (hg : ∀ cur, w.heap[g]? = some (.cells cur 45 (0, 0)) → W.heap[g]? = some (.cells (putAt cur (j * 3) cs) 45 (0, 0))) : RaidN W lo hi2 [.slice (some ⟨g, 0, none⟩) n c] (xs.set j d) := by
  obtain ⟨g', cur, e, h1, h5, h6, h7, h8, h9, hl, h10, hc⟩ := h.arr (by omega)
  injection e with e; injection e with e1 e2; subst e1
  have hgW := hg cur h6
  have hkT : ∀ i, i < w.heap.size → (∀ cur, w.heap[i]? ≠ some (.cells cur 45 (0, 0))) → W.heap[i]? = w.heap[i]? := fun i hi hn => hk i (fun e => hn cur (e ▸ h6))
  have hcl : cs.length = 3 := hd.len
  have hj3 : j * 3 + 3 ≤ c * 3 := by omega
  refine ⟨some ⟨g, 0, none⟩, n, c, fun b => if hi ≤ b then j else o b, rfl, ⟨by simpa using hl, h8, Nat.le_trans h8 h9, by omega, (fun h => by cases h), fun _ => ⟨g, 0, rfl, h1, by omega, fun i p hp => ?_⟩⟩, .inr ⟨g, _, rfl, h1, by omega, hgW, by rw [putAt_size, h7], h8, h9⟩⟩
  rw [List.getElem?_zipIdx, List.getElem?_set] at hp
  by_cases hij : j = i
  · subst hij
    rw [if_pos rfl, if_pos (by omega)] at hp
    obtain rfl : (d, j) = p := by simpa using hp
    refine ⟨cs, hcl, fun i v hv => ?_, ⟨DiskN.keepT (by omega) hkT _ _ hd, fun A m k b hm hp hb => ?_⟩⟩
    · rw [Nat.zero_add, cell_of_row _ _ _ _ _ (0, 0) hgW]
      exact putAt_in _ _ _ _ _ (by omega) hv
    · show (if hi ≤ b then j else o b) = j
      rcases hlab A m k b hm hp hb with h | h
      · exact if_pos h
      · split
        · rfl
        · exact h
  · rw [if_neg hij] at hp
    cases hx : xs[i]? with
    | none => rw [hx] at hp; cases hp
    | some x =>
      rw [hx] at hp
      obtain rfl : (x, i) = p := by simpa using hp
      obtain ⟨cs', hl', hc', ho'⟩ := hc i x hx
      refine ⟨cs', hl', fun t v hv => ?_, ?_⟩
      · have ht : t < 3 := by rw [← hl']; exact (List.getElem?_eq_some_iff.1 hv).1
        rw [Nat.zero_add, cell_of_row _ _ _ _ _ (0, 0) hgW, putAt_out _ _ _ _ (by omega)]
        exact hc' t v hv
      · have a1 := DiskO.relabel (o' := fun b => if hi ≤ b then j else o b) ho' (fun b _ hb => if_neg (by omega))
        exact DiskO.wide (Nat.le_refl _) h2 (by omega) _ _ (DiskO.keepT (by omega) hkT _ _ a1)
/-- The waits of a disk, their array whole, stand where only blocks of disks turn. -/
theorem waits_dt {B : Nat} {w w' : World} {lo hi : Nat} {A : Option Addr} {n c : Nat} {xs : List WaitD} (hs : DT B 45 w w') (h : SliceR WaitR 2 w lo hi A n c xs ∧ Whole w 63 2 lo hi A n c) : SliceR WaitR 2 w' lo hi A n c xs ∧ Whole w' 63 2 lo hi A n c := by
  have key : 0 < c → ∀ b, blkOf A b → lo ≤ b → b < hi → w'.heap[b]? = w.heap[b]? := by
    intro hc b hb _ _
    rcases h.2 with h | ⟨g, cur, rfl, h1, h2, h3, _⟩
    · omega
    · rw [blkOf_iff] at hb; subst hb
      refine hs.2.2 b (Array.getElem?_eq_some_iff.1 h3).1 (fun cur' e => ?_)
      rw [h3] at e
      injection e with e; injection e with _ e; exact absurd e (by decide)
  exact ⟨h.1.keepB hs.2.1 (fun hn => key (h.2.pos hn)) (fun _ _ h => h), h.2.keepB key⟩
/-- Disks stay where only blocks of type T turn. -/
theorem Whole.keepT {w w' : World} {U V : TypeId} {sz lo hi : Nat} {A : Option Addr} {n c : Nat} (hT : V ≠ U) (hk : ∀ i, i < w.heap.size → (∀ cur, w.heap[i]? ≠ some (.cells cur U (0, 0))) → w'.heap[i]? = w.heap[i]?) (k : Whole w V sz lo hi A n c) : 0 < c → ∀ b, blkOf A b → lo ≤ b → b < hi → w'.heap[b]? = w.heap[b]? := by
  intro hc b hb _ _
  rcases k with h | ⟨g, cur, rfl, h1, h2, h3, _⟩
  · omega
  · rw [blkOf_iff] at hb; subst hb
    refine hk b (Array.getElem?_eq_some_iff.1 h3).1 (fun cur' e => ?_)
    rw [h3] at e
    injection e with e; injection e with _ e; exact hT e
theorem RaidN.keepT {w w' : World} {U : TypeId} {lo hi : Nat} (h1 : 9 ≠ U) (h2 : 63 ≠ U) (h3 : 45 ≠ U) (hz : w.heap.size ≤ w'.heap.size) (hk : ∀ i, i < w.heap.size → (∀ cur, w.heap[i]? ≠ some (.cells cur U (0, 0))) → w'.heap[i]? = w.heap[i]?) (cs : List Value) (x : RaidD) (h : RaidN w lo hi cs x) : RaidN w' lo hi cs x := by
  obtain ⟨A, n, c, o, rfl, h0, k0⟩ := h
  refine ⟨A, n, c, o, rfl, h0.keepB hz (fun hn => Whole.keepT h3 hk k0 (k0.pos hn)) (fun cs p hp => ⟨?_, hp.2⟩), k0.keepB (Whole.keepT h3 hk k0)⟩
  obtain ⟨A0, n0, c0, A1, n1, c1, e, g0, l0, g1, l1⟩ := hp.1
  exact ⟨A0, n0, c0, A1, n1, c1, e, g0.keepB hz (fun hn => Whole.keepT h1 hk l0 (l0.pos hn)) (fun _ _ h => h), l0.keepB (Whole.keepT h1 hk l0), g1.keepB hz (fun hn => Whole.keepT h2 hk l1 (l1.pos hn)) (fun _ _ h => h), l1.keepB (Whole.keepT h2 hk l1)⟩
/-- The disks when k of them are written. -/
def upto (f : Nat → DiskD → DiskD) (xs : RaidD) (k : Nat) : RaidD := (xs.mapIdx f).take k ++ xs.drop k
theorem upto_len (f : Nat → DiskD → DiskD) (xs : RaidD) (k : Nat) : (upto f xs k).length = xs.length := by unfold upto; simp; omega
theorem upto_get {f : Nat → DiskD → DiskD} {xs : RaidD} {k : Nat} {x : DiskD} (h : xs[k]? = some x) : (upto f xs k)[k]? = some x := by
  have hl := (List.getElem?_eq_some_iff.1 h).1
  unfold upto
  rw [List.getElem?_append_right (by simp; omega)]
  simp only [List.length_take, List.length_mapIdx]
  rw [List.getElem?_drop, Nat.min_eq_left (by omega), Nat.sub_self, Nat.add_zero, h]
theorem upto_set {f : Nat → DiskD → DiskD} {xs : RaidD} {k : Nat} {x : DiskD} (h : xs[k]? = some x) : (upto f xs k).set k (f k x) = upto f xs (k + 1) := by
  have hl := (List.getElem?_eq_some_iff.1 h).1
  have hx := (List.getElem?_eq_some_iff.1 h).2
  apply List.ext_getElem?
  intro i
  rw [List.getElem?_set]
  unfold upto
  by_cases hi : k = i
  · subst hi
    rw [if_pos rfl, if_pos (by simp; omega), List.getElem?_append_left (by simp; omega), List.getElem?_take, if_pos (by omega), List.getElem?_mapIdx, h]
    rfl
  · rw [if_neg hi]
    rcases Nat.lt_or_ge i k with h1 | h1
    · rw [List.getElem?_append_left (by simp; omega), List.getElem?_append_left (by simp; omega), List.getElem?_take, List.getElem?_take, if_pos h1, if_pos (by omega)]
    · rw [List.getElem?_append_right (by simp; omega), List.getElem?_append_right (by simp; omega), List.getElem?_drop, List.getElem?_drop]
      simp only [List.length_take, List.length_mapIdx]
      congr 1; omega
theorem upto_same {f : Nat → DiskD → DiskD} {xs : RaidD} {k : Nat} {x : DiskD} (h : xs[k]? = some x) (hf : f k x = x) : upto f xs (k + 1) = upto f xs k := by
  rw [← upto_set h, hf]
  apply List.ext_getElem?
  intro i
  rw [List.getElem?_set]
  by_cases hi : k = i
  · subst hi
    rw [if_pos rfl, upto_get h]
    have hl := (List.getElem?_eq_some_iff.1 (upto_get (f := f) h)).1
    rw [if_pos hl]
  · rw [if_neg hi]
/-- What l4Put returns: the disks, in their array. -/
def PutPost (lo g : Nat) (w : World) (rd : RaidD) (rb : Bool) (e : Ending) (w' : World) : Prop := ∃ cs hi', e = .returned (.tuple #[.agg (List.toArray cs), .bool rb]) ∧ RaidN w' lo hi' cs rd ∧ hi' ≤ w'.heap.size ∧ Chg (· ∈ [g]) w w'
/-- .. and it is the given one, if all were written. -/
def PutPost2 (lo g c3 : Nat) (w : World) (rd : RaidD) (rb : Bool) (e : Ending) (w' : World) : Prop := ∃ cs hi', e = .returned (.tuple #[.agg (List.toArray cs), .bool rb]) ∧ RaidN w' lo hi' cs rd ∧ hi' ≤ w'.heap.size ∧ Chg (· ∈ [g]) w w' ∧ (rb = true → cs = [.slice (some ⟨g, 0, none⟩) 3 c3])
set_option maxRecDepth 100000 in
set_option maxHeartbeats 4000000 in
theorem l4Put2_any (g c3 : Nat) (xs : RaidD) (row : Int) (s : ByteArray) (AC : Option Addr) (cc : Nat) (qb : Nat) (w : World) (lo hi lo2 hi2 : Nat) (h : RaidN w lo hi [.slice (some ⟨g, 0, none⟩) 3 c3] xs) (hhi : hi ≤ w.heap.size) (hok : raidOk xs = true)
    (hc : SliceR StrR 1 w lo2 hi2 AC 3 cc (cutS s)) (hcg : ∀ b, blkOf AC b → b ≠ g) (hB : w.heap[qb]? = some (.cells #[.bool true, .bool true, .bool true] 4 (0, 0))) :
    Calls Try.prog 45 #[.agg #[.slice (some ⟨g, 0, none⟩) 3 c3], .int .i64 row, .slice AC 3 cc, .slice (some ⟨qb, 0, none⟩) 3 3] w (PutPost2 lo g c3 w (eachD (FW row s) (GW row s) xs) (allG (GW row s) xs)) := by
  obtain ⟨hl3, hx3⟩ := raidOk_len hok
  have hdk : ∀ j x, xs[j]? = some x → diskOk x = true := fun j x hx => by
    unfold raidOk at hok
    have := ((Bool.and_eq_true _ _).mp hok).2
    rw [List.all_eq_true] at this
    exact this x (List.mem_of_getElem? hx)
  obtain ⟨bc, oc, rfl, _, _, lbc, _⟩ := hc.at_ (by omega)
  have hbg := hcg bc ⟨oc, rfl⟩
  have hqg : qb ≠ g := fun e => by
    obtain ⟨g', cur, o, e', _, _, h3, _⟩ := h.arr (by omega)
    injection e' with e'; injection e' with e' _; subst e'
    rw [e, h3] at hB
    injection hB with hB; injection hB with _ hB; exact absurd hB (by decide)
  have lqb : qb < w.heap.size := (Array.getElem?_eq_some_iff.1 hB).1
  obtain ⟨_, _, _, e', hg1, hg2, -⟩ := h.arr (by omega)
  injection e' with e'; injection e' with e' _; subst e'
  have hlog : lo ≤ g := hg1
  have hghi : g < hi := hg2
  have H := Lib.hid h; have HC := Lib.hid hc; have HB := Lib.hid hB; have HL3 := Lib.hid hl3; have HX3 := Lib.hid hx3; have HDK := Lib.hid hdk
  obtain ⟨rb, hrb⟩ : ∃ d, d = allG (GW row s) xs := ⟨_, rfl⟩
  obtain ⟨rd, hrd⟩ : ∃ d, d = eachD (FW row s) (GW row s) xs := ⟨_, rfl⟩
  rw [← hrb, ← hrd]
  have HRB := Lib.hid hrb; have HRD := Lib.hid hrd
  clear h hc hB hl3 hx3 hdk hrb hrd hok hcg hg1 hg2
  go_enter Try.func45, Try.ntmps45
  go_wp2_with fail
  obtain ⟨w1, hW⟩ : ∃ w1, w1 = (w.alloc (.cells #[.slice (some ⟨g, 0, none⟩) 3 c3] 35)).alloc (.cells #[.slice none 0 0] 35) := ⟨_, rfl⟩
  have X1 : Below w.heap.size w w1 := by rw [hW]; exact bel2
  have z1 : w1.heap.size = w.heap.size + 2 := by rw [hW]; simp
  have K0 : Hid (w1.heap[w.heap.size]? = some (.cells #[.slice (some ⟨g, 0, none⟩) 3 c3] 35 (0, 0))) := Lib.hid (by rw [hW]; exact (Below.heap_alloc _ _ _ (by simp)).trans (heap_alloc_new _ _))
  have K1 : Hid (w1.heap[w.heap.size + 1]? = some (.cells #[.slice none 0 0] 35 (0, 0))) := Lib.hid (by rw [hW]; exact box2)
  rw [← hW]; clear hW
  have HX1 := Lib.hid X1
  have HI1 := Lib.hid (RaidN.below X1 hhi _ _ H.out)
  clear X1
  go_loopw [10] (fun i wr => ∃ (r hr : Nat), r ≤ 3 ∧ i = .int .i64 (r : Int) ∧ hi ≤ hr ∧ hr ≤ wr.heap.size ∧ Hid (Chg (· ∈ [g]) w1 wr) ∧ Hid (RaidN wr lo hr [.slice (some ⟨g, 0, none⟩) 3 c3] (upto (FW row s) xs r)) ∧ Hid (∀ j x, j < r → xs[j]? = some x → GW row s j x = true)) (fun i _ => 3 - (intOf i).toNat)
  case atStart => exact ⟨0, hi, by omega, rfl, Nat.le_refl _, by omega, Lib.hid (Chg.refl _ _), HI1, Lib.hid (fun j x hj => absurd hj (by omega))⟩
  case round =>
    clear HI1
    obtain ⟨r, hr, hr3, rfl, hrh, hrw, HCH, HI, HG⟩ := hrel
    have hsz := HCH.out.size
    have R0 : Hid (wr.heap[w.heap.size]? = some (.cells #[.slice (some ⟨g, 0, none⟩) 3 c3] 35 (0, 0))) := Lib.hid ((HCH.out.block _ (by omega) (by simp; omega)).trans K0.out)
    have R1 : Hid (wr.heap[w.heap.size + 1]? = some (.cells #[.slice none 0 0] 35 (0, 0))) := Lib.hid ((HCH.out.block _ (by omega) (by simp; omega)).trans K1.out)
    have b0 := cell_of_row _ _ 0 _ _ (0, 0) R0.out
    have l0 : w.heap.size < wr.heap.size := by omega
    have l1 : w.heap.size + 1 < wr.heap.size := by omega
    by_cases hlt : r < 3
    · obtain ⟨x, hx⟩ : ∃ x, xs[r]? = some x := ⟨xs[r]'(by rw [HL3.out]; exact hlt), List.getElem?_eq_getElem _⟩
      obtain ⟨o, hO⟩ := HI.out.o
      obtain ⟨g', cur, e', hg1, hg2, hgc, hgs, hc1, hc2, hgl, hgw, hgx⟩ := hO.arr (by omega)
      injection e' with e'; injection e' with e' _; subst e'
      obtain ⟨cs, hcl, hcc, hdo⟩ := hgx r x (upto_get hx)
      have HDO := Lib.hid hdo
      obtain ⟨gone, hgone⟩ : ∃ g, g = x.2.2 := ⟨_, rfl⟩
      have hdo1 := hdo.1
      obtain ⟨A0, n0, c0, A1, n1, c1, rfl, d0, d1, d2, d3⟩ := hdo1
      simp only at d0 d2
      rw [← hgone] at hcc HDO
      have hn1 : n1 ≤ 120 := by have := d2.len; have := (HX3.out x (List.mem_of_getElem? hx)).2; omega
      have q0 : wr.cell? ⟨g, r * 3, none⟩ = some (.slice A0 n0 c0) := (cell_of_row _ _ _ _ _ (0, 0) hgc).trans (hcc 0 _ rfl)
      have q1 : wr.cell? ⟨g, r * 3 + 1, none⟩ = some (.slice A1 n1 c1) := (cell_of_row _ _ _ _ _ (0, 0) hgc).trans (hcc 1 _ rfl)
      have q2 : wr.cell? ⟨g, r * 3 + 2, none⟩ = some (.bool gone) := (cell_of_row _ _ _ _ _ (0, 0) hgc).trans (hcc 2 _ rfl)
      have lgr : g < wr.heap.size := (Array.getElem?_eq_some_iff.1 hgc).1
      have HO := Lib.hid hO; have HD0 := Lib.hid (And.intro d0 d1); have HD2 := Lib.hid (And.intro d2 d3); have HX := Lib.hid hx; have HGN := Lib.hid hgone; have HGS := Lib.hid hgs; have HGC := Lib.hid hgc
      clear hO hgc hgs hgx hcl hcc hdo d0 d1 d2 d3 hx hgone
      have hcb := (HCH.out.block bc (by omega) (by simp; omega)).trans (HX1.out.block bc lbc)
      obtain ⟨bc', oc', eA, _, hcol, hcm⟩ := col_at HC.out hlt
      injection eA with eA; injection eA with eA1 eA2; subst eA1 eA2
      have qc : wr.cell? ⟨bc, oc + r, none⟩ = some (.string (colAt s r)) := (World.cell?_of_block (a := ⟨bc, _, none⟩) hcb).trans hcol
      have hqbb := (HCH.out.block qb (by omega) (by simp; omega)).trans ((HX1.out.block qb lqb).trans HB.out)
      have qw : wr.cell? ⟨qb, r, none⟩ = some (.bool true) := (cell_of_row _ _ _ _ _ (0, 0) hqbb).trans (by have : r = 0 ∨ r = 1 ∨ r = 2 := by omega
                                                                                                            rcases this with rfl | rfl | rfl <;> rfl)
      have k0 : (0 : Int) ≤ (r : Int) := by omega
      have k1 : (r : Int) < 3 := by omega
      have lqr : qb < wr.heap.size := by omega
      have lbr : bc < wr.heap.size := by omega
      clear hcb hcol hqbb
      cases gone
      rotate_left
      · have HS : Hid (upto (FW row s) xs (r + 1) = upto (FW row s) xs r) := Lib.hid (upto_same HX.out (by unfold FW; rw [if_pos HGN.out.symm]))
        have HG2 := Lib.hid (allG_step HG.out HX.out (show GW row s r x = true by unfold GW; rw [← HGN.out]; rfl))
        go_wp2_with fail
        go_roundw
        case rel => exact ⟨r + 1, hr, by omega, by go_num, hrh, hrw, HCH, by rw [HS.out]; exact HI, HG2⟩
        case measure => simp [intOf]; omega
      · have HQ0 := Lib.hid q0; have HQ1 := Lib.hid q1; have HQ2 := Lib.hid q2; have HQC := Lib.hid qc
        obtain ⟨wg, hwg⟩ : ∃ b, b = writeGo (x.1, x.2.1, false) row (colAt s r) := ⟨_, rfl⟩
        have HWG := Lib.hid hwg; clear hwg
        have HXE : Hid (x = (x.1, x.2.1, false)) := Lib.hid (by rw [HGN.out])
        have HDKX := Lib.hid (HDK.out r x HX.out)
        have HGX : Hid (GW row s r x = wg) := Lib.hid (by unfold GW writeOk; rw [← HGN.out, HDKX.out, HWG.out, ← HXE.out]; rfl)
        go_wp2_with fail
        clear b0 q0 q1 q2 qc qw
        apply wp_region_rgz (DT wr.heap.size 45) (Ext) (fun y w' k' => (k' < 1000 → Below wr.heap.size wr w') ∧ (1000 ≤ k' → ∃ q A' n' c', y 11 = .pointer (some ⟨q, 0, none⟩) ∧ wr.heap.size ≤ q ∧ w'.heap[q]? = some (.cells #[.slice A0 n0 c0, .slice A' n' c', .bool false] 45 (0, 0)) ∧ (wg = false → A' = A1 ∧ n' = n1 ∧ c' = c1) ∧ (wg = true → ∃ lo3 hi3, wr.heap.size ≤ lo3 ∧ lo3 ≤ hi3 ∧ hi3 ≤ w'.heap.size ∧ SliceR WaitR 2 w' lo3 hi3 A' n' c' (x.2.1 ++ [(row, colAt s r)]) ∧ Whole w' 63 2 lo3 hi3 A' n' c'))) (0 :: 0 :: 0 :: 0 :: 0 :: 0 :: 0 :: 0 :: 0 :: 0 :: 0 :: 0 :: 0 :: 0 :: 0 :: 1000 :: 0 :: []) (1000 :: 1000 :: 1000 :: 1000 :: 1000 :: 1000 :: 1000 :: 1000 :: 1000 :: 1000 :: 1000 :: 1000 :: 1000 :: 0 :: 1000 :: 1000 :: 0 :: []) (by kernel_rfl) (false :: false :: false :: false :: false :: false :: false :: false :: false :: false :: false :: true :: true :: false :: false :: false :: false :: false :: false :: false :: false :: false :: false :: false :: false :: false :: false :: false :: false :: false :: false :: false :: false :: true :: true :: true :: true :: true :: true :: true :: true :: true :: true :: true :: true :: true :: true :: false :: false :: false :: false :: false :: false :: false :: false :: false :: []) (some 34 :: some 35 :: some 36 :: some 37 :: some 38 :: some 39 :: some 40 :: some 41 :: some 42 :: some 43 :: some 44 :: some 33 :: some 45 :: some 46 :: some 11 :: none :: some 12 :: []) ([] :: [0] :: [] :: [1, 2] :: [3] :: [] :: [] :: [] :: [6, 7] :: [8] :: [4, 5, 9] :: [10] :: [11] :: [11] :: [] :: [12, 14] :: [13] :: []) (false :: false :: false :: false :: false :: false :: false :: false :: false :: false :: false :: false :: false :: false :: false :: true :: false :: []) (true :: true :: true :: true :: true :: true :: true :: true :: true :: true :: true :: true :: true :: true :: false :: true :: true :: []) [16] (MStP.is _ :: MStP.is _ :: MStP.is _ :: MStP.is _ :: MStP.is _ :: MStP.is _ :: MStP.is _ :: MStP.is _ :: MStP.is _ :: MStP.is _ :: ⟨fun v w' => ∃ A' n' c', v = .tuple #[.agg #[.slice A0 n0 c0, .slice A' n' c', .bool false], .bool wg] ∧ (wg = false → A' = A1 ∧ n' = n1 ∧ c' = c1) ∧ (wg = true → ∃ lo3 hi3, wr.heap.size ≤ lo3 ∧ lo3 ≤ hi3 ∧ hi3 ≤ w'.heap.size ∧ SliceR WaitR 2 w' lo3 hi3 A' n' c' (x.2.1 ++ [(row, colAt s r)]) ∧ Whole w' 63 2 lo3 hi3 A' n' c'), true, fun v w' w'' hs h => by obtain ⟨A', n', c', e, h1, h2⟩ := h; exact ⟨A', n', c', e, h1, fun hg => by obtain ⟨lo3, hi3, a1, a2, a3, a4, a5⟩ := h2 hg; exact ⟨lo3, hi3, a1, a2, Nat.le_trans a3 (Below.size hs), a4.below hs (fun _ _ h => h), a5.below hs a3⟩⟩, fun _ v w' w'' hs h => by obtain ⟨A', n', c', e, h1, h2⟩ := h; exact ⟨A', n', c', e, h1, fun hg => by obtain ⟨lo3, hi3, a1, a2, a3, a4, a5⟩ := h2 hg; have hz := hs.2.1; obtain ⟨b4, b5⟩ := waits_dt hs ⟨a4, a5⟩; exact ⟨lo3, hi3, a1, a2, Nat.le_trans a3 hz, b4, b5⟩⟩⟩ :: ⟨fun v w' => ∃ A' n' c', v = .tuple #[.agg #[.slice A0 n0 c0, .slice A' n' c', .bool false], .bool wg] ∧ (wg = false → A' = A1 ∧ n' = n1 ∧ c' = c1) ∧ (wg = true → ∃ lo3 hi3, wr.heap.size ≤ lo3 ∧ lo3 ≤ hi3 ∧ hi3 ≤ w'.heap.size ∧ SliceR WaitR 2 w' lo3 hi3 A' n' c' (x.2.1 ++ [(row, colAt s r)]) ∧ Whole w' 63 2 lo3 hi3 A' n' c'), true, fun v w' w'' hs h => by obtain ⟨A', n', c', e, h1, h2⟩ := h; exact ⟨A', n', c', e, h1, fun hg => by obtain ⟨lo3, hi3, a1, a2, a3, a4, a5⟩ := h2 hg; exact ⟨lo3, hi3, a1, a2, Nat.le_trans a3 (Below.size hs), a4.below hs (fun _ _ h => h), a5.below hs a3⟩⟩, fun _ v w' w'' hs h => by obtain ⟨A', n', c', e, h1, h2⟩ := h; exact ⟨A', n', c', e, h1, fun hg => by obtain ⟨lo3, hi3, a1, a2, a3, a4, a5⟩ := h2 hg; have hz := hs.2.1; obtain ⟨b4, b5⟩ := waits_dt hs ⟨a4, a5⟩; exact ⟨lo3, hi3, a1, a2, Nat.le_trans a3 hz, b4, b5⟩⟩⟩ :: ⟨fun v w' => ∃ A' n' c', v = .agg #[.slice A0 n0 c0, .slice A' n' c', .bool false] ∧ (wg = false → A' = A1 ∧ n' = n1 ∧ c' = c1) ∧ (wg = true → ∃ lo3 hi3, wr.heap.size ≤ lo3 ∧ lo3 ≤ hi3 ∧ hi3 ≤ w'.heap.size ∧ SliceR WaitR 2 w' lo3 hi3 A' n' c' (x.2.1 ++ [(row, colAt s r)]) ∧ Whole w' 63 2 lo3 hi3 A' n' c'), true, fun v w' w'' hs h => by obtain ⟨A', n', c', e, h1, h2⟩ := h; exact ⟨A', n', c', e, h1, fun hg => by obtain ⟨lo3, hi3, a1, a2, a3, a4, a5⟩ := h2 hg; exact ⟨lo3, hi3, a1, a2, Nat.le_trans a3 (Below.size hs), a4.below hs (fun _ _ h => h), a5.below hs a3⟩⟩, fun _ v w' w'' hs h => by obtain ⟨A', n', c', e, h1, h2⟩ := h; exact ⟨A', n', c', e, h1, fun hg => by obtain ⟨lo3, hi3, a1, a2, a3, a4, a5⟩ := h2 hg; have hz := hs.2.1; obtain ⟨b4, b5⟩ := waits_dt hs ⟨a4, a5⟩; exact ⟨lo3, hi3, a1, a2, Nat.le_trans a3 hz, b4, b5⟩⟩⟩ :: MStP.is _ :: ⟨fun v w' => ∃ q : Nat, wr.heap.size ≤ q ∧ v = .pointer (some ⟨q, 0, none⟩) ∧ w'.heap[q]? = some (.cells #[.slice none 0 0, .slice none 0 0, .bool false] 45 (0, 0)), false, fun v w' w'' hs ⟨q, h1, e, h2⟩ => ⟨q, h1, e, (Below.block hs q (Array.getElem?_eq_some_iff.1 h2).1).trans h2⟩, fun h => by cases h⟩ :: MStP.is _ :: MStP.is _ :: []) (by kernel_rfl) (by kernel_rfl) (by kernel_rfl) (by kernel_rfl)
        case hobs =>
          refine ⟨fun y w' k hS hj hk hF K hK => ?_, ?_⟩
          · skip -- 0: fieldAddr
            simp only [fillL, cond_true, cond_false, List.getD_cons_zero, List.getD_cons_succ, StP.is, Act.put, List.setIfInBounds_toArray, List.set_cons_zero, List.set_cons_succ, Nat.reduceAdd, MStP.is, Option.isSome_some, Option.isSome_none] at hK ⊢
            simp only [List.sum_cons, List.sum_nil, List.getD_cons_zero, List.getD_cons_succ, Nat.reduceAdd, Nat.add_zero] at hk
            refine rg_yes (by kernel_rfl) ?_
            clear hF
            go_simp
            exact hK _ _ (Ext.refl _) ⟨fun h => hj.1 (by omega), fun h => absurd h (by omega)⟩ rfl
          refine ⟨fun y w' k hS hj hk hF K hK => ?_, ?_⟩
          · skip -- 1: load
            have e34 : y 34 = _ := hF.1
            have e34' := Lib.hid e34
            simp only [fillL, cond_true, cond_false, List.getD_cons_zero, List.getD_cons_succ, StP.is, Act.put, List.setIfInBounds_toArray, List.set_cons_zero, List.set_cons_succ, Nat.reduceAdd, e34, MStP.is, Option.isSome_some, Option.isSome_none] at hK ⊢
            simp only [List.sum_cons, List.sum_nil, List.getD_cons_zero, List.getD_cons_succ, Nat.reduceAdd, Nat.add_zero] at hk
            refine rg_yes (by kernel_rfl) ?_
            clear e34
            clear hF
            have hE := hj.1 (by omega)
            have hsw := hE.size
            have q0_ := (World.cell?_of_block (a := ⟨w.heap.size, _, none⟩) (hE.block _ l0)).trans (cell_of_row _ _ 0 _ _ (0, 0) R0.out)
            have lt_ : w.heap.size < w'.heap.size := Nat.lt_of_lt_of_le l0 hsw
            go_simp
            exact hK _ _ (Ext.refl _) ⟨fun h => hj.1 (by omega), fun h => absurd h (by omega)⟩ rfl
          refine ⟨fun y w' k hS hj hk hF K hK => ?_, ?_⟩
          · skip -- 2: move
            simp only [fillL, cond_true, cond_false, List.getD_cons_zero, List.getD_cons_succ, StP.is, Act.put, List.setIfInBounds_toArray, List.set_cons_zero, List.set_cons_succ, Nat.reduceAdd, MStP.is, Option.isSome_some, Option.isSome_none] at hK ⊢
            simp only [List.sum_cons, List.sum_nil, List.getD_cons_zero, List.getD_cons_succ, Nat.reduceAdd, Nat.add_zero] at hk
            refine rg_yes (by kernel_rfl) ?_
            clear hF
            go_simp
            exact hK _ _ (Ext.refl _) ⟨fun h => hj.1 (by omega), fun h => absurd h (by omega)⟩ rfl
          refine ⟨fun y w' k hS hj hk hF K hK => ?_, ?_⟩
          · skip -- 3: indexAddr
            have e35 : y 35 = _ := hF.1
            have e36 : y 36 = _ := hF.2.1
            have e35' := Lib.hid e35
            have e36' := Lib.hid e36
            simp only [fillL, cond_true, cond_false, List.getD_cons_zero, List.getD_cons_succ, StP.is, Act.put, List.setIfInBounds_toArray, List.set_cons_zero, List.set_cons_succ, Nat.reduceAdd, e35, e36, MStP.is, Option.isSome_some, Option.isSome_none] at hK ⊢
            simp only [List.sum_cons, List.sum_nil, List.getD_cons_zero, List.getD_cons_succ, Nat.reduceAdd, Nat.add_zero] at hk
            refine rg_yes (by kernel_rfl) ?_
            clear e35 e36
            clear hF
            go_simp
            exact hK _ _ (Ext.refl _) ⟨fun h => hj.1 (by omega), fun h => absurd h (by omega)⟩ rfl
          refine ⟨fun y w' k hS hj hk hF K hK => ?_, ?_⟩
          · skip -- 4: load
            have e37 : y 37 = _ := hF.1
            have e37' := Lib.hid e37
            simp only [fillL, cond_true, cond_false, List.getD_cons_zero, List.getD_cons_succ, StP.is, Act.put, List.setIfInBounds_toArray, List.set_cons_zero, List.set_cons_succ, Nat.reduceAdd, e37, MStP.is, Option.isSome_some, Option.isSome_none] at hK ⊢
            simp only [List.sum_cons, List.sum_nil, List.getD_cons_zero, List.getD_cons_succ, Nat.reduceAdd, Nat.add_zero] at hk
            refine rg_yes (by kernel_rfl) ?_
            clear e37
            clear hF
            have hE := hj.1 (by omega)
            have hsw := hE.size
            have q0_ := (World.cell?_of_block (a := ⟨g, _, none⟩) (hE.block _ lgr)).trans HQ0.out
            have q1_ := (World.cell?_of_block (a := ⟨g, _, none⟩) (hE.block _ lgr)).trans HQ1.out
            have q2_ := (World.cell?_of_block (a := ⟨g, _, none⟩) (hE.block _ lgr)).trans HQ2.out
            have lt_ : g < w'.heap.size := Nat.lt_of_lt_of_le lgr hsw
            go_simp
            exact hK _ _ (Ext.refl _) ⟨fun h => hj.1 (by omega), fun h => absurd h (by omega)⟩ rfl
          refine ⟨fun y w' k hS hj hk hF K hK => ?_, ?_⟩
          · skip -- 5: move
            simp only [fillL, cond_true, cond_false, List.getD_cons_zero, List.getD_cons_succ, StP.is, Act.put, List.setIfInBounds_toArray, List.set_cons_zero, List.set_cons_succ, Nat.reduceAdd, MStP.is, Option.isSome_some, Option.isSome_none] at hK ⊢
            simp only [List.sum_cons, List.sum_nil, List.getD_cons_zero, List.getD_cons_succ, Nat.reduceAdd, Nat.add_zero] at hk
            refine rg_yes (by kernel_rfl) ?_
            clear hF
            go_simp
            exact hK _ _ (Ext.refl _) ⟨fun h => hj.1 (by omega), fun h => absurd h (by omega)⟩ rfl
          refine ⟨fun y w' k hS hj hk hF K hK => ?_, ?_⟩
          · skip -- 6: move
            simp only [fillL, cond_true, cond_false, List.getD_cons_zero, List.getD_cons_succ, StP.is, Act.put, List.setIfInBounds_toArray, List.set_cons_zero, List.set_cons_succ, Nat.reduceAdd, MStP.is, Option.isSome_some, Option.isSome_none] at hK ⊢
            simp only [List.sum_cons, List.sum_nil, List.getD_cons_zero, List.getD_cons_succ, Nat.reduceAdd, Nat.add_zero] at hk
            refine rg_yes (by kernel_rfl) ?_
            clear hF
            go_simp
            exact hK _ _ (Ext.refl _) ⟨fun h => hj.1 (by omega), fun h => absurd h (by omega)⟩ rfl
          refine ⟨fun y w' k hS hj hk hF K hK => ?_, ?_⟩
          · skip -- 7: move
            simp only [fillL, cond_true, cond_false, List.getD_cons_zero, List.getD_cons_succ, StP.is, Act.put, List.setIfInBounds_toArray, List.set_cons_zero, List.set_cons_succ, Nat.reduceAdd, MStP.is, Option.isSome_some, Option.isSome_none] at hK ⊢
            simp only [List.sum_cons, List.sum_nil, List.getD_cons_zero, List.getD_cons_succ, Nat.reduceAdd, Nat.add_zero] at hk
            refine rg_yes (by kernel_rfl) ?_
            clear hF
            go_simp
            exact hK _ _ (Ext.refl _) ⟨fun h => hj.1 (by omega), fun h => absurd h (by omega)⟩ rfl
          refine ⟨fun y w' k hS hj hk hF K hK => ?_, ?_⟩
          · skip -- 8: indexAddr
            have e40 : y 40 = _ := hF.1
            have e41 : y 41 = _ := hF.2.1
            have e40' := Lib.hid e40
            have e41' := Lib.hid e41
            simp only [fillL, cond_true, cond_false, List.getD_cons_zero, List.getD_cons_succ, StP.is, Act.put, List.setIfInBounds_toArray, List.set_cons_zero, List.set_cons_succ, Nat.reduceAdd, e40, e41, MStP.is, Option.isSome_some, Option.isSome_none] at hK ⊢
            simp only [List.sum_cons, List.sum_nil, List.getD_cons_zero, List.getD_cons_succ, Nat.reduceAdd, Nat.add_zero] at hk
            refine rg_yes (by kernel_rfl) ?_
            clear e40 e41
            clear hF
            go_simp
            exact hK _ _ (Ext.refl _) ⟨fun h => hj.1 (by omega), fun h => absurd h (by omega)⟩ rfl
          refine ⟨fun y w' k hS hj hk hF K hK => ?_, ?_⟩
          · skip -- 9: load
            have e42 : y 42 = _ := hF.1
            have e42' := Lib.hid e42
            simp only [fillL, cond_true, cond_false, List.getD_cons_zero, List.getD_cons_succ, StP.is, Act.put, List.setIfInBounds_toArray, List.set_cons_zero, List.set_cons_succ, Nat.reduceAdd, e42, MStP.is, Option.isSome_some, Option.isSome_none] at hK ⊢
            simp only [List.sum_cons, List.sum_nil, List.getD_cons_zero, List.getD_cons_succ, Nat.reduceAdd, Nat.add_zero] at hk
            refine rg_yes (by kernel_rfl) ?_
            clear e42
            clear hF
            have hE := hj.1 (by omega)
            have hsw := hE.size
            have q0_ := (World.cell?_of_block (a := ⟨bc, _, none⟩) (hE.block _ lbr)).trans HQC.out
            have lt_ : bc < w'.heap.size := Nat.lt_of_lt_of_le lbr hsw
            go_simp
            exact hK _ _ (Ext.refl _) ⟨fun h => hj.1 (by omega), fun h => absurd h (by omega)⟩ rfl
          refine ⟨fun y w' k hS hj hk hF K hK => ?_, ?_⟩
          · skip -- 10: call
            have e38 : y 38 = _ := hF.1
            have e39 : y 39 = _ := hF.2.1
            have e43 : y 43 = _ := hF.2.2.1
            have e38' := Lib.hid e38
            have e39' := Lib.hid e39
            have e43' := Lib.hid e43
            simp only [fillL, cond_true, cond_false, List.getD_cons_zero, List.getD_cons_succ, StP.is, Act.put, List.setIfInBounds_toArray, List.set_cons_zero, List.set_cons_succ, Nat.reduceAdd, e38, e39, e43, MStP.is, Option.isSome_some, Option.isSome_none] at hK ⊢
            simp only [List.sum_cons, List.sum_nil, List.getD_cons_zero, List.getD_cons_succ, Nat.reduceAdd, Nat.add_zero] at hk
            refine rg_yes (by kernel_rfl) ?_
            clear e38 e39 e43
            clear hF
            have hE := hj.1 (by omega)
            go_simp
            go_at_call 67
            refine (l3Write_any A0 n0 c0 A1 n1 c1 x.1 x.2.1 false row (colAt s r) _ _ _ (HD2.out.1.below hE (fun _ _ h => h)) hcm hn1).mono ?_
            rw [← HWG.out]
            rintro e w'' ⟨A', n', c', rfl, hb, h1, h2⟩
            exact hK _ _ hb ⟨fun h => hE.trans (hb.mono hE.size), fun h => absurd h (by omega)⟩ ⟨A', n', c', rfl, h1, fun hg => ⟨w'.heap.size, w''.heap.size, hE.size, hb.size, Nat.le_refl _, (h2 hg).1, (h2 hg).2⟩⟩
          refine ⟨fun y w' k hS hj hk hF K hK => ?_, ?_⟩
          · skip -- 11: move
            obtain ⟨A', n', c', e44, hw1_, hw2_⟩ := hF.1
            have HW1 := Lib.hid hw1_; have HW2 := Lib.hid hw2_; clear hw1_ hw2_
            have e44' := Lib.hid e44
            simp only [fillL, cond_true, cond_false, List.getD_cons_zero, List.getD_cons_succ, StP.is, Act.put, List.setIfInBounds_toArray, List.set_cons_zero, List.set_cons_succ, Nat.reduceAdd, e44, MStP.is, Option.isSome_some, Option.isSome_none] at hK ⊢
            simp only [List.sum_cons, List.sum_nil, List.getD_cons_zero, List.getD_cons_succ, Nat.reduceAdd, Nat.add_zero] at hk
            refine rg_yes (by kernel_rfl) ?_
            clear e44
            clear hF
            go_simp
            exact hK _ _ (Ext.refl _) ⟨fun h => hj.1 (by omega), fun h => absurd h (by omega)⟩ ⟨A', n', c', rfl, HW1.out, HW2.out⟩
          refine ⟨fun y w' k hS hj hk hF K hK => ?_, ?_⟩
          · skip -- 12: extract
            obtain ⟨A', n', c', e33, hw1_, hw2_⟩ := hF.1
            have HW1 := Lib.hid hw1_; have HW2 := Lib.hid hw2_; clear hw1_ hw2_
            have e33' := Lib.hid e33
            simp only [fillL, cond_true, cond_false, List.getD_cons_zero, List.getD_cons_succ, StP.is, Act.put, List.setIfInBounds_toArray, List.set_cons_zero, List.set_cons_succ, Nat.reduceAdd, e33, MStP.is, Option.isSome_some, Option.isSome_none] at hK ⊢
            simp only [List.sum_cons, List.sum_nil, List.getD_cons_zero, List.getD_cons_succ, Nat.reduceAdd, Nat.add_zero] at hk
            refine rg_yes (by kernel_rfl) ?_
            clear e33
            clear hF
            go_simp
            exact hK _ _ (Ext.refl _) ⟨fun h => hj.1 (by omega), fun h => absurd h (by omega)⟩ ⟨A', n', c', rfl, HW1.out, HW2.out⟩
          refine ⟨fun y w' k hS hj hk hF K hK => ?_, ?_⟩
          · skip -- 13: extract
            obtain ⟨A', n', c', e33, hw1_, hw2_⟩ := hF.1
            have HW1 := Lib.hid hw1_; have HW2 := Lib.hid hw2_; clear hw1_ hw2_
            have e33' := Lib.hid e33
            simp only [fillL, cond_true, cond_false, List.getD_cons_zero, List.getD_cons_succ, StP.is, Act.put, List.setIfInBounds_toArray, List.set_cons_zero, List.set_cons_succ, Nat.reduceAdd, e33, MStP.is, Option.isSome_some, Option.isSome_none] at hK ⊢
            simp only [List.sum_cons, List.sum_nil, List.getD_cons_zero, List.getD_cons_succ, Nat.reduceAdd, Nat.add_zero] at hk
            refine rg_yes (by kernel_rfl) ?_
            clear e33
            clear hF
            go_simp
            exact hK _ _ (Ext.refl _) ⟨fun h => hj.1 (by omega), fun h => by simpa [updY] using hj.2 (by omega)⟩ rfl
          refine ⟨fun y w' k hS hj hk hF K hK => ?_, ?_⟩
          · skip -- 14: alloc
            simp only [fillL, cond_true, cond_false, List.getD_cons_zero, List.getD_cons_succ, StP.is, Act.put, List.setIfInBounds_toArray, List.set_cons_zero, List.set_cons_succ, Nat.reduceAdd, MStP.is, Option.isSome_some, Option.isSome_none] at hK ⊢
            simp only [List.sum_cons, List.sum_nil, List.getD_cons_zero, List.getD_cons_succ, Nat.reduceAdd, Nat.add_zero] at hk
            refine rg_yes (by kernel_rfl) ?_
            clear hF
            have hE := hj.1 (by omega)
            go_simp
            exact hK _ _ (Ext.alloc _ _) ⟨fun h => hE.alloc hE.size _, fun h => absurd h (by omega)⟩ ⟨_, hE.size, rfl, heap_alloc_new _ _⟩
          refine ⟨fun y w' k hS hj hk hF K hK => ?_, ?_⟩
          · skip -- 15: store
            obtain ⟨A', n', c', e45, hw1_, hw2_⟩ := hF.1
            have HW1 := Lib.hid hw1_; have HW2 := Lib.hid hw2_; clear hw1_ hw2_
            obtain ⟨q, hqn, e11, hq⟩ := hF.2.1
            have e45' := Lib.hid e45
            have e11' := Lib.hid e11
            simp only [fillL, cond_true, cond_false, List.getD_cons_zero, List.getD_cons_succ, StP.is, Act.put, List.setIfInBounds_toArray, List.set_cons_zero, List.set_cons_succ, Nat.reduceAdd, e45, e11, MStP.is, Option.isSome_some, Option.isSome_none] at hK ⊢
            simp only [List.sum_cons, List.sum_nil, List.getD_cons_zero, List.getD_cons_succ, Nat.reduceAdd, Nat.add_zero] at hk
            refine rg_yes (by kernel_rfl) ?_
            clear e45 e11
            clear hF
            have hE := hj.1 (by omega)
            have fz := fun o => block_free hq o
            have fz0 := fz 0; have fz1 := fz 1; have fz2 := fz 2
            have cz0 := cell_of_row _ _ 0 _ _ (0, 0) hq
            have cz1 := cell_of_row _ _ 1 _ _ (0, 0) hq
            have cz2 := cell_of_row _ _ 2 _ _ (0, 0) hq
            clear fz
            have HQQ := Lib.hid hq; clear hq
            have HE11 := e11'; clear e11'
            go_simp
            have hDT : DT wr.heap.size 45 w' (((w'.setCell ⟨q, 0, none⟩ (.slice A0 n0 c0)).setCell ⟨q, 1, none⟩ (.slice A' n' c')).setCell ⟨q, 2, none⟩ (.bool false)) := by
              refine ⟨fun hB => ?_, by simp [World.setCell], fun i hi hn => ?_⟩
              · exact Below.setCell (p := ⟨q, 2, none⟩) (Below.setCell (p := ⟨q, 1, none⟩) (Below.setCell (p := ⟨q, 0, none⟩) (Below.refl _ _) hqn _) hqn _) hqn _
              · have h1 : i ≠ q := fun e => hn _ (e ▸ HQQ.out)
                exact (heap_far h1).trans ((heap_far h1).trans (heap_far h1))
            refine hK undef _ hDT ⟨fun h => absurd h (by omega), fun _ => ⟨q, A', n', c', HE11.out, hqn, setT_3 HQQ.out, HW1.out, fun hg => ?_⟩⟩ rfl
            obtain ⟨lo3, hi3, a1, a2, a3, a4, a5⟩ := HW2.out hg
            obtain ⟨b4, b5⟩ := waits_dt hDT ⟨a4, a5⟩
            exact ⟨lo3, hi3, a1, a2, by simpa [World.setCell] using a3, b4, b5⟩
          refine ⟨fun y w' k hS hj hk hF K hK => ?_, ?_⟩
          · skip -- 16: assign
            have e46 : y 46 = _ := hF.1
            have e46' := Lib.hid e46
            simp only [fillL, cond_true, cond_false, List.getD_cons_zero, List.getD_cons_succ, StP.is, Act.put, List.setIfInBounds_toArray, List.set_cons_zero, List.set_cons_succ, Nat.reduceAdd, e46, MStP.is, Option.isSome_some, Option.isSome_none] at hK ⊢
            simp only [List.sum_cons, List.sum_nil, List.getD_cons_zero, List.getD_cons_succ, Nat.reduceAdd, Nat.add_zero] at hk
            refine rg_yes (by kernel_rfl) ?_
            clear e46
            clear hF
            go_simp
            exact hK _ _ (Ext.refl _) ⟨fun h => hj.1 (by omega), fun h => by simpa [updY] using hj.2 (by omega)⟩ rfl
          trivial
        case hH => rfl
        case hNS => exact fun _ _ h => DT.of_ext h
        case hSt => exact fun a b => DT.trans a b
        case hb => rfl
        case hdrew => exact ⟨Own.drew _ _, Nat.le_refl _, fun _ _ _ => rfl⟩
        case hj0 => exact fun y => ⟨fun _ => below_drewN (Below.refl _ _) 1, fun h => absurd h (by omega)⟩
        case hend =>
          intro y w6 hS hJ hF
          obtain ⟨q, A', n', c', e11, hqn, hq, hw1, hw2⟩ := hJ.2 (by decide)
          have e12 : y 12 = _ := hF.1
          clear hJ hF
          simp only [fillL, cond_true, cond_false, Nat.reduceAdd, e11, e12]
          clear e11 e12
          have hE : Below wr.heap.size wr w6 := hS.1 (Nat.le_refl _)
          have z6 := hE.size
          have HE6 := Lib.hid hE
          have HQ6 := Lib.hid hq
          have HW1 := Lib.hid hw1; have HW2 := Lib.hid hw2
          have R06 := Lib.hid ((hE.block _ (by omega)).trans R0.out); have R16 := Lib.hid ((hE.block _ (by omega)).trans R1.out)
          have HC6 : Hid (Chg (· ∈ [g]) w1 w6) := Lib.hid (HCH.out.trans (Chg.of_below hE _))
          clear hS hE hq hw1 hw2
          cases wg
          · have s0 := cell_of_row _ _ 0 _ _ (0, 0) R16.out; have f0 := block_free R16.out 0
            have l1 : w.heap.size + 1 < w6.heap.size := by omega
            have HF1 : Hid (rb = false) := Lib.hid (by rw [HRB.out]; exact allG_no HX.out HGX.out)
            have HF2 : Hid (rd = []) := Lib.hid (by rw [HRD.out]; unfold eachD; rw [← HRB.out, HF1.out]; rfl)
            go_wp2_with fail
            refine bodyPost_ret (v := .tuple #[.agg #[.slice none 0 0], .bool false]) (by simp [results, Try.results45, go_sem, *]) rfl ⟨[.slice none 0 0], _, by rw [HF1.out], by rw [HF2.out]; exact noRaid none (Nat.le_refl _), Nat.le_refl _, ?_, fun h => (by rw [HF1.out] at h; cases h)⟩
            repeat (first | exact (Chg.of_below HX1.out _).trans HC6.out | refine Chg.setCell ?_ (.inr (by simp <;> omega)) _)
          · have t0 := cell_of_row _ _ 0 _ _ (0, 0) HQ6.out; have t1 := cell_of_row _ _ 1 _ _ (0, 0) HQ6.out; have t2 := cell_of_row _ _ 2 _ _ (0, 0) HQ6.out
            have lq6 : q < w6.heap.size := (Array.getElem?_eq_some_iff.1 HQ6.out).1
            have b0 := cell_of_row _ _ 0 _ _ (0, 0) R06.out
            have l06 : w.heap.size < w6.heap.size := by omega
            have hgc6 := (HE6.out.block g lgr).trans HGC.out
            have lg6 : g < w6.heap.size := by omega
            have v0 : w6.cell? ⟨g, r * 3, none⟩ = some _ := block_cell hgc6 (by rw [HGS.out]; omega)
            have v1 : w6.cell? ⟨g, r * 3 + 1, none⟩ = some _ := block_cell hgc6 (by rw [HGS.out]; omega)
            have v2 : w6.cell? ⟨g, r * 3 + 2, none⟩ = some _ := block_cell hgc6 (by rw [HGS.out]; omega)
            have fr0 : w6.frozen? ⟨g, r * 3, none⟩ = false := block_free hgc6 _
            have fr1 : w6.frozen? ⟨g, r * 3 + 1, none⟩ = false := block_free hgc6 _
            have fr2 : w6.frozen? ⟨g, r * 3 + 2, none⟩ = false := block_free hgc6 _
            generalize cur[r * 3]'_ = y0_ at v0
            generalize cur[r * 3 + 1]'_ = y1_ at v1
            generalize cur[r * 3 + 2]'_ = y2_ at v2
            obtain ⟨lo3, hi3, a1, a2, a3, a4, a5⟩ := HW2.out rfl
            have hFW : FW row s r x = (x.1, x.2.1 ++ [(row, colAt s r)], false) := by
              unfold FW writeD
              rw [if_neg (by rw [← HGN.out]; decide), if_pos HDKX.out, if_pos (by rw [HXE.out]; exact HWG.out.symm), ← HGN.out]
            have hDN : DiskN w6 lo hi3 [.slice A0 n0 c0, .slice A' n' c', .bool false] (FW row s r x) := by
              rw [hFW]
              exact ⟨_, _, _, _, _, _, rfl, (HD0.out.1.below HE6.out (StrR.below HE6.out hrw)).wide (Nat.le_refl _) (by omega) a3 (StrR.wide (Nat.le_refl _) (by omega) a3), (HD0.out.2.below HE6.out hrw).wide (Nat.le_refl _) (by omega), a4.wide (by omega) (Nat.le_refl _) a3 (fun _ _ h => h), a5.wide (by omega) (Nat.le_refl _)⟩
            have hlab : ∀ A m k b, Value.slice A m k ∈ [Value.slice A0 n0 c0, .slice A' n' c', .bool false] → 0 < k → blkOf A b → hr ≤ b ∨ o b = r := by
              intro A m k b hm hk hb
              simp only [List.mem_cons, Value.slice.injEq, List.not_mem_nil, or_false, reduceCtorEq] at hm
              rcases hm with ⟨rfl, rfl, rfl⟩ | ⟨rfl, rfl, rfl⟩
              · exact .inr (HDO.out.2 _ _ _ b List.mem_cons_self hk hb)
              · left
                rcases a5 with h | ⟨g5, cur5, rfl, h1, h2, _⟩
                · omega
                · rw [blkOf_iff] at hb; subst hb; omega
            have HNN : Hid (RaidN (((w6.setCell ⟨g, r * 3, none⟩ (.slice A0 n0 c0)).setCell ⟨g, r * 3 + 1, none⟩ (.slice A' n' c')).setCell ⟨g, r * 3 + 2, none⟩ (.bool false)) lo hi3 [.slice (some ⟨g, 0, none⟩) 3 c3] (upto (FW row s) xs (r + 1))) := Lib.hid (by
              rw [← upto_set HX.out]
              exact RaidO.set (RaidO.below HE6.out hrw _ _ HO.out) hlt hDN (by omega) a3 hlab (by simp [World.setCell]) (fun i hi => set3_far hi) (fun cur h => set3 h))
            have HG2 := Lib.hid (allG_step HG.out HX.out HGX.out)
            clear hgc6 a4 a5 hFW hDN hlab
            go_wp2_with fail
            go_roundw
            case rel =>
              refine ⟨r + 1, hi3, by omega, by go_num, by omega, by simpa [World.setCell] using a3, Lib.hid ?_, HNN, HG2⟩
              exact Chg.setCell (p := ⟨g, _, none⟩) (Chg.setCell (p := ⟨g, _, none⟩) (Chg.setCell (p := ⟨g, _, none⟩) HC6.out (.inl (by simp)) _) (.inl (by simp)) _) (.inl (by simp)) _
            case measure => simp [intOf]; omega
    · obtain rfl : r = 3 := by omega
      have s0 := cell_of_row _ _ 0 _ _ (0, 0) R1.out; have f0 := block_free R1.out 0
      have HF1 : Hid (rb = true) := Lib.hid (by rw [HRB.out]; exact allG_yes HL3.out HG.out)
      have HF2 : Hid (rd = upto (FW row s) xs 3) := Lib.hid (by rw [HRD.out]; unfold eachD upto; rw [← HRB.out, HF1.out, if_pos rfl, List.take_of_length_le (by simp; exact Nat.le_of_eq HL3.out), List.drop_eq_nil_of_le (Nat.le_of_eq HL3.out), List.append_nil])
      have t0 := cell_of_row _ _ 0 _ _ (0, 0) (block_set (o := 0) (v := .slice (some ⟨g, 0, none⟩) 3 c3) R1.out)
      go_wp2_with fail
      refine bodyPost_ret (v := .tuple #[.agg #[.slice (some ⟨g, 0, none⟩) 3 c3], .bool true]) (by simp [results, Try.results45, go_sem, t0]) rfl ⟨[.slice (some ⟨g, 0, none⟩) 3 c3], hr, by rw [HF1.out], ?_, by simpa [World.setCell] using hrw, ((Chg.of_below HX1.out _).trans HCH.out).setCell (.inr (by simp)) _, fun _ => rfl⟩
      rw [HF2.out]
      exact RaidN.keepT (U := 35) (by decide) (by decide) (by decide) (by simp [World.setCell]) (fun i hi hn => heap_far (fun e => hn _ ((congrArg (fun t : Nat => wr.heap[t]?) e).trans R1.out))) _ _ HI.out
set_option maxRecDepth 100000 in
theorem l4Put_any (g c3 : Nat) (xs : RaidD) (row : Int) (s : ByteArray) (AC : Option Addr) (cc : Nat) (qb : Nat) (w : World) (lo hi lo2 hi2 : Nat) (h : RaidN w lo hi [.slice (some ⟨g, 0, none⟩) 3 c3] xs) (hhi : hi ≤ w.heap.size) (hok : raidOk xs = true)
    (hc : SliceR StrR 1 w lo2 hi2 AC 3 cc (cutS s)) (hcg : ∀ b, blkOf AC b → b ≠ g) (hB : w.heap[qb]? = some (.cells #[.bool true, .bool true, .bool true] 4 (0, 0))) :
    Calls Try.prog 45 #[.agg #[.slice (some ⟨g, 0, none⟩) 3 c3], .int .i64 row, .slice AC 3 cc, .slice (some ⟨qb, 0, none⟩) 3 3] w (PutPost lo g w (eachD (FW row s) (GW row s) xs) (allG (GW row s) xs)) := (l4Put2_any g c3 xs row s AC cc qb w lo hi lo2 hi2 h hhi hok hc hcg hB).mono (fun e w' h => by
  obtain ⟨cs, hi', h1, h2, h3, h4, _⟩ := h
  exact ⟨cs, hi', h1, h2, h3, h4⟩)
end Go.Proofs.Ytfokpjoeankobaa
