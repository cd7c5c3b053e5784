/- Heads and snapshots in blocks of the call's own, no two of which share an array: what an append leaves, how they read and how they may be marked. No condition. -/
import Derived.Test.YtlacpcdbgimnmaaGreatDoorRMetaPlain
import Derived.Test.YtlacpcdbgimnmaaGreatDoorRMarkN
set_option linter.unnecessarySimpa false
set_option linter.unusedSimpArgs false
set_option linter.unusedVariables false
namespace Go.Proofs.YtlacpcdbgimnmaaGreatDoor
open Go Go.Lib Go.RowKit
theorem OwnA.typ {w : World} {e : TypeId} {k : Nat} {S : List Nat} {A : Option Addr} {n c : Nat} {vs : List Value} (h : OwnA w e k S A n c vs) {g : Nat} (hg : g ∈ S) : ∃ cur, w.heap[g]? = some (.cells cur e (0, 0)) := by
 rcases h.1 with ⟨rfl, _⟩ | ⟨g', cur, rfl, _, _, _, _, h1, _⟩
 · simp at hg
 simp at hg; subst hg; exact ⟨cur, h1⟩
theorem OwnA.whole {w : World} {e : TypeId} {k lo hi : Nat} {S : List Nat} {A : Option Addr} {n c : Nat} {vs : List Value} (h : OwnA w e k S A n c vs) (hS : ∀ g ∈ S, lo ≤ g ∧ g < hi) : Whole w e k lo hi A n c := by
 rcases h.1 with ⟨h00, h0, _⟩ | ⟨g, cur, rfl, rfl, hl, hnc, hcm, hg, hcs, hcc⟩
 · exact .inl ⟨h0, h.2 h00⟩
 obtain ⟨h1, h2⟩ := hS g (by simp)
 exact .inr ⟨g, cur, rfl, h1, h2, hg, hcs, hnc, hcm⟩
theorem OwnA.blk {w : World} {e : TypeId} {k : Nat} {S : List Nat} {A : Option Addr} {n c b : Nat} {vs : List Value} (h : OwnA w e k S A n c vs) (hc : 0 < c) (hb : blkOf A b) : b ∈ S := by
 rcases h.1 with ⟨h00, h0, _⟩ | ⟨g, cur, rfl, rfl, _⟩
 · have := h.2 h00; omega
 rw [blkOf_iff] at hb; subst hb; simp
theorem typ_ne {w : World} {b : Nat} {cur cur' : Array Value} {T T' : TypeId} (h : w.heap[b]? = some (.cells cur T (0, 0))) (h' : w.heap[b]? = some (.cells cur' T' (0, 0))) (hT : T ≠ T') : False := by
 rw [h] at h'
 injection h' with e; injection e with _ e
 exact hT e
theorem PtrsAt.keep {B : Nat} {A : Option Addr} {c : Nat} {S : List Nat} {ys : List PtrD} {w w' : World} (h : PtrsAt B A c S ys w) (hk : ∀ g ∈ S, w'.heap[g]? = w.heap[g]?) : PtrsAt B A c S ys w' := ⟨h.1.keep hk, h.2⟩
section
variable {α : Type}
def ElP (row : α → Option Addr → Nat → List Value) (dd : α → List PtrD) (bd : α → Prop) (o : Nat → Nat) (B : Nat) (w : World) (cs : List Value) (p : α × Nat) : Prop :=
 ∃ (A : Option Addr) (c : Nat) (S : List Nat), cs = row p.1 A c ∧ PtrsAt B A c S (dd p.1) w ∧ (∀ g ∈ S, o g = p.2) ∧ bd p.1
def ListAt (T : TypeId) (sz lb : Nat) (row : α → Option Addr → Nat → List Value) (dd : α → List PtrD) (bd : α → Prop) (o : Nat → Nat) (B : Nat) (w : World) (A : Option Addr) (c : Nat) (S : List Nat) (xs : List α) : Prop :=
 ∃ vs, OwnA w T sz S A xs.length c vs ∧ RowV (ElP row dd bd o B w) sz vs (xs.zipIdx lb) ∧ ∀ g ∈ S, B ≤ g
variable {T : TypeId} {sz lb : Nat} {row : α → Option Addr → Nat → List Value} {dd : α → List PtrD} {bd : α → Prop} {o : Nat → Nat} {B : Nat} {w w' : World} {A : Option Addr} {c : Nat} {S : List Nat} {xs : List α}
theorem RowV.impM {β : Type} {P Q : List Value → β → Prop} {sz : Nat} {vs : List Value} {xs : List β} (h : RowV P sz vs xs) (hPQ : ∀ cs x, P cs x → Q cs x) : RowV Q sz vs xs :=
 fun j x hx => (h j x hx).imp fun cs h => ⟨h.1, h.2.1, hPQ _ _ h.2.2⟩
theorem ElP.keep {cs : List Value} {p : α × Nat} (h : ElP row dd bd o B w cs p) (hk : ∀ g cur, B ≤ g → w.heap[g]? = some (.cells cur 37 (0, 0)) → w'.heap[g]? = w.heap[g]?) : ElP row dd bd o B w' cs p := by
 obtain ⟨A, c, S, h1, h2, h3⟩ := h
 exact ⟨A, c, S, h1, h2.keep fun g hg => by obtain ⟨cur, hc⟩ := h2.1.typ hg; exact hk g cur (h2.2 g hg) hc, h3⟩
theorem ListAt.nil (A : Option Addr) : ListAt T sz lb row dd bd o B w A 0 [] [] := ⟨[], OwnA.nil _, RowV.nil _ _, by simp⟩
theorem ListAt.keep (h : ListAt T sz lb row dd bd o B w A c S xs) (hS : ∀ g ∈ S, w'.heap[g]? = w.heap[g]?) (hk : ∀ g cur, B ≤ g → w.heap[g]? = some (.cells cur 37 (0, 0)) → w'.heap[g]? = w.heap[g]?) : ListAt T sz lb row dd bd o B w' A c S xs := by
 obtain ⟨vs, h1, h2, h3⟩ := h
 exact ⟨vs, h1.keep hS, h2.impM fun cs p hp => hp.keep hk, h3⟩
theorem ListAt.below (h : ListAt T sz lb row dd bd o B w A c S xs) (hb : Below w.heap.size w w') : ListAt T sz lb row dd bd o B w' A c S xs := by
 have hlt : ∀ g ∈ S, g < w.heap.size := by obtain ⟨vs, h1, _⟩ := h; exact h1.lt
 exact h.keep (fun g hg => hb.block g (hlt g hg)) (fun g cur _ hc => hb.block g (Array.getElem?_eq_some_iff.1 hc).1)
theorem ListAt.relabel {o' : Nat → Nat} (h : ListAt T sz lb row dd bd o B w A c S xs) (ho : ∀ b, b < w.heap.size → o' b = o b) : ListAt T sz lb row dd bd o' B w A c S xs := by
 obtain ⟨vs, h1, h2, h3⟩ := h
 refine ⟨vs, h1, h2.impM fun cs p hp => ?_, h3⟩
 obtain ⟨A, c, S, k1, k2, k3, k4⟩ := hp
 exact ⟨A, c, S, k1, k2, fun g hg => (ho g (k2.1.lt g hg)).trans (k3 g hg), k4⟩
theorem ListAt.mono {B' : Nat} (h : ListAt T sz lb row dd bd o B w A c S xs) (hB : B' ≤ B) : ListAt T sz lb row dd bd o B' w A c S xs := by
 obtain ⟨vs, h1, h2, h3⟩ := h
 refine ⟨vs, h1, h2.impM fun cs p hp => ?_, fun g hg => Nat.le_trans hB (h3 g hg)⟩
 obtain ⟨A, c, S, k1, k2, k3, k4⟩ := hp
 exact ⟨A, c, S, k1, ⟨k2.1, fun g hg => Nat.le_trans hB (k2.2 g hg)⟩, k3, k4⟩
theorem ListAt.snoc {vs : List Value} {A' A1 : Option Addr} {c' c1 : Nat} {S' S1 : List Nat} {x : α} (hO : OwnA w' T sz S' A' (xs.length + 1) c' (vs ++ row x A1 c1)) (hlen : vs.length = xs.length * sz) (hrow : (row x A1 c1).length = sz) (hT : T ≠ 37)
 (hR : RowV (ElP row dd bd o B w) sz vs (xs.zipIdx lb)) (hx : PtrsAt B A1 c1 S1 (dd x) w) (ho : ∀ g ∈ S1, o g = lb + xs.length) (hbd : bd x) (hC : Chg (· ∈ S) w w') (hOS : ∀ g ∈ S, ∃ cur, w.heap[g]? = some (.cells cur T (0, 0))) (hS' : ∀ g ∈ S', B ≤ g) :
 ListAt T sz lb row dd bd o B w' A' c' S' (xs ++ [x]) := by
 have hk : ∀ g cur, B ≤ g → w.heap[g]? = some (.cells cur 37 (0, 0)) → w'.heap[g]? = w.heap[g]? := fun g cur _ hc => hC.block g (Array.getElem?_eq_some_iff.1 hc).1 (fun hg => by
  obtain ⟨cur', hc'⟩ := hOS g hg
  exact typ_ne hc' hc hT)
 refine ⟨_, by rw [List.length_append]; exact hO, ?_, hS'⟩
 rw [List.zipIdx_append]
 refine RowV.append (hR.impM fun cs p hp => hp.keep hk) (RowV.one hrow ?_) (by rw [List.length_zipIdx]; exact hlen)
 exact ElP.keep ⟨A1, c1, S1, rfl, hx, by simpa [Nat.add_comm] using ho, hbd⟩ hk
theorem ListAt.reads {R : Reads α} (h : ListAt T sz lb row dd bd o B w A c S xs) (hR : ∀ A1 c1 S1 x, PtrsAt B A1 c1 S1 (dd x) w → bd x → R w B w.heap.size (row x A1 c1) x) : SliceR R sz w B w.heap.size A xs.length c xs := by
 obtain ⟨vs, h1, h2, h3⟩ := h
 refine (h1.slice (R := R) (lo := B) (hi := w.heap.size) rfl (fun j x hx => ?_) (fun g hg => ⟨h3 g hg, h1.lt g hg⟩) (Nat.le_refl _)).1
 obtain ⟨cs, hl, hc, A1, c1, S1, rfl, k2, k3, k4⟩ := h2 j (x, lb + j) (by rw [List.getElem?_zipIdx, hx]; simp)
 exact ⟨_, hl, hc, hR A1 c1 S1 x k2 k4⟩
theorem ListAt.lt (h : ListAt T sz lb row dd bd o B w A c S xs) : ∀ g ∈ S, g < w.heap.size := by obtain ⟨vs, h1, _⟩ := h; exact h1.lt
theorem ListAt.ge (h : ListAt T sz lb row dd bd o B w A c S xs) : ∀ g ∈ S, B ≤ g := by obtain ⟨vs, _, _, h1⟩ := h; exact h1
theorem ListAt.typ (h : ListAt T sz lb row dd bd o B w A c S xs) : ∀ g ∈ S, ∃ cur, w.heap[g]? = some (.cells cur T (0, 0)) := by obtain ⟨vs, h1, _⟩ := h; exact fun g hg => h1.typ hg
theorem ListAt.arr {G dp : Nat} {o2 : Nat → Nat} (h : ListAt T sz lb row dd bd o B w A c S xs) (hdp : ∀ x A1 c1, (row x A1 c1)[dp]? = some (.slice A1 (dd x).length c1)) (hG : ∀ g ∈ S, o2 g = G) (ho2 : ∀ g cur, w.heap[g]? = some (.cells cur 37 (0, 0)) → o2 g = o g) :
 ArrW o2 T sz dp lb G w B w.heap.size A xs.length c (xs.map fun x => (dd x).length) := by
 obtain ⟨vs, h1, h2, h3⟩ := h
 refine ⟨by simp, fun hn => ?_⟩
 rcases h1.1 with ⟨_, h0, _⟩ | ⟨g, cur, rfl, rfl, hl, hnc, hcm, hg, hcs, hcc⟩
 · omega
 refine ⟨g, cur, rfl, h3 g (by simp), (Array.getElem?_eq_some_iff.1 hg).1, hG g (by simp), hg, hcs, hnc, hcm, fun l m hm => ?_⟩
 rw [List.getElem?_map] at hm
 cases hx : xs[l]? with
 | none => rw [hx] at hm; cases hm
 | some x =>
   rw [hx] at hm
   obtain rfl := Option.some.inj hm
   obtain ⟨cs, hcl, hc, A1, c1, S1, rfl, k2, k3, k4⟩ := h2 l (x, lb + l) (by rw [List.getElem?_zipIdx, hx]; simp)
   have e := hc dp _ (hdp x A1 c1)
   have hlt := (List.getElem?_eq_some_iff.1 e).1
   refine ⟨A1, c1, by rw [hcc _ (by omega), e], k2.1.whole (fun g hg => ⟨k2.2 g hg, k2.1.lt g hg⟩), fun h0 b hb => ?_⟩
   have hbS := k2.1.blk h0 hb
   obtain ⟨cur', hcur⟩ := k2.1.typ hbS
   exact (ho2 b cur' hcur).trans (k3 b hbS)
end
def headV (x : HeadD) (A : Option Addr) (c : Nat) : List Value := [.string x.1, .int .i64 x.2.1, .int .i64 x.2.2.1.1.1, .int .i64 x.2.2.1.1.2.1, .int .i64 x.2.2.1.1.2.2.1, .int .i64 x.2.2.1.1.2.2.2.1, .int .i64 x.2.2.1.1.2.2.2.2, .int .i64 x.2.2.1.2.1, .int .i64 x.2.2.1.2.2, .slice A x.2.2.2.1.length c, .int .i64 x.2.2.2.2]
def snapV (x : SnapD) (A : Option Addr) (c : Nat) : List Value := [.int .i64 x.1, .string x.2.1, .int .i64 x.2.2.1, .int .i64 x.2.2.2.1, .int .i64 x.2.2.2.2.1.1.1, .int .i64 x.2.2.2.2.1.1.2.1, .int .i64 x.2.2.2.2.1.1.2.2.1, .int .i64 x.2.2.2.2.1.1.2.2.2.1, .int .i64 x.2.2.2.2.1.1.2.2.2.2, .int .i64 x.2.2.2.2.1.2.1, .int .i64 x.2.2.2.2.1.2.2, .slice A x.2.2.2.2.2.length c]
def headBd (x : HeadD) : Prop := x.1.size ≤ 3000 ∧ x.2.2.2.1.length ≤ 100001
def snapBd (x : SnapD) : Prop := x.2.1.size ≤ 3000 ∧ x.2.2.2.2.2.length ≤ 100001
def HeadsAt (o : Nat → Nat) (B : Nat) (w : World) (A : Option Addr) (c : Nat) (S : List Nat) (xs : List HeadD) : Prop := ListAt 46 11 0 headV (fun x => x.2.2.2.1) headBd o B w A c S xs
def SnapsAt (o : Nat → Nat) (B : Nat) (w : World) (A : Option Addr) (c : Nat) (S : List Nat) (xs : List SnapD) : Prop := ListAt 44 12 100 snapV (fun x => x.2.2.2.2.2) snapBd o B w A c S xs
def MetaAt (B : Nat) (w : World) (A0 : Option Addr) (c0 : Nat) (A1 : Option Addr) (c1 : Nat) (hs : List HeadD) (ss : List SnapD) : Prop := ∃ o S0 S1, HeadsAt o B w A0 c0 S0 hs ∧ SnapsAt o B w A1 c1 S1 ss
theorem MetaAt.nil {B : Nat} {w : World} (A0 A1 : Option Addr) : MetaAt B w A0 0 A1 0 [] [] := ⟨fun _ => 0, [], [], ListAt.nil _, ListAt.nil _⟩
theorem MetaAt.below {B : Nat} {w w' : World} {A0 A1 : Option Addr} {c0 c1 : Nat} {hs : List HeadD} {ss : List SnapD} (h : MetaAt B w A0 c0 A1 c1 hs ss) (hb : Below w.heap.size w w') : MetaAt B w' A0 c0 A1 c1 hs ss := by
 obtain ⟨o, S0, S1, h0, h1⟩ := h
 exact ⟨o, S0, S1, ListAt.below h0 hb, ListAt.below h1 hb⟩
theorem MetaAt.mono {B B' : Nat} {w : World} {A0 A1 : Option Addr} {c0 c1 : Nat} {hs : List HeadD} {ss : List SnapD} (h : MetaAt B w A0 c0 A1 c1 hs ss) (hB : B' ≤ B) : MetaAt B' w A0 c0 A1 c1 hs ss := by
 obtain ⟨o, S0, S1, h0, h1⟩ := h
 exact ⟨o, S0, S1, ListAt.mono h0 hB, ListAt.mono h1 hB⟩
theorem MetaAt.setCell {B : Nat} {w : World} {p : Addr} {v : Value} {A0 A1 : Option Addr} {c0 c1 : Nat} {hs : List HeadD} {ss : List SnapD} (h : MetaAt B w A0 c0 A1 c1 hs ss) (hp : p.block < B) : MetaAt B (w.setCell p v) A0 c0 A1 c1 hs ss := by
 obtain ⟨o, S0, S1, h0, h1⟩ := h
 have hf : ∀ g, B ≤ g → (w.setCell p v).heap[g]? = w.heap[g]? := fun g hg => heap_far (by omega)
 exact ⟨o, S0, S1, ListAt.keep h0 (fun g hg => hf g (ListAt.ge h0 g hg)) (fun g _ hg _ => hf g hg), ListAt.keep h1 (fun g hg => hf g (ListAt.ge h1 g hg)) (fun g _ hg _ => hf g hg)⟩
theorem headR_of {B : Nat} {w : World} (A1 : Option Addr) (c1 : Nat) (S1 : List Nat) (x : HeadD) (h : PtrsAt B A1 c1 S1 x.2.2.2.1 w) (hb : headBd x) : HeadR w B w.heap.size (headV x A1 c1) x := ⟨A1, _, c1, rfl, by have := hb.1; unfold maxLen; omega, h.slice⟩
theorem snapR_of {B : Nat} {w : World} (A1 : Option Addr) (c1 : Nat) (S1 : List Nat) (x : SnapD) (h : PtrsAt B A1 c1 S1 x.2.2.2.2.2 w) (hb : snapBd x) : SnapR w B w.heap.size (snapV x A1 c1) x := ⟨A1, _, c1, rfl, by have := hb.1; unfold maxLen; omega, h.slice⟩
theorem MetaAt.reads {B : Nat} {w : World} {A0 A1 : Option Addr} {c0 c1 : Nat} {hs : List HeadD} {ss : List SnapD} (h : MetaAt B w A0 c0 A1 c1 hs ss) : SliceR HeadR 11 w B w.heap.size A0 hs.length c0 hs ∧ SliceR SnapR 12 w B w.heap.size A1 ss.length c1 ss := by
 obtain ⟨o, S0, S1, h0, h1⟩ := h
 exact ⟨ListAt.reads h0 (fun A1 c1 S1 x hp hb => headR_of A1 c1 S1 x hp hb), ListAt.reads h1 (fun A1 c1 S1 x hp hb => snapR_of A1 c1 S1 x hp hb)⟩
theorem MetaAt.bds {B : Nat} {w : World} {A0 A1 : Option Addr} {c0 c1 : Nat} {hs : List HeadD} {ss : List SnapD} (h : MetaAt B w A0 c0 A1 c1 hs ss) : (∀ x ∈ hs, headBd x) ∧ (∀ x ∈ ss, snapBd x) := by
 obtain ⟨o, S0, S1, ⟨vs, _, h0, _⟩, ⟨us, _, h1, _⟩⟩ := h
 constructor
 · intro x hx
   obtain ⟨j, hj, rfl⟩ := List.mem_iff_getElem.1 hx
   obtain ⟨_, _, _, _, _, _, _, _, _, hb⟩ := h0 j (hs[j], 0 + j) (by rw [List.getElem?_zipIdx, List.getElem?_eq_getElem hj]; simp)
   exact hb
 intro x hx
 obtain ⟨j, hj, rfl⟩ := List.mem_iff_getElem.1 hx
 obtain ⟨_, _, _, _, _, _, _, _, _, hb⟩ := h1 j (ss[j], 100 + j) (by rw [List.getElem?_zipIdx, List.getElem?_eq_getElem hj]; simp)
 exact hb
theorem MetaAt.snap {B : Nat} {w w1 : World} {A0 A1 : Option Addr} {c0 c1 : Nat} {hs : List HeadD} {ss : List SnapD} {x : SnapD} {Ax : Option Addr} {cx : Nat} {Sx : List Nat} (h : MetaAt B w A0 c0 A1 c1 hs ss) (hB : B ≤ w.heap.size) (hb : Below w.heap.size w w1) (hx : PtrsAt w.heap.size Ax cx Sx x.2.2.2.2.2 w1) (hbd : snapBd x) :
 ∃ S1 vs, OwnA w1 44 12 S1 A1 ss.length c1 vs ∧ (∀ g ∈ S1, B ≤ g) ∧ ∀ w2 A' c' S', OwnA w2 44 12 S' A' (ss.length + 1) c' (vs ++ snapV x Ax cx) → Chg (· ∈ S1) w1 w2 → (∀ g ∈ S', B ≤ g) → MetaAt B w2 A0 c0 A' c' hs (ss ++ [x]) := by
 obtain ⟨o, S0, S1, h0, h1⟩ := h
 obtain ⟨o', ho'⟩ : ∃ o' : Nat → Nat, o' = fun b => if b < w.heap.size then o b else 100 + ss.length := ⟨_, rfl⟩
 have ho : ∀ b, b < w.heap.size → o' b = o b := fun b hlt => by rw [ho']; exact if_pos hlt
 have h0 := ListAt.below (ListAt.relabel h0 ho) hb
 have h1 := ListAt.below (ListAt.relabel h1 ho) hb
 have hx2 : PtrsAt B Ax cx Sx x.2.2.2.2.2 w1 := ⟨hx.1, fun g hg => Nat.le_trans hB (hx.2 g hg)⟩
 have hox : ∀ g ∈ Sx, o' g = 100 + ss.length := fun g hg => by rw [ho']; exact if_neg (by have := hx.2 g hg; omega)
 obtain ⟨vs, hO, hR, hS⟩ := h1
 have hlen : vs.length = ss.length * 12 := by
  rcases hO.1 with ⟨_, h0, rfl, _⟩ | ⟨g, cur, _, _, hl, _⟩
  · rw [h0]; rfl
  exact hl
 have htyp : ∀ g ∈ S1, ∃ cur, w1.heap[g]? = some (.cells cur 44 (0, 0)) := fun g hg => hO.typ hg
 refine ⟨S1, vs, hO, hS, fun w2 A' c' S' hO' hC hS' => ⟨o', S0, S', ?_, ListAt.snoc hO' hlen rfl (by decide) hR hx2 hox hbd hC htyp hS'⟩⟩
 exact ListAt.keep h0 (fun g hg => hC.block g (ListAt.lt h0 g hg) (fun h => by
  obtain ⟨cur, e⟩ := htyp g h
  obtain ⟨cur', e'⟩ := ListAt.typ h0 g hg
  exact typ_ne e e' (by decide))) (fun g cur _ hc => hC.block g (Array.getElem?_eq_some_iff.1 hc).1 (fun h => by
  obtain ⟨cur', e⟩ := htyp g h
  exact typ_ne e hc (by decide)))
theorem MetaAt.head {B : Nat} {w w1 : World} {A0 A1 : Option Addr} {c0 c1 : Nat} {hs : List HeadD} {ss : List SnapD} {x : HeadD} {Ax : Option Addr} {cx : Nat} {Sx : List Nat} (h : MetaAt B w A0 c0 A1 c1 hs ss) (hB : B ≤ w.heap.size) (hb : Below w.heap.size w w1) (hx : PtrsAt w.heap.size Ax cx Sx x.2.2.2.1 w1) (hbd : headBd x) :
 ∃ S0 vs, OwnA w1 46 11 S0 A0 hs.length c0 vs ∧ (∀ g ∈ S0, B ≤ g) ∧ ∀ w2 A' c' S', OwnA w2 46 11 S' A' (hs.length + 1) c' (vs ++ headV x Ax cx) → Chg (· ∈ S0) w1 w2 → (∀ g ∈ S', B ≤ g) → MetaAt B w2 A' c' A1 c1 (hs ++ [x]) ss := by
 obtain ⟨o, S0, S1, h0, h1⟩ := h
 obtain ⟨o', ho'⟩ : ∃ o' : Nat → Nat, o' = fun b => if b < w.heap.size then o b else 0 + hs.length := ⟨_, rfl⟩
 have ho : ∀ b, b < w.heap.size → o' b = o b := fun b hlt => by rw [ho']; exact if_pos hlt
 have h0 := ListAt.below (ListAt.relabel h0 ho) hb
 have h1 := ListAt.below (ListAt.relabel h1 ho) hb
 have hx2 : PtrsAt B Ax cx Sx x.2.2.2.1 w1 := ⟨hx.1, fun g hg => Nat.le_trans hB (hx.2 g hg)⟩
 have hox : ∀ g ∈ Sx, o' g = 0 + hs.length := fun g hg => by rw [ho']; exact if_neg (by have := hx.2 g hg; omega)
 obtain ⟨vs, hO, hR, hS⟩ := h0
 have hlen : vs.length = hs.length * 11 := by
  rcases hO.1 with ⟨_, h0, rfl, _⟩ | ⟨g, cur, _, _, hl, _⟩
  · rw [h0]; rfl
  exact hl
 have htyp : ∀ g ∈ S0, ∃ cur, w1.heap[g]? = some (.cells cur 46 (0, 0)) := fun g hg => hO.typ hg
 refine ⟨S0, vs, hO, hS, fun w2 A' c' S' hO' hC hS' => ⟨o', S', S1, ListAt.snoc hO' hlen rfl (by decide) hR hx2 hox hbd hC htyp hS', ?_⟩⟩
 exact ListAt.keep h1 (fun g hg => hC.block g (ListAt.lt h1 g hg) (fun h => by
  obtain ⟨cur, e⟩ := htyp g h
  obtain ⟨cur', e'⟩ := ListAt.typ h1 g hg
  exact typ_ne e e' (by decide))) (fun g cur _ hc => hC.block g (Array.getElem?_eq_some_iff.1 hc).1 (fun h => by
  obtain ⟨cur', e⟩ := htyp g h
  exact typ_ne e hc (by decide)))
theorem MetaAt.arr {B : Nat} {w : World} {A0 A1 : Option Addr} {c0 c1 : Nat} {hs : List HeadD} {ss : List SnapD} (h : MetaAt B w A0 c0 A1 c1 hs ss) :
 ∃ o, ArrW o 46 11 9 0 200 w B w.heap.size A0 hs.length c0 (hs.map fun x => x.2.2.2.1.length) ∧ ArrW o 44 12 11 100 201 w B w.heap.size A1 ss.length c1 (ss.map fun x => x.2.2.2.2.2.length) := by
 obtain ⟨o, S0, S1, h0, h1⟩ := h
 obtain ⟨o2, ho2⟩ : ∃ o2 : Nat → Nat, o2 = fun b => if b ∈ S0 then 200 else if b ∈ S1 then 201 else o b := ⟨_, rfl⟩
 have e0 : ∀ g ∈ S0, o2 g = 200 := fun g hg => by rw [ho2]; exact if_pos hg
 have e1 : ∀ g ∈ S1, o2 g = 201 := fun g hg => by
  rw [ho2]
  have hn : g ∉ S0 := fun h => by
   obtain ⟨cur, e⟩ := ListAt.typ h0 g h
   obtain ⟨cur', e'⟩ := ListAt.typ h1 g hg
   exact typ_ne e e' (by decide)
  simp only
  rw [if_neg hn, if_pos hg]
 have e2 : ∀ g cur, w.heap[g]? = some (.cells cur 37 (0, 0)) → o2 g = o g := fun g cur hc => by
  rw [ho2]
  have hn : g ∉ S0 := fun h => by
   obtain ⟨cur, e⟩ := ListAt.typ h0 g h
   exact typ_ne e hc (by decide)
  have hn1 : g ∉ S1 := fun h => by
   obtain ⟨cur, e⟩ := ListAt.typ h1 g h
   exact typ_ne e hc (by decide)
  simp only
  rw [if_neg hn, if_neg hn1]
 exact ⟨o2, ListAt.arr h0 (dp := 9) (fun _ _ _ => rfl) e0 e2, ListAt.arr h1 (dp := 11) (fun _ _ _ => rfl) e1 e2⟩
end Go.Proofs.YtlacpcdbgimnmaaGreatDoor
