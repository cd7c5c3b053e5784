/- The intents of disks: what IntentList answers, in plain Lean. No condition. -/
import Derived.Test.YtggdjiklgakfnaaGreatDoorOpOk2
import Derived.Test.YtggdjiklgakfnaaGreatDoorDiskOk
import Derived.Test.YtggdjiklgakfnaaGreatDoorLook
import Derived.Test.YtggdjiklgakfnaaGreatDoorTypes
namespace Go.Proofs.YtggdjiklgakfnaaGreatDoor
set_option linter.unusedSimpArgs false
set_option linter.unnecessarySimpa false
open Go Go.Lib Go.RowKit
set_option linter.unusedVariables false

open Classical in
/-- The intent of a text, and whether there is one. -/
noncomputable def intOfT (s : Str) : IntS × Bool := if h : ∃ x : IntS, intB x = true ∧ intS x = s then (Classical.choose h, true) else (int0, false)
theorem intOfT_is (s : Str) : intIs s (intOfT s).1 (intOfT s).2 := by
  unfold intOfT
  split
  · rename_i h
    exact .inl ⟨rfl, (Classical.choose_spec h).1, (Classical.choose_spec h).2⟩
  · rename_i h
    exact .inr ⟨rfl, rfl, fun x h1 h2 => h ⟨x, h1, h2⟩⟩
theorem intOfT_eq {s : Str} {x : IntS} {ok : Bool} (h : intIs s x ok) : intOfT s = (x, ok) := by
  obtain ⟨h1, h2⟩ := intIs_one (intOfT_is s) h
  rw [← h1, ← h2]
theorem intOfT_ok {s : Str} (h : (intOfT s).2 = true) : intB (intOfT s).1 = true := by
  rcases intOfT_is s with ⟨_, h1, _⟩ | ⟨h1, _⟩
  · exact h1
  · rw [h] at h1; cases h1
/-- The disk has the intent of a group with a number. -/
noncomputable def hitI (g : Int) (q : Nat) (d : DiskD) : Option IntS :=
  if d.2.2 = true then none
  else if (intOfT (lookD d ((3 + q : Nat) : Int)).data.toList).2 = true ∧ (intOfT (lookD d ((3 + q : Nat) : Int)).data.toList).1.1 = g ∧ (intOfT (lookD d ((3 + q : Nat) : Int)).data.toList).1.2.1 = q then some (intOfT (lookD d ((3 + q : Nat) : Int)).data.toList).1 else none
theorem hitI_gone {g : Int} {q : Nat} {d : DiskD} (h : d.2.2 = true) : hitI g q d = none := if_pos h
theorem hitI_no {g : Int} {q : Nat} {d : DiskD} {x : Str} {z : IntS} {ok : Bool} (hg : d.2.2 = false) (hx : lookD d ((3 + q : Nat) : Int) = strB x) (hz : intOfT x = (z, ok)) (h : ¬ (ok = true ∧ z.1 = g ∧ z.2.1 = q)) : hitI g q d = none := by
  unfold hitI
  rw [hg, if_neg (by simp), hx]
  have e : (strB x).data.toList = x := by simp [strB]
  rw [e, hz]
  exact if_neg h
theorem hitI_yes {g : Int} {q : Nat} {d : DiskD} {x : Str} {z : IntS} (hg : d.2.2 = false) (hx : lookD d ((3 + q : Nat) : Int) = strB x) (hz : intOfT x = (z, true)) (h : z.1 = g ∧ z.2.1 = q) : hitI g q d = some z := by
  unfold hitI
  rw [hg, if_neg (by simp), hx]
  have e : (strB x).data.toList = x := by simp [strB]
  rw [e, hz]
  exact if_pos ⟨rfl, h⟩
theorem hitI_is {g : Int} {q : Nat} {d : DiskD} {z : IntS} (h : hitI g q d = some z) : intB z = true ∧ z.1 = g ∧ z.2.1 = q := by
  unfold hitI at h
  split at h
  · cases h
  split at h
  · rename_i k
    obtain rfl := Option.some.inj h
    exact ⟨intOfT_ok k.1, k.2⟩
  · cases h
/-- The intent of a group with a number, of the first disk that has it. -/
noncomputable def logI (x : RaidD) (g : Int) (q : Nat) : Option IntS := x.findSome? (hitI g q)
theorem logI_none {x : RaidD} {g : Int} {q : Nat} (h : ∀ (i : Nat) (d : DiskD), x[i]? = some d → hitI g q d = none) : logI x g q = none := by
  unfold logI
  rw [List.findSome?_eq_none_iff]
  intro d hd
  obtain ⟨i, hi⟩ := List.mem_iff_getElem?.1 hd
  exact h i d hi
theorem findSome_at {α β : Type} {f : α → Option β} : ∀ {l : List α} {k : Nat} {d : α} {z : β}, l[k]? = some d → f d = some z → (∀ (i : Nat) (e : α), i < k → l[i]? = some e → f e = none) → l.findSome? f = some z
  | [], k, d, z, h, _, _ => by simp at h
  | a :: l, 0, d, z, h, hz, _ => by
    obtain rfl := Option.some.inj (by simpa using h : some a = some d)
    simp [List.findSome?_cons, hz]
  | a :: l, k + 1, d, z, h, hz, hn => by
    have h0 := hn 0 a (by omega) rfl
    rw [List.findSome?_cons, h0]
    exact findSome_at (by simpa using h) hz (fun i e hi he => hn (i + 1) e (by omega) (by simpa using he))
theorem logI_some {x : RaidD} {g : Int} {q k : Nat} {d : DiskD} {z : IntS} (hd : x[k]? = some d) (hz : hitI g q d = some z) (hn : ∀ (i : Nat) (e : DiskD), i < k → x[i]? = some e → hitI g q e = none) : logI x g q = some z := findSome_at hd hz hn
theorem logI_is {x : RaidD} {g : Int} {q : Nat} {z : IntS} (h : logI x g q = some z) : intB z = true ∧ z.1 = g ∧ z.2.1 = q := by
  unfold logI at h
  obtain ⟨d, _, hd⟩ := List.exists_of_findSome?_eq_some h
  exact hitI_is hd
/-- A list has the first intents of a group. -/
def Pre (x : RaidD) (g : Int) (ys : List IntS) : Prop := ∀ j z, ys[j]? = some z → logI x g (j + 1) = some z
theorem Pre.nil {x : RaidD} {g : Int} : Pre x g [] := fun j z h => by simp at h
theorem Pre.snoc {x : RaidD} {g : Int} {ys : List IntS} {z : IntS} (h : Pre x g ys) (hz : logI x g (ys.length + 1) = some z) : Pre x g (ys ++ [z]) := by
  intro j y hj
  rcases Nat.lt_trichotomy j ys.length with k | k | k
  · rw [List.getElem?_append_left k] at hj; exact h j y hj
  · subst k; simp at hj; subst hj; exact hz
  · rw [List.getElem?_eq_none (by simp; omega)] at hj; cases hj
theorem Pre.le {x : RaidD} {g : Int} {a b : List IntS} (ha : Pre x g a) (hb : Pre x g b) (hl : a.length ≤ b.length) : a = b.take a.length := by
  apply List.ext_getElem?
  intro j
  rcases Nat.lt_or_ge j a.length with k | k
  · rw [List.getElem?_take, if_pos k]
    obtain ⟨u, hu⟩ : ∃ u, a[j]? = some u := ⟨a[j], List.getElem?_eq_getElem k⟩
    obtain ⟨v, hv⟩ : ∃ v, b[j]? = some v := ⟨b[j], List.getElem?_eq_getElem (by omega)⟩
    have h1 := ha j u hu; have h2 := hb j v hv
    rw [hu, hv, ← h1, ← h2]
  · rw [List.getElem?_eq_none k, List.getElem?_eq_none (by simp; omega)]
/-- What IntentList answers: the intents of a group, as far as they go. -/
def IntsAre (x : RaidD) (g : Int) (ys : List IntS) : Prop := if raidOk x = true then Pre x g ys ∧ ys.length ≤ 4 ∧ (ys.length < 4 → logI x g (ys.length + 1) = none) else ys = []
theorem IntsAre.one {x : RaidD} {g : Int} {a b : List IntS} (h : IntsAre x g a) (k : IntsAre x g b) : a = b := by
  unfold IntsAre at h k
  split at h
  · rename_i e
    rw [if_pos e] at k
    obtain ⟨h1, h2, h3⟩ := h
    obtain ⟨k1, k2, k3⟩ := k
    rcases Nat.lt_trichotomy a.length b.length with l | l | l
    · obtain ⟨v, hv⟩ : ∃ v, b[a.length]? = some v := ⟨b[a.length], List.getElem?_eq_getElem l⟩
      have := k1 _ _ hv
      rw [h3 (by omega)] at this; cases this
    · have := h1.le k1 (by omega)
      rw [this, l, List.take_length]
    · obtain ⟨v, hv⟩ : ∃ v, a[b.length]? = some v := ⟨a[b.length], List.getElem?_eq_getElem l⟩
      have := h1 _ _ hv
      rw [k3 (by omega)] at this; cases this
  · rename_i e; rw [if_neg e] at k; rw [h, k]
theorem IntsAre.len {x : RaidD} {g : Int} {a : List IntS} (h : IntsAre x g a) : a.length ≤ 4 := by
  unfold IntsAre at h
  split at h
  · exact h.2.1
  · rw [h]; simp
theorem IntsAre.at_ {x : RaidD} {g : Int} {a : List IntS} (h : IntsAre x g a) {j : Nat} {z : IntS} (hj : a[j]? = some z) : intB z = true ∧ z.1 = g ∧ z.2.1 = ((j + 1 : Nat) : Int) := by
  unfold IntsAre at h
  split at h
  · exact logI_is (h.1 j z hj)
  · rw [h] at hj; simp at hj
theorem look_sizeI {d : DiskD} (h : diskOk d = true) (a : Int) : (lookD d a).size ≤ 200 := by
  unfold diskOk at h
  simp only [Bool.and_eq_true] at h
  obtain ⟨⟨⟨⟨_, _⟩, h1⟩, _⟩, h2⟩ := h
  rw [List.all_eq_true] at h1 h2
  unfold lookD
  split
  · rename_i w hw
    have := h2 w (by have := List.mem_of_find?_eq_some hw; simpa using this)
    unfold waitOk at this
    simpa using ((Bool.and_eq_true _ _).mp this).2
  · rw [List.getD_eq_getElem?_getD]
    cases hx : d.1[a.toNat]? with
    | none => simp
    | some s =>
      have := h1 s (List.mem_of_getElem? hx)
      unfold textOk at this
      simpa using ((Bool.and_eq_true _ _).mp this).1
theorem diskOk_64I {d : DiskD} (h : diskOk d = true) : d.1.length = 64 := by
  unfold diskOk at h
  simp only [Bool.and_eq_true] at h
  simpa using h.1.1.1.1
theorem raidOk_allI {x : RaidD} (h : raidOk x = true) : ∀ d ∈ x, diskOk d = true := by
  unfold raidOk at h
  have := ((Bool.and_eq_true _ _).mp h).2
  rwa [List.all_eq_true] at this
/-- The intent as it lies in memory. -/
def toD (x : IntS) : IntentD := (x.1, x.2.1, strB x.2.2.1, (x.2.2.2.1, strB x.2.2.2.2.1, strB x.2.2.2.2.2.1, x.2.2.2.2.2.2.1, strB x.2.2.2.2.2.2.2))
def ivL (x : IntS) : List Value := [.int .i64 x.1, .int .i64 x.2.1, .string (strB x.2.2.1), .int .i64 x.2.2.2.1, .string (strB x.2.2.2.2.1), .string (strB x.2.2.2.2.2.1), .int .i64 x.2.2.2.2.2.2.1, .string (strB x.2.2.2.2.2.2.2)]
theorem ivL_r {w : World} {lo hi : Nat} {x : IntS} (h : intB x = true) : IntentR w lo hi (ivL x) (toD x) := by
  obtain ⟨_, _, h3, h4⟩ := intB_parts h
  obtain ⟨_, _, h1, h2, _, h5⟩ := opB_parts h4
  have h3 := (namB_iff.1 h3).1.2
  have sz : ∀ s : Str, (strB s).size = s.length := fun s => by simp [strB, ByteArray.size]
  refine ⟨rfl, ?_, ?_, ?_, ?_⟩
  · show (strB _).size ≤ _; rw [sz]; unfold maxLen; omega
  · show (strB _).size ≤ _; rw [sz]; unfold maxLen; omega
  · show (strB _).size ≤ _; rw [sz]; unfold maxLen; omega
  · show (strB _).size ≤ _; rw [sz]; unfold maxLen; omega
theorem row_ints {w : World} {lo hi : Nat} : ∀ ys : List IntS, (∀ y ∈ ys, intB y = true) → RowV (IntentR w lo hi) 8 (ys.flatMap ivL) (ys.map toD)
  | [], _ => RowV.nil _ _
  | x :: ys, h => by
    have h1 : RowV (IntentR w lo hi) 8 (ivL x) [toD x] := RowV.one rfl (ivL_r (h x (by simp)))
    have := RowV.append h1 (row_ints ys (fun y hy => h y (by simp [hy]))) rfl
    simpa using this
/-- Intents in blocks of the call's own, from B on. -/
def IntsIn (B : Nat) (A : Option Addr) (c : Nat) (S : List Nat) (ys : List IntS) (w : World) : Prop := OwnA w 34 8 S A ys.length c (ys.flatMap ivL) ∧ (∀ g ∈ S, B ≤ g) ∧ ∀ y ∈ ys, intB y = true
theorem IntsIn.below {B : Nat} {A : Option Addr} {c : Nat} {S : List Nat} {ys : List IntS} {w w' : World} (h : IntsIn B A c S ys w) (hb : Below w.heap.size w w') : IntsIn B A c S ys w' := ⟨h.1.below hb, h.2⟩
theorem IntsIn.slice {B : Nat} {A : Option Addr} {c : Nat} {S : List Nat} {ys : List IntS} {w : World} (h : IntsIn B A c S ys w) : SliceR IntentR 8 w B w.heap.size A ys.length c (ys.map toD) ∧ Whole w 34 8 B w.heap.size A ys.length c :=
  h.1.slice (by simp) (row_ints ys h.2.2) (fun g hg => ⟨h.2.1 g hg, h.1.lt g hg⟩) (Nat.le_refl _)
theorem IntsIn.nil {B : Nat} {A : Option Addr} {w : World} : IntsIn B A 0 [] [] w := ⟨OwnA.nil _, by simp, by simp⟩
def GotInts (x : RaidD) (g : Int) (w : World) (e : Ending) (w' : World) : Prop := ∃ A c S ys, e = .returned (.slice A ys.length c) ∧ IntsAre x g ys ∧ IntsIn w.heap.size A c S ys w' ∧ Below w.heap.size w w'
end Go.Proofs.YtggdjiklgakfnaaGreatDoor
