/- The texts of snapshots, of heads and of what is kept of a bay, in plain terms. No condition. -/
import Derived.Test.YtlacpcdbgimnmaaDoorDead2
import Derived.Test.YtlacpcdbgimnmaaDoorRecord
import Derived.Test.YtlacpcdbgimnmaaDoorNames
namespace Go.Proofs.YtlacpcdbgimnmaaDoor
set_option linter.unusedVariables false
set_option linter.unusedSimpArgs false
set_option linter.unnecessarySimpa false
open Go Go.Lib Go.RowKit

def treeSD (t : TreeD) : List Str := treeS t.1.1 t.1.2.1 t.1.2.2.1 t.1.2.2.2.1 t.1.2.2.2.2 t.2.1 t.2.2
def snapL (x : SnapD) : List Str := [numS x.1, x.2.1.data.toList, numS x.2.2.1, numS x.2.2.2.1] ++ treeSD x.2.2.2.2.1 ++ [(deadF x.2.2.2.2.2).1]
def headL (x : HeadD) : List Str := [x.1.data.toList, numS x.2.1] ++ treeSD x.2.2.1 ++ [(deadF x.2.2.2.1).1, numS x.2.2.2.2]
noncomputable def snapT (x : SnapD) : Str := (recF (snapL x) 7).1
noncomputable def headT (x : HeadD) : Str := (recF (headL x) 5).1
noncomputable def snapB (x : SnapD) : Bool := (deadF x.2.2.2.2.2).2 && ((recF (snapL x) 7).2 && namB x.2.1.data.toList)
noncomputable def headB (x : HeadD) : Bool := (deadF x.2.2.2.1).2 && ((recF (headL x) 5).2 && namB x.1.data.toList)
def metaH (m : MetaD) : List Str := [[98, 97, 121], numS m.2.2.1, bitS m.2.2.2, numS (m.2.1.length : Nat)]
noncomputable def metaL (m : MetaD) : List Str := metaH m ++ m.2.1.map snapT ++ m.1.map headT
noncomputable def metaF (m : MetaD) : Str × Bool :=
  if (m.2.1.length ≤ 6 ∧ 1 ≤ m.1.length ∧ m.1.length ≤ 3) ∧ m.2.1.all snapB = true ∧ m.1.all headB = true then recF (metaL m) (-1) else ([], false)
theorem metaF_size {m : MetaD} (h : ¬ (m.2.1.length ≤ 6 ∧ 1 ≤ m.1.length ∧ m.1.length ≤ 3)) : metaF m = ([], false) := by unfold metaF; rw [if_neg (fun c => h c.1)]
theorem metaF_snap {m : MetaD} {k : Nat} {x : SnapD} (hx : m.2.1[k]? = some x) (h : snapB x = false) : metaF m = ([], false) := by
  unfold metaF
  rw [if_neg (fun c => by have := c.2.1; rw [all_noD hx h] at this; cases this)]
theorem metaF_head {m : MetaD} {k : Nat} {x : HeadD} (hx : m.1[k]? = some x) (h : headB x = false) : metaF m = ([], false) := by
  unfold metaF
  rw [if_neg (fun c => by have := c.2.2; rw [all_noD hx h] at this; cases this)]
theorem metaF_yes {m : MetaD} (h : m.2.1.length ≤ 6 ∧ 1 ≤ m.1.length ∧ m.1.length ≤ 3) (h1 : m.2.1.all snapB = true) (h2 : m.1.all headB = true) : metaF m = recF (metaL m) (-1) := by
  unfold metaF
  rw [if_pos ⟨h, h1, h2⟩]
theorem recF_len (fs : List Str) (e : Int) : (recF fs e).1.length ≤ 2048 := by
  unfold recF
  split
  · exact fieldsF_len fs
  · simp
theorem join_goodD {ps : List PtrD} : (deadF ps).1.length ≤ ps.length * 61 := by
  unfold deadF
  split
  · have h1 := join_len (ps.map ptrSD) [44] 60 (fun x hx => by obtain ⟨p, _, rfl⟩ := List.mem_map.1 hx; exact ptrS_len _ _ _ _ _)
    rw [List.length_map] at h1
    simpa using h1
  · simp
theorem treeSD_le (t : TreeD) : ∀ f ∈ treeSD t, f.length ≤ 60 := treeS_le _ _ _ _ _ _ _
theorem snapL_le {x : SnapD} (h1 : x.2.1.size ≤ 3000000) (h2 : x.2.2.2.2.2.length ≤ 2000000) : ∀ f ∈ snapL x, f.length ≤ 1099511627776 := by
  intro f hf
  unfold snapL at hf
  simp only [List.mem_append, List.mem_cons, List.not_mem_nil, or_false] at hf
  have e1 := numS_len x.1; have e2 := numS_len x.2.2.1; have e3 := numS_len x.2.2.2.1
  have e4 := join_goodD (ps := x.2.2.2.2.2)
  have e5 : x.2.1.data.toList.length = x.2.1.size := by rw [Array.length_toList]; rfl
  rcases hf with ((rfl | rfl | rfl | rfl) | hf) | rfl
  · omega
  · omega
  · omega
  · omega
  · have := treeSD_le _ f hf; omega
  · omega
theorem headL_le {x : HeadD} (h1 : x.1.size ≤ 3000000) (h2 : x.2.2.2.1.length ≤ 2000000) : ∀ f ∈ headL x, f.length ≤ 1099511627776 := by
  intro f hf
  unfold headL at hf
  simp only [List.mem_append, List.mem_cons, List.not_mem_nil, or_false] at hf
  have e1 := numS_len x.2.1; have e2 := numS_len x.2.2.2.2
  have e4 := join_goodD (ps := x.2.2.2.1)
  have e5 : x.1.data.toList.length = x.1.size := by rw [Array.length_toList]; rfl
  rcases hf with ((rfl | rfl) | hf) | (rfl | rfl)
  · omega
  · omega
  · have := treeSD_le _ f hf; omega
  · omega
  · omega
theorem metaL_le (m : MetaD) : ∀ f ∈ metaL m, f.length ≤ 1099511627776 := by
  intro f hf
  unfold metaL metaH at hf
  simp only [List.mem_append, List.mem_cons, List.not_mem_nil, or_false, List.mem_map] at hf
  have e1 := numS_len m.2.2.1; have e2 := numS_len (m.2.1.length : Nat)
  have e3 : (bitS m.2.2.2).length ≤ 1 := by unfold bitS; split <;> simp
  rcases hf with ((rfl | rfl | rfl | rfl) | ⟨x, _, rfl⟩) | ⟨x, _, rfl⟩
  · simp
  · omega
  · omega
  · omega
  · have := recF_len (snapL x) 7; unfold snapT; omega
  · have := recF_len (headL x) 5; unfold headT; omega
end Go.Proofs.YtlacpcdbgimnmaaDoor
