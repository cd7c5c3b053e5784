/- A drawn region, each operation shown once; what is said of the slots' values may lean on the values at its start. -/
import Derived.Test.YtcfgbeajdkbbcaaGreatDoorLib
namespace Go.Proofs.YtcfgbeajdkbbcaaGreatDoor
set_option linter.unusedVariables false
set_option linter.unusedSimpArgs false
set_option linter.unnecessarySimpa false
open Go.RowKit
section
variable {P : Program} {ops : Array Oper} {Q : Exit → Act → World → Prop} {w0 : World} {T : List Value} {ds : List Deferred} {mask : List Bool}
/-- As wp_region_rgz; J need hold at the start for the slots as they are. -/
theorem wp_region_rgv {id : Nat} {w : World} (S N : World → World → Prop) (J : (Nat → Value) → World → Nat → Prop) (b W : List Nat) (hm : P.follows .mixedOrders = true) (mask : List Bool) (D : List (Option Nat)) (A : List (List Nat)) (M H : List Bool) (Fin : List Nat) (Φ : List (MStP S N))
    (hcheck : rgCheck ops D A mask T.length = true) (hmc : rgmCheck ops A M H Fin = true) (hW : wCheck ops b W = true) (hFin : (Fin.all fun j => decide (j < ops.size)) = true)
    (hobs : YObs P ops Q w T ds mask D Φ J b W A M 0 ops.toList) (hH : Φ.map MStP.hd = H)
    (hNS : ∀ a b, N a b → S a b) (hSt : ∀ {a b c}, S a b → S b c → S a c) (hb : b.length = ops.size) (hdrew : S w w.drew) (hj0 : J (fun t => T.getD t undef) w.drew 0)
    (hend : ∀ y w', S w w' → J y w' b.sum → MFacts D Φ y w' Fin → Q .normal ⟨(fillL y 0 T mask).toArray, ds⟩ w') :
    (Code.region id ops true).wp P Q ⟨T.toArray, ds⟩ w :=
  wp_region_any hm (zrg_any hcheck hmc hW (fun j hj => by rw [List.all_eq_true] at hFin; simpa using hFin j hj) hH hobs hNS hSt hb hend _ _ _ _ (by simp) (by simp) (by
    intro i o _ h
    simp [Array.getD, Array.getElem?_replicate] at h) ⟨hdrew, ⟨fun t => T.getD t undef, by rw [fill_self], by rw [show spent b (Array.replicate ops.size false).toList = 0 by simp [spent_none]]; exact hj0, by intro j d h; simp [Array.getD, Array.getElem?_replicate] at h⟩, by intro j h; simp [Array.getD, Array.getElem?_replicate] at h⟩)
end
end Go.Proofs.YtcfgbeajdkbbcaaGreatDoor
