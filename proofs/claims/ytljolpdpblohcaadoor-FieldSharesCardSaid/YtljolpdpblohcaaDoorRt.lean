/-
  Which quotients have a root, and which root it is: plain arithmetic.
-/
import Derived.Test.YtljolpdpblohcaaDoorRo
namespace Go.Proofs.YtljolpdpblohcaaDoor
open Go.RowKit

/-- The two exponents, (p - 5) / 8 and (p - 1) / 4. -/
theorem rootE1_eq : leN (nearL 253 15) = 7237005577332262213973186563042994240829374041602535252466099000494570602493 := by decide +kernel
theorem rootE2_eq : leN (nearL 251 31) = 14474011154664524427946373126085988481658748083205070504932198000989141204987 := by decide +kernel

theorem rootS_of {n m A V r0 i0 : Nat} (hR : rootR n A V % Num.p = r0 % Num.p) (hi : 2 ^ m % Num.p = i0 % Num.p) : rootS n m A V % Num.p = (if r0 * r0 * V % Num.p = subM 0 A then r0 * i0 else r0) % Num.p := by
  unfold rootS
  rw [mm (mm hR hR) (rfl : V % Num.p = V % Num.p)]
  split
  · exact mm hR hi
  · exact hR
theorem pm_mod (b e : Nat) (acc : Nat) (h : e < 2 ^ 256) : acc * b ^ e % Num.p = Num.pm Num.p 256 b e acc % Num.p := (Num.pm_eq Num.p 256 b e acc h).symm
theorem root_congr {n m A B V W : Nat} (hA : A % Num.p = B % Num.p) (hV : V % Num.p = W % Num.p) : (rootOk n m A V ↔ rootOk n m B W) ∧ rootS n m A V % Num.p = rootS n m B W % Num.p := by
  have hS : rootS n m A V % Num.p = rootS n m B W % Num.p := by
    have hR := rootR_congr (n := n) hA hV
    unfold rootS
    rw [mm (mm hR hR) hV, subM_congr (a := 0) (c := 0) rfl hA]
    split
    · exact mm hR rfl
    · exact hR
  refine ⟨?_, hS⟩
  unfold rootOk
  rw [mm (mm hS hS) hV, hA]
theorem rootV_congr {n m A B V W : Nat} (hA : A % Num.p = B % Num.p) (hV : V % Num.p = W % Num.p) : small (rootV n m A V) = small (rootV n m B W) := by
  have h := root_congr (n := n) (m := m) hA hV
  apply small_congr
  unfold rootV
  by_cases h1 : rootOk n m A V
  · rw [if_pos h1, if_pos (h.1.mp h1), h.2]
    split
    · rw [subM_congr (a := 0) (c := 0) rfl h.2]
    · exact h.2
  · rw [if_neg h1, if_neg (fun h2 => h1 (h.1.mpr h2))]
/-- What must come of 4 and 1. -/
theorem root_known (n m : Nat) (hn : n = 7237005577332262213973186563042994240829374041602535252466099000494570602493) (hm : m = 14474011154664524427946373126085988481658748083205070504932198000989141204987) : rootOk n m 4 1 ∧ small (rootV n m 4 1) = small 2 := by
  have h1 : rootR n 4 1 = 4 * 4 ^ n := by unfold rootR; simp
  have h2 : 4 * 4 ^ n % Num.p = Num.pm Num.p 256 4 n 4 % Num.p := pm_mod 4 n 4 (by rw [hn]; decide +kernel)
  have h3 : 1 * 2 ^ m % Num.p = Num.pm Num.p 256 2 m 1 % Num.p := pm_mod 2 m 1 (by rw [hm]; decide +kernel)
  rw [Nat.one_mul] at h3
  have hS := rootS_of (n := n) (m := m) (A := 4) (V := 1) (r0 := Num.pm Num.p 256 4 n 4) (i0 := Num.pm Num.p 256 2 m 1) (by rw [h1]; exact h2) h3
  rw [hn, hm] at hS
  have hv : (if Num.pm Num.p 256 4 7237005577332262213973186563042994240829374041602535252466099000494570602493 4 * Num.pm Num.p 256 4 7237005577332262213973186563042994240829374041602535252466099000494570602493 4 * 1 % Num.p = subM 0 4 then Num.pm Num.p 256 4 7237005577332262213973186563042994240829374041602535252466099000494570602493 4 * Num.pm Num.p 256 2 14474011154664524427946373126085988481658748083205070504932198000989141204987 1 else Num.pm Num.p 256 4 7237005577332262213973186563042994240829374041602535252466099000494570602493 4) % Num.p = 57896044618658097711785492504343953926634992332820282019728792003956564819947 := by decide +kernel
  rw [← hn, ← hm] at hS hv
  rw [hv] at hS
  have hok : rootOk n m 4 1 := by
    unfold rootOk
    have h2 : (57896044618658097711785492504343953926634992332820282019728792003956564819947 : Nat) % Num.p = 57896044618658097711785492504343953926634992332820282019728792003956564819947 := by decide
    rw [mm (mm (hS.trans h2.symm) (hS.trans h2.symm)) rfl]
    decide
  refine ⟨hok, small_congr ?_⟩
  unfold rootV
  rw [if_pos hok, hS]
  rw [if_pos (by decide), subM_congr (a := 0) (c := 0) rfl (hS.trans (by decide : _ = 57896044618658097711785492504343953926634992332820282019728792003956564819947 % Num.p))]
  decide
end Go.Proofs.YtljolpdpblohcaaDoor
