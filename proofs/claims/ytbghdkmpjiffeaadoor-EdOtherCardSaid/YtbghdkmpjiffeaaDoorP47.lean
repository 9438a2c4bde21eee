/-
  Shared, part 47: walks and plain laws; each theorem states its own conditions.
-/
import Derived.Test.YtbghdkmpjiffeaaDoorP37
import Derived.Test.YtbghdkmpjiffeaaDoorP45
namespace Go.Proofs.YtbghdkmpjiffeaaDoor
set_option linter.unusedSimpArgs false
set_option linter.unusedVariables false
set_option maxRecDepth 100000
set_option maxHeartbeats 8000000
section
namespace Num
theorem af7 : rW 531581 := lQ (f := 730) (by decide) (by decide +kernel) (by decide)
theorem afH : rW 1224481 := lQ (f := 1110) (by decide) (by decide +kernel) (by decide)
theorem alz : rW 1257559732178653 := Ah 2 (by decide) (by decide) af7 afH (by decide +kernel) (by decide +kernel) (by decide +kernel) (by decide)
theorem aly : rW 4434155615661930479 := FU 2 (by decide) (by decide) alz (by decide +kernel) (by decide)
theorem alx : rW 172054593956031949258510691 := FU 2 (by decide) (by decide) aly (by decide +kernel) (by decide)
theorem alv : rW 19757330305831588566944191468367130476339 := FU 2 (by decide) (by decide) alx (by decide +kernel) (by decide)
theorem alu : rW 276602624281642239937218680557139826668747 := FU 2 (by decide) (by decide) alv (by decide +kernel) (by decide)
theorem akU : rW 7237005577332262213973186563042994240857116359379907606001950938285454250989 := FU 2 (by decide) (by decide) alu (by decide +kernel) (by decide)
end Num
end
section
open Go.RowKit
theorem adX {n : Nat} [NeZero n] {C : Cv n} (P Q : Pt C) : ∀ k, Pt.smul k (P + Q) = Pt.smul k P + Pt.smul k Q
 | 0 => by rw [smul_zero, smul_zero, smul_zero, Pt.add_zero]
 | k + 1 => by rw [smul_add, smul_add, smul_add, tY, tY, tY, adX P Q k, add4]
theorem ahx {n : Nat} [NeZero n] {C : Cv n} (P : Pt C) (k : Nat) : Pt.smul k (-P) + Pt.smul k P = Pt.zero := by
 rw [← adX, Pt.comm, Pt.add_neg, zero_smul]
theorem ak5 (q : Nat) : Pt.smul (LO * q) iZ = Pt.zero := by
 rw [Cj, show Pt.smul LO iZ = Pt.zero from acz, zero_smul]
theorem aeS (x : Nat) : Pt.smul (x % LO) iZ = Pt.smul x iZ := by
 conv => rhs; rw [← Nat.div_add_mod x LO, smul_add, ak5, Pt.zero_add]
theorem agE (k n r : Nat) : Pt.smul k (-(Pt.smul n iZ)) + Pt.smul ((k * n + r) % LO) iZ = Pt.smul r iZ := by
 rw [aeS, smul_add, Nat.mul_comm k n, Cj, ← Pt.assoc, ahx, Pt.zero_add]
theorem acO {n : Nat} [NeZero n] {C : Cv n} {P Q R : Pt C} (h : P + Q = P + R) : Q = R := by
 have h1 : -P + (P + Q) = -P + (P + R) := by rw [h]
 rwa [← Pt.assoc, ← Pt.assoc, Pt.comm (-P) P, Pt.add_neg, Pt.zero_add, Pt.zero_add] at h1
theorem akq : Pt.smul 1 iZ ≠ Pt.zero := by
 intro h
 have h1 : iM iZ = iM Pt.zero := by rw [← tY iZ, h]
 rw [Ti, Tn] at h1
 exact absurd h1 (by decide)
theorem akJ {p d : Nat} (hp : Num.rW p) (h2 : 2 ≤ p) (hd : ¬ p ∣ d) : ∃ x, d * x % p = 1 := by
 refine ⟨d ^ (p - 2), ?_⟩
 rw [← Nat.pow_succ', show (p - 2).succ = p - 1 by omega]
 exact Num.rW.J3 hp d hd
theorem ag7 (d : Nat) (h : Pt.smul d iZ = Pt.zero) : LO ∣ d := by
 by_cases hd : LO ∣ d
 · exact hd
 · exfalso
   have hc : Nat.Coprime LO d := Num.rW.cop Num.akU hd
   have hz : ∀ x : Nat, Pt.smul (d * x) iZ = Pt.zero := fun x => by rw [Cj, h, zero_smul]
   obtain ⟨x, hx⟩ := akJ Num.akU (by decide) hd
   have h1 := hz x
   rw [← aeS, hx] at h1
   exact akq h1
theorem ahH {x y : Nat} (hx : x < LO) (hy : y < LO) (h : Pt.smul x iZ = Pt.smul y iZ) : x = y := by
 have key : ∀ {x y : Nat}, x < LO → y < LO → x ≤ y → Pt.smul x iZ = Pt.smul y iZ → x = y := by
  intro x y hx hy hxy h
  obtain ⟨d, rfl⟩ := Nat.exists_eq_add_of_le hxy
  rw [smul_add] at h
  have h2 : Pt.smul x iZ + Pt.zero = Pt.smul x iZ + Pt.smul d iZ := by rw [Pt.add_zero]; exact h
  have h3 := ag7 d (acO h2).symm
  have h4 : d = 0 := Nat.eq_zero_of_dvd_of_lt h3 (by omega)
  omega
 rcases Nat.le_total x y with hxy | hxy
 · exact key hx hy hxy h
 · exact (key hy hx hxy h.symm).symm
theorem akt {P Q : EP} (h : iM P = iM Q) : P = Q := by
 have e : sV P = sV Q := by rw [← MZ P, ← MZ Q, h]
 have h1 := XA wM P (sN wM P).1
 have h2 := XA wM Q (sN wM Q).1
 rw [← h1, ← h2]
 exact OD e _ _
theorem ahl (k n r o : Nat) (ho : o < LO) (hne : o ≠ (k * n + r) % LO) : iM (Pt.smul k (-(Pt.smul n iZ)) + Pt.smul o iZ) ≠ iM (Pt.smul r iZ) := by
 intro h
 have h1 := akt h
 rw [← agE k n r] at h1
 exact hne (ahH ho (Nat.mod_lt _ afU) (acO h1))
theorem adV (sd m : List Nat) : ∃ F S, ajk sd m = F ++ S ∧ F.length = 32 ∧ S.length = 32 ∧ (∀ z ∈ F, z < 256) ∧ (∀ z ∈ S, z < 256) ∧ bW S < LO ∧ iM (Pt.smul (ab3 (F ++ (Yb sd ++ m))) (-(Pt.smul (acR sd) iZ)) + Pt.smul (bW S) iZ) = F ∧
 (∀ o, o < LO → o ≠ bW S → iM (Pt.smul (ab3 (F ++ (Yb sd ++ m))) (-(Pt.smul (acR sd) iZ)) + Pt.smul o iZ) ≠ F) := by
 have hS : alC sd m < LO := Nat.mod_lt _ afU
 refine ⟨alB sd m, dw 32 (alC sd m), rfl, kV _ _, kV _ _, qj _ _, qj _ _, by rw [acL _ hS]; exact hS, ?_, ?_⟩
 · rw [acL _ hS]
   show iM (Pt.smul (akQ sd m) (-(Pt.smul (acR sd) iZ)) + Pt.smul ((akQ sd m * acR sd + akR sd m) % LO) iZ) = _
   rw [agE]
   rfl
 · intro o ho hne
   rw [acL _ hS] at hne
   exact ahl (akQ sd m) (acR sd) (akR sd m) o ho hne
end
end Go.Proofs.YtbghdkmpjiffeaaDoor
