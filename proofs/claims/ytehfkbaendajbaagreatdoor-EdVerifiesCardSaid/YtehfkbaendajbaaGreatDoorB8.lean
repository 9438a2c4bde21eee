/-
  Shared, part 8: walks and plain laws; each theorem states its own conditions.
-/
import Derived.Test.YtehfkbaendajbaaGreatDoorB2
import Derived.Test.YtehfkbaendajbaaGreatDoorB7
import Derived.Deep.MidRow
import Derived.Deep.WholeRow
namespace Go.Proofs.YtehfkbaendajbaaGreatDoor
set_option linter.unusedSimpArgs false
set_option linter.unusedVariables false
set_option maxRecDepth 100000
set_option maxHeartbeats 8000000
section
open Go.RowKit
theorem xH {a b : Nat} (h : a * b % Num.p = 0) : a % Num.p = 0 ∨ b % Num.p = 0 := by
 have h1 := Num.rW.Fb Num.Vx (Nat.dvd_of_mod_eq_zero h)
 rcases h1 with h1 | h1
 · exact .inl (Nat.mod_eq_zero_of_dvd h1)
 · exact .inr (Nat.mod_eq_zero_of_dvd h1)
abbrev HP : Nat := 28948022309329048855892746252171976963317496166410141009864396001978282409974
theorem HP2 : HP + HP = Num.p - 1 := by decide +kernel
theorem wP {a : Nat} (h : ¬ a % Num.p = 0) : a ^ (Num.p - 1) % Num.p = 1 := Num.Vx.J3 a (fun hd => h (Nat.mod_eq_zero_of_dvd hd))
theorem acE {a b : Nat} (ha : a < Num.p) (hb : b < Num.p) (h1 : a * a % Num.p = b * b % Num.p) : a = b ∨ a = (Num.p - b) % Num.p := by
 have key : (a + (Num.p - b)) * (a + b) % Num.p = 0 := by
  obtain ⟨c, hc⟩ : ∃ c, c = Num.p - b := ⟨_, rfl⟩
  have hcb : c + b = Num.p := by omega
  rw [← hc]
  have e : (a + c) * (a + b) + b * b = a * a + Num.p * (a + b) := by
   rw [← hcb]
   simp only [Nat.add_mul, Nat.mul_add, Nat.mul_comm b a, Nat.mul_comm c a, Nat.mul_comm b c]
   omega
  have e2 : ((a + c) * (a + b) + b * b) % Num.p = b * b % Num.p := by rw [e, Nat.add_mul_mod_self_left, h1]
  have e3 : ((a + c) * (a + b) % Num.p + b * b % Num.p) % Num.p = b * b % Num.p := by rw [← Nat.add_mod]; exact e2
  have h4 : (a + c) * (a + b) % Num.p < Num.p := Nat.mod_lt _ gJ
  have h5 : b * b % Num.p < Num.p := Nat.mod_lt _ gJ
  generalize (a + c) * (a + b) % Num.p = u at *
  generalize b * b % Num.p = v at *
  clear e e2 h1 hc hcb
  unfold Num.p at *
  omega
 rcases xH key with h2 | h2
 · left
   clear key h1
   unfold Num.p at *
   omega
 · right
   clear key h1
   unfold Num.p at *
   omega
theorem VW {x y : Nat} (h : x * x % Num.p = y * y % Num.p) : x % Num.p = y % Num.p ∨ x % Num.p = dD 0 y := by
 have h1 := acE (a := x % Num.p) (b := y % Num.p) (Nat.mod_lt _ gJ) (Nat.mod_lt _ gJ) (by rw [← Nat.mul_mod, ← Nat.mul_mod]; exact h)
 rcases h1 with h1 | h1
 · exact .inl h1
 · right; rw [h1]; unfold dD; rw [Nat.zero_mod, Nat.zero_add]
theorem LH : 2 ^ HP % Num.p = Num.p - 1 := by
 have h := Vp 2 HP 1 (by decide +kernel)
 rw [Nat.one_mul] at h
 rw [h]
 decide +kernel
end
section
open Go.RowKit
structure yt (E1 E2 HP : Nat) : Prop where
 E12 : E1 + E1 + 1 = E2
 E22 : E2 + E2 = HP
 HP2 : HP + HP = Num.p - 1
 LH : 2 ^ HP % Num.p = Num.p - 1
section
variable {E1 E2 HP : Nat} (X : yt E1 E2 HP)
include X
omit X
theorem BF : (Num.p - 1) * (Num.p - 1) % Num.p = 1 := by decide +kernel
theorem neg_mul (a : Nat) : dD 0 a % Num.p = (Num.p - 1) * a % Num.p := by
 have e : (Num.p - 1) * a + a = Num.p * a := by rw [Nat.sub_mul, Nat.one_mul]; exact Nat.sub_add_cancel (Nat.le_mul_of_pos_left _ gJ)
 have h1 : ((Num.p - 1) * a % Num.p + a % Num.p) % Num.p = 0 := by rw [← Nat.add_mod, e, Nat.mul_mod_right]
 have h2 : (Num.p - 1) * a % Num.p < Num.p := Nat.mod_lt _ gJ
 have h3 : a % Num.p < Num.p := Nat.mod_lt _ gJ
 rw [gK]
 unfold dD
 rw [Nat.zero_mod, Nat.zero_add]
 generalize (Num.p - 1) * a % Num.p = u at *
 generalize a % Num.p = v at *
 clear e
 unfold Num.p at *
 omega
theorem inv1 {a : Nat} (ha : ¬ a % Num.p = 0) : a * a ^ (Num.p - 2) % Num.p = 1 := by
 have e : a * a ^ (Num.p - 2) = a ^ (Num.p - 1) := by rw [show Num.p - 1 = (Num.p - 2) + 1 by decide, Nat.pow_succ, Nat.mul_comm]
 rw [e, wP ha]
theorem cancel {a x y : Nat} (ha : ¬ a % Num.p = 0) (h : a * x % Num.p = a * y % Num.p) : x % Num.p = y % Num.p := by
 have h1 := mm (a := a ^ (Num.p - 2)) (c := a ^ (Num.p - 2)) rfl h
 have e : ∀ z, a ^ (Num.p - 2) * (a * z) % Num.p = z % Num.p := fun z => by
  rw [← Nat.mul_assoc, Nat.mul_comm (a ^ (Num.p - 2)) a, Nat.mul_mod, inv1 ha]
  rw [Nat.one_mul, Nat.mod_mod]
 rw [e, e] at h1
 exact h1
theorem VI (n A V : Nat) : jg n A V * jg n A V * V = A * (V * V * V * (V * V * V) * V * A) ^ (n + n + 1) := by
 unfold jg
 obtain ⟨T, hT⟩ : ∃ T, T = V * V * V * (V * V * V) * V * A := ⟨_, rfl⟩
 obtain ⟨W, hW⟩ : ∃ W, W = V * V * V := ⟨_, rfl⟩
 rw [← hW] at hT ⊢
 rw [← hT, Nat.pow_succ, Nat.pow_add]
 have e : A * W * T ^ n * (A * W * T ^ n) * V = A * (T ^ n * T ^ n * (W * W * V * A)) := by simp only [Nat.mul_assoc, Nat.mul_comm, Nat.mul_left_comm]
 rw [e, ← hT]
include X
theorem aeZ : 2 ^ E2 * 2 ^ E2 % Num.p = Num.p - 1 := by rw [← Nat.pow_add, X.E22]; exact X.LH
omit X
theorem not_neg {a : Nat} (ha : ¬ a % Num.p = 0) : ¬ a % Num.p = dD 0 a := by
 intro h
 have h2 : dD 0 a = (Num.p - a % Num.p) % Num.p := by unfold dD; rw [Nat.zero_mod, Nat.zero_add]
 rw [h2] at h
 have h3 : a % Num.p < Num.p := Nat.mod_lt _ gJ
 obtain ⟨v, hv⟩ : ∃ v, v = a % Num.p := ⟨_, rfl⟩
 rw [← hv] at h h3 ha
 rw [Nat.mod_eq_of_lt (by omega)] at h
 have h4 : v + v = Num.p := by omega
 have h5 : Num.p % 2 = 1 := by decide
 omega
include X
theorem ahV (A V : Nat) (hV : ¬ V % Num.p = 0) : (V * V * V * (V * V * V) * V * A) ^ HP % Num.p = (V * A) ^ HP % Num.p := by
 have e : V * V * V * (V * V * V) * V * A = (V * V * V) * (V * V * V) * (V * A) := by simp only [Nat.mul_assoc, Nat.mul_comm, Nat.mul_left_comm]
 have hW : ¬ V * V * V % Num.p = 0 := fun h => by
  rcases xH h with h | h
  · rcases xH h with h | h <;> exact hV h
  · exact hV h
 rw [e, Nat.mul_pow, Nat.mul_pow, ← Nat.pow_add, X.HP2, Nat.mul_mod, wP hW, Nat.one_mul, Nat.mod_mod]
theorem I5 {A V : Nat} (hA : ¬ A % Num.p = 0) (hV : ¬ V % Num.p = 0) : cO E1 E2 A V ↔ (V * A) ^ HP % Num.p = 1 := by
 obtain ⟨c, hc⟩ : ∃ c, c = (V * V * V * (V * V * V) * V * A) ^ E2 := ⟨_, rfl⟩
 have hR : jg E1 A V * jg E1 A V * V = A * c := by rw [VI, X.E12, hc]
 have hcc : c * c % Num.p = (V * A) ^ HP % Num.p := by rw [hc, ← Nat.pow_add, X.E22, ahV X A V hV]
 have hVA : ¬ V * A % Num.p = 0 := fun h => by rcases xH h with h | h; exact hV h; exact hA h
 have p1 : (1 : Nat) % Num.p = 1 := by decide
 constructor
 · intro hok
   unfold cO iD at hok
   rw [hR] at hok
   by_cases ht : A * c % Num.p = dD 0 A
   · 
     have h1 : c % Num.p = (Num.p - 1) % Num.p := cancel hA (by rw [ht, ← gK, neg_mul, Nat.mul_comm])
     rw [← hcc, mm h1 h1, BF]
   · rw [if_neg ht, hR] at hok
     have h1 : c % Num.p = 1 % Num.p := cancel hA (by rw [hok, Nat.mul_one])
     rw [← hcc, mm h1 h1]
     decide
 · intro h1
   have h2 : c * c % Num.p = 1 * 1 % Num.p := by rw [hcc, h1]; decide
   unfold cO iD
   rw [hR]
   rcases VW h2 with h3 | h3
   · have h4 : A * c % Num.p = A % Num.p := by rw [mm (rfl : A % Num.p = A % Num.p) h3, Nat.mul_one]
     rw [if_neg (by rw [h4]; exact not_neg hA), hR, h4]
   · have h5 : c % Num.p = (Num.p - 1) % Num.p := by rw [h3, ← gK, neg_mul, Nat.mul_one]
     have h4 : A * c % Num.p = dD 0 A := by rw [mm (rfl : A % Num.p = A % Num.p) h5, Nat.mul_comm, ← neg_mul, gK]
     rw [if_pos h4]
     have e : jg E1 A V * 2 ^ E2 * (jg E1 A V * 2 ^ E2) * V = (jg E1 A V * jg E1 A V * V) * (2 ^ E2 * 2 ^ E2) := by simp only [Nat.mul_assoc, Nat.mul_comm, Nat.mul_left_comm]
     rw [e, hR]
     have h6 : A * c % Num.p = (Num.p - 1) * A % Num.p := by rw [h4, ← gK, neg_mul]
     have h7 : 2 ^ E2 * 2 ^ E2 % Num.p = (Num.p - 1) % Num.p := by rw [aeZ X]; decide
     rw [mm h6 h7, Nat.mul_comm (Num.p - 1) A, Nat.mul_assoc, mm (rfl : A % Num.p = A % Num.p) (show (Num.p - 1) * (Num.p - 1) % Num.p = 1 % Num.p by rw [BF]; decide), Nat.mul_one]
omit X
theorem F5 (a : Nat) : dD 0 a = (Num.p - a % Num.p) % Num.p := by unfold dD; rw [Nat.zero_mod, Nat.zero_add]
include X
end
end
section
open Go.RowKit
theorem GN {n : Nat} [NeZero n] (d i : Fin n) (iv : Fin n → Fin n) (hiv : ∀ a : Fin n, a ≠ 0 → a * iv a = 1) (hz : ∀ a b : Fin n, a * b = 0 → a = 0 ∨ b = 0) (hone : (1 : Fin n) ≠ 0) (hi : i * i = -1) (h2 : (1 : Fin n) + 1 ≠ 0) (hns : ∀ s : Fin n, s * s ≠ d) (x1 y1 x2 y2 e : Fin n) (e1 : y1*y1 - x1*x1 = 1 + d*x1*x1*y1*y1) (e2 : y2*y2 - x2*x2 = 1 + d*x2*x2*y2*y2) (he : d*x1*x2*y1*y2 = e) (hee : e * e = 1) : False := by
 have he0 : e ≠ 0 := fun h => hone (by rw [← hee, h]; grind)
 have hx1 : x1 ≠ 0 := fun h => he0 (by rw [← he, h]; grind)
 have hy1 : y1 ≠ 0 := fun h => he0 (by rw [← he, h]; grind)
 have hne : ∀ a b : Fin n, a ≠ 0 → b ≠ 0 → a * b ≠ 0 := fun a b ha hb h => by
  rcases hz a b h with h | h
  · exact ha h
  · exact hb h
 have key : ∀ j : Fin n, j * j = -1 → y2 + j * x2 = 0 := by
  intro j hj
  by_cases ht : y2 + j * x2 = 0
  · exact ht
  · exfalso
    have hsq : (y1 + j*e*x1)*(y1 + j*e*x1) = d*(x1*y1*(y2 + j*x2))*(x1*y1*(y2 + j*x2)) := by
     have l1 : (y1 + j*e*x1)*(y1 + j*e*x1) = y1*y1 + (j*j)*(e*e)*(x1*x1) + (j*e*x1*y1 + j*e*x1*y1) := by grind
     have l2 : d*(x1*y1*(y2 + j*x2))*(x1*y1*(y2 + j*x2)) = d*x1*x1*y1*y1*(y2*y2 + (j*j)*(x2*x2)) + (j*x1*y1*(d*x1*x2*y1*y2) + j*x1*y1*(d*x1*x2*y1*y2)) := by grind
     have l3 : d*x1*x1*y1*y1*(1 + d*x2*x2*y2*y2) = d*x1*x1*y1*y1 + (d*x1*x2*y1*y2)*(d*x1*x2*y1*y2) := by grind
     have l4 : y2*y2 + (j*j)*(x2*x2) = 1 + d*x2*x2*y2*y2 := by rw [hj, ← e2]; grind
     rw [l1, l2, l4, l3, he, hee, hj]
     have l5 : y1*y1 + -1*1*(x1*x1) = d*x1*x1*y1*y1 + 1 := by
      have : y1*y1 + -1*1*(x1*x1) = y1*y1 - x1*x1 := by grind
      rw [this, e1]; grind
     rw [l5]
     grind
    have hq := hiv (x1*y1*(y2 + j*x2)) (hne _ _ (hne _ _ hx1 hy1) ht)
    refine hns ((y1 + j*e*x1) * iv (x1*y1*(y2 + j*x2))) ?_
    generalize iv (x1*y1*(y2 + j*x2)) = q at *
    generalize (x1*y1*(y2 + j*x2)) = m at *
    generalize (y1 + j*e*x1) = s at *
    have l6 : s * q * (s * q) = (s * s) * q * q := by grind
    rw [l6, hsq]
    have l7 : d * m * m * q * q = d * ((m * q) * (m * q)) := by grind
    rw [l7, hq]
    grind
 have k1 := key i hi
 have k2 := key (-i) (by rw [← hi]; grind)
 have h3 : (1 + 1) * y2 = 0 := by
  have : (1 + 1) * y2 = (y2 + i * x2) + (y2 + -i * x2) := by grind
  rw [this, k1, k2]; grind
 rcases hz _ _ h3 with h | h
 · exact h2 h
 · exact he0 (by rw [← he, h]; grind)
section
variable {n : Nat} [NeZero n]
theorem ach {t : Fin n} (h : 1 + t = 0) : t = -1 := by grind
theorem acr {t : Fin n} (h : 1 - t = 0) : t = 1 := by grind
theorem aff : (-1 : Fin n) * -1 = 1 := by grind
theorem acs : (1 : Fin n) * 1 = 1 := by grind
theorem zf (a : Fin n) : 0 - a = -a := by grind
end
instance : NeZero Num.p := ⟨by decide⟩
def fe (a : Nat) : Fin Num.p := ⟨a % Num.p, Nat.mod_lt _ gJ⟩
theorem Tt (a : Nat) : (fe a).val = a % Num.p := rfl
theorem wO {a b : Nat} : fe a = fe b ↔ a % Num.p = b % Num.p := ⟨fun h => congrArg Fin.val h, fun h => Fin.ext h⟩
theorem oh {a b : Nat} (h : a % Num.p = b % Num.p) : fe a = fe b := Fin.ext h
theorem dA (a : Nat) : fe (a % Num.p) = fe a := oh (Nat.mod_mod _ _)
theorem iJ (a b : Nat) : fe (a + b) = fe a + fe b := Fin.ext (by rw [Fin.val_add]; exact Nat.add_mod _ _ _)
theorem aS (a b : Nat) : fe (a * b) = fe a * fe b := Fin.ext (by rw [Fin.val_mul]; exact Nat.mul_mod _ _ _)
theorem aaq (a : Fin Num.p) : fe a.val = a := Fin.ext (Nat.mod_eq_of_lt a.isLt)
theorem jc : fe 0 = 0 := Fin.ext (by rfl)
theorem iK : fe 1 = 1 := Fin.ext (by rfl)
theorem agJ (a b : Nat) : fe (dD a b) = fe a - fe b := Fin.ext (by
 rw [Fin.sub_def]
 show dD a b % Num.p = (Num.p - b % Num.p + a % Num.p) % Num.p
 rw [gK, Nat.add_comm]
 rfl)
theorem lG (b : Nat) : fe (dD 0 b) = -fe b := by rw [agJ, jc, zf]
theorem XO {a b : Nat} (h : b < Num.p) : fe (a + (Num.p - b)) = fe a - fe b := by
 rw [← agJ]
 refine oh ?_
 rw [gK]
 unfold dD
 rw [Nat.mod_eq_of_lt h, Nat.mod_add_mod]
theorem nI {a : Nat} : fe a ≠ 0 ↔ ¬ a % Num.p = 0 := by
 rw [← jc]
 constructor
 · intro h h2; exact h (oh (h2.trans (by decide)))
 · intro h h2; exact h ((wO.mp h2).trans (by decide))
theorem XP {a : Nat} : fe a = 0 ↔ a % Num.p = 0 := by
 constructor
 · intro h; exact Classical.byContradiction fun h2 => (nI.mpr h2) h
 · intro h; exact Classical.byContradiction fun h2 => (nI.mp h2) h
abbrev dN : Nat := 37095705934669439343138083508754565189542113879843219016388785533085940283555
theorem adz : dN ^ HP % Num.p = Num.p - 1 := by
 have h := Vp dN HP 1 (by decide +kernel)
 rw [Nat.one_mul] at h
 rw [h]
 decide +kernel
theorem SC (s : Fin Num.p) : s * s ≠ fe dN := by
 intro h
 have h1 : s.val * s.val % Num.p = dN % Num.p := by
  have := congrArg Fin.val h
  rw [Fin.val_mul] at this
  exact this
 have h2 := Vs HP h1
 rw [adz, Nat.mul_pow, ← Nat.pow_add, HP2] at h2
 by_cases hs : s.val % Num.p = 0
 · have h3 : s.val * s.val % Num.p = 0 := by rw [mm (c := 0) (d := 0) (hs.trans (by decide)) (hs.trans (by decide))]; decide
   rw [h1] at h3
   revert h3
   decide
 · rw [wP hs] at h2
   revert h2
   decide
def ivF (a : Fin Num.p) : Fin Num.p := fe (a.val ^ (Num.p - 2))
theorem Ad (a : Fin Num.p) (h : a ≠ 0) : a * ivF a = 1 := by
 have h0 : ¬ a.val % Num.p = 0 := nI.mp (by rw [aaq]; exact h)
 have h1 := inv1 h0
 have h2 : fe (a.val * a.val ^ (Num.p - 2)) = fe 1 := oh (by rw [h1]; decide)
 rw [aS, aaq, iK] at h2
 exact h2
abbrev CB : Nat := 19681161376707505956807079304988542015446066515923890162744021073123829784752
theorem yV : fe CB * fe CB = -1 := by
 rw [← aS, ← iK, ← lG]
 exact oh (by decide +kernel)
theorem Df (a b : Fin Num.p) (h : a * b = 0) : a = 0 ∨ b = 0 := by
 have h1 : a.val * b.val % Num.p = 0 := by
  have := congrArg Fin.val h
  rw [Fin.val_mul] at this
  exact this
 rcases xH h1 with h2 | h2
 · left; rw [← aaq a]; exact XP.mpr h2
 · right; rw [← aaq b]; exact XP.mpr h2
theorem Ag : (1 : Fin Num.p) ≠ 0 := by rw [← iK]; exact nI.mpr (by decide)
theorem amO : (1 : Fin Num.p) + 1 ≠ 0 := by rw [← iK, ← iJ]; exact nI.mpr (by decide)
def Tf : Cv Num.p where
 d := fe dN
 iv := ivF
 BA := Ad
 Vb := Ag
 wF := fun x1 y1 x2 y2 e1 e2 => by
  constructor
  · intro h
    exact GN (fe dN) (fe CB) ivF Ad Df Ag yV amO SC x1 y1 x2 y2 (-1) e1 e2 (ach h) aff
  · intro h
    exact GN (fe dN) (fe CB) ivF Ad Df Ag yV amO SC x1 y1 x2 y2 1 e1 e2 (acr h) acs
abbrev EP := Pt Tf
end
section
open Go.RowKit
section
variable {n : Nat} [NeZero n] {C : Cv n}
theorem m3a (a b c : Fin n) : a * b * c = a * c * b := by grind
theorem m3b (a h s : Fin n) : a * h * s = h * (a * s) := by grind
def LM (X Y Z T : Fin n) (P : Pt C) : Prop := Z ≠ 0 ∧ X = P.x * Z ∧ Y = P.y * Z ∧ T = P.x * P.y * Z
def WO (X Y Z : Fin n) (P : Pt C) : Prop := Z ≠ 0 ∧ X = P.x * Z ∧ Y = P.y * Z
theorem VX (P Q : Pt C) {W e f g h : Fin n} (h2 : W ≠ 0) (he : e = W * (P.x*Q.y+Q.x*P.y)) (hf : f = W * (1-C.d*P.x*Q.x*P.y*Q.y)) (hg : g = W * (1+C.d*P.x*Q.x*P.y*Q.y)) (hh : h = W * (P.y*Q.y+P.x*Q.x)) : LM (e*f) (g*h) (f*g) (e*h) (P + Q) := by
 have h1 := P.hu Q
 have h3 := P.hv Q
 have hp := (C.wF _ _ _ _ P.on Q.on).1
 have hm := (C.wF _ _ _ _ P.on Q.on).2
 unfold LM
 rw [zh, zk, he, hf, hg, hh]
 generalize P.u Q = u at *
 generalize P.v Q = v at *
 generalize (P.y*Q.y+P.x*Q.x) = B at *
 generalize (P.x*Q.y+Q.x*P.y) = A at *
 generalize 1+C.d*P.x*Q.x*P.y*Q.y = Dp at *
 generalize 1-C.d*P.x*Q.x*P.y*Q.y = Dm at *
 refine ⟨C.pU (C.pU h2 hm) (C.pU h2 hp), ?_, ?_, ?_⟩
 · have : A * u * (W * Dm * (W * Dp)) = (Dp * u) * (W * A * (W * Dm)) := by grind
   rw [this, h1]; grind
 · have : B * v * (W * Dm * (W * Dp)) = (Dm * v) * (W * Dp * (W * B)) := by grind
   rw [this, h3]; grind
 · have : A * u * (B * v) * (W * Dm * (W * Dp)) = (Dp * u) * (Dm * v) * (W * A * (W * B)) := by grind
   rw [this, h1, h3]; grind
theorem Sj (P Q : Pt C) {X1 Y1 Z1 T1 X2 Y2 Z2 T2 a b c d e f g h k : Fin n} (aiU : (1 : Fin n) + 1 ≠ 0) (r1 : LM X1 Y1 Z1 T1 P) (r2 : LM X2 Y2 Z2 T2 Q) (hk : k = C.d + C.d) (ha : a = (Y1 - X1)*(Y2 - X2)) (hb : b = (Y1 + X1)*(Y2 + X2)) (hc : c = T1*T2*k) (hd : d = Z1*Z2 + Z1*Z2) (he : e = b - a) (hf : f = d - c) (hg : g = d + c) (hh : h = b + a) : LM (e*f) (g*h) (f*g) (e*h) (P + Q) := by
 obtain ⟨z1, rfl, rfl, rfl⟩ := r1
 obtain ⟨z2, rfl, rfl, rfl⟩ := r2
 refine VX P Q (W := (1 + 1) * (Z1 * Z2)) (C.pU aiU (C.pU z1 z2)) ?_ ?_ ?_ ?_
 · rw [he, hb, ha]; grind
 · rw [hf, hd, hc, hk]; grind
 · rw [hg, hd, hc, hk]; grind
 · rw [hh, hb, ha]; grind
theorem Sl (P : Pt C) {X Y Z T a b c s e f g h : Fin n} (r : LM X Y Z T P) (hm1 : (-1 : Fin n) ≠ 0) (ha : a = X*X) (hb : b = Y*Y) (hc : c = Z*Z + Z*Z) (hs : s = a + b) (he : e = (X + Y)*(X + Y) - s) (hg : g = b - a) (hf : f = g - c) (hh : h = -s) : LM (e*f) (g*h) (f*g) (e*h) (P + P) := by
 obtain ⟨z1, rfl, rfl, rfl⟩ := r
 have ho := P.on
 have e1 : e = (-1 * (Z*Z)) * (-(P.x*P.y+P.x*P.y)) := by rw [he, hs, ha, hb]; grind
 have e3 : g = (-1 * (Z*Z)) * (-(1+C.d*P.x*P.x*P.y*P.y)) := by
  have : g = (Z*Z)*(P.y*P.y - P.x*P.x) := by rw [hg, ha, hb]; grind
  rw [this, ho]; grind
 have e2 : f = (-1 * (Z*Z)) * (1-C.d*P.x*P.x*P.y*P.y) := by
  rw [hf, e3, hc]; grind
 have e4 : h = (-1 * (Z*Z)) * (P.y*P.y+P.x*P.x) := by rw [hh, hs, ha, hb]; grind
 have h0 := VX P P (W := -1 * (Z*Z)) (e := -e) (f := f) (g := -g) (h := h) (C.pU hm1 (C.pU z1 z1)) (by rw [e1]; grind) e2 (by rw [e3]; grind) e4
 obtain ⟨k1, k2, k3, k4⟩ := h0
 have hn : f * g = -(f * -g) := by grind
 refine ⟨?_, ?_, ?_, ?_⟩
 · intro h
   refine k1 ?_
   have : f * -g = -(f * g) := by grind
   rw [this, h]; grind
 · rw [hn]
   have : e * f = -(-e * f) := by grind
   rw [this, k2]; grind
 · rw [hn]
   have : g * h = -(-g * h) := by grind
   rw [this, k3]; grind
 · rw [hn]
   have : e * h = -(-e * h) := by grind
   rw [this, k4]; grind
theorem Xt (P Q : Pt C) {X1 Y1 Z1 X2 Y2 Z2 a b c e f g h cross : Fin n} (r1 : WO X1 Y1 Z1 P) (r2 : WO X2 Y2 Z2 Q) (ha : a = Z1*Z2) (hb : b = a*a) (hc : c = X1*X2) (he : e = Y1*Y2) (hf : f = C.d*(c*e)) (hg : g = b - f) (hh : h = b + f) (hx : cross = (X1 + Y1)*(X2 + Y2) - c - e) : WO (a*g*cross) (a*h*(e + c)) (g*h) (P + Q) := by
 obtain ⟨z1, rfl, rfl⟩ := r1
 obtain ⟨z2, rfl, rfl⟩ := r2
 have w0 : Z1 * Z2 ≠ 0 := C.pU z1 z2
 have h0 := VX P Q (W := (Z1*Z2)*(Z1*Z2)) (e := (Z1*Z2)*cross) (f := g) (g := h) (h := (Z1*Z2)*(e + c)) (C.pU w0 w0) (by rw [hx, hc, he]; grind) (by rw [hg, hb, ha, hf, hc, he]; grind) (by rw [hh, hb, ha, hf, hc, he]; grind) (by rw [he, hc]; grind)
 obtain ⟨k1, k2, k3, _⟩ := h0
 refine ⟨k1, ?_, ?_⟩
 · rw [← k2, ha, m3a]
 · rw [← k3, ha, m3b]
theorem aaV (P : Pt C) {X Y Z T : Fin n} (r : LM X Y Z T P) : LM (-X) Y Z (-T) (-P) := by
 obtain ⟨z1, rfl, rfl, rfl⟩ := r
 refine ⟨z1, ?_, ?_, ?_⟩
 · rw [Ej]; grind
 · rw [Em]
 · rw [Ej, Em]; grind
theorem Xu (P : Pt C) {X Y Z : Fin n} (r : WO X Y Z P) : WO (-X) Y Z (-P) := by
 obtain ⟨z1, rfl, rfl⟩ := r
 refine ⟨z1, ?_, ?_⟩
 · rw [Ej]; grind
 · rw [Em]
def Pt.smul : Nat → Pt C → Pt C
 | 0, _ => Pt.zero
 | k + 1, P => Pt.smul k P + P
theorem smul_zero (P : Pt C) : Pt.smul 0 P = Pt.zero := rfl
theorem tY (P : Pt C) : Pt.smul 1 P = P := Pt.zero_add P
theorem smul_add (P : Pt C) (j : Nat) : ∀ k, Pt.smul (j + k) P = Pt.smul j P + Pt.smul k P
 | 0 => (Pt.add_zero _).symm
 | k + 1 => by
  show Pt.smul (j + k) P + P = Pt.smul j P + (Pt.smul k P + P)
  rw [smul_add P j k, Pt.assoc]
theorem xR (P : Pt C) (k : Nat) : Pt.smul k P + Pt.smul k P = Pt.smul (k + k) P := (smul_add P k k).symm
theorem Cj (P : Pt C) (j : Nat) : ∀ k, Pt.smul (j * k) P = Pt.smul k (Pt.smul j P)
 | 0 => rfl
 | k + 1 => by
  rw [Nat.mul_succ, smul_add, Cj P j k]
  rfl
theorem add4 (a b c e : Pt C) : (a + b) + (c + e) = (a + c) + (b + e) := by
 rw [Pt.assoc, Pt.assoc, ← Pt.assoc b c e, Pt.comm b c, Pt.assoc c b e]
end
end
section
open Go.RowKit
structure Pn where
 x : Fn
 y : Fn
 z : Fn
 t : Fn
abbrev Pn.v (p : Pn) : Value := .agg #[.int .u64 p.x.a, .int .u64 p.x.b, .int .u64 p.x.c, .int .u64 p.x.d, .int .u64 p.x.e, .int .u64 p.y.a, .int .u64 p.y.b, .int .u64 p.y.c, .int .u64 p.y.d, .int .u64 p.y.e, .int .u64 p.z.a, .int .u64 p.z.b, .int .u64 p.z.c, .int .u64 p.z.d, .int .u64 p.z.e, .int .u64 p.t.a, .int .u64 p.t.b, .int .u64 p.t.c, .int .u64 p.t.d, .int .u64 p.t.e]
def Pn.lt (p : Pn) : Prop := p.x.lt 18446744073709551616 ∧ p.y.lt 18446744073709551616 ∧ p.z.lt 18446744073709551616 ∧ p.t.lt 18446744073709551616
def Pn.of (p : Pn) (P : EP) : Prop := p.lt ∧ LM (fe p.x.val) (fe p.y.val) (fe p.z.val) (fe p.t.val) P
end
section
open Go.RowKit
abbrev Pn.cA (p : Pn) : Array Value := #[.int .u64 p.x.a, .int .u64 p.x.b, .int .u64 p.x.c, .int .u64 p.x.d, .int .u64 p.x.e, .int .u64 p.y.a, .int .u64 p.y.b, .int .u64 p.y.c, .int .u64 p.y.d, .int .u64 p.y.e, .int .u64 p.z.a, .int .u64 p.z.b, .int .u64 p.z.c, .int .u64 p.z.d, .int .u64 p.z.e, .int .u64 p.t.a, .int .u64 p.t.b, .int .u64 p.t.c, .int .u64 p.t.d, .int .u64 p.t.e]
abbrev Pn.cL (p : Pn) : List Value := [.int .u64 p.x.a, .int .u64 p.x.b, .int .u64 p.x.c, .int .u64 p.x.d, .int .u64 p.x.e, .int .u64 p.y.a, .int .u64 p.y.b, .int .u64 p.y.c, .int .u64 p.y.d, .int .u64 p.y.e, .int .u64 p.z.a, .int .u64 p.z.b, .int .u64 p.z.c, .int .u64 p.z.d, .int .u64 p.z.e, .int .u64 p.t.a, .int .u64 p.t.b, .int .u64 p.t.c, .int .u64 p.t.d, .int .u64 p.t.e]
abbrev bP : Array Value := #[.int .u64 0, .int .u64 0, .int .u64 0, .int .u64 0, .int .u64 0, .int .u64 0, .int .u64 0, .int .u64 0, .int .u64 0, .int .u64 0, .int .u64 0, .int .u64 0, .int .u64 0, .int .u64 0, .int .u64 0, .int .u64 0, .int .u64 0, .int .u64 0, .int .u64 0, .int .u64 0]
@[go_sem] theorem ah1 (p : Pn) : p.cA = #[.int .u64 p.x.a, .int .u64 p.x.b, .int .u64 p.x.c, .int .u64 p.x.d, .int .u64 p.x.e, .int .u64 p.y.a, .int .u64 p.y.b, .int .u64 p.y.c, .int .u64 p.y.d, .int .u64 p.y.e, .int .u64 p.z.a, .int .u64 p.z.b, .int .u64 p.z.c, .int .u64 p.z.d, .int .u64 p.z.e, .int .u64 p.t.a, .int .u64 p.t.b, .int .u64 p.t.c, .int .u64 p.t.d, .int .u64 p.t.e] := rfl
@[go_sem] theorem ah2 (p : Pn) : p.cL = [.int .u64 p.x.a, .int .u64 p.x.b, .int .u64 p.x.c, .int .u64 p.x.d, .int .u64 p.x.e, .int .u64 p.y.a, .int .u64 p.y.b, .int .u64 p.y.c, .int .u64 p.y.d, .int .u64 p.y.e, .int .u64 p.z.a, .int .u64 p.z.b, .int .u64 p.z.c, .int .u64 p.z.d, .int .u64 p.z.e, .int .u64 p.t.a, .int .u64 p.t.b, .int .u64 p.t.c, .int .u64 p.t.d, .int .u64 p.t.e] := rfl
@[go_sem] theorem af2 : bP = #[.int .u64 0, .int .u64 0, .int .u64 0, .int .u64 0, .int .u64 0, .int .u64 0, .int .u64 0, .int .u64 0, .int .u64 0, .int .u64 0, .int .u64 0, .int .u64 0, .int .u64 0, .int .u64 0, .int .u64 0, .int .u64 0, .int .u64 0, .int .u64 0, .int .u64 0, .int .u64 0] := rfl
end
section
open Go.RowKit
variable {P : Program}
theorem BR {w : World} {g : Nat} {old c : Array Value} {t : TypeId} (hg : w.heap[g]? = some (.cells old t (0, 0))) : w.setRow g c = w.pin g (.cells c t (0, 0)) := by
 simp only [World.setRow, World.pin]
 congr 1
 apply Array.ext_getElem?
 intro i
 by_cases h : i = g
 · subst h
   obtain ⟨hb, hv⟩ := Array.getElem?_eq_some_iff.mp hg
   simp [Array.getElem?_modify, Array.getElem_modify, hb, hv]
 · have h' : ¬ g = i := fun e => h e.symm
   simp [Array.getElem?_modify, Array.getElem?_setIfInBounds, h, h']
theorem gB {o : Oper} {a : Act} {w : World} {K : Act → World → Prop} {Q : Exit → Act → World → Prop} (ty : TypeId) (x y : Operand) (ho : o.op = .store ty x y)
 (g : Nat) (cells : Array Value) (hx : a.eval x = .pointer (some ⟨g, 0, none⟩)) (hy : a.eval y = .agg cells)
 (t : TypeId) (old : Array Value) (hg : w.heap[g]? = some (.cells old t (0, 0))) (hi : (P.info? ty).map (·.size) = some cells.size)
 (hold : old.size = cells.size) (h1 : cells.all (·.oneCell') = true)
 (h : K (a.put o.dst undef) (w.pin g (.cells cells t (0, 0)))) : o.wp P a w K Q :=
 wp_store_row ty x y ho g cells hx hy t old hg hi hold h1 (by rw [BR hg]; exact h)
theorem fA {fn : Func} {k : Nat} {ty : TypeId} {tmps : Array Value} {b : Nat} {v : Value} {w : World} (hr : fn.results = #[.cell k ty]) (ht : tmps.getD k undef = .pointer (some ⟨b, 0, none⟩))
 (hl : (loadVar ty ⟨b, 0, none⟩).run P w = .ok v w) : (results fn tmps).run P w = .ok v w := by
 have ht' : tmps[k]?.getD undef = .pointer (some ⟨b, 0, none⟩) := by simpa using ht
 simp [results, hr, ht', asAddr, Result.andThen, hl]
theorem VE {w : World} {b : Nat} {c : Array Value} {t : TypeId} (h : w.heap[b]? = some (.cells c t (0, 0))) : w.rangeAt b 0 c.toList := by
 intro j v hv
 have : c[j]? = some v := by simpa using hv
 simp [World.cell?, h, this]
theorem fD {w : World} {b : Nat} (p : Pn) (h : w.heap[b]? = some (.cells p.cA 38)) : (loadVar 38 ⟨b, 0, none⟩).run Tryz.prog w = .ok p.v w := by
 have hq : (Tryz.prog.underlying 38).any TypeDesc.isRow = true := by kernel_rfl
 cases hu : Tryz.prog.underlying 38 with
 | none => rw [hu] at hq; cases hq
 | some d => exact run_loadVar_mid w b 0 38 _ d (VE h) hu (by rw [hu] at hq; exact hq) (by kernel_rfl)
theorem eH (p : Pn) : (p.cA : Array Value).all (·.oneCell') = true := by simp [Value.oneCell']
end
section
open Go.RowKit
def spl (c : Array Value) (o : Nat) : List Value → Array Value
 | [] => c
 | v :: vs => spl (c.setIfInBounds o v) (o + 1) vs
theorem Cm : ∀ (vs : List Value) (c : Array Value) (o : Nat), (spl c o vs).size = c.size
 | [], _, _ => rfl
 | v :: vs, c, o => by rw [spl, Cm vs]; simp
theorem xU : ∀ (vs : List Value) (c : Array Value) (o k : Nat), o + vs.length ≤ c.size → (spl c o vs)[k]? = if o ≤ k ∧ k < o + vs.length then vs[k - o]? else c[k]?
 | [], c, o, k, _ => by
  rw [if_neg (by simp only [List.length_nil]; omega)]
  rfl
 | v :: vs, c, o, k, h => by
  simp only [List.length_cons] at h ⊢
  rw [spl, xU vs _ (o + 1) k (by simp; omega)]
  by_cases h1 : o + 1 ≤ k ∧ k < o + 1 + vs.length
  · rw [if_pos h1, if_pos (by omega), show k - o = (k - (o + 1)) + 1 by omega]; simp
  · rw [if_neg h1]
    by_cases h2 : k = o
    · subst h2
      rw [if_pos (by omega), Nat.sub_self, Array.getElem?_setIfInBounds_self_of_lt (by omega)]
      rfl
    · rw [if_neg (by omega), Array.getElem?_setIfInBounds_ne (Ne.symm h2)]
theorem nP {w : World} {b : Nat} {t : TypeId} : ∀ (vs : List Value) (c : Array Value) (o : Nat), (w.pin b (.cells c t)).setCells b o vs = w.pin b (.cells (spl c o vs) t)
 | [], _, _ => rfl
 | v :: vs, c, o => by
  rw [World.setCells, IQ, nP vs]
  rfl
theorem CG {w : World} {b o n : Nat} {c : Array Value} {t : TypeId} (h : w.heap[b]? = some (.cells c t)) (hn : o + n ≤ c.size) : w.there b o n := by
 intro j hj
 have hlt : o + j < c.size := by omega
 constructor
 · simp [World.cell?, h, hlt]
 · simp [World.frozen?, h]
theorem Keeps.tail {w v : World} {q : Nat × Obj} {L : List (Nat × Obj)} (h : Keeps w (q :: L) v) : Keeps w L v := ⟨h.1, fun p hp => h.2 p (List.mem_cons_of_mem _ hp)⟩
variable {P : Program}
theorem jY {op : Oper} {a : Act} {w : World} {K : Act → World → Prop} {Q : Exit → Act → World → Prop} (ty : TypeId) (x y : Operand) (ho : op.op = .store ty x y)
 (b o : Nat) (cells : Array Value) (hx : a.eval x = .pointer (some ⟨b, o, none⟩)) (hy : a.eval y = .agg cells) (t : TypeId) (old new : Array Value) (hg : w.heap[b]? = some (.cells old t))
 (hn : Nat.ble (o + cells.size) old.size = true) (hi : (P.info? ty).map (·.size) = some cells.size) (h1 : cells.all (·.oneCell') = true) (hs : spl old o cells.toList = new)
 (h : K (a.put op.dst undef) (w.pin b (.cells new t))) : op.wp P a w K Q := by
 refine wp_store_mid ty x y ho b o cells hx hy (CG hg (Nat.le_of_ble_eq_true hn)) hi h1 ?_
 have e : w.setCells b o cells.toList = w.pin b (.cells new t) := by
  rw [← hs]
  conv => lhs; rw [← aN hg]
  exact nP _ _ _
 rw [e]
 exact h
theorem Qc {w : World} {b o : Nat} {c : Array Value} {t : TypeId} {cs : List Value} (h : w.heap[b]? = some (.cells c t)) (hc : (c.extract o (o + cs.length)).toList = cs) : w.rangeAt b o cs := by
 rw [← hc]
 exact World.rangeAt_of_block h o cs.length
theorem qP {w : World} (b o : Nat) (ty : TypeId) (cs : List Value) (c : Array Value) (t : TypeId) (h : w.heap[b]? = some (.cells c t)) (hc : (c.extract o (o + cs.length)).toList = cs)
 (hu : (P.underlying ty).any TypeDesc.isRow = true) (hi : (P.info? ty).map (·.size) = some cs.length) : (loadVar ty ⟨b, o, none⟩).run P w = .ok (.agg cs.toArray) w := by
 cases hq : P.underlying ty with
 | none => rw [hq] at hu; cases hu
 | some d => exact run_loadVar_mid w b o ty cs d (Qc h hc) hq (by rw [hq] at hu; exact hu) hi
theorem aG {w : World} {op : Oper} {a : Act} (ty : TypeId) (x : Operand) (ho : op.op = .load ty x) (b o : Nat) (hx : a.eval x = .pointer (some ⟨b, o, none⟩)) (cs : List Value) (c : Array Value) (t : TypeId) (h : w.heap[b]? = some (.cells c t)) (hc : (c.extract o (o + cs.length)).toList = cs)
 (hu : (P.underlying ty).any TypeDesc.isRow = true) (hi : (P.info? ty).map (·.size) = some cs.length) : (execOp a.eval op).run P w = .ok (.value (.agg cs.toArray)) w := by
 unfold execOp
 simp only [ho, hx, Instr.loadAt, Instr.sureAddr, Sem.run_bind, Sem.run_pure, Result.andThen_ok, qP b o ty cs c t h hc hu hi]
theorem zB {op : Oper} {a : Act} {w : World} {K : Act → World → Prop} {Q : Exit → Act → World → Prop} (ty : TypeId) (x : Operand) (ho : op.op = .load ty x) (b o : Nat) (hx : a.eval x = .pointer (some ⟨b, o, none⟩)) (cs : List Value) (c : Array Value) (t : TypeId) (h : w.heap[b]? = some (.cells c t)) (hc : (c.extract o (o + cs.length)).toList = cs)
 (hu : (P.underlying ty).any TypeDesc.isRow = true) (hi : (P.info? ty).map (·.size) = some cs.length) (hK : K (a.put op.dst (.agg cs.toArray)) w) : op.wp P a w K Q := by
 unfold Oper.wp
 rw [aG ty x ho b o hx cs c t h hc hu hi]
 exact hK
theorem eu {ops : Array Oper} {rest : List Oper} {op : Oper} {a : Act} {w : World} {Q : Exit → Act → World → Prop} (ty : TypeId) (x : Operand) (ho : op.op = .load ty x) (hgd : op.guard = none) (b o : Nat) (hx : a.eval x = .pointer (some ⟨b, o, none⟩)) (cs : List Value) (c : Array Value) (t : TypeId) (h : w.heap[b]? = some (.cells c t)) (hc : (c.extract o (o + cs.length)).toList = cs)
 (hu : (P.underlying ty).any TypeDesc.isRow = true) (hi : (P.info? ty).map (·.size) = some cs.length) (hK : wpList P ops Q rest (a.put op.dst (.agg cs.toArray)) w) : wpList P ops Q (op :: rest) a w :=
 wpList_plain hgd fun _ hk => zB ty x ho b o hx cs c t h hc hu hi (hk _ _ hK)
theorem bf {ops : Array Oper} {rest : List Oper} {op : Oper} {a : Act} {w : World} {Q : Exit → Act → World → Prop} (ty : TypeId) (x y : Operand) (ho : op.op = .store ty x y) (hgd : op.guard = none)
 (b o : Nat) (cells : Array Value) (hx : a.eval x = .pointer (some ⟨b, o, none⟩)) (hy : a.eval y = .agg cells) (t : TypeId) (old new : Array Value) (hg : w.heap[b]? = some (.cells old t))
 (hn : Nat.ble (o + cells.size) old.size = true) (hi : (P.info? ty).map (·.size) = some cells.size) (h1 : cells.all (·.oneCell') = true) (hs : spl old o cells.toList = new)
 (hK : wpList P ops Q rest (a.put op.dst undef) (w.pin b (.cells new t))) : wpList P ops Q (op :: rest) a w :=
 wpList_plain hgd fun _ hk => jY ty x y ho b o cells hx hy t old new hg hn hi h1 hs (hk _ _ hK)
end
end Go.Proofs.YtehfkbaendajbaaGreatDoor
