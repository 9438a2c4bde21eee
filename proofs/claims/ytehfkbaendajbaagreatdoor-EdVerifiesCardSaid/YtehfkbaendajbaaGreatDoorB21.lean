/-
  Shared, part 21: walks and plain laws; each theorem states its own conditions.
-/
import Derived.Test.YtehfkbaendajbaaGreatDoorB8
import Derived.Test.YtehfkbaendajbaaGreatDoorB9
namespace Go.Proofs.YtehfkbaendajbaaGreatDoor
set_option linter.unusedSimpArgs false
set_option linter.unusedVariables false
set_option maxRecDepth 100000
set_option maxHeartbeats 8000000
section
open Go.RowKit
section
variable {n : Nat} [NeZero n]
theorem Nc (s v : Fin n) : -s * -s * v = s * s * v := by grind
theorem aip (x y d : Fin n) (h : x * x * (d * (y * y) + 1) = y * y - 1) : y*y - x*x = 1 + d*x*x*y*y := by
 have : x * x * (d * (y * y) + 1) = x * x + d * x * x * y * y := by grind
 rw [this] at h
 grind
end
theorem IZ {n m A V : Nat} (h : cO n m A V) : fe (dS n m A V) * fe (dS n m A V) * fe V = fe A := by
 have h1 : fe (iD n m A V) * fe (iD n m A V) * fe V = fe A := by
  rw [← aS, ← aS]
  exact oh h
 unfold dS
 rw [if_pos h]
 split
 · rw [lG, Nc]; exact h1
 · exact h1
def dU (y : Nat) : Nat := dD (y * y) 1
def dV (y : Nat) : Nat := dN * (y * y) + 1
theorem MN (y : Nat) : fe (dU y) = fe y * fe y - 1 := by unfold dU; rw [agJ, aS, iK]
theorem GY (y : Nat) : fe (dV y) = fe dN * (fe y * fe y) + 1 := by unfold dV; rw [iJ, aS, aS, iK]
def sV (P : EP) : Nat := P.y.val + 2 ^ 255 * (P.x.val % 2)
def iM (P : EP) : List Nat := dw 32 (sV P)
theorem Ve : Num.p < 2 ^ 255 := by decide
section
variable (n m : Nat)
def sK (N : Nat) : Prop := N % 2 ^ 255 < Num.p ∧ cO n m (dU (N % 2 ^ 255)) (dV (N % 2 ^ 255)) ∧ ¬ (N / 2 ^ 255 = 1 ∧ dS n m (dU (N % 2 ^ 255)) (dV (N % 2 ^ 255)) % Num.p = 0)
def sO (N : Nat) : Nat := if N / 2 ^ 255 = 1 then dD 0 (dS n m (dU (N % 2 ^ 255)) (dV (N % 2 ^ 255))) else dS n m (dU (N % 2 ^ 255)) (dV (N % 2 ^ 255))
variable {n m}
theorem adE {N : Nat} (h : sK n m N) : fe (N % 2 ^ 255) * fe (N % 2 ^ 255) - fe (sO n m N) * fe (sO n m N) = 1 + Tf.d * fe (sO n m N) * fe (sO n m N) * fe (N % 2 ^ 255) * fe (N % 2 ^ 255) := by
 have h1 := IZ h.2.1
 have h2 : fe (sO n m N) * fe (sO n m N) * fe (dV (N % 2 ^ 255)) = fe (dU (N % 2 ^ 255)) := by
  rw [← h1]
  unfold sO
  split
  · rw [lG, Nc]
  · rfl
 rw [GY, MN] at h2
 exact aip _ _ _ h2
def decP {N : Nat} (h : sK n m N) : EP := ⟨fe (sO n m N), fe (N % 2 ^ 255), adE h⟩
end
end
section
open Go.RowKit
theorem acd : (-1 : Fin Num.p) ≠ 0 := by
 rw [← iK, ← lG]
 exact nI.mpr (by decide)
abbrev fF : Nat := 15112221349535400772501151409588531511454012693041857206046113283949847762202
abbrev dQ : Nat := 46316835694926478169428394003475163141307993866256225615783033603165251855960
theorem Xk : fe dQ * fe dQ - fe fF * fe fF = 1 + Tf.d * fe fF * fe fF * fe dQ * fe dQ := by
 show fe dQ * fe dQ - fe fF * fe fF = 1 + fe dN * fe fF * fe fF * fe dQ * fe dQ
 rw [← aS, ← aS, ← agJ, ← aS, ← aS, ← aS, ← aS, ← iK, ← iJ]
 exact oh (by decide +kernel)
def iZ : EP := ⟨fe fF, fe dQ, Xk⟩
structure N4 where
 x : Nat
 y : Nat
 z : Nat
 t : Nat
def N4.of (p : N4) (P : EP) : Prop := LM (fe p.x) (fe p.y) (fe p.z) (fe p.t) P
def SH {α : Type} (p : N4) (k : N4 → α) : α :=
 pY (p.x * p.x % Num.p) fun a => pY (p.y * p.y % Num.p) fun b => pY ((p.z * p.z + p.z * p.z) % Num.p) fun c => pY ((a + b) % Num.p) fun s => pY (dD ((p.x + p.y) * (p.x + p.y)) s % Num.p) fun e => pY (dD b a % Num.p) fun g => pY (dD g c % Num.p) fun f => pY (dD 0 s % Num.p) fun h =>
 pY (e * f % Num.p) fun X => pY (g * h % Num.p) fun Y => pY (f * g % Num.p) fun Z => pY (e * h % Num.p) fun T => k ⟨X, Y, Z, T⟩
def Jw (p : N4) : N4 := SH p id
theorem Xx {α : Type} (p : N4) (k : N4 → α) : SH p k = k (Jw p) := by simp only [Jw, SH, nC, id]
theorem Xy {p : N4} {P : EP} (h : p.of P) : (Jw p).of (P + P) := by
 have k := Sl P h acd rfl rfl rfl rfl rfl rfl rfl rfl
 simp only [Jw, SH, nC, id, N4.of, dA, aS, iJ, agJ, jc, zf]
 exact k
abbrev Zg : Nat := (dN + dN) % Num.p
theorem Zh : fe Zg = Tf.d + Tf.d := by
 show fe ((dN + dN) % Num.p) = fe dN + fe dN
 rw [dA, iJ]
def RJ {α : Type} (p q : N4) (k : N4 → α) : α :=
 pY (dD p.y p.x * dD q.y q.x % Num.p) fun a => pY ((p.y + p.x) * (q.y + q.x) % Num.p) fun b => pY (p.t * q.t * 16295367250680780974490674513165176452449235426866156013048779062215315747161 % Num.p) fun c => pY ((p.z * q.z + p.z * q.z) % Num.p) fun d => pY (dD b a % Num.p) fun e => pY (dD d c % Num.p) fun f => pY ((d + c) % Num.p) fun g => pY ((b + a) % Num.p) fun h =>
 pY (e * f % Num.p) fun X => pY (g * h % Num.p) fun Y => pY (f * g % Num.p) fun Z => pY (e * h % Num.p) fun T => k ⟨X, Y, Z, T⟩
def addN (p q : N4) : N4 := RJ p q id
theorem Xh {α : Type} (p q : N4) (k : N4 → α) : RJ p q k = k (addN p q) := by simp only [addN, RJ, nC, id]
theorem Xi {p q : N4} {P Q : EP} (h : p.of P) (h2 : q.of Q) : (addN p q).of (P + Q) := by
 have e0 : (16295367250680780974490674513165176452449235426866156013048779062215315747161 : Nat) = Zg := by decide +kernel
 have k := Sj P Q amO h h2 (k := fe Zg) Zh rfl rfl rfl rfl rfl rfl rfl rfl
 simp only [addN, RJ, nC, id, N4.of, e0]
 generalize Zg = tw at k ⊢
 simp only [dA, aS, iJ, agJ, jc, zf]
 exact k
def MB : N4 := ⟨fF, dQ, 1, 46827403850823179245072216630277197565144205554125654976674165829533817101731⟩
theorem RP : MB.of iZ := by
 refine ⟨?_, ?_, ?_, ?_⟩
 · exact nI.mpr (by decide)
 · show fe fF = fe fF * fe 1
   rw [← aS, Nat.mul_one]
 · show fe dQ = fe dQ * fe 1
   rw [← aS, Nat.mul_one]
 · show fe 46827403850823179245072216630277197565144205554125654976674165829533817101731 = fe fF * fe dQ * fe 1
   rw [← aS, ← aS]
   exact oh (by decide +kernel)
theorem Wx : N4.of ⟨0, 1, 1, 0⟩ (Pt.smul 0 iZ) := by
 refine ⟨?_, ?_, ?_, ?_⟩
 · exact nI.mpr (by decide)
 · show fe 0 = 0 * fe 1
   rw [← jc, ← aS]
 · show fe 1 = 1 * fe 1
   rw [← iK, ← aS]
 · show fe 0 = 0 * 1 * fe 1
   rw [← jc, ← iK, ← aS, ← aS]
def Zx : List Bool → N4 → (N4 → Bool) → Bool
 | [], a, k => k a
 | b :: l, a, k => SH a fun c => cond b (RJ c MB fun r => Zx l r k) (Zx l c k)
def RV : List Bool → Nat → Nat
 | [], n => n
 | b :: l, n => RV l (2 * n + cond b 1 0)
theorem H6 (b : Bool) (l : List Bool) (a : N4) (k : N4 → Bool) : Zx (b :: l) a k = cond b (Zx l (addN (Jw a) MB) k) (Zx l (Jw a) k) := by
 rw [Zx, Xx]
 cases b
 · rw [cond_false, cond_false]
 · rw [cond_true, cond_true, Xh]
theorem JZ : ∀ (l : List Bool) (a : N4) (n : Nat), a.of (Pt.smul n iZ) → ∃ r : N4, r.of (Pt.smul (RV l n) iZ) ∧ ∀ k, Zx l a k = k r
 | [], a, n, h => ⟨a, h, fun _ => rfl⟩
 | b :: l, a, n, h => by
  have h1 := Xy h
  rw [xR, ← Nat.two_mul] at h1
  cases b
  · obtain ⟨r, h2, h3⟩ := JZ l _ _ h1
    exact ⟨r, h2, fun k => by rw [H6, cond_false]; exact h3 k⟩
  · have h4 : (addN (Jw a) MB).of (Pt.smul (2 * n + 1) iZ) := Xi h1 RP
    obtain ⟨r, h2, h3⟩ := JZ l _ _ h4
    exact ⟨r, h2, fun k => by rw [H6, cond_true]; exact h3 k⟩
section
variable {n : Nat} [NeZero n]
theorem Iu (C : Cv n) {z x y X : Fin n} (hz : z ≠ 0) (h1 : X = x * z) (h2 : X = y * z) : x = y := C.cancel hz (by
 have e1 : z * x = x * z := by grind
 have e2 : z * y = y * z := by grind
 rw [e1, e2, ← h1, h2])
end
theorem aa7 {r : N4} {P : EP} {x y : Nat} (h : r.of P) (hx : r.x % Num.p = x * r.z % Num.p) (hy : r.y % Num.p = y * r.z % Num.p) : P.x = fe x ∧ P.y = fe y := by
 obtain ⟨hz, h1, h2, _⟩ := h
 have a1 : fe r.x = fe x * fe r.z := by rw [← aS]; exact oh hx
 have a2 : fe r.y = fe y * fe r.z := by rw [← aS]; exact oh hy
 exact ⟨Iu Tf hz h1 a1, Iu Tf hz h2 a2⟩
theorem aa6 (l : List Bool) (N x y : Nat) (hN : RV l 0 = N) (h : Zx l ⟨0, 1, 1, 0⟩ (fun r => Nat.beq (r.x % Num.p) (x * r.z % Num.p) && Nat.beq (r.y % Num.p) (y * r.z % Num.p)) = true) : (Pt.smul N iZ).x = fe x ∧ (Pt.smul N iZ).y = fe y := by
 obtain ⟨r, h1, h2⟩ := JZ l _ 0 Wx
 rw [h2, Bool.and_eq_true] at h
 rw [hN] at h1
 exact aa7 h1 (Nat.eq_of_beq_eq_true h.1) (Nat.eq_of_beq_eq_true h.2)
theorem Fa {P : EP} {x y : Nat} (hx : P.x = fe x) (hy : P.y = fe y) : iM P = dw 32 (y % Num.p + 2 ^ 255 * (x % Num.p % 2)) := by
 unfold iM sV
 rw [hx, hy]
 rfl
def kC (h : List Nat) : List Nat := ((h.take 32).set 0 (h.getD 0 0 / 8 * 8)).set 31 (h.getD 31 0 % 64 + 64)
abbrev afA : Nat := 39325648866980652792715009169219496062012184734522019333892538943312776480336
theorem VO : bW (kC (Ai aV (List.replicate 32 0))) = afA := by
 rw [VR]
 decide +kernel
def Yb (seed : List Nat) : List Nat := iM (Pt.smul (bW (kC (Ai aV seed))) iZ)
theorem UD : Yb (List.replicate 32 0) = [59, 106, 39, 188, 206, 182, 164, 45, 98, 163, 168, 208, 42, 111, 13, 115, 101, 50, 21, 119, 29, 226, 67, 166, 58, 192, 72, 161, 139, 89, 218, 41] := by
 unfold Yb
 rw [VO]
 have h := aa6 [true, false, true, false, true, true, false, true, true, true, true, false, false, false, true, true, false, false, false, false, true, true, true, false, true, false, false, true, false, true, false, true, false, false, true, false, false, true, false, false, true, true, false, false, false, false, false, false, true, true, true, true, false, false, true, true, true, true, true, false, true, false, true, true, false, false, true, false, false, false, false, false, true, true, true, true, false, true, false, false, false, true, false, false, true, true, false, true, false, true, true, false, true, false, true, false, true, true, true, false, false, false, false, false, true, true, true, true, false, false, true, true, false, true, true, false, true, false, true, false, true, false, true, true, false, false, false, false, false, true, true, true, true, true, false, false, true, false, false, false, false, true, false, true, true, false, false, false, false, true, true, true, true, false, true, false, false, false, false, true, true, true, true, true, true, false, true, true, false, true, true, true, false, true, true, false, false, true, false, true, false, true, true, false, true, true, true, true, false, true, true, true, false, false, false, false, true, true, false, false, false, true, true, true, false, false, false, true, false, true, false, true, false, false, false, true, true, false, true, true, false, true, true, true, true, false, false, false, false, false, true, true, false, true, false, true, true, false, true, false, true, false, false, false, true, true, false, false, true, false, true, false, false, false, false] afA 9639205628789703341510410801487549615560488670885798085067615194958049462616 18930617471878267742194159801949745215346600387277955685031939302387136031291 (by decide +kernel) (by decide +kernel)
 rw [Fa h.1 h.2]
 decide +kernel
theorem Ti : iM iZ = [88, 102, 102, 102, 102, 102, 102, 102, 102, 102, 102, 102, 102, 102, 102, 102, 102, 102, 102, 102, 102, 102, 102, 102, 102, 102, 102, 102, 102, 102, 102, 102] := by
 rw [Fa (P := iZ) (x := fF) (y := dQ) rfl rfl]
 decide +kernel
theorem Tn : iM Pt.zero = 1 :: List.replicate 31 0 := by
 rw [Fa (P := Pt.zero) (x := 0) (y := 1) jc.symm iK.symm]
 decide +kernel
end
end Go.Proofs.YtehfkbaendajbaaGreatDoor
