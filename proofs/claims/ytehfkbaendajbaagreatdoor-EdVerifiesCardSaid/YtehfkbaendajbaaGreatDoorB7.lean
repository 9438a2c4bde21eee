/-
  Shared, part 7: walks and plain laws; each theorem states its own conditions.
-/
import Derived.Test.YtehfkbaendajbaaGreatDoorB6
import Derived.ChangeKeysEq
namespace Go.Proofs.YtehfkbaendajbaaGreatDoor
set_option linter.unusedSimpArgs false
set_option linter.unusedVariables false
set_option maxRecDepth 100000
set_option maxHeartbeats 8000000
section
open Go.RowKit Go.Proofs.YtehfkbaendajbaaGreatDoorW.PrintLast
@[go_sem] theorem af5 (x0 x1 x2 x3 x4 y0 y1 y2 y3 y4 : Int) (w : World) : (Op.equalIn 10000 36 (.agg #[.int .u64 x0, .int .u64 x1, .int .u64 x2, .int .u64 x3, .int .u64 x4]) (.agg #[.int .u64 y0, .int .u64 y1, .int .u64 y2, .int .u64 y3, .int .u64 y4])).run Tryz.prog w = .ok (x0 == y0 && (x1 == y1 && (x2 == y2 && (x3 == y3 && x4 == y4)))) w := by
 have hi : ∃ i, Tryz.prog.info? 34 = some i := Option.isSome_iff_exists.mp (by kernel_rfl)
 obtain ⟨i, hi⟩ := hi
 have hc : Tryz.prog.cellsOf 34 = 1 := by kernel_rfl
 rw [run_equalIn_array w 9999 _ _ Tryz.underlying36 hi, hc]
 have q : ∀ a b : Int, (Op.equalIn 9999 34 (.int .u64 a) (.int .u64 b)).run Tryz.prog w = .ok (a == b) w := fun a b => run_equalIn_int w 9998 34 .u64 .u64 a b Tryz.underlying34
 have p0 : ∀ z0 z1 z2 z3 z4 : Int, (part 34 #[.int .u64 z0, .int .u64 z1, .int .u64 z2, .int .u64 z3, .int .u64 z4] (0 * 1)).run Tryz.prog w = .ok (.int .u64 z0) w := fun _ _ _ _ _ => by kernel_rfl
 have p1 : ∀ z0 z1 z2 z3 z4 : Int, (part 34 #[.int .u64 z0, .int .u64 z1, .int .u64 z2, .int .u64 z3, .int .u64 z4] (1 * 1)).run Tryz.prog w = .ok (.int .u64 z1) w := fun _ _ _ _ _ => by kernel_rfl
 have p2 : ∀ z0 z1 z2 z3 z4 : Int, (part 34 #[.int .u64 z0, .int .u64 z1, .int .u64 z2, .int .u64 z3, .int .u64 z4] (2 * 1)).run Tryz.prog w = .ok (.int .u64 z2) w := fun _ _ _ _ _ => by kernel_rfl
 have p3 : ∀ z0 z1 z2 z3 z4 : Int, (part 34 #[.int .u64 z0, .int .u64 z1, .int .u64 z2, .int .u64 z3, .int .u64 z4] (3 * 1)).run Tryz.prog w = .ok (.int .u64 z3) w := fun _ _ _ _ _ => by kernel_rfl
 have p4 : ∀ z0 z1 z2 z3 z4 : Int, (part 34 #[.int .u64 z0, .int .u64 z1, .int .u64 z2, .int .u64 z3, .int .u64 z4] (4 * 1)).run Tryz.prog w = .ok (.int .u64 z4) w := fun _ _ _ _ _ => by kernel_rfl
 rw [show List.range 5 = [0, 1, 2, 3, 4] from rfl]
 simp only [Op.eqItems, Sem.run_bind, p0, q, Result.andThen_ok]
 cases (x0 == y0)
 · simp
 · simp only [Bool.not_true, Bool.false_eq_true, if_false, Sem.run_bind, p1, q, Result.andThen_ok, Bool.true_and]
   cases (x1 == y1)
   · simp
   · simp only [Bool.not_true, Bool.false_eq_true, if_false, Sem.run_bind, p2, q, Result.andThen_ok, Bool.true_and]
     cases (x2 == y2)
     · simp
     · simp only [Bool.not_true, Bool.false_eq_true, if_false, Sem.run_bind, p3, q, Result.andThen_ok, Bool.true_and]
       cases (x3 == y3)
       · simp
       · simp only [Bool.not_true, Bool.false_eq_true, if_false, Sem.run_bind, p4, q, Result.andThen_ok, Bool.true_and]
         cases (x4 == y4)
         · simp
         · simp
theorem same_eq (m n : Nat) : (((small m).a : Int) == ((small n).a : Int) && (((small m).b : Int) == ((small n).b : Int) && (((small m).c : Int) == ((small n).c : Int) && (((small m).d : Int) == ((small n).d : Int) && ((small m).e : Int) == ((small n).e : Int))))) = decide (m % Num.p = n % Num.p) := by
 rw [Bool.eq_iff_iff]
 simp only [Bool.and_eq_true, beq_iff_eq, decide_eq_true_eq, Int.natCast_inj]
 constructor
 · rintro ⟨h1, h2, h3, h4, h5⟩
   apply yU
   cases hm : small m
   cases hn : small n
   rw [hm, hn] at h1 h2 h3 h4 h5
   simp only at h1 h2 h3 h4 h5
   rw [h1, h2, h3, h4, h5]
 · intro h
   rw [bY h]
   exact ⟨rfl, rfl, rfl, rfl, rfl⟩
theorem Wy : Fn.val ⟨0, 0, 0, 0, 0⟩ = 0 := rfl
theorem acp (v : Nat) : (bits .and .u64 ((small v).a : Int) 1 == 1) = decide (v % Num.p % 2 = 1) := by
 have hlt := (aF v).1
 have h := bits_and_u64_nat (small v).a 1 hlt (by omega)
 rw [Nat.and_one_is_mod] at h
 have e : (small v).a % 2 = v % Num.p % 2 := by unfold small dI; simp only; omega
 have e2 : bits .and .u64 ((small v).a : Int) 1 = (((small v).a % 2 : Nat) : Int) := h
 rw [e2, e]
 by_cases hn : v % Num.p % 2 = 1
 · rw [hn]; rfl
 · have : v % Num.p % 2 = 0 := by omega
   rw [this]; rfl
theorem Zm (B : Nat) (h : 0 < B) : (⟨0, 0, 0, 0, 0⟩ : Fn).lt B := ⟨h, h, h, h, h⟩
theorem jy (a : Fn) (ha : a.lt 4503599627370496) (lo hi : Nat) (h1 : lo < 256) (h2 : hi < 256) (A : Option Addr) (c : Nat) (w : World) (hr : Rd w .u8 A (iq lo hi)) :
 Calls Tryz.prog 76 #[a.v, .slice A 32 c] w fun e w' => (∃ r : Fn, r.lt (2251799813685248 + 19) ∧ r.val % Num.p = a.val ^ bW (iq lo hi) % Num.p ∧ e = .returned r.v) ∧ Below w.heap.size w w' :=
 Qb a ha A c (iq lo hi) (by simp [iq]) (by intro b hb; simp [iq] at hb; omega) w hr
theorem wz (a : Fn) (ha : a.lt 18446744073709551616) (w : World) :
 Calls Tryz.prog 59 #[a.v] w fun e w' => e = .returned (small (dD 0 a.val)).v ∧ Below w.heap.size w w' := by
 have CX := Lib.hid ha
 clear ha
 go_enter Tryz.func59, Tryz.ntmps59
 go_wp2_with fail
 refine (Md ⟨0, 0, 0, 0, 0⟩ a (Zm _ (by decide)) CX.out _).mono ?_
 rintro e y1 ⟨rfl, hb1⟩
 obtain ⟨x1, rfl, hc1, hz1, l10, nG⟩ := fO (b0 := w.heap.size) (b1 := w.heap.size + 1) hb1 rfl ob ob
 have HB1 : Hid (Below w.heap.size w x1) := Below.trans (pl (Below.refl _ _)) (hc1.mono sz)
 clear hb1 hc1
 try simp only [eF] at hz1
 go_wp2_with fail
 refine bodyPost_ret (v := (small (dD 0 a.val)).v) ?_ rfl ⟨rfl, ?_⟩
 · simp [results, Tryz.results59, go_sem, l10, nG, Wy]
 · exact (pl HB1.out)
theorem Jr (a : Fn) (ha : a.lt 18446744073709551616) (w : World) :
 Calls Tryz.prog 54 #[a.v] w fun e w' => e = .returned (small (a.val * a.val)).v ∧ Below w.heap.size w w' := by
 have CX := Lib.hid ha
 clear ha
 go_enter Tryz.func54, Tryz.ntmps54
 go_wp2_with fail
 refine (L6 a a CX.out CX.out _).mono ?_
 rintro e y1 ⟨rfl, hb1⟩
 obtain ⟨x1, rfl, hc1, hz1, l10, nG⟩ := fO (b0 := w.heap.size) (b1 := w.heap.size + 1) hb1 rfl ob ob
 have HB1 : Hid (Below w.heap.size w x1) := Below.trans (pl (Below.refl _ _)) (hc1.mono sz)
 clear hb1 hc1
 try simp only [eF] at hz1
 go_wp2_with fail
 refine bodyPost_ret (v := (small (a.val * a.val)).v) ?_ rfl ⟨rfl, ?_⟩
 · simp [results, Tryz.results54, go_sem, l10, nG]
 · exact (pl HB1.out)
theorem Xd (a : Fn) (ha : a.lt 18446744073709551616) (w : World) :
 Calls Tryz.prog 36 #[a.v] w fun e w' => e = .returned (small (a.val ^ (Num.p - 2))).v ∧ Below w.heap.size w w' := by
 have CX := Lib.hid ha
 have CW := Lib.hid (kG a ha)
 clear ha
 go_enter Tryz.func36, Tryz.ntmps36
 go_wp2_with fail
 refine (kM a CX.out _).mono ?_
 rintro e y1 ⟨rfl, hb1⟩
 obtain ⟨x1, rfl, hc1, hz1, l10, nG⟩ := fO (b0 := w.heap.size) (b1 := w.heap.size + 1) hb1 rfl ob ob
 have HB1 : Hid (Below w.heap.size w x1) := Below.trans (pl (Below.refl _ _)) (hc1.mono sz)
 clear hb1 hc1
 try simp only [eF] at hz1
 go_wp2_with fail
 refine (mZ 235 127 _).mono ?_
 rintro e y2 ⟨⟨A, c, rfl, hrd⟩, hb2⟩
 obtain ⟨x2, rfl, hc2, hz2, kD, rQ⟩ := fO (b0 := w.heap.size) (b1 := w.heap.size + 1) hb2 rfl ob ob
 have HB2 := aZ HB1.out hc2
 clear hb2 hc2
 try simp only [eF] at hz2
 have fM := Lib.hid (hrd)
 clear hrd
 go_wp2_with fail
 refine (jy (lK a) CW.out 235 127 (by decide) (by decide) A c _ fM.out).mono ?_
 rintro e y3 ⟨⟨r, hr, hv, rfl⟩, hb3⟩
 obtain ⟨x3, rfl, hc3, hz3, nN, uq⟩ := fO (b0 := w.heap.size) (b1 := w.heap.size + 1) hb3 rfl ob ob
 have HB3 := aZ HB2.out hc3
 clear hb3 hc3
 try simp only [eF] at hz3
 have HR := Lib.hid (And.intro hr hv)
 clear hr hv
 go_wp2_with fail
 refine (reduce_nat r (iQ (wk HR.out.1)) _).mono ?_
 rintro e y4 ⟨rfl, hb4⟩
 obtain ⟨x4, rfl, hc4, lT, rU, yL⟩ := fO (b0 := w.heap.size) (b1 := w.heap.size + 1) hb4 rfl ob ob
 have HB4 := aZ HB3.out hc4
 clear hb4 hc4
 try simp only [eF] at lT
 go_wp2_with fail
 refine bodyPost_ret (v := (small r.val).v) ?_ rfl ⟨congrArg (fun z : Fn => Ending.returned z.v) (bY (by rw [HR.out.2, Nat.pow_mod, gU, ← Nat.pow_mod]; rfl)), ?_⟩
 · simp [results, Tryz.results36, go_sem, l10, nG, kD, rQ, nN, uq, rU, yL]
 · exact (pl HB4.out)
theorem aoF (a : Fn) (ha : a.lt 18446744073709551616) (w : World) :
 Calls Tryz.prog 39 #[a.v] w fun e w' => e = .returned (.bool (decide (a.val % Num.p % 2 = 1))) ∧ Below w.heap.size w w' := by
 have CX := Lib.hid ha
 clear ha
 go_enter Tryz.func39, Tryz.ntmps39
 go_wp2_with fail
 refine (reduce_nat a CX.out _).mono ?_
 rintro e y1 ⟨rfl, hb1⟩
 obtain ⟨x1, rfl, hc1, hz1, l10⟩ := bQ (b := w.heap.size) hb1 rfl ob
 have HB1 : Hid (Below w.heap.size w x1) := Below.trans (pl (Below.refl _ _)) (hc1.mono sz)
 clear hb1 hc1
 try simp only [eF] at hz1
 go_wp2_with fail
 go_ret
 exact ⟨congrArg (fun z => Ending.returned (.bool z)) (acp a.val), (pl HB1.out)⟩
theorem nY (a b : Fn) (ha : a.lt 18446744073709551616) (hb : b.lt 18446744073709551616) (w : World) :
 Calls Tryz.prog 100 #[a.v, b.v] w fun e w' => e = .returned (.bool (decide (a.val % Num.p = b.val % Num.p))) ∧ Below w.heap.size w w' := by
 have CX := Lib.hid ha
 have CY := Lib.hid hb
 clear ha hb
 go_enter Tryz.func100, Tryz.ntmps100
 go_wp2_with fail
 refine st1 w [] 6 (ak (b := w.heap.size) ob (ak (b := w.heap.size + 1) ob (aO (pl (Below.refl _ _))))) (fun HS => ?_)
 refine tk2 0 (some 5) HS (h := ?_)
 refine tk2 2 (some 7) HS (h := ?_)
 refine dH 1 (some 6) (h := fun K hK => ?_)
 go_simp
 refine (reduce_nat a CX.out _).mono ?_
 rintro e y ⟨rfl, hb⟩
 refine hK.out _ _ (HS.step hb rfl) ?_
 clear HS hb
 intro HS
 refine dH 3 (some 8) (h := fun K hK => ?_)
 go_simp
 refine (reduce_nat b CY.out _).mono ?_
 rintro e y ⟨rfl, hb⟩
 refine hK.out _ _ (HS.step hb rfl) ?_
 clear HS hb
 intro HS
 refine tk2 4 (some 9) HS (h := ?_)
 refine tk2 5 (some 4) HS (h := ?_)
 obtain ⟨x1, rfl, hk1, hz1, l10, nG⟩ := HS.iL
 have HB1 : Hid (Below w.heap.size w x1) := hk1.below
 clear HS hk1
 refine done_ (by kernel_rfl) ?_
 go_wp2_with fail
 go_ret
 exact ⟨congrArg (fun z => Ending.returned (.bool z)) (same_eq a.val b.val), (pl HB1.out)⟩
end
section
open Go.RowKit
def jg (n A V : Nat) : Nat := A * (V * V * V) * ((V * V * V) * (V * V * V) * V * A) ^ n
def iD (n m A V : Nat) : Nat := if jg n A V * jg n A V * V % Num.p = dD 0 A then jg n A V * 2 ^ m else jg n A V
def cO (n m A V : Nat) : Prop := iD n m A V * iD n m A V * V % Num.p = A % Num.p
instance (n m A V : Nat) : Decidable (cO n m A V) := inferInstanceAs (Decidable (_ = _))
def dS (n m A V : Nat) : Nat := if cO n m A V then (if iD n m A V % Num.p % 2 = 1 then dD 0 (iD n m A V) else iD n m A V) else 0
theorem mm {a b c d : Nat} (h1 : a % Num.p = c % Num.p) (h2 : b % Num.p = d % Num.p) : a * b % Num.p = c * d % Num.p := by rw [Nat.mul_mod, h1, h2, ← Nat.mul_mod]
theorem iF {r x s y t : Nat} (h1 : r % Num.p = x % Num.p) (h2 : s % Num.p = y % Num.p) (h3 : t % Num.p = r * s % Num.p) : t % Num.p = x * y % Num.p := h3.trans (mm h1 h2)
theorem Vs {a b : Nat} (n : Nat) (h : a % Num.p = b % Num.p) : a ^ n % Num.p = b ^ n % Num.p := by rw [Nat.pow_mod, h, ← Nat.pow_mod]
theorem oM {a b c d : Nat} (h1 : a % Num.p = c % Num.p) (h2 : b % Num.p = d % Num.p) : dD a b = dD c d := by unfold dD; rw [h1, h2]
theorem gK (a b : Nat) : dD a b % Num.p = dD a b := by unfold dD; rw [Nat.mod_mod]
theorem zx {A V u v : Nat} (n : Nat) (hu : u % Num.p = A % Num.p) (hv : v % Num.p = V % Num.p) : jg n u v % Num.p = jg n A V % Num.p := by
 unfold jg
 have h3 : v * v * v % Num.p = V * V * V % Num.p := mm (mm hv hv) hv
 exact mm (mm hu h3) (Vs _ (mm (mm (mm h3 h3) hv) hu))
theorem I4 {A V u v q s r t n m : Nat} (hu : u % Num.p = A % Num.p) (hv : v % Num.p = V % Num.p) (hq : q % Num.p = u * (v * v * v) * ((v * v * v) * (v * v * v) * v * u) ^ n % Num.p)
 (hs : s % Num.p = q * q * v % Num.p) (hr : r % Num.p = (if s % Num.p = (small (dD 0 u)).val % Num.p then q * 2 ^ m else q) % Num.p) (ht : t % Num.p = r * r * v % Num.p) :
 (cO n m A V ↔ t % Num.p = u % Num.p) ∧ iD n m A V % Num.p = r % Num.p := by
 have e : u * (v * v * v) * ((v * v * v) * (v * v * v) * v * u) ^ n = jg n u v := by unfold jg; rfl
 rw [e] at hq
 have hq' : q % Num.p = jg n A V % Num.p := hq.trans (zx n hu hv)
 have hs' : s % Num.p = jg n A V * jg n A V * V % Num.p := hs.trans (mm (mm hq' hq') hv)
 have hc : (small (dD 0 u)).val % Num.p = dD 0 A := by rw [jh, Nat.mod_mod, gK, oM rfl hu]
 have hS : iD n m A V % Num.p = r % Num.p := by
  rw [hr, hs', hc]
  unfold iD
  split
  · exact (mm hq'.symm rfl)
  · exact hq'.symm
 refine ⟨?_, hS⟩
 unfold cO
 rw [ht, hu, mm (mm hS hS) hv.symm]
theorem acD {q t r s c m : Nat} (hc : s % Num.p = c % Num.p) (ht : t % Num.p = (small 2).val ^ m % Num.p) (h : r % Num.p = q * t % Num.p) :
 r % Num.p = (if s % Num.p = c % Num.p then q * 2 ^ m else q) % Num.p := by
 have h2 : (small 2).val % Num.p = 2 % Num.p := by rw [jh, Nat.mod_mod]
 rw [if_pos hc]
 exact iF rfl (ht.trans (Vs m h2)) h
theorem YR {q s c m : Nat} (hc : ¬ s % Num.p = c % Num.p) : q % Num.p = (if s % Num.p = c % Num.p then q * 2 ^ m else q) % Num.p := by
 rw [if_neg hc]
theorem I7 {A V r t u n m : Nat} (h : (cO n m A V ↔ t % Num.p = u % Num.p) ∧ iD n m A V % Num.p = r % Num.p) (h2 : t % Num.p = u % Num.p) (ho : r % Num.p % 2 = 1) :
 Ending.returned (.tuple #[(small (small (dD 0 r)).val).v, .bool true]) = Ending.returned (.tuple #[(small (dS n m A V)).v, .bool (decide (cO n m A V))]) := by
 have h1 := h.1.mpr h2
 have e : small (small (dD 0 r)).val = small (dD 0 (iD n m A V)) := bY (by rw [jh, Nat.mod_mod, oM (a := 0) (c := 0) rfl h.2])
 rw [decide_eq_true h1, dS, if_pos h1, if_pos (by rw [h.2]; exact ho), e]
theorem Eu {A V r t u n m : Nat} (h : (cO n m A V ↔ t % Num.p = u % Num.p) ∧ iD n m A V % Num.p = r % Num.p) (h2 : t % Num.p = u % Num.p) (ho : ¬ r % Num.p % 2 = 1) :
 Ending.returned (.tuple #[(small r).v, .bool true]) = Ending.returned (.tuple #[(small (dS n m A V)).v, .bool (decide (cO n m A V))]) := by
 have h1 := h.1.mpr h2
 rw [decide_eq_true h1, dS, if_pos h1, if_neg (by rw [h.2]; exact ho), bY h.2]
theorem Ew {A V r t u n m : Nat} (h : (cO n m A V ↔ t % Num.p = u % Num.p) ∧ iD n m A V % Num.p = r % Num.p) (h2 : ¬ t % Num.p = u % Num.p) :
 Ending.returned (.tuple #[(⟨0, 0, 0, 0, 0⟩ : Fn).v, .bool false]) = Ending.returned (.tuple #[(small (dS n m A V)).v, .bool (decide (cO n m A V))]) := by
 have h1 : ¬ cO n m A V := fun h3 => h2 (h.1.mp h3)
 rw [decide_eq_false h1, dS, if_neg h1]
 rfl
end
section
open Go.RowKit
theorem Qg : bW (iq 253 15) = 7237005577332262213973186563042994240829374041602535252466099000494570602493 := by decide +kernel
theorem Qh : bW (iq 251 31) = 14474011154664524427946373126085988481658748083205070504932198000989141204987 := by decide +kernel
theorem Vp (b e : Nat) (acc : Nat) (h : e < 2 ^ 256) : acc * b ^ e % Num.p = Num.pm Num.p 256 b e acc % Num.p := (Num.Vo Num.p 256 b e acc h).symm
theorem oL {n m A B V W : Nat} (hA : A % Num.p = B % Num.p) (hV : V % Num.p = W % Num.p) : (cO n m A V ↔ cO n m B W) ∧ iD n m A V % Num.p = iD n m B W % Num.p := by
 have hS : iD n m A V % Num.p = iD n m B W % Num.p := by
  have hR := zx (n := n) hA hV
  unfold iD
  rw [mm (mm hR hR) hV, oM (a := 0) (c := 0) rfl hA]
  split
  · exact mm hR rfl
  · exact hR
 refine ⟨?_, hS⟩
 unfold cO
 rw [mm (mm hS hS) hV, hA]
theorem tN {n m A B V W : Nat} (hA : A % Num.p = B % Num.p) (hV : V % Num.p = W % Num.p) : small (dS n m A V) = small (dS n m B W) := by
 have h := oL (n := n) (m := m) hA hV
 apply bY
 unfold dS
 by_cases h1 : cO n m A V
 · rw [if_pos h1, if_pos (h.1.mp h1), h.2]
   split
   · rw [oM (a := 0) (c := 0) rfl h.2]
   · exact h.2
 · rw [if_neg h1, if_neg (fun h2 => h1 (h.1.mpr h2))]
end
end Go.Proofs.YtehfkbaendajbaaGreatDoor
