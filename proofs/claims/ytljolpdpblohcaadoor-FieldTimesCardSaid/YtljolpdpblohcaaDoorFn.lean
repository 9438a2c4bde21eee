/-
  Limbs as natural numbers: what the additive part of package field does to them, as numbers. No program in sight.
-/
import Derived.Test.YtljolpdpblohcaaDoorNum
import Derived.Test.YtljolpdpblohcaaDoorFe
namespace Go.Proofs.YtljolpdpblohcaaDoor
open Num (p)

/-- Limbs. -/
structure Fn where
  a : Nat
  b : Nat
  c : Nat
  d : Nat
  e : Nat
abbrev Fn.v (x : Fn) : Value := .agg #[.int .u64 x.a, .int .u64 x.b, .int .u64 x.c, .int .u64 x.d, .int .u64 x.e]
def Fn.fe (x : Fn) : Fe := ⟨x.a, x.b, x.c, x.d, x.e⟩
/-- The number. -/
def Fn.val (x : Fn) : Nat := x.a + 2251799813685248 * (x.b + 2251799813685248 * (x.c + 2251799813685248 * (x.d + 2251799813685248 * x.e)))
/-- Limbs below a bound. -/
def Fn.lt (B : Nat) (x : Fn) : Prop := x.a < B ∧ x.b < B ∧ x.c < B ∧ x.d < B ∧ x.e < B
theorem Fn.lt_mono {A B : Nat} {x : Fn} (h : x.lt A) (hB : A ≤ B) : x.lt B := by
  obtain ⟨h1, h2, h3, h4, h5⟩ := h; exact ⟨by omega, by omega, by omega, by omega, by omega⟩

theorem w64_nat (x : Int) : w64 x = x % 18446744073709551616 := by
  simp [w64, IntKind.wrap, IntKind.bits, IntKind.signed]
theorem w64_of (n : Nat) (h : n < 18446744073709551616) : w64 (n : Int) = n := by rw [w64_nat]; omega
theorem lo51_of (n : Nat) (h : n < 18446744073709551616) : lo51 (n : Int) = ((n % 2251799813685248 : Nat) : Int) := by
  unfold lo51
  exact (bits_mask .u64 64 (by decide) (fun n h0 h1 => by
    simp only [IntKind.wrap, IntKind.bits, IntKind.signed] at *
    simp at *
    omega) 51 (by decide) n (by omega) (by omega)).trans (by omega)
theorem hi51_of (n : Nat) : hi51 (n : Int) = ((n / 2251799813685248 : Nat) : Int) := by unfold hi51; omega

def npass (x : Fn) : Fn := ⟨x.a % 2251799813685248 + 19 * (x.e / 2251799813685248), x.b % 2251799813685248 + x.a / 2251799813685248, x.c % 2251799813685248 + x.b / 2251799813685248, x.d % 2251799813685248 + x.c / 2251799813685248, x.e % 2251799813685248 + x.d / 2251799813685248⟩
def nweak (x : Fn) : Fn := npass (npass x)

theorem rpass_of (x : Fn) (h : x.lt 18446744073709551616) : rpass x.fe = (npass x).fe := by
  obtain ⟨h1, h2, h3, h4, h5⟩ := h
  unfold rpass Fn.fe npass
  simp only [lo51_of _ h1, lo51_of _ h2, lo51_of _ h3, lo51_of _ h4, lo51_of _ h5, hi51_of]
  simp only [w64_nat]
  simp only [Fe.mk.injEq]
  refine ⟨by omega, by omega, by omega, by omega, by omega⟩

theorem npass_lt (x : Fn) (h : x.lt 18446744073709551616) : (npass x).lt (2251799813685248 + 155648) := by
  obtain ⟨h1, h2, h3, h4, h5⟩ := h
  unfold npass; exact ⟨by simp only; omega, by simp only; omega, by simp only; omega, by simp only; omega, by simp only; omega⟩
theorem npass_lt2 (x : Fn) (h : x.lt (2251799813685248 + 155648)) : (npass x).lt (2251799813685248 + 19) := by
  obtain ⟨h1, h2, h3, h4, h5⟩ := h
  unfold npass; exact ⟨by simp only; omega, by simp only; omega, by simp only; omega, by simp only; omega, by simp only; omega⟩

theorem rweak_of (x : Fn) (h : x.lt 18446744073709551616) : rweak x.fe = (nweak x).fe := by
  unfold rweak nweak
  rw [rpass_of x h, rpass_of _ (Fn.lt_mono (npass_lt x h) (by omega))]
theorem nweak_lt (x : Fn) (h : x.lt 18446744073709551616) : (nweak x).lt (2251799813685248 + 19) := npass_lt2 _ (npass_lt x h)

theorem npass_val (x : Fn) : x.val = (npass x).val + p * (x.e / 2251799813685248) := by
  unfold npass Fn.val p
  simp only
  omega
theorem npass_mod (x : Fn) : (npass x).val % p = x.val % p := by
  rw [npass_val x, Nat.add_mul_mod_self_left]
theorem nweak_mod (x : Fn) : (nweak x).val % p = x.val % p := by
  unfold nweak; rw [npass_mod, npass_mod]

/-- The limbs of a number, cut to 51 digits each. -/
def cut51 (n : Nat) : Fn := ⟨n % 2251799813685248, n / 2251799813685248 % 2251799813685248, n / 2251799813685248 / 2251799813685248 % 2251799813685248, n / 2251799813685248 / 2251799813685248 / 2251799813685248 % 2251799813685248, n / 2251799813685248 / 2251799813685248 / 2251799813685248 / 2251799813685248 % 2251799813685248⟩
theorem cut51_lt (n : Nat) : (cut51 n).lt 2251799813685248 := by
  unfold cut51; exact ⟨Nat.mod_lt _ (by decide), Nat.mod_lt _ (by decide), Nat.mod_lt _ (by decide), Nat.mod_lt _ (by decide), Nat.mod_lt _ (by decide)⟩
theorem cut51_val (n : Nat) (h : n < p) : (cut51 n).val = n := by
  unfold cut51 Fn.val p at *
  simp only
  omega
theorem cut51_of (x : Fn) (h : x.lt 2251799813685248) : cut51 x.val = x := by
  obtain ⟨h1, h2, h3, h4, h5⟩ := h
  obtain ⟨a, b, c, d, e⟩ := x
  unfold cut51 Fn.val
  simp only at *
  have e1 : (a + 2251799813685248 * (b + 2251799813685248 * (c + 2251799813685248 * (d + 2251799813685248 * e)))) / 2251799813685248 = b + 2251799813685248 * (c + 2251799813685248 * (d + 2251799813685248 * e)) := by omega
  have e2 : (b + 2251799813685248 * (c + 2251799813685248 * (d + 2251799813685248 * e))) / 2251799813685248 = c + 2251799813685248 * (d + 2251799813685248 * e) := by omega
  have e3 : (c + 2251799813685248 * (d + 2251799813685248 * e)) / 2251799813685248 = d + 2251799813685248 * e := by omega
  have e4 : (d + 2251799813685248 * e) / 2251799813685248 = e := by omega
  rw [e1, e2, e3, e4]
  simp only [Fn.mk.injEq]
  refine ⟨by omega, by omega, by omega, by omega, by omega⟩

/-- The small element of a number modulo the prime. -/
def small (n : Nat) : Fn := cut51 (n % p)
theorem small_lt (n : Nat) : (small n).lt 2251799813685248 := cut51_lt _
theorem p_pos : 0 < p := by decide
theorem small_val (n : Nat) : (small n).val = n % p := cut51_val _ (Nat.mod_lt _ p_pos)
theorem small_mod (n : Nat) : small (n % p) = small n := by unfold small; rw [Nat.mod_mod]
theorem small_inj {m n : Nat} (h : small m = small n) : m % p = n % p := by rw [← small_val, ← small_val, h]

theorem rcarry_of (y : Fn) (h : y.lt (2251799813685248 + 19)) : rcarry y.fe (rq y.fe) = (small y.val).fe := by
  obtain ⟨h1, h2, h3, h4, h5⟩ := h
  obtain ⟨a, b, c, d, e⟩ := y
  simp only at *
  -- the quotient
  have hq : rq (Fn.fe ⟨a, b, c, d, e⟩) = (((e + (d + (c + (b + (a + 19) / 2251799813685248) / 2251799813685248) / 2251799813685248) / 2251799813685248) / 2251799813685248 : Nat) : Int) := by
    unfold rq Fn.fe
    simp only [w64_nat, hi51]
    omega
  rw [hq]
  generalize hqn : (e + (d + (c + (b + (a + 19) / 2251799813685248) / 2251799813685248) / 2251799813685248) / 2251799813685248) / 2251799813685248 = q
  have hv : Fn.val ⟨a, b, c, d, e⟩ = a + 2251799813685248 * (b + 2251799813685248 * (c + 2251799813685248 * (d + 2251799813685248 * e))) := rfl
  generalize Fn.val ⟨a, b, c, d, e⟩ = v at *
  have hqv : q = (v + 19) / 57896044618658097711785492504343953926634992332820282019728792003956564819968 := by omega
  have hvlt : v < 2 * p := by unfold p; omega
  have hmod : v % p = v + 19 * q - 57896044618658097711785492504343953926634992332820282019728792003956564819968 * q ∧ q ≤ 1 := by
    unfold p at *; omega
  obtain ⟨hmod, hq1⟩ := hmod
  -- the carries
  obtain ⟨t0, ht0⟩ : ∃ t, t = a + 19 * q := ⟨_, rfl⟩
  obtain ⟨t1, ht1⟩ : ∃ t, t = b + t0 / 2251799813685248 := ⟨_, rfl⟩
  obtain ⟨t2, ht2⟩ : ∃ t, t = c + t1 / 2251799813685248 := ⟨_, rfl⟩
  obtain ⟨t3, ht3⟩ : ∃ t, t = d + t2 / 2251799813685248 := ⟨_, rfl⟩
  obtain ⟨t4, ht4⟩ : ∃ t, t = e + t3 / 2251799813685248 := ⟨_, rfl⟩
  have l0 : t0 < 4503599627370496 := by omega
  have l1 : t1 < 4503599627370496 := by omega
  have l2 : t2 < 4503599627370496 := by omega
  have l3 : t3 < 4503599627370496 := by omega
  have l4 : t4 < 4503599627370496 := by omega
  have e0 : w64 (w64 ((a : Int) + w64 (19 * (q : Int))) + 0) = t0 := by simp only [w64_nat]; omega
  have e1 : w64 ((b : Int) + hi51 t0) = t1 := by simp only [w64_nat, hi51]; omega
  have e2 : w64 ((c : Int) + hi51 t1) = t2 := by simp only [w64_nat, hi51]; omega
  have e3 : w64 ((d : Int) + hi51 t2) = t3 := by simp only [w64_nat, hi51]; omega
  have e4 : w64 ((e : Int) + hi51 t3) = t4 := by simp only [w64_nat, hi51]; omega
  have hr : rcarry (Fn.fe ⟨a, b, c, d, e⟩) q = Fn.fe ⟨t0 % 2251799813685248, t1 % 2251799813685248, t2 % 2251799813685248, t3 % 2251799813685248, t4 % 2251799813685248⟩ := by
    simp only [rcarry, Fn.fe, e0, e1, e2, e3, e4]
    rw [lo51_of t0 (by omega), lo51_of t1 (by omega), lo51_of t2 (by omega), lo51_of t3 (by omega), lo51_of t4 (by omega)]
  rw [hr]
  unfold small
  rw [← cut51_of ⟨t0 % 2251799813685248, t1 % 2251799813685248, t2 % 2251799813685248, t3 % 2251799813685248, t4 % 2251799813685248⟩ ⟨Nat.mod_lt _ (by decide), Nat.mod_lt _ (by decide), Nat.mod_lt _ (by decide), Nat.mod_lt _ (by decide), Nat.mod_lt _ (by decide)⟩]
  congr 2
  rw [hmod]
  unfold Fn.val
  simp only
  omega

theorem rred_of (x : Fn) (h : x.lt 18446744073709551616) : rred x.fe = (small x.val).fe := by
  unfold rred
  have hw := nweak_lt x h
  rw [rweak_of x h, rweak_of _ (Fn.lt_mono hw (by omega)), rcarry_of _ (nweak_lt _ (Fn.lt_mono hw (by omega)))]
  rw [← small_mod, nweak_mod, nweak_mod, small_mod]

def nadd (x y : Fn) : Fn := ⟨x.a + y.a, x.b + y.b, x.c + y.c, x.d + y.d, x.e + y.e⟩
theorem radd_of (x y : Fn) (hx : x.lt 4503599627370496) (hy : y.lt 4503599627370496) : radd x.fe y.fe = (nadd x y).fe := by
  obtain ⟨h1, h2, h3, h4, h5⟩ := hx
  obtain ⟨g1, g2, g3, g4, g5⟩ := hy
  simp only [radd, nadd, Fn.fe, w64_nat, Fe.mk.injEq]
  refine ⟨by omega, by omega, by omega, by omega, by omega⟩
theorem nadd_val (x y : Fn) : (nadd x y).val = x.val + y.val := by unfold nadd Fn.val; simp only; omega
theorem nadd_lt (x y : Fn) (hx : x.lt 4503599627370496) (hy : y.lt 4503599627370496) : (nadd x y).lt 18446744073709551616 := by
  obtain ⟨h1, h2, h3, h4, h5⟩ := hx
  obtain ⟨g1, g2, g3, g4, g5⟩ := hy
  unfold nadd; exact ⟨by simp only; omega, by simp only; omega, by simp only; omega, by simp only; omega, by simp only; omega⟩

def nsub (x y : Fn) : Fn := ⟨x.a + 9007199254740916 - y.a, x.b + 9007199254740988 - y.b, x.c + 9007199254740988 - y.c, x.d + 9007199254740988 - y.d, x.e + 9007199254740988 - y.e⟩
theorem rsub_of (x y : Fn) (hx : x.lt 4503599627370496) (hy : y.lt 4503599627370496) : rsub x.fe y.fe = (nsub x y).fe := by
  obtain ⟨h1, h2, h3, h4, h5⟩ := hx
  obtain ⟨g1, g2, g3, g4, g5⟩ := hy
  simp only [rsub, nsub, Fn.fe, w64_nat, Fe.mk.injEq]
  refine ⟨by omega, by omega, by omega, by omega, by omega⟩
theorem nsub_val (x y : Fn) (hy : y.lt 4503599627370496) : (nsub x y).val + y.val = x.val + 4 * p := by
  obtain ⟨g1, g2, g3, g4, g5⟩ := hy
  unfold nsub Fn.val p; simp only; omega
theorem nsub_lt (x y : Fn) (hx : x.lt 4503599627370496) : (nsub x y).lt 18446744073709551616 := by
  obtain ⟨h1, h2, h3, h4, h5⟩ := hx
  unfold nsub; exact ⟨by simp only; omega, by simp only; omega, by simp only; omega, by simp only; omega, by simp only; omega⟩

end Go.Proofs.YtljolpdpblohcaaDoor
