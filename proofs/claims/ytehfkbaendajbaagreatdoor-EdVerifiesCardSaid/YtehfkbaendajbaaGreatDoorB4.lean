/-
  Shared, part 4: walks and plain laws; each theorem states its own conditions.
-/
import Derived.Test.YtehfkbaendajbaaGreatDoorProg
import Derived.Test.YtehfkbaendajbaaGreatDoorB3
import Derived.Laws.Bits64b
import Derived.Laws.Externs
import Derived.Lib.Mul64
namespace Go.Proofs.YtehfkbaendajbaaGreatDoor
set_option linter.unusedSimpArgs false
set_option linter.unusedVariables false
set_option maxRecDepth 100000
set_option maxHeartbeats 8000000
section
open Go.RowKit
def qw (n : Nat) : Nat := n / 18446744073709551616
def oO (n : Nat) : Nat := n % 18446744073709551616
theorem aep (n : Nat) : qw n * 18446744073709551616 + oO n = n := by unfold qw oO; omega
theorem Bz (n : Nat) : oO n < 18446744073709551616 := Nat.mod_lt _ (by decide)
namespace Mul64
theorem maskN (a : Nat) (ha : a < 18446744073709551616) : bits .and .u64 (a : Int) 4294967295 = ((a % 4294967296 : Nat) : Int) := by
 have h := bits_and_u64_nat a 4294967295 ha (by omega)
 have e : a &&& 4294967295 = a % 4294967296 := Nat.and_two_pow_sub_one_eq_mod a 32
 rw [e] at h
 exact h
theorem divN (a : Nat) : (a : Int) / 4294967296 = ((a / 4294967296 : Nat) : Int) := by omega
theorem mulN (a b : Nat) : (a : Int) * (b : Int) = ((a * b : Nat) : Int) := (Int.natCast_mul a b).symm
theorem addN (a b : Nat) : (a : Int) + (b : Int) = ((a + b : Nat) : Int) := (Int.natCast_add a b).symm
theorem wrapN (a : Nat) (ha : a < 18446744073709551616) : IntKind.u64.wrap (a : Int) = (a : Int) := by rw [IntKind.wrap_u64]; omega
theorem wrapM (a : Nat) : IntKind.u64.wrap (a : Int) = ((a % 18446744073709551616 : Nat) : Int) := by rw [IntKind.wrap_u64]; omega
end Mul64
theorem Ei (x y : Nat) (hx : x < 18446744073709551616) (hy : y < 18446744073709551616) (w : World) :
 Calls Tryz.prog 83 #[.int .u64 x, .int .u64 y] w fun e w' => e = .returned (.tuple #[.int .u64 (qw (x * y)), .int .u64 (oO (x * y))]) ∧ w = w' := by
 obtain ⟨bd, bt, bw, hhi⟩ := Lib.mul64_hi x y hx hy
 have ba := Lib.half_mul_le (a := x / 4294967296) (b := y / 4294967296) (by omega) (by omega)
 have bb := Lib.half_mul_le (a := x / 4294967296) (b := y % 4294967296) (by omega) (by omega)
 have bc := Lib.half_mul_le (a := x % 4294967296) (b := y / 4294967296) (by omega) (by omega)
 have ba' : x / 4294967296 * (y / 4294967296) < 18446744073709551616 := by omega
 have bb' : x / 4294967296 * (y % 4294967296) < 18446744073709551616 := by omega
 have bc' : x % 4294967296 * (y / 4294967296) < 18446744073709551616 := by omega
 have bh1 : x / 4294967296 * (y / 4294967296) + (x / 4294967296 * (y % 4294967296) + x % 4294967296 * (y % 4294967296) / 4294967296) / 4294967296 < 18446744073709551616 := by omega
 have bh : x / 4294967296 * (y / 4294967296) + (x / 4294967296 * (y % 4294967296) + x % 4294967296 * (y % 4294967296) / 4294967296) / 4294967296 + ((x / 4294967296 * (y % 4294967296) + x % 4294967296 * (y % 4294967296) / 4294967296) % 4294967296 + x % 4294967296 * (y / 4294967296)) / 4294967296 < 18446744073709551616 := by omega
 go_enter Tryz.func83, Tryz.ntmps83
 go_wp2
 simp only [Mul64.maskN x hx, Mul64.maskN y hy, Mul64.divN, Mul64.mulN, Mul64.addN, Mul64.wrapN _ bd, Mul64.wrapN _ bb', Mul64.wrapN _ bt, Mul64.maskN _ bt, Mul64.wrapN _ bc', Mul64.wrapN _ bw, Mul64.wrapN _ ba', Mul64.wrapN _ bh1, Mul64.wrapN _ bh, Mul64.wrapM (x * y)]
 rw [hhi]
 go_ret2
 exact ⟨rfl, rfl⟩
theorem yB (x y c : Nat) (hc : c ≤ 1) (w : World) :
 (callFunc 44 #[.int .u64 x, .int .u64 y, .int .u64 c]).run Tryz.prog w =
  .ok (.value (.tuple #[.int .u64 (oO (x + y + c)), .int .u64 (qw (x + y + c))])) w := by
 rw [run_callFunc_extern Tryz.func44 (by kernel_rfl) (by kernel_rfl) (by kernel_rfl) (e := add64Entry) (by kernel_rfl), run_add64 x y c (by omega) (by omega) (by omega) (by omega)]
 simp only [Result.andThen, qw, oO]
 congr 5 <;> omega
def sub64Entry : Array Value → Sem Value := fun args => do
 let (x, y, b) ← Extern.MathBitsCarry.three "Sub64" args
 pure (Extern.MathBitsCarry.pair ((x + Extern.MathBitsCarry.m64 - y - b) % Extern.MathBitsCarry.m64) (if x < y + b then 1 else 0))
theorem run_sub64 {P : Program} (x y b : Nat) (hb : b ≤ 1) (w : World) :
 (sub64Entry #[.int .u64 x, .int .u64 y, .int .u64 b]).run P w =
  .ok (.tuple #[.int .u64 (((x + 18446744073709551616 - y - b) % 18446744073709551616 : Nat) : Int), .int .u64 ((if x < y + b then 1 else 0 : Nat) : Int)]) w := by
 have : b = 0 ∨ b = 1 := by omega
 rcases this with rfl | rfl <;> rfl
theorem adY (x y b : Nat) (hb : b ≤ 1) (w : World) :
 (callFunc 103 #[.int .u64 x, .int .u64 y, .int .u64 b]).run Tryz.prog w =
  .ok (.value (.tuple #[.int .u64 (((x + 18446744073709551616 - y - b) % 18446744073709551616 : Nat) : Int), .int .u64 ((if x < y + b then 1 else 0 : Nat) : Int)])) w := by
 rw [run_callFunc_extern Tryz.func103 (by kernel_rfl) (by kernel_rfl) (by kernel_rfl) (e := sub64Entry) (by kernel_rfl), run_sub64 x y b hb]
 rfl
end
section
open Go.RowKit
structure Fe where
 a : Int
 b : Int
 c : Int
 d : Int
 e : Int
abbrev Fe.v (x : Fe) : Value := .agg #[.int .u64 x.a, .int .u64 x.b, .int .u64 x.c, .int .u64 x.d, .int .u64 x.e]
def uT (x : Int) : Int := bits .and .u64 x 2251799813685247
@[go_sem] theorem agC (x : Int) : bits .and .u64 x 2251799813685247 = uT x := rfl
def lU (x : Int) : Int := x / 2251799813685248
@[go_sem] theorem agb (x : Int) : x / 2251799813685248 = lU x := rfl
def eX (x : Int) : Int := IntKind.u64.wrap x
@[go_sem] theorem akk (x : Int) : IntKind.u64.wrap x = eX x := rfl
def BO (x : Fe) : Fe := ⟨eX (eX (uT x.a + 0) + eX (19 * lU x.e)), eX (uT x.b + lU x.a), eX (uT x.c + lU x.b), eX (uT x.d + lU x.c), eX (uT x.e + lU x.d)⟩
def BP (x : Fe) : Fe := BO (BO x)
def rq (x : Fe) : Int := lU (eX (x.e + lU (eX (x.d + lU (eX (x.c + lU (eX (x.b + lU (eX (x.a + 19))))))))))
def BH (y : Fe) (q : Int) : Fe :=
 let a := eX (eX (y.a + eX (19 * q)) + 0)
 let b := eX (y.b + lU a)
 let c := eX (y.c + lU b)
 let d := eX (y.d + lU c)
 let e := eX (y.e + lU d)
 ⟨uT a, uT b, uT c, uT d, uT e⟩
def VL (x : Fe) : Fe := BH (BP (BP x)) (rq (BP (BP x)))
def VD (x y : Fe) : Fe := ⟨eX (x.a + y.a), eX (x.b + y.b), eX (x.c + y.c), eX (x.d + y.d), eX (x.e + y.e)⟩
def VN (x y : Fe) : Fe := ⟨eX (eX (x.a + 9007199254740916) - y.a), eX (eX (x.b + 9007199254740988) - y.b), eX (eX (x.c + 9007199254740988) - y.c), eX (eX (x.d + 9007199254740988) - y.d), eX (eX (x.e + 9007199254740988) - y.e)⟩
end
section
open Num (p)
structure Fn where
 a : Nat
 b : Nat
 c : Nat
 d : Nat
 e : Nat
abbrev Fn.v (x : Fn) : Value := .agg #[.int .u64 x.a, .int .u64 x.b, .int .u64 x.c, .int .u64 x.d, .int .u64 x.e]
def Fn.fe (x : Fn) : Fe := ⟨x.a, x.b, x.c, x.d, x.e⟩
def Fn.val (x : Fn) : Nat := x.a + 2251799813685248 * (x.b + 2251799813685248 * (x.c + 2251799813685248 * (x.d + 2251799813685248 * x.e)))
def Fn.lt (B : Nat) (x : Fn) : Prop := x.a < B ∧ x.b < B ∧ x.c < B ∧ x.d < B ∧ x.e < B
theorem Fn.lJ {A B : Nat} {x : Fn} (h : x.lt A) (hB : A ≤ B) : x.lt B := by
 obtain ⟨h1, h2, h3, h4, h5⟩ := h; exact ⟨by omega, by omega, by omega, by omega, by omega⟩
theorem iW (x : Int) : eX x = x % 18446744073709551616 := by
 simp [eX, IntKind.wrap, IntKind.bits, IntKind.signed]
theorem nH (n : Nat) (h : n < 18446744073709551616) : eX (n : Int) = n := by rw [iW]; omega
theorem jV (n : Nat) (h : n < 18446744073709551616) : uT (n : Int) = ((n % 2251799813685248 : Nat) : Int) := by
 unfold uT
 exact (bits_mask .u64 64 (by decide) (fun n h0 h1 => by
  simp only [IntKind.wrap, IntKind.bits, IntKind.signed] at *
  simp at *
  omega) 51 (by decide) n (by omega) (by omega)).trans (by omega)
theorem Fg (n : Nat) : lU (n : Int) = ((n / 2251799813685248 : Nat) : Int) := by unfold lU; omega
def tJ (x : Fn) : Fn := ⟨x.a % 2251799813685248 + 19 * (x.e / 2251799813685248), x.b % 2251799813685248 + x.a / 2251799813685248, x.c % 2251799813685248 + x.b / 2251799813685248, x.d % 2251799813685248 + x.c / 2251799813685248, x.e % 2251799813685248 + x.d / 2251799813685248⟩
def lK (x : Fn) : Fn := tJ (tJ x)
theorem I8 (x : Fn) (h : x.lt 18446744073709551616) : BO x.fe = (tJ x).fe := by
 obtain ⟨h1, h2, h3, h4, h5⟩ := h
 unfold BO Fn.fe tJ
 simp only [jV _ h1, jV _ h2, jV _ h3, jV _ h4, jV _ h5, Fg]
 simp only [iW]
 simp only [Fe.mk.injEq]
 refine ⟨by omega, by omega, by omega, by omega, by omega⟩
theorem IG (x : Fn) (h : x.lt 18446744073709551616) : (tJ x).lt (2251799813685248 + 155648) := by
 obtain ⟨h1, h2, h3, h4, h5⟩ := h
 unfold tJ; exact ⟨by simp only; omega, by simp only; omega, by simp only; omega, by simp only; omega, by simp only; omega⟩
theorem P6 (x : Fn) (h : x.lt (2251799813685248 + 155648)) : (tJ x).lt (2251799813685248 + 19) := by
 obtain ⟨h1, h2, h3, h4, h5⟩ := h
 unfold tJ; exact ⟨by simp only; omega, by simp only; omega, by simp only; omega, by simp only; omega, by simp only; omega⟩
theorem BQ (x : Fn) (h : x.lt 18446744073709551616) : BP x.fe = (lK x).fe := by
 unfold BP lK
 rw [I8 x h, I8 _ (Fn.lJ (IG x h) (by omega))]
theorem xG (x : Fn) (h : x.lt 18446744073709551616) : (lK x).lt (2251799813685248 + 19) := P6 _ (IG x h)
theorem P7 (x : Fn) : x.val = (tJ x).val + p * (x.e / 2251799813685248) := by
 unfold tJ Fn.val p
 simp only
 omega
theorem En (x : Fn) : (tJ x).val % p = x.val % p := by
 rw [P7 x, Nat.add_mul_mod_self_left]
theorem gU (x : Fn) : (lK x).val % p = x.val % p := by
 unfold lK; rw [En, En]
def dI (n : Nat) : Fn := ⟨n % 2251799813685248, n / 2251799813685248 % 2251799813685248, n / 2251799813685248 / 2251799813685248 % 2251799813685248, n / 2251799813685248 / 2251799813685248 / 2251799813685248 % 2251799813685248, n / 2251799813685248 / 2251799813685248 / 2251799813685248 / 2251799813685248 % 2251799813685248⟩
theorem wH (n : Nat) : (dI n).lt 2251799813685248 := by
 unfold dI; exact ⟨Nat.mod_lt _ (by decide), Nat.mod_lt _ (by decide), Nat.mod_lt _ (by decide), Nat.mod_lt _ (by decide), Nat.mod_lt _ (by decide)⟩
theorem Ox (n : Nat) (h : n < p) : (dI n).val = n := by
 unfold dI Fn.val p at *
 simp only
 omega
theorem Sv (x : Fn) (h : x.lt 2251799813685248) : dI x.val = x := by
 obtain ⟨h1, h2, h3, h4, h5⟩ := h
 obtain ⟨a, b, c, d, e⟩ := x
 unfold dI Fn.val
 simp only at *
 have e1 : (a + 2251799813685248 * (b + 2251799813685248 * (c + 2251799813685248 * (d + 2251799813685248 * e)))) / 2251799813685248 = b + 2251799813685248 * (c + 2251799813685248 * (d + 2251799813685248 * e)) := by omega
 have e2 : (b + 2251799813685248 * (c + 2251799813685248 * (d + 2251799813685248 * e))) / 2251799813685248 = c + 2251799813685248 * (d + 2251799813685248 * e) := by omega
 have e3 : (c + 2251799813685248 * (d + 2251799813685248 * e)) / 2251799813685248 = d + 2251799813685248 * e := by omega
 have e4 : (d + 2251799813685248 * e) / 2251799813685248 = e := by omega
 rw [e1, e2, e3, e4]
 simp only [Fn.mk.injEq]
 refine ⟨by omega, by omega, by omega, by omega, by omega⟩
def small (n : Nat) : Fn := dI (n % p)
theorem Ci (n : Nat) : (small n).lt 2251799813685248 := wH _
theorem gJ : 0 < p := by decide
theorem jh (n : Nat) : (small n).val = n % p := Ox _ (Nat.mod_lt _ gJ)
theorem uH (n : Nat) : small (n % p) = small n := by unfold small; rw [Nat.mod_mod]
theorem yU {m n : Nat} (h : small m = small n) : m % p = n % p := by rw [← jh, ← jh, h]
theorem Qd (y : Fn) (h : y.lt (2251799813685248 + 19)) : BH y.fe (rq y.fe) = (small y.val).fe := by
 obtain ⟨h1, h2, h3, h4, h5⟩ := h
 obtain ⟨a, b, c, d, e⟩ := y
 simp only at *
 have hq : rq (Fn.fe ⟨a, b, c, d, e⟩) = (((e + (d + (c + (b + (a + 19) / 2251799813685248) / 2251799813685248) / 2251799813685248) / 2251799813685248) / 2251799813685248 : Nat) : Int) := by
  unfold rq Fn.fe
  simp only [iW, lU]
  omega
 rw [hq]
 generalize hqn : (e + (d + (c + (b + (a + 19) / 2251799813685248) / 2251799813685248) / 2251799813685248) / 2251799813685248) / 2251799813685248 = q
 have hv : Fn.val ⟨a, b, c, d, e⟩ = a + 2251799813685248 * (b + 2251799813685248 * (c + 2251799813685248 * (d + 2251799813685248 * e))) := rfl
 generalize Fn.val ⟨a, b, c, d, e⟩ = v at *
 have hqv : q = (v + 19) / 57896044618658097711785492504343953926634992332820282019728792003956564819968 := by omega
 have amR : v < 2 * p := by unfold p; omega
 have hmod : v % p = v + 19 * q - 57896044618658097711785492504343953926634992332820282019728792003956564819968 * q ∧ q ≤ 1 := by
  unfold p at *; omega
 obtain ⟨hmod, hq1⟩ := hmod
 obtain ⟨t0, ht0⟩ : ∃ t, t = a + 19 * q := ⟨_, rfl⟩
 obtain ⟨t1, ht1⟩ : ∃ t, t = b + t0 / 2251799813685248 := ⟨_, rfl⟩
 obtain ⟨t2, ht2⟩ : ∃ t, t = c + t1 / 2251799813685248 := ⟨_, rfl⟩
 obtain ⟨t3, ht3⟩ : ∃ t, t = d + t2 / 2251799813685248 := ⟨_, rfl⟩
 obtain ⟨t4, ht4⟩ : ∃ t, t = e + t3 / 2251799813685248 := ⟨_, rfl⟩
 have l0 : t0 < 4503599627370496 := by omega
 have l1 : t1 < 4503599627370496 := by omega
 have l2 : t2 < 4503599627370496 := by omega
 have l3 : t3 < 4503599627370496 := by omega
 have l4 : t4 < 4503599627370496 := by omega
 have e0 : eX (eX ((a : Int) + eX (19 * (q : Int))) + 0) = t0 := by simp only [iW]; omega
 have e1 : eX ((b : Int) + lU t0) = t1 := by simp only [iW, lU]; omega
 have e2 : eX ((c : Int) + lU t1) = t2 := by simp only [iW, lU]; omega
 have e3 : eX ((d : Int) + lU t2) = t3 := by simp only [iW, lU]; omega
 have e4 : eX ((e : Int) + lU t3) = t4 := by simp only [iW, lU]; omega
 have hr : BH (Fn.fe ⟨a, b, c, d, e⟩) q = Fn.fe ⟨t0 % 2251799813685248, t1 % 2251799813685248, t2 % 2251799813685248, t3 % 2251799813685248, t4 % 2251799813685248⟩ := by
  simp only [BH, Fn.fe, e0, e1, e2, e3, e4]
  rw [jV t0 (by omega), jV t1 (by omega), jV t2 (by omega), jV t3 (by omega), jV t4 (by omega)]
 rw [hr]
 unfold small
 rw [← Sv ⟨t0 % 2251799813685248, t1 % 2251799813685248, t2 % 2251799813685248, t3 % 2251799813685248, t4 % 2251799813685248⟩ ⟨Nat.mod_lt _ (by decide), Nat.mod_lt _ (by decide), Nat.mod_lt _ (by decide), Nat.mod_lt _ (by decide), Nat.mod_lt _ (by decide)⟩]
 congr 2
 rw [hmod]
 unfold Fn.val
 simp only
 omega
theorem YT (x : Fn) (h : x.lt 18446744073709551616) : VL x.fe = (small x.val).fe := by
 unfold VL
 have hw := xG x h
 rw [BQ x h, BQ _ (Fn.lJ hw (by omega)), Qd _ (xG _ (Fn.lJ hw (by omega)))]
 rw [← uH, gU, gU, uH]
def FK (x y : Fn) : Fn := ⟨x.a + y.a, x.b + y.b, x.c + y.c, x.d + y.d, x.e + y.e⟩
theorem YP (x y : Fn) (hx : x.lt 4503599627370496) (hy : y.lt 4503599627370496) : VD x.fe y.fe = (FK x y).fe := by
 obtain ⟨h1, h2, h3, h4, h5⟩ := hx
 obtain ⟨g1, g2, g3, g4, g5⟩ := hy
 simp only [VD, FK, Fn.fe, iW, Fe.mk.injEq]
 refine ⟨by omega, by omega, by omega, by omega, by omega⟩
theorem U6 (x y : Fn) : (FK x y).val = x.val + y.val := by unfold FK Fn.val; simp only; omega
theorem YA (x y : Fn) (hx : x.lt 4503599627370496) (hy : y.lt 4503599627370496) : (FK x y).lt 18446744073709551616 := by
 obtain ⟨h1, h2, h3, h4, h5⟩ := hx
 obtain ⟨g1, g2, g3, g4, g5⟩ := hy
 unfold FK; exact ⟨by simp only; omega, by simp only; omega, by simp only; omega, by simp only; omega, by simp only; omega⟩
def FM (x y : Fn) : Fn := ⟨x.a + 9007199254740916 - y.a, x.b + 9007199254740988 - y.b, x.c + 9007199254740988 - y.c, x.d + 9007199254740988 - y.d, x.e + 9007199254740988 - y.e⟩
theorem YU (x y : Fn) (hx : x.lt 4503599627370496) (hy : y.lt 4503599627370496) : VN x.fe y.fe = (FM x y).fe := by
 obtain ⟨h1, h2, h3, h4, h5⟩ := hx
 obtain ⟨g1, g2, g3, g4, g5⟩ := hy
 simp only [VN, FM, Fn.fe, iW, Fe.mk.injEq]
 refine ⟨by omega, by omega, by omega, by omega, by omega⟩
theorem U8 (x y : Fn) (hy : y.lt 4503599627370496) : (FM x y).val + y.val = x.val + 4 * p := by
 obtain ⟨g1, g2, g3, g4, g5⟩ := hy
 unfold FM Fn.val p; simp only; omega
theorem YB (x y : Fn) (hx : x.lt 4503599627370496) : (FM x y).lt 18446744073709551616 := by
 obtain ⟨h1, h2, h3, h4, h5⟩ := hx
 unfold FM; exact ⟨by simp only; omega, by simp only; omega, by simp only; omega, by simp only; omega, by simp only; omega⟩
end
end Go.Proofs.YtehfkbaendajbaaGreatDoor
