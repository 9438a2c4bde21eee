/-
  An element's limbs, and what the text does with them, to the letter.
-/
import Derived.Test.YtljolpdpblohcaaDoorLib
namespace Go.Proofs.YtljolpdpblohcaaDoor
open Go.RowKit
set_option linter.unusedSimpArgs false

/-- An element's limbs. -/
structure Fe where
  a : Int
  b : Int
  c : Int
  d : Int
  e : Int
abbrev Fe.v (x : Fe) : Value := .agg #[.int .u64 x.a, .int .u64 x.b, .int .u64 x.c, .int .u64 x.d, .int .u64 x.e]
def lo51 (x : Int) : Int := bits .and .u64 x 2251799813685247
@[go_sem] theorem lo51_eq (x : Int) : bits .and .u64 x 2251799813685247 = lo51 x := rfl
def hi51 (x : Int) : Int := x / 2251799813685248
@[go_sem] theorem hi51_eq (x : Int) : x / 2251799813685248 = hi51 x := rfl
def w64 (x : Int) : Int := IntKind.u64.wrap x
@[go_sem] theorem w64_eq (x : Int) : IntKind.u64.wrap x = w64 x := rfl

/-! ### what the text does, to the letter -/
def rpass (x : Fe) : Fe := ⟨w64 (w64 (lo51 x.a + 0) + w64 (19 * hi51 x.e)), w64 (lo51 x.b + hi51 x.a), w64 (lo51 x.c + hi51 x.b), w64 (lo51 x.d + hi51 x.c), w64 (lo51 x.e + hi51 x.d)⟩
def rweak (x : Fe) : Fe := rpass (rpass x)
def rq (x : Fe) : Int := hi51 (w64 (x.e + hi51 (w64 (x.d + hi51 (w64 (x.c + hi51 (w64 (x.b + hi51 (w64 (x.a + 19))))))))))
def rcarry (y : Fe) (q : Int) : Fe :=
  let a := w64 (w64 (y.a + w64 (19 * q)) + 0)
  let b := w64 (y.b + hi51 a)
  let c := w64 (y.c + hi51 b)
  let d := w64 (y.d + hi51 c)
  let e := w64 (y.e + hi51 d)
  ⟨lo51 a, lo51 b, lo51 c, lo51 d, lo51 e⟩
def rred (x : Fe) : Fe := rcarry (rweak (rweak x)) (rq (rweak (rweak x)))
def radd (x y : Fe) : Fe := ⟨w64 (x.a + y.a), w64 (x.b + y.b), w64 (x.c + y.c), w64 (x.d + y.d), w64 (x.e + y.e)⟩
def rsub (x y : Fe) : Fe := ⟨w64 (w64 (x.a + 9007199254740916) - y.a), w64 (w64 (x.b + 9007199254740988) - y.b), w64 (w64 (x.c + 9007199254740988) - y.c), w64 (w64 (x.d + 9007199254740988) - y.d), w64 (w64 (x.e + 9007199254740988) - y.e)⟩


end Go.Proofs.YtljolpdpblohcaaDoor
