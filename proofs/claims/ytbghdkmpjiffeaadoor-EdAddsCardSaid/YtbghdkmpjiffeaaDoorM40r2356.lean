/-
  Shared, part 40r2356: walks and plain laws; each theorem states its own conditions.
-/
import Derived.Test.YtbghdkmpjiffeaaDoorM37r2356
import Derived.Test.YtbghdkmpjiffeaaDoorM40
namespace Go.Proofs.YtbghdkmpjiffeaaDoor
set_option linter.unusedSimpArgs false
set_option linter.unusedVariables false
set_option maxRecDepth 100000
set_option maxHeartbeats 8000000
section
open Go.RowKit Go.ChangeShapes Go.WideShapes Go.ChangeAt Go.Proofs.YtbghdkmpjiffeaaDoorW.PrintLast
section
variable {H : Type} {enc : TypeId × Value → H} {W : World} {base : Nat} {v : Value} {d : DataW H} {p : List MemPlace}
theorem qN {l : List Value} {fuel : Nat} {x : DataW H × List MemPlace} (hf : DataW.trod enc Tryd.prog W 0 (fun _ => true) true fuel 26 l = some x) : ∃ a : Fn, l = [.int .u64 a.a, .int .u64 a.b, .int .u64 a.c, .int .u64 a.d, .int .u64 a.e] ∧ a.lt 18446744073709551616 := by
 have c5 : Tryd.prog.cellsOf 26 = 5 := by kernel_rfl
 have c1 : Tryd.prog.cellsOf 24 = 1 := by kernel_rfl
 obtain ⟨xs, m, _, _, hl5, hl, hel⟩ := DataW.trod_array Tryd.underlying26 hf
 rw [c5] at hl5
 have get : ∀ i, i < 5 → ∃ n : Nat, l[i]? = some (.int .u64 (n : Int)) ∧ n < 18446744073709551616 := by
  intro i hi
  have h1 := hel i hi
  rw [c1, Nat.mul_one, List.getElem?_eq_getElem (by omega)] at h1
  obtain ⟨z, e1, _, w1⟩ := DataW.trod_int Tryd.underlying24 h1
  have hz : 0 ≤ z ∧ z ≤ 18446744073709551615 := by simpa [Lit.wf, IntKind.min, IntKind.max, IntKind.signed, IntKind.bits] using w1
  refine ⟨z.toNat, ?_, by omega⟩
  have h0 : ((l.drop i).take 1)[0]? = some (.int .u64 z) := by rw [e1]; rfl
  rw [Int.toNat_of_nonneg hz.1]
  simpa using h0
 obtain ⟨n0, e0, l0⟩ := get 0 (by decide)
 obtain ⟨n1, e1, l1⟩ := get 1 (by decide)
 obtain ⟨n2, e2, l2⟩ := get 2 (by decide)
 obtain ⟨n3, e3, l3⟩ := get 3 (by decide)
 obtain ⟨n4, e4, l4⟩ := get 4 (by decide)
 refine ⟨⟨n0, n1, n2, n3, n4⟩, ?_, l0, l1, l2, l3, l4⟩
 obtain ⟨c0, d1, c2, c3, c4, rfl⟩ : ∃ c0 d1 c2 c3 c4, l = [c0, d1, c2, c3, c4] := by
  rcases l with _ | ⟨c0, _ | ⟨d1, _ | ⟨c2, _ | ⟨c3, _ | ⟨c4, _ | ⟨c5, l⟩⟩⟩⟩⟩⟩ <;> simp at hl5
  exact ⟨_, _, _, _, _, rfl⟩
 simp only [List.getElem?_cons_zero, List.getElem?_cons_succ, Option.some.injEq] at e0 e1 e2 e3 e4
 subst e0 e1 e2 e3 e4
 rfl
theorem KX (hok : Value.okWide Tryd.prog W .any base 28 v) (h : DataW.Trod enc Tryd.prog W 0 (fun _ => true) true 28 v d p) : ∃ a : Pn, v = a.v ∧ a.lt := by
 obtain ⟨cs, rfl, hsz, _⟩ : ∃ cs, v = .agg cs ∧ cs.size = Tryd.prog.cellsOf 28 ∧ Row.okWide Tryd.prog W .any base 28 cs := by
  simpa [Value.okWide, Tryd.underlying28] using hok
 obtain ⟨l⟩ := cs
 obtain ⟨fuel, hf⟩ := h
 have c20 : Tryd.prog.cellsOf 28 = 20 := by kernel_rfl
 have c5 : Tryd.prog.cellsOf 26 = 5 := by kernel_rfl
 obtain ⟨xs, m, _, _, hl, hxl, hel⟩ := DataW.trod_struct Tryd.underlying28 hf
 have hl0 : (Value.agg ⟨l⟩).cells.toList = l := rfl
 rw [hl0, c20] at hl
 rw [hl0] at hel
 have hx4 : xs.length = 4 := hxl
 have f0 : DataW.trod enc Tryd.prog W 0 (fun _ => true) true m 26 ((l.drop 0).take (Tryd.prog.cellsOf 26 )) = xs[0]? := hel 0 _ rfl
 have f1 : DataW.trod enc Tryd.prog W 0 (fun _ => true) true m 26 ((l.drop 5).take (Tryd.prog.cellsOf 26 )) = xs[1]? := hel 1 _ rfl
 have f2 : DataW.trod enc Tryd.prog W 0 (fun _ => true) true m 26 ((l.drop 10).take (Tryd.prog.cellsOf 26 )) = xs[2]? := hel 2 _ rfl
 have f3 : DataW.trod enc Tryd.prog W 0 (fun _ => true) true m 26 ((l.drop 15).take (Tryd.prog.cellsOf 26 )) = xs[3]? := hel 3 _ rfl
 rw [c5] at f0 f1 f2 f3
 rw [List.getElem?_eq_getElem (by omega)] at f0 f1 f2 f3
 obtain ⟨x, ex, lx⟩ := qN f0
 obtain ⟨y, ey, ly⟩ := qN f1
 obtain ⟨z, ez, lz⟩ := qN f2
 obtain ⟨t, et, lt⟩ := qN f3
 refine ⟨⟨x, y, z, t⟩, ?_, lx, ly, lz, lt⟩
 have aen : l = (l.drop 0).take 5 ++ ((l.drop 5).take 5 ++ ((l.drop 10).take 5 ++ (l.drop 15).take 5)) := by
  rw [List.drop_zero]
  conv => lhs; rw [← List.take_append_drop 5 l]
  congr 1
  conv => lhs; rw [← List.take_append_drop 5 (l.drop 5)]
  congr 1
  rw [List.drop_drop]
  conv => lhs; rw [← List.take_append_drop 5 (l.drop (5 + 5))]
  congr 1
  rw [List.drop_drop, List.take_of_length_le (by rw [List.length_drop]; omega)]
 rw [ex, ey, ez, et] at aen
 rw [aen]
 rfl
end
section
variable {P : Program} {ops : Array Oper} {rest : List Oper} {o : Oper} {a : Act} {w : World} {Q : Exit → Act → World → Prop}
end
theorem lN (A : Option Addr) (c : Nat) (bs : List Nat) (lc : bs.length ≤ c) (hl : bs.length ≤ 100) (hby : ∀ z ∈ bs, z < 256) (w : World) (h5 : uU w) (hr : Rd w .u8 A bs) : Calls Tryd.prog 19 #[.slice A bs.length c] w fun e w' => (∃ (P : EP) (h : Pn) (o : Dp), e = .returned (.tuple #[h.v, o.v]) ∧ h.of P ∧ o.of P ∧ o.ok w') ∧ Below w.heap.size w w' := by
 by_cases h : qW bs
 · exact Qa A c bs lc hl hby h w h5 hr
 · exact Vq A c bs lc hl hby h w h5 hr
end
end Go.Proofs.YtbghdkmpjiffeaaDoor
