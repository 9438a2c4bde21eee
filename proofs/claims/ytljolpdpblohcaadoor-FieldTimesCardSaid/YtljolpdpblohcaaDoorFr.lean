/-
  What a statement's walk is told of its arguments: elements, bytes, whole numbers.
-/
import Derived.Test.YtljolpdpblohcaaDoorProg
import Derived.Test.YtljolpdpblohcaaDoorFn
import Derived.Test.YtljolpdpblohcaaDoorFe
import Derived.Test.YtljolpdpblohcaaDoorRd
import Derived.ProofKit
import Derived.OpenShut
import Derived.ShutString
import Derived.ChangeOld
import Derived.Below
namespace Go.Proofs.YtljolpdpblohcaaDoor
open Go.ChangeShapes Go.WideShapes Go.ChangeAt Go.RowKit

theorem own : ownKnob Tryd.prog.godebug = none := by kernel_rfl
theorem laidOut : laidOutB Tryd.prog = true := by kernel_rfl

section
variable {H : Type} {enc : TypeId × Value → H} {W : World} {base : Nat} {v : Value} {d : DataW H} {p : List MemPlace}

theorem open_elem (hok : Value.okWide Tryd.prog W .any base 35 v) (h : DataW.Trod enc Tryd.prog W 0 (fun _ => true) true 35 v d p) : ∃ a : Fn, v = a.v ∧ a.lt 18446744073709551616 := by
  obtain ⟨cs, rfl, hsz, _⟩ : ∃ cs, v = .agg cs ∧ cs.size = Tryd.prog.cellsOf 35 ∧ Row.okWide Tryd.prog W .any base 35 cs := by
    simpa [Value.okWide, Tryd.underlying35] using hok
  have c5 : Tryd.prog.cellsOf 35 = 5 := by kernel_rfl
  have c1 : Tryd.prog.cellsOf 33 = 1 := by kernel_rfl
  rw [c5] at hsz
  obtain ⟨l⟩ := cs
  obtain ⟨fuel, hf⟩ := h
  obtain ⟨xs, m, _, _, _, hl, hel⟩ := DataW.trod_array Tryd.underlying35 hf
  have get : ∀ i, i < 5 → ∃ n : Nat, l[i]? = some (.int .u64 (n : Int)) ∧ n < 18446744073709551616 := by
    intro i hi
    have h1 := hel i hi
    rw [c1, Nat.mul_one, List.getElem?_eq_getElem (by omega)] at h1
    obtain ⟨z, e1, _, w1⟩ := DataW.trod_int Tryd.underlying33 h1
    have hz : 0 ≤ z ∧ z ≤ 18446744073709551615 := by simpa [Lit.wf, IntKind.min, IntKind.max, IntKind.signed, IntKind.bits] using w1
    refine ⟨z.toNat, ?_, by omega⟩
    have h0 : ((l.drop i).take 1)[0]? = some (.int .u64 z) := by
      have : (Value.agg ⟨l⟩).cells.toList = l := rfl
      rw [this] at e1
      rw [e1]; rfl
    rw [Int.toNat_of_nonneg hz.1]
    simpa using h0
  obtain ⟨n0, e0, l0⟩ := get 0 (by decide)
  obtain ⟨n1, e1, l1⟩ := get 1 (by decide)
  obtain ⟨n2, e2, l2⟩ := get 2 (by decide)
  obtain ⟨n3, e3, l3⟩ := get 3 (by decide)
  obtain ⟨n4, e4, l4⟩ := get 4 (by decide)
  refine ⟨⟨n0, n1, n2, n3, n4⟩, ?_, l0, l1, l2, l3, l4⟩
  have hl5 : l.length = 5 := hsz
  obtain ⟨c0, d1, c2, c3, c4, rfl⟩ : ∃ c0 d1 c2 c3 c4, l = [c0, d1, c2, c3, c4] := by
    rcases l with _ | ⟨c0, _ | ⟨d1, _ | ⟨c2, _ | ⟨c3, _ | ⟨c4, _ | ⟨c5, l⟩⟩⟩⟩⟩⟩ <;> simp at hl5
    exact ⟨_, _, _, _, _, rfl⟩
  simp only [List.getElem?_cons_zero, List.getElem?_cons_succ, Option.some.injEq] at e0 e1 e2 e3 e4
  subst e0 e1 e2 e3 e4
  rfl

theorem open_bytes (hok : Value.okWide Tryd.prog W .any base 22 v) (h : DataW.Trod enc Tryd.prog W 0 (fun _ => true) true 22 v d p) :
    ∃ (A : Option Addr) (c : Nat) (bs : List Nat), v = .slice A bs.length c ∧ Rd W .u8 A bs ∧ (∀ b ∈ bs, b < 256) ∧ bs.length ≤ c ∧ c ≤ maxLen := by
  obtain ⟨a, len, cap, rfl⟩ := okWide_slice Tryd.underlying22 hok
  obtain ⟨fuel, hf⟩ := h
  rcases open_ints Tryd.underlying22 Tryd.underlying5 (by kernel_rfl) hf with ⟨hcs, _⟩ | ⟨x, l, c, zs, hcs, _, hl, hm, hz, _, hcell, hwz⟩
  · simp [Value.cells] at hcs
    obtain ⟨rfl, rfl, rfl⟩ := hcs
    exact ⟨none, 0, [], rfl, Rd.nil _ _ _, by simp, by simp, by simp [maxLen]⟩
  · simp [Value.cells] at hcs
    obtain ⟨rfl, rfl, rfl⟩ := hcs
    have hzl : zs.length = cap := by simpa using hz
    have hw : ∀ n ∈ zs, 0 ≤ n ∧ n ≤ 255 := fun n hn => by simpa [Lit.wf, IntKind.min, IntKind.max, IntKind.signed, IntKind.bits] using hwz n hn
    have hlen : ((zs.take len).map Int.toNat).length = len := by rw [List.length_map, List.length_take]; omega
    refine ⟨some x, cap, (zs.take len).map Int.toNat, by rw [hlen], ?_, ?_, by rw [hlen]; exact hl, hm⟩
    · intro i hi
      have hi' : i < len := by rw [hlen] at hi; exact hi
      have hc := hcell i (by omega)
      obtain ⟨b, off, spot⟩ := x
      have hspot : spot = none := by simpa [Addr.add] using World.cell?_spot (hcell 0 (by omega))
      subst hspot
      refine ⟨b, off, rfl, ?_⟩
      rw [Addr.add_lit] at hc
      rw [hc]
      have hzi : zs[i]? = some (zs[i]'(by omega)) := List.getElem?_eq_getElem (by omega)
      simp only [List.getD, hzi, Option.getD_some, List.getElem_map, List.getElem_take]
      rw [Int.toNat_of_nonneg (hw _ (List.getElem_mem _)).1]
    · intro b hb
      obtain ⟨n, hn, rfl⟩ := List.mem_map.mp hb
      have := hw n (List.mem_of_mem_take hn)
      omega
theorem open_u64 (hok : Value.okWide Tryd.prog W .any base 33 v) (h : DataW.Trod enc Tryd.prog W 0 (fun _ => true) true 33 v d p) : ∃ n : Nat, v = .int .u64 n ∧ n < 18446744073709551616 := by
  obtain ⟨a, rfl, _, _, w1⟩ := open_int Tryd.underlying33 hok h
  have hz : 0 ≤ a ∧ a ≤ 18446744073709551615 := by simpa [Lit.wf, IntKind.min, IntKind.max, IntKind.signed, IntKind.bits] using w1
  exact ⟨a.toNat, by rw [Int.toNat_of_nonneg hz.1], by omega⟩
end
end Go.Proofs.YtljolpdpblohcaaDoor
