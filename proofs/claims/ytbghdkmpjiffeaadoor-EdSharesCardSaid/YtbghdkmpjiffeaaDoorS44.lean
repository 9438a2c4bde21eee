/-
  Shared, part 44: walks and plain laws; each theorem states its own conditions.
-/
import Derived.Test.YtbghdkmpjiffeaaDoorS35
import Derived.OpenShut
import Derived.ProofKit
namespace Go.Proofs.YtbghdkmpjiffeaaDoor
set_option linter.unusedSimpArgs false
set_option linter.unusedVariables false
set_option maxRecDepth 100000
set_option maxHeartbeats 8000000
section
open Go.RowKit Go.Proofs.YtbghdkmpjiffeaaDoorW.PrintLast
theorem TT (g : Nat) (d0 : Nat) (hd0 : d0 < 65536) (d1 : Nat) (hd1 : d1 < 65536) (w : World) (hg : w.heap[g]? = some (.cells #[.int .u64 (d0 : Int), .int .u64 (d1 : Int)] 24)) :
 Calls Tryd.prog 29 #[.slice (some ⟨g, 0, none⟩) 2 2, .int .i64 4] w fun e w' => (∃ b, w.heap.size ≤ b ∧ e = .returned (.slice (some ⟨b, 0, none⟩) 4 4) ∧ w'.heap[b]? = some (.cells (bn [d0 % 256, d0 / 256, d1 % 256, d1 / 256]) 5)) ∧ Below w.heap.size w w' := by
 have hmk : ∀ w, (Instr.makeSlice 22 (.int .i64 4) (.int .i64 4)).run Tryd.prog w = .ok (.slice (some ⟨w.heap.size, 0, none⟩) 4 4) (w.alloc (.cells #[.int .u8 0, .int .u8 0, .int .u8 0, .int .u8 0] 5)) := fun w => by kernel_rfl
 obtain ⟨x, hx⟩ : ∃ x : World, w = x.pin g (.cells #[.int .u64 (d0 : Int), .int .u64 (d1 : Int)] 24) := ⟨w, (aN hg).symm⟩
 have hlt : g < x.heap.size := by have := (Array.getElem?_eq_some_iff.mp hg).1; rw [hx, aA] at this; exact this
 clear hg
 subst hx
 go_enter Tryd.func29, Tryd.ntmps29
 go_wp2
 refine wp_loop_rounds 3 ?_
 iterate 3 (rw [rounds_succ]; go_wp2)
 go_ret
 refine ⟨⟨x.heap.size, by rw [aA]; exact Nat.le_refl _, rfl, ?_⟩, pl (Below.refl _ _)⟩
 refine Eq.trans ob ?_
 try simp only [ZT d0 hd0, ZT d1 hd1]
 simp only [bn, List.map, Option.some.injEq, Obj.cells.injEq, and_true, Array.mk.injEq, List.cons.injEq, Value.int.injEq, true_and]
 refine ⟨?_, ?_, ?_, ?_⟩ <;> first | rfl | exact ZT d0 hd0 | exact ZT d1 hd1 | omega
theorem acA (g : Nat) (d0 : Nat) (hd0 : d0 < 65536) (d1 : Nat) (hd1 : d1 < 65536) (d2 : Nat) (hd2 : d2 < 65536) (w : World) (hg : w.heap[g]? = some (.cells #[.int .u64 (d0 : Int), .int .u64 (d1 : Int), .int .u64 (d2 : Int)] 24)) :
 Calls Tryd.prog 29 #[.slice (some ⟨g, 0, none⟩) 3 3, .int .i64 6] w fun e w' => (∃ b, w.heap.size ≤ b ∧ e = .returned (.slice (some ⟨b, 0, none⟩) 6 6) ∧ w'.heap[b]? = some (.cells (bn [d0 % 256, d0 / 256, d1 % 256, d1 / 256, d2 % 256, d2 / 256]) 5)) ∧ Below w.heap.size w w' := by
 have hmk : ∀ w, (Instr.makeSlice 22 (.int .i64 6) (.int .i64 6)).run Tryd.prog w = .ok (.slice (some ⟨w.heap.size, 0, none⟩) 6 6) (w.alloc (.cells #[.int .u8 0, .int .u8 0, .int .u8 0, .int .u8 0, .int .u8 0, .int .u8 0] 5)) := fun w => by kernel_rfl
 obtain ⟨x, hx⟩ : ∃ x : World, w = x.pin g (.cells #[.int .u64 (d0 : Int), .int .u64 (d1 : Int), .int .u64 (d2 : Int)] 24) := ⟨w, (aN hg).symm⟩
 have hlt : g < x.heap.size := by have := (Array.getElem?_eq_some_iff.mp hg).1; rw [hx, aA] at this; exact this
 clear hg
 subst hx
 go_enter Tryd.func29, Tryd.ntmps29
 go_wp2
 refine wp_loop_rounds 4 ?_
 iterate 4 (rw [rounds_succ]; go_wp2)
 go_ret
 refine ⟨⟨x.heap.size, by rw [aA]; exact Nat.le_refl _, rfl, ?_⟩, pl (Below.refl _ _)⟩
 refine Eq.trans ob ?_
 try simp only [ZT d0 hd0, ZT d1 hd1, ZT d2 hd2]
 simp only [bn, List.map, Option.some.injEq, Obj.cells.injEq, and_true, Array.mk.injEq, List.cons.injEq, Value.int.injEq, true_and]
 refine ⟨?_, ?_, ?_, ?_, ?_, ?_⟩ <;> first | rfl | exact ZT d0 hd0 | exact ZT d1 hd1 | exact ZT d2 hd2 | omega
theorem qp (p : Pn) (P : EP) (hp : p.of P) (ns : List Nat) (k : Nat) (hk : k = ns.length) (hn : ns.length ≤ 32) (hbn : ∀ b ∈ ns, b < 256) : ∃ o : Pn, o.of (Pt.smul (bW ns) P) ∧ ∀ (A : Option Addr) (c : Nat) (w : World), kE w → Rd w .u8 A ns →
 Calls Tryd.prog 28 #[.slice A k c, p.v] w fun e w' => e = .returned (.tuple #[o.v, .int .i64 0]) ∧ Below w.heap.size w w' := by
 have ho := UR (bW ns) (bW []) (2 * max ns.length ([] : List Nat).length) p iR P Pt.zero hp oH (Nr ns hbn _ (by omega)) (Nr [] (fun _ h => nomatch h) _ (by omega))
 rw [Lu] at ho
 subst hk
 exact ⟨_, ho, fun A c w hg hr => U5 p _ A c ns hn (Lib.hid fun w hg hr => acg p iR hp.1 oH.1 A none c 0 ns [] (by omega) (Nat.zero_le _) hbn (fun _ h => nomatch h) w hg hr (Rd.nil _ _ _)) w hg hr⟩
theorem bytes4 (n : Nat) (h : n < 4294967296) : bW [n % 65536 % 256, n % 65536 / 256, n / 65536 % 256, n / 65536 / 256] = n ∧ ∀ b ∈ [n % 65536 % 256, n % 65536 / 256, n / 65536 % 256, n / 65536 / 256], b < 256 := by
 refine ⟨by simp only [bW]; omega, fun b hb => ?_⟩
 simp only [List.mem_cons, List.not_mem_nil, or_false] at hb
 omega
theorem ab5 (n : Nat) (h : n < 8589934592) : bW [n % 65536 % 256, n % 65536 / 256, n / 65536 % 65536 % 256, n / 65536 % 65536 / 256, n / 4294967296 % 256, n / 4294967296 / 256] = n ∧ ∀ b ∈ [n % 65536 % 256, n % 65536 / 256, n / 65536 % 65536 % 256, n / 65536 % 65536 / 256, n / 4294967296 % 256, n / 4294967296 / 256], b < 256 := by
 refine ⟨by simp only [bW]; omega, fun b hb => ?_⟩
 simp only [List.mem_cons, List.not_mem_nil, or_false] at hb
 omega
theorem RD (w : World) (A : Option Addr) (c : Nat) (l : Nat) (hl : l = LO) (hX : Dn w A c l) : Calls Tryd.prog 29 #[.slice A (aB l).length c, .int .i64 32] w fun e w' => (∃ b, w.heap.size ≤ b ∧ e = .returned (.slice (some ⟨b, 0, none⟩) 32 32) ∧ w'.heap[b]? = some (.cells (bn (dw 32 l)) 5)) ∧ Below w.heap.size w w' := NV A c l (by rw [hl]; decide) w hX
theorem XY : bW (dw 32 LO) = acB := by rw [yM]; decide +kernel
section
open Go.ChangeShapes Go.WideShapes Go.ChangeAt
theorem LD {H : Type} {enc : TypeId × Value → H} {W : World} {base : Nat} {v : Value} {d : DataW H} {p : List MemPlace} (hok : Value.okWide Tryd.prog W .any base 51 v) (h : DataW.Trod enc Tryd.prog W 0 (fun _ => true) true 51 v d p) : ∃ n : Nat, v = .int .u32 n ∧ n < 4294967296 := by
 obtain ⟨a, rfl, _, _, w1⟩ := open_int Tryd.underlying51 hok h
 have hz : 0 ≤ a ∧ a ≤ 4294967295 := by simpa [Lit.wf, IntKind.min, IntKind.max, IntKind.signed, IntKind.bits] using w1
 exact ⟨a.toNat, by rw [Int.toNat_of_nonneg hz.1], by omega⟩
end
end
end Go.Proofs.YtbghdkmpjiffeaaDoor
