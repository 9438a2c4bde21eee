/-
  Shared, part 6: walks and plain laws; each theorem states its own conditions.
-/
import Derived.Test.YtehfkbaendajbaaGreatDoorB5
import Derived.StillTailTactics
namespace Go.Proofs.YtehfkbaendajbaaGreatDoor
set_option linter.unusedSimpArgs false
set_option linter.unusedVariables false
set_option maxRecDepth 100000
set_option maxHeartbeats 8000000
section
open Go.RowKit Go.Proofs.YtehfkbaendajbaaGreatDoorW.PrintLast
theorem wk {x : Fn} (h : x.lt (2251799813685248 + 19)) : x.lt 4503599627370496 := Fn.lJ h (by decide)
theorem kG (x : Fn) (h : x.lt 18446744073709551616) : (lK x).lt 4503599627370496 := wk (xG x h)
theorem iQ {x : Fn} (h : x.lt 4503599627370496) : x.lt 18446744073709551616 := Fn.lJ h (by decide)
theorem VU (n : Nat) : (small n).lt 4503599627370496 := Fn.lJ (Ci n) (by decide)
theorem aF (n : Nat) : (small n).lt 18446744073709551616 := Fn.lJ (Ci n) (by decide)
theorem bY {m n : Nat} (h : m % Num.p = n % Num.p) : small m = small n := by unfold small; rw [h]
theorem yA (n : Nat) (h : n < 18446744073709551616) (w : World) :
 Calls Tryz.prog 57 #[.int .u64 n] w fun e w' => e = .returned (small n).v ∧ Below w.heap.size w w' := by
 have K1 : uT (n : Int) = (((small n).a : Nat) : Int) := by rw [jV n h]; unfold small dI Num.p; simp only; omega
 have K2 : lU (n : Int) = (((small n).b : Nat) : Int) := by rw [Fg n]; unfold small dI Num.p; simp only; omega
 have K3 := Lib.hid (show (small n).c = 0 ∧ (small n).d = 0 ∧ (small n).e = 0 by unfold small dI Num.p; simp only; omega)
 clear h
 go_enter Tryz.func57, Tryz.ntmps57
 go_wp2
 refine bodyPost_ret (v := .agg #[.int .u64 (small n).a, .int .u64 (small n).b, .int .u64 0, .int .u64 0, .int .u64 0]) ?_ rfl ⟨?_, ?_⟩
 · simp [results, Tryz.results57, go_sem]
 · obtain ⟨k1, k2, k3⟩ := K3.out
   simp only [Fn.v, k1, k2, k3]
   rfl
 · exact (pl (Below.refl _ _))
theorem QO (a b : Fn) (hx : a.lt 18446744073709551616) (hy : b.lt 18446744073709551616) (w : World) :
 Calls Tryz.prog 58 #[a.v, b.v] w fun e w' => e = .returned (small (FK (lK a) (lK b)).val).v ∧ Below w.heap.size w w' := by
 have CX := Lib.hid (kG a hx)
 have CY := Lib.hid (kG b hy)
 have CX0 := Lib.hid hx
 have CY0 := Lib.hid hy
 clear hx hy
 go_enter Tryz.func58, Tryz.ntmps58
 go_wp2_with fail
 refine st1 w [6] 7 (ak (b := w.heap.size) ob (ak (b := w.heap.size + 1) ob (ak (b := w.heap.size + 2) ob (aO (pl (Below.refl _ _)))))) (fun HS => ?_)
 refine take_ #[true, false, false, false, false, false, false] (i := 0) (v := ?v1) rfl rfl (by kernel_rfl) (fun _ _ _ h => h) (Or.inl ⟨by rfl, ?hy1⟩) HS rfl ?_
 case hy1 => (intro v hv; obtain ⟨x, rfl, _, _, n0, n1, n2⟩ := hv.eG; go_simp; first | done | with_reducible rfl)
 simp only [Act.put, List.setIfInBounds_toArray, List.set_cons_zero, List.set_cons_succ]
 refine take_ #[true, false, true, false, false, false, false] (i := 2) (v := ?v2) rfl rfl (by kernel_rfl) (fun _ _ _ h => h) (Or.inl ⟨by rfl, ?hy2⟩) HS rfl ?_
 case hy2 => (intro v hv; obtain ⟨x, rfl, _, _, n0, n1, n2⟩ := hv.eG; go_simp; first | done | with_reducible rfl)
 simp only [Act.put, List.setIfInBounds_toArray, List.set_cons_zero, List.set_cons_succ]
 refine one_ #[true, true, true, false, false, false, false] (i := 1) rfl rfl (by kernel_rfl) (by decide) (fun K hK => ?_)
 go_simp
 refine (kM a CX0.out _).mono ?_
 rintro e y ⟨rfl, hb⟩
 refine hK.out _ _ (HS.step hb rfl) ?_
 clear HS hb
 intro HS
 refine one_ #[true, true, true, true, false, false, false] (i := 3) rfl rfl (by kernel_rfl) (by decide) (fun K hK => ?_)
 go_simp
 refine (kM b CY0.out _).mono ?_
 rintro e y ⟨rfl, hb⟩
 refine hK.out _ _ (HS.step hb rfl) ?_
 clear HS hb
 intro HS
 refine one_ #[true, true, true, true, true, false, false] (i := 4) rfl rfl (by kernel_rfl) (by decide) (fun K hK => ?_)
 go_simp
 refine (Xj _ _ CX.out CY.out _).mono ?_
 rintro e y ⟨rfl, hb⟩
 refine hK.out _ _ (HS.step hb rfl) ?_
 clear HS hb
 intro HS
 refine one_ #[true, true, true, true, true, true, false] (i := 5) rfl rfl (by kernel_rfl) (by decide) (fun K hK => ?_)
 go_simp
 refine (reduce_nat _ (YA _ _ CX.out CY.out) _).mono ?_
 rintro e y ⟨rfl, hb⟩
 refine hK.out _ _ (HS.step hb rfl) ?_
 clear HS hb
 intro HS
 obtain ⟨x1, rfl, hk1, hz1, l10, nG, l12⟩ := HS.eG
 have HB1 : Hid (Below w.heap.size w x1) := hk1.below
 clear HS hk1
 refine last_ #[true, true, true, true, true, true, true] (i := 6) rfl rfl (by kernel_rfl) (by decide) (fun K hK => ?_)
 go_simp
 refine hK.out _ _ ?_
 refine done_ (by kernel_rfl) ?_
 go_wp2_with fail
 refine bodyPost_ret (v := (small (FK (lK a) (lK b)).val).v) ?_ rfl ⟨rfl, ?_⟩
 · simp [results, Tryz.results58, go_sem, l10, nG, l12]
 · exact (pl HB1.out)
theorem WM (a b : Fn) (hx : a.lt 18446744073709551616) (hy : b.lt 18446744073709551616) (w : World) : Calls Tryz.prog 58 #[a.v, b.v] w fun e w' => e = .returned (small (a.val + b.val)).v ∧ Below w.heap.size w w' := by
 have h := QO a b hx hy w
 rw [U6, bY (n := a.val + b.val) (by rw [Nat.add_mod, gU, gU, ← Nat.add_mod])] at h
 exact h
theorem RF (a b : Fn) (hx : a.lt 18446744073709551616) (hy : b.lt 18446744073709551616) (w : World) :
 Calls Tryz.prog 56 #[a.v, b.v] w fun e w' => e = .returned (small (FM (lK a) (lK b)).val).v ∧ Below w.heap.size w w' := by
 have CX := Lib.hid (kG a hx)
 have CY := Lib.hid (kG b hy)
 have CX0 := Lib.hid hx
 have CY0 := Lib.hid hy
 clear hx hy
 go_enter Tryz.func56, Tryz.ntmps56
 go_wp2_with fail
 refine st1 w [6] 7 (ak (b := w.heap.size) ob (ak (b := w.heap.size + 1) ob (ak (b := w.heap.size + 2) ob (aO (pl (Below.refl _ _)))))) (fun HS => ?_)
 refine take_ #[true, false, false, false, false, false, false] (i := 0) (v := ?v1) rfl rfl (by kernel_rfl) (fun _ _ _ h => h) (Or.inl ⟨by rfl, ?hy1⟩) HS rfl ?_
 case hy1 => (intro v hv; obtain ⟨x, rfl, _, _, n0, n1, n2⟩ := hv.eG; go_simp; first | done | with_reducible rfl)
 simp only [Act.put, List.setIfInBounds_toArray, List.set_cons_zero, List.set_cons_succ]
 refine take_ #[true, false, true, false, false, false, false] (i := 2) (v := ?v2) rfl rfl (by kernel_rfl) (fun _ _ _ h => h) (Or.inl ⟨by rfl, ?hy2⟩) HS rfl ?_
 case hy2 => (intro v hv; obtain ⟨x, rfl, _, _, n0, n1, n2⟩ := hv.eG; go_simp; first | done | with_reducible rfl)
 simp only [Act.put, List.setIfInBounds_toArray, List.set_cons_zero, List.set_cons_succ]
 refine one_ #[true, true, true, false, false, false, false] (i := 1) rfl rfl (by kernel_rfl) (by decide) (fun K hK => ?_)
 go_simp
 refine (kM a CX0.out _).mono ?_
 rintro e y ⟨rfl, hb⟩
 refine hK.out _ _ (HS.step hb rfl) ?_
 clear HS hb
 intro HS
 refine one_ #[true, true, true, true, false, false, false] (i := 3) rfl rfl (by kernel_rfl) (by decide) (fun K hK => ?_)
 go_simp
 refine (kM b CY0.out _).mono ?_
 rintro e y ⟨rfl, hb⟩
 refine hK.out _ _ (HS.step hb rfl) ?_
 clear HS hb
 intro HS
 refine one_ #[true, true, true, true, true, false, false] (i := 4) rfl rfl (by kernel_rfl) (by decide) (fun K hK => ?_)
 go_simp
 refine (Y7 _ _ CX.out CY.out _).mono ?_
 rintro e y ⟨rfl, hb⟩
 refine hK.out _ _ (HS.step hb rfl) ?_
 clear HS hb
 intro HS
 refine one_ #[true, true, true, true, true, true, false] (i := 5) rfl rfl (by kernel_rfl) (by decide) (fun K hK => ?_)
 go_simp
 refine (reduce_nat _ (YB _ _ CX.out) _).mono ?_
 rintro e y ⟨rfl, hb⟩
 refine hK.out _ _ (HS.step hb rfl) ?_
 clear HS hb
 intro HS
 obtain ⟨x1, rfl, hk1, hz1, l10, nG, l12⟩ := HS.eG
 have HB1 : Hid (Below w.heap.size w x1) := hk1.below
 clear HS hk1
 refine last_ #[true, true, true, true, true, true, true] (i := 6) rfl rfl (by kernel_rfl) (by decide) (fun K hK => ?_)
 go_simp
 refine hK.out _ _ ?_
 refine done_ (by kernel_rfl) ?_
 go_wp2_with fail
 refine bodyPost_ret (v := (small (FM (lK a) (lK b)).val).v) ?_ rfl ⟨rfl, ?_⟩
 · simp [results, Tryz.results56, go_sem, l10, nG, l12]
 · exact (pl HB1.out)
def dD (x y : Nat) : Nat := (x % Num.p + (Num.p - y % Num.p)) % Num.p
theorem Y6 {x y s : Nat} (h : s + y = x + 4 * Num.p) : s % Num.p = dD x y % Num.p := by
 unfold dD Num.p at *
 omega
theorem Md (a b : Fn) (hx : a.lt 18446744073709551616) (hy : b.lt 18446744073709551616) (w : World) : Calls Tryz.prog 56 #[a.v, b.v] w fun e w' => e = .returned (small (dD a.val b.val)).v ∧ Below w.heap.size w w' := by
 have h := RF a b hx hy w
 rw [bY (n := dD a.val b.val) (by
  rw [Y6 (U8 _ _ (kG b hy))]
  unfold dD
  rw [gU, gU])] at h
 exact h
theorem L6 (a b : Fn) (hx : a.lt 18446744073709551616) (hy : b.lt 18446744073709551616) (w : World) :
 Calls Tryz.prog 38 #[a.v, b.v] w fun e w' => e = .returned (small (a.val * b.val)).v ∧ Below w.heap.size w w' := by
 have CX := Lib.hid (kG a hx)
 have CY := Lib.hid (kG b hy)
 have CX0 := Lib.hid hx
 have CY0 := Lib.hid hy
 clear hx hy
 go_enter Tryz.func38, Tryz.ntmps38
 go_wp2_with fail
 refine st1 w [6] 7 (ak (b := w.heap.size) ob (ak (b := w.heap.size + 1) ob (ak (b := w.heap.size + 2) ob (aO (pl (Below.refl _ _)))))) (fun HS => ?_)
 refine take_ #[true, false, false, false, false, false, false] (i := 0) (v := ?v1) rfl rfl (by kernel_rfl) (fun _ _ _ h => h) (Or.inl ⟨by rfl, ?hy1⟩) HS rfl ?_
 case hy1 => (intro v hv; obtain ⟨x, rfl, _, _, n0, n1, n2⟩ := hv.eG; go_simp; first | done | with_reducible rfl)
 simp only [Act.put, List.setIfInBounds_toArray, List.set_cons_zero, List.set_cons_succ]
 refine take_ #[true, false, true, false, false, false, false] (i := 2) (v := ?v2) rfl rfl (by kernel_rfl) (fun _ _ _ h => h) (Or.inl ⟨by rfl, ?hy2⟩) HS rfl ?_
 case hy2 => (intro v hv; obtain ⟨x, rfl, _, _, n0, n1, n2⟩ := hv.eG; go_simp; first | done | with_reducible rfl)
 simp only [Act.put, List.setIfInBounds_toArray, List.set_cons_zero, List.set_cons_succ]
 refine one_ #[true, true, true, false, false, false, false] (i := 1) rfl rfl (by kernel_rfl) (by decide) (fun K hK => ?_)
 go_simp
 refine (kM a CX0.out _).mono ?_
 rintro e y ⟨rfl, hb⟩
 refine hK.out _ _ (HS.step hb rfl) ?_
 clear HS hb
 intro HS
 refine one_ #[true, true, true, true, false, false, false] (i := 3) rfl rfl (by kernel_rfl) (by decide) (fun K hK => ?_)
 go_simp
 refine (kM b CY0.out _).mono ?_
 rintro e y ⟨rfl, hb⟩
 refine hK.out _ _ (HS.step hb rfl) ?_
 clear HS hb
 intro HS
 refine one_ #[true, true, true, true, true, false, false] (i := 4) rfl rfl (by kernel_rfl) (by decide) (fun K hK => ?_)
 go_simp
 refine (mul_any _ _ CX.out CY.out _).mono ?_
 rintro e y ⟨⟨r, hr, hv, rfl⟩, hb⟩
 have HR := Lib.hid (And.intro hr hv)
 clear hr hv
 refine hK.out _ _ (HS.step hb rfl) ?_
 clear HS hb
 intro HS
 refine one_ #[true, true, true, true, true, true, false] (i := 5) rfl rfl (by kernel_rfl) (by decide) (fun K hK => ?_)
 go_simp
 refine (reduce_nat _ (iQ (wk HR.out.1)) _).mono ?_
 rintro e y ⟨rfl, hb⟩
 refine hK.out _ _ (HS.step hb rfl) ?_
 clear HS hb
 intro HS
 obtain ⟨x1, rfl, hk1, hz1, l10, nG, l12⟩ := HS.eG
 have HB1 : Hid (Below w.heap.size w x1) := hk1.below
 clear HS hk1
 refine last_ #[true, true, true, true, true, true, true] (i := 6) rfl rfl (by kernel_rfl) (by decide) (fun K hK => ?_)
 go_simp
 refine hK.out _ _ ?_
 refine done_ (by kernel_rfl) ?_
 go_wp2_with fail
 refine bodyPost_ret (v := (small r.val).v) ?_ rfl ⟨congrArg (fun z : Fn => Ending.returned z.v) (bY (by rw [HR.out.2, Nat.mul_mod, gU, gU, ← Nat.mul_mod])), ?_⟩
 · simp [results, Tryz.results38, go_sem, l10, nG, l12]
 · exact (pl HB1.out)
end
section
open Go.RowKit Go.Proofs.YtehfkbaendajbaaGreatDoorW.PrintLast
def iq (lo hi : Nat) : List Nat := [lo, 255, 255, 255, 255, 255, 255, 255, 255, 255, 255, 255, 255, 255, 255, 255, 255, 255, 255, 255, 255, 255, 255, 255, 255, 255, 255, 255, 255, 255, 255, hi]
theorem UN (w : World) : (Instr.makeSlice 22 (.int .i64 32) (.int .i64 32)).run Tryz.prog w = .ok (.slice (some ⟨w.heap.size, 0, none⟩) 32 32) (w.alloc (.cells #[.int .u8 0, .int .u8 0, .int .u8 0, .int .u8 0, .int .u8 0, .int .u8 0, .int .u8 0, .int .u8 0, .int .u8 0, .int .u8 0, .int .u8 0, .int .u8 0, .int .u8 0, .int .u8 0, .int .u8 0, .int .u8 0, .int .u8 0, .int .u8 0, .int .u8 0, .int .u8 0, .int .u8 0, .int .u8 0, .int .u8 0, .int .u8 0, .int .u8 0, .int .u8 0, .int .u8 0, .int .u8 0, .int .u8 0, .int .u8 0, .int .u8 0, .int .u8 0] 5)) := by kernel_rfl
theorem mZ (lo hi : Nat) (w : World) :
 Calls Tryz.prog 78 #[.int .u8 lo, .int .u8 hi] w fun e w' => (∃ A c, e = .returned (.slice A 32 c) ∧ Rd w' .u8 A (iq lo hi)) ∧ Below w.heap.size w w' := by
 have hmk := UN
 go_enter Tryz.func78, Tryz.ntmps78
 go_wp2
 refine wp_loop_rounds 33 ?_
 iterate 33 (rw [rounds_succ]; go_wp2)
 go_ret
 refine ⟨⟨_, _, rfl, jC (b := w.heap.size) ob ?_⟩, (pl (Below.refl _ _))⟩
 intro i hi
 have hi' : i < 32 := hi
 clear hmk
 rcases i with _ | _ | _ | _ | _ | _ | _ | _ | _ | _ | _ | _ | _ | _ | _ | _ | _ | _ | _ | _ | _ | _ | _ | _ | _ | _ | _ | _ | _ | _ | _ | _ | i
 all_goals first | rfl | omega
theorem aaT (e k : Nat) (h : e < 256) : (bits .and .u8 ((e : Int) / 2 ^ (k % 8)) 1 == 1) = decide (e / 2 ^ (k % 8) % 2 = 1) := by
 have e1 : ((e : Int) / 2 ^ (k % 8)) = ((e / 2 ^ (k % 8) : Nat) : Int) := by rw [Int.natCast_ediv, Int.natCast_pow]; rfl
 have hlt : e / 2 ^ (k % 8) < 256 := Nat.lt_of_le_of_lt (Nat.div_le_self _ _) h
 rw [e1]
 generalize e / 2 ^ (k % 8) = n at *
 have hb := (bits_nat .u8 8 (by decide) wraps_u8 n 1 (by omega) (by omega)).1
 have e2 : bits .and .u8 (n : Int) 1 = ((n % 2 : Nat) : Int) := by
  rw [← Nat.and_one_is_mod]; exact hb
 rw [e2]
 by_cases hn : n % 2 = 1
 · rw [hn]; rfl
 · have : n % 2 = 0 := by omega
   rw [this]; rfl
theorem IU {a r s E k P : Nat} (hr : r % P = a ^ (E / 2 ^ (k + 1)) % P) (hs : s % P = r * r % P) (hb : E / 2 ^ k % 2 = 0) : s % P = a ^ (E / 2 ^ k) % P := by
 have e1 : E / 2 ^ k = E / 2 ^ (k + 1) + E / 2 ^ (k + 1) := by
  rw [Nat.pow_succ, ← Nat.div_div_eq_div_mul]; omega
 rw [e1]
 generalize E / 2 ^ (k + 1) = q at *
 rw [hs, Nat.mul_mod, hr, ← Nat.mul_mod, Nat.pow_add]
theorem Et {a r s u E k P : Nat} (hr : r % P = a ^ (E / 2 ^ (k + 1)) % P) (hs : s % P = r * r % P) (hu : u % P = s * a % P) (hb : E / 2 ^ k % 2 = 1) : u % P = a ^ (E / 2 ^ k) % P := by
 have e1 : E / 2 ^ k = E / 2 ^ (k + 1) + E / 2 ^ (k + 1) + 1 := by
  rw [Nat.pow_succ, ← Nat.div_div_eq_div_mul]; omega
 rw [e1]
 generalize E / 2 ^ (k + 1) = q at *
 have h1 : s % P = (a ^ q * a ^ q) % P := by rw [hs, Nat.mul_mod, hr, ← Nat.mul_mod]
 rw [hu, Nat.mul_mod, h1, ← Nat.mul_mod, Nat.pow_succ, Nat.pow_add]
theorem Qb (a : Fn) (ha : a.lt 4503599627370496) (A : Option Addr) (c : Nat) (es : List Nat) (hl : es.length ≤ 1000) (hby : ∀ b ∈ es, b < 256) (w : World) (hr : Rd w .u8 A es) :
 Calls Tryz.prog 76 #[a.v, .slice A es.length c] w fun e w' => (∃ r : Fn, r.lt (2251799813685248 + 19) ∧ r.val % Num.p = a.val ^ bW es % Num.p ∧ e = .returned r.v) ∧ Below w.heap.size w w' := by
 have HA := Lib.hid ha
 have mJ := Lib.hid hr
 have rV := Lib.hid hby
 clear ha hr hby
 go_enter Tryz.func76, Tryz.ntmps76
 go_wp2_with fail
 refine (yA 1 (by decide) _).mono ?_
 rintro e y1 ⟨rfl, hb1⟩
 obtain ⟨x1, rfl, hc1, hz1, l10, nG⟩ := fO (b0 := w.heap.size) (b1 := w.heap.size + 1) hb1 rfl ob ob
 have HB1 : Hid (Below w.heap.size w x1) := Below.trans (pl (Below.refl _ _)) (hc1.mono sz)
 clear hb1 hc1
 try simp only [eF] at hz1
 go_wp2_with fail
 have HP : Hid (w.heap.size ≤ x1.heap.size) := by have := HB1.out.size; exact this
 go_loopw [6] (fun i wr => ∃ (k : Nat) (r : Fn) (x : World), i = .int .i64 ((k : Int) - 1) ∧ wr = ((x.pin w.heap.size (.cells #[.int .u64 a.a, .int .u64 a.b, .int .u64 a.c, .int .u64 a.d, .int .u64 a.e] 36)).pin (w.heap.size + 1) (.cells #[.int .u64 0, .int .u64 0, .int .u64 0, .int .u64 0, .int .u64 0] 36)).pin x1.heap.size (.cells #[.int .u64 r.a, .int .u64 r.b, .int .u64 r.c, .int .u64 r.d, .int .u64 r.e] 36) ∧ w.heap.size < x.heap.size ∧ w.heap.size + 1 < x.heap.size ∧ x1.heap.size < x.heap.size ∧ Hid (Below w.heap.size w x ∧ k ≤ 8 * es.length ∧ r.lt (2251799813685248 + 19) ∧ r.val % Num.p = a.val ^ (bW es / 2 ^ k) % Num.p)) (fun i _ => (intOf i + 1).toNat)
 case atStart => exact ⟨8 * es.length, small 1, _, by simp, jf ob ob ob, sz, sz, sz, (pl HB1.out), Nat.le_refl _, Fn.lJ (Ci 1) (by decide), by rw [Ns es rV.out, jh, Nat.pow_zero, Nat.mod_mod]⟩
 case round =>
  obtain ⟨k, r, x, rfl, rfl, q0, q1, q2, H⟩ := hrel
  rcases k with _ | k
  · go_wp2_with fail
    exact bodyPost_ret (v := r.v) (by simp [results, Tryz.results76, go_sem, q0, q1, q2, l10, nG]) rfl ⟨⟨r, H.out.2.2.1, by rw [H.out.2.2.2, Nat.pow_zero, Nat.div_one], rfl⟩, (pl H.out.1)⟩
  · rw [show (((k + 1 : Nat) : Int) - 1) = (k : Int) from by omega]
    have hk8 : k / 8 < es.length := by have := H.out.2.1; omega
    obtain ⟨b, off, rfl, hbw, hcell⟩ := mJ.out.place (by omega)
    have hbx : b < x1.heap.size := by have := HP.out; omega
    obtain ⟨ev, hev⟩ : ∃ v, v = es[k / 8] := ⟨_, rfl⟩
    have hc := hcell (k / 8) hk8
    rw [← hev] at hc
    have HC := Lib.hid hc
    have HE := Lib.hid hev
    clear hc hcell hev
    have hi0 : (0 : Int) ≤ (k : Int) / 8 := by omega
    have hi1 : (k : Int) / 8 < (es.length : Int) := by omega
    have HB2 : Hid (Below w.heap.size w x) := H.out.1
    have hE : bW es / 2 ^ k % 2 = ev / 2 ^ (k % 8) % 2 := by rw [xA es rV.out k hk8]; simp only [HE.out]
    have hev : ev < 256 := by rw [HE.out]; exact rV.out _ (List.getElem_mem _)
    have WT := Lib.hid (And.intro hE (aaT ev k hev))
    clear hE hev
    go_wp2_with fail
    refine (mul_any r r (wk H.out.2.2.1) (wk H.out.2.2.1) _).mono ?_
    rintro e y3 ⟨⟨r2, hr2, hv2, rfl⟩, hb3⟩
    obtain ⟨x3, rfl, hc3, hz3, nN, uq, zn⟩ := bZ (b0 := w.heap.size) (b1 := w.heap.size + 1) (b2 := x1.heap.size) hb3 rfl ob ob ob
    have HB3 := aZ HB2.out hc3
    clear hb3 hc3
    try simp only [eF] at hz3
    have HR2 := Lib.hid (And.intro hr2 hv2)
    clear hr2 hv2
    have hc3 : x3.cell? ⟨b, off + k / 8, none⟩ = some (.int .u8 (ev : Int)) := (HB3.out.cell (p := ⟨b, off + k / 8, none⟩) hbw).trans HC.out
    go_wp2_with fail
    rotate_left
    · rename_i hbit
      have hb0 : bW es / 2 ^ k % 2 = 0 := by
       have h1 := WT.out.2
       rw [hbit] at h1
       have h2 := of_decide_eq_false h1.symm
       have := WT.out.1
       omega
      go_roundw
      case rel => exact ⟨k, r2, x3, rfl, rfl, nN, uq, zn, HB3.out, by have := H.out.2.1; omega, HR2.out.1, IU H.out.2.2.2 HR2.out.2 hb0⟩
      case measure => first | (simp [intOf]; done) | (simp [intOf]; omega)
    have hb1 : Hid (bW es / 2 ^ k % 2 = 1) := by
     have hbit : (bits .and .u8 ((ev : Int) / 2 ^ (k % 8)) 1 == 1) = true := by assumption
     have h1 := WT.out.2
     rw [hbit] at h1
     have h2 := of_decide_eq_true h1.symm
     have := WT.out.1
     show bW es / 2 ^ k % 2 = 1
     omega
    refine (mul_any r2 a (wk HR2.out.1) HA.out _).mono ?_
    rintro e y4 ⟨⟨r3, hr3, hv3, rfl⟩, hb4⟩
    obtain ⟨x4, rfl, hc4, lT, rU, yL, Dj⟩ := bZ (b0 := w.heap.size) (b1 := w.heap.size + 1) (b2 := x1.heap.size) hb4 rfl ob ob ob
    have HB4 := aZ HB3.out hc4
    clear hb4 hc4
    try simp only [eF] at lT
    have HR3 := Lib.hid (And.intro hr3 hv3)
    clear hr3 hv3
    go_wp2_with fail
    go_roundw
    case rel => exact ⟨k, r3, x4, rfl, rfl, rU, yL, Dj, HB4.out, by have := H.out.2.1; omega, HR3.out.1, Et H.out.2.2.2 HR2.out.2 HR3.out.2 hb1.out⟩
    case measure => first | (simp [intOf]; done) | (simp [intOf]; omega)
end
end Go.Proofs.YtehfkbaendajbaaGreatDoor
