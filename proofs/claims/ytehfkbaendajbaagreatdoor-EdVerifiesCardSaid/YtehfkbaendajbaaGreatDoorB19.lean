/-
  Shared, part 19: walks and plain laws; each theorem states its own conditions.
-/
import Derived.Test.YtehfkbaendajbaaGreatDoorB15
import Derived.Test.YtehfkbaendajbaaGreatDoorB18
import Derived.Deep.Upon
import Derived.Laws.MakeOwn
import Derived.Maps.AppendAt
import Derived.OwnWalk
namespace Go.Proofs.YtehfkbaendajbaaGreatDoor
set_option linter.unusedSimpArgs false
set_option linter.unusedVariables false
set_option maxRecDepth 100000
set_option maxHeartbeats 8000000
section
open Go.RowKit Go.Proofs.YtehfkbaendajbaaGreatDoorW.PrintLast
def FT (v : V8) (i : Nat) : List Nat := (List.range i).flatMap fun j => zI 8 (v.at j)
theorem ES : ∀ k n, (zI k n).length = k
 | 0, _ => rfl
 | k + 1, n => by rw [zI, List.length_cons, ES k]
theorem jW (v : V8) (i : Nat) : FT v (i + 1) = FT v i ++ zI 8 (v.at i) := by
 unfold FT
 rw [List.range_succ, List.flatMap_append]
 simp
theorem Vt (v : V8) : FT v 8 = v.out 8 := by
 rw [jW, jW, jW, jW, jW, jW, jW, jW]
 simp only [List.append_assoc]
 rfl
theorem NC (k : Nat) (v : V8) : (v.out k).length = 8 * k := by
 unfold V8.out
 simp only [List.length_append, ES]
 omega
abbrev bv (x : Nat) : Value := .int .u8 (x : Int)
def OwnB (w : World) (B g cap : Nat) (bs : List Nat) : Prop := w.ownsRow B 5 1 (.slice (some ⟨g, 0, none⟩) bs.length cap) bs.length (bs.map bv)
theorem OwnB.full {w : World} {B g : Nat} {bs : List Nat} (h : OwnB w B g bs.length bs) : w.heap[g]? = some (.cells (bF bs) 5) ∧ B ≤ g := by
 obtain ⟨hl, h2⟩ := h
 rcases h2 with ⟨h3, _⟩ | ⟨g', cap', cur, h3, hb, hg, hn, hc, hs, ht⟩
 · cases h3
 · simp only [Value.slice.injEq, Option.some.injEq, Addr.mk.injEq, and_true, true_and] at h3
   obtain ⟨rfl, rfl⟩ := h3
   refine ⟨?_, hb⟩
   rw [hg]
   congr 2
   apply Array.toList_inj.mp
   rw [List.take_of_length_le (by rw [Array.length_toList, hs]; exact Nat.le_refl _)] at ht
   rw [ht]
   simp [bF]
theorem Us (v : V8) (w : World) : (Instr.index 129 (.agg (v.cs .u64)) (.int .i64 0)).run Tryz.prog w = .ok (.int .u64 (v.a : Int)) w := by kernel_rfl
theorem Ut (v : V8) (w : World) : (Instr.index 129 (.agg (v.cs .u64)) (.int .i64 1)).run Tryz.prog w = .ok (.int .u64 (v.b : Int)) w := by kernel_rfl
theorem Uu (v : V8) (w : World) : (Instr.index 129 (.agg (v.cs .u64)) (.int .i64 2)).run Tryz.prog w = .ok (.int .u64 (v.c : Int)) w := by kernel_rfl
theorem Uw (v : V8) (w : World) : (Instr.index 129 (.agg (v.cs .u64)) (.int .i64 3)).run Tryz.prog w = .ok (.int .u64 (v.d : Int)) w := by kernel_rfl
theorem Ux (v : V8) (w : World) : (Instr.index 129 (.agg (v.cs .u64)) (.int .i64 4)).run Tryz.prog w = .ok (.int .u64 (v.e : Int)) w := by kernel_rfl
theorem Uy (v : V8) (w : World) : (Instr.index 129 (.agg (v.cs .u64)) (.int .i64 5)).run Tryz.prog w = .ok (.int .u64 (v.f : Int)) w := by kernel_rfl
theorem Uz (v : V8) (w : World) : (Instr.index 129 (.agg (v.cs .u64)) (.int .i64 6)).run Tryz.prog w = .ok (.int .u64 (v.g : Int)) w := by kernel_rfl
theorem UA (v : V8) (w : World) : (Instr.index 129 (.agg (v.cs .u64)) (.int .i64 7)).run Tryz.prog w = .ok (.int .u64 (v.h : Int)) w := by kernel_rfl
theorem abS (v : V8) (w : World) {i : Nat} (h : i < 8) : (Instr.index 129 (.agg (v.cs .u64)) (.int .i64 (i : Int))).run Tryz.prog w = .ok (.int .u64 ((v.at i : Nat) : Int)) w := by
 match i, h with
 | 0, _ => exact Us v w
 | 1, _ => exact Ut v w
 | 2, _ => exact Uu v w
 | 3, _ => exact Uw v w
 | 4, _ => exact Ux v w
 | 5, _ => exact Uy v w
 | 6, _ => exact Uz v w
 | 7, _ => exact UA v w
theorem OwnB.adR {w : World} {B g : Nat} {v : V8} (h : w.ownsRow B 5 1 (.slice (some ⟨g, 0, none⟩) (8 * 8) 64) (8 * 8) ((FT v 8).map bv)) : w.heap[g]? = some (.cells (bF (v.out 8)) 5) := by
 rw [Vt] at h
 have hl : (v.out 8).length = 64 := NC 8 v
 have h2 : OwnB w B g (v.out 8).length (v.out 8) := by
  unfold OwnB
  rw [hl]
  exact h
 exact h2.full.1
theorem Ur : (Tryz.prog.info? 5).map (fun i => (i.zero, i.size, i.bytes)) = some (some (.int .u8 0), 1, 1) := by kernel_rfl
theorem acH (v : V8) (hv : v.lt 64) (w : World) :
 Calls Tryz.prog 115 #[.agg #[.int .i64 8, .int .i64 64, .int .i64 80, .int .i64 1, .int .i64 8, .int .i64 7, .int .i64 19, .int .i64 61, .int .i64 6, .int .i64 28, .int .i64 34, .int .i64 39, .int .i64 14, .int .i64 18, .int .i64 41], .agg (v.cs .u64)] w fun e w' => (∃ b, w.heap.size ≤ b ∧ e = .returned (.slice (some ⟨b, 0, none⟩) 64 64) ∧ w'.heap[b]? = some (.cells (bF (v.out 8)) 5)) ∧ Below w.heap.size w w' := by
 go_enter Tryz.func115, Tryz.ntmps115
 obtain ⟨i0, hi0, hz0, hz1, hz2⟩ := info_parts Ur
 have HI := Lib.hid (And.intro hi0 (And.intro hz0 (And.intro hz1 hz2)))
 clear hi0 hz0 hz1 hz2
 go_wp2_with (at_make; refine wpList_make_own _ rfl _ _ 22 rfl w.heap.size 5 i0 (.int .u8 0) 1 Tryz.underlying22 HI.out.1 HI.out.2.1 HI.out.2.2.1 .i64 .i64 64 64 rfl rfl rfl (by rw [HI.out.2.2.2]; decide) (by unfold maxLen; decide) (by simp only [World.size_alloc]; omega) ?_)
 intro wa hown hgrow
 obtain ⟨x, hx, HBx, l0, l1⟩ : ∃ x : World, wa = (x.pin w.heap.size (.cells #[.int .i64 8, .int .i64 64, .int .i64 80, .int .i64 1, .int .i64 8, .int .i64 7, .int .i64 19, .int .i64 61, .int .i64 6, .int .i64 28, .int .i64 34, .int .i64 39, .int .i64 14, .int .i64 18, .int .i64 41] 124)).pin (w.heap.size + 1) (.cells (v.cs .u64) 129) ∧ Hid (Below w.heap.size w x) ∧ w.heap.size < x.heap.size ∧ w.heap.size + 1 < x.heap.size := by
  refine ⟨wa, Es ((hgrow.block _ sz (by simp)).trans ob) ((hgrow.block _ sz (by simp)).trans ob), Lib.hid (Below.grown (pl (Below.refl _ _)) hgrow sz (fun k h => by cases h)), ?_, ?_⟩
  · have := hgrow.size; simp only [World.size_alloc] at this; omega
  · have := hgrow.size; simp only [World.size_alloc] at this; omega
 subst hx
 have HOW := Lib.hid hown
 clear hown hgrow
 have HVL := Lib.hid hv
 clear hv
 go_wp2_with fail
 go_loopw [5, 14] (fun ov iv wr => ∃ (i : Nat) (y : World), ov = .slice (some ⟨w.heap.size + 1 + 1, 0, none⟩) (8 * i) 64 ∧ iv = .int .i64 (i : Int) ∧ wr = (y.pin w.heap.size (.cells #[.int .i64 8, .int .i64 64, .int .i64 80, .int .i64 1, .int .i64 8, .int .i64 7, .int .i64 19, .int .i64 61, .int .i64 6, .int .i64 28, .int .i64 34, .int .i64 39, .int .i64 14, .int .i64 18, .int .i64 41] 124)).pin (w.heap.size + 1) (.cells (v.cs .u64) 129) ∧ w.heap.size < y.heap.size ∧ w.heap.size + 1 < y.heap.size ∧ Hid (Below w.heap.size w y ∧ i ≤ 8 ∧ ((y.pin w.heap.size (.cells #[.int .i64 8, .int .i64 64, .int .i64 80, .int .i64 1, .int .i64 8, .int .i64 7, .int .i64 19, .int .i64 61, .int .i64 6, .int .i64 28, .int .i64 34, .int .i64 39, .int .i64 14, .int .i64 18, .int .i64 41] 124)).pin (w.heap.size + 1) (.cells (v.cs .u64) 129)).ownsRow w.heap.size 5 1 (.slice (some ⟨w.heap.size + 1 + 1, 0, none⟩) (8 * i) 64) (8 * i) ((FT v i).map bv))) (fun _ iv _ => (8 - intOf iv).toNat)
 case atStart => exact ⟨0, x, rfl, rfl, rfl, l0, l1, HBx.out, by decide, HOW.out⟩
 case round =>
  obtain ⟨i, y, rfl, rfl, rfl, q0, q1, H⟩ := hrel
  have fB : Hid (Below w.heap.size w y) := Lib.hid H.out.1
  by_cases hi : i < 8
  · have OW : (i : Int) < 8 := by omega
    obtain ⟨xv, hxv⟩ : ∃ z, z = v.at i := ⟨_, rfl⟩
    have hix : ∀ w, (Instr.index 129 (.agg (v.cs .u64)) (.int .i64 (i : Int))).run Tryz.prog w = .ok (.int .u64 (xv : Int)) w := fun w => by rw [hxv]; exact abS v w hi
    have HXV := Lib.hid hxv
    clear hxv
    go_wp2_with fail
    go_loopw [5, 8] (fun ov kv wr => ∃ (k n : Nat) (xs : List Nat) (z : World), ov = .slice (some ⟨w.heap.size + 1 + 1, 0, none⟩) n 64 ∧ kv = .int .i64 ((k : Int) - 1) ∧ wr = (z.pin w.heap.size (.cells #[.int .i64 8, .int .i64 64, .int .i64 80, .int .i64 1, .int .i64 8, .int .i64 7, .int .i64 19, .int .i64 61, .int .i64 6, .int .i64 28, .int .i64 34, .int .i64 39, .int .i64 14, .int .i64 18, .int .i64 41] 124)).pin (w.heap.size + 1) (.cells (v.cs .u64) 129) ∧ w.heap.size < z.heap.size ∧ w.heap.size + 1 < z.heap.size ∧ Hid (Below w.heap.size w z ∧ k ≤ 8 ∧ n = 8 * i + (8 - k) ∧ xs ++ zI k xv = FT v (i + 1) ∧ ((z.pin w.heap.size (.cells #[.int .i64 8, .int .i64 64, .int .i64 80, .int .i64 1, .int .i64 8, .int .i64 7, .int .i64 19, .int .i64 61, .int .i64 6, .int .i64 28, .int .i64 34, .int .i64 39, .int .i64 14, .int .i64 18, .int .i64 41] 124)).pin (w.heap.size + 1) (.cells (v.cs .u64) 129)).ownsRow w.heap.size 5 1 (.slice (some ⟨w.heap.size + 1 + 1, 0, none⟩) (n) 64) (n) (xs.map bv))) (fun _ kv _ => (intOf kv + 1).toNat)
    case atStart => exact ⟨8, 8 * i, FT v i, y, rfl, rfl, rfl, q0, q1, H.out.1, by decide, by omega, by rw [HXV.out, jW], H.out.2.2⟩
    case round =>
     obtain ⟨k, n, xs, z, rfl, rfl, rfl, r0, r1, J⟩ := hrel
     have fC : Hid (Below w.heap.size w z) := Lib.hid J.out.1
     rcases k with _ | k
     · go_wp2_with fail
       have hn : n = 8 * (i + 1) := by have := J.out.2.2.1; omega
       have hxs : xs = FT v (i + 1) := by rw [← J.out.2.2.2.1]; simp [zI]
       have hO := J.out.2.2.2.2
       rw [hxs, hn] at hO
       exact ⟨⟨i + 1, z, uG hn rfl, by simp, rfl, r0, r1, Lib.hid ⟨J.out.1, by omega, hO⟩⟩, by simp [intOf]; omega⟩
     · rw [show (((k + 1 : Nat) : Int) - 1) = (k : Int) from by omega]
       have e1 : IntKind.i64.wrap (8 * (k : Int)) = ((8 * k : Nat) : Int) := (IntWalk.i64_in _ (by have := J.out.2.1; omega)).trans (by omega)
       have amK : 8 * k < 64 := by have := J.out.2.1; omega
       obtain ⟨bvv, hbv⟩ : ∃ z, z = xv / 256 ^ k % 256 := ⟨_, rfl⟩
       have e3 : (xv : Int) / 2 ^ (8 * k) % 256 = (bvv : Int) := by
        rw [hbv, show (256 : Nat) = 2 ^ 8 from rfl, ← Nat.pow_mul]
        rw [Int.natCast_emod, Int.natCast_ediv, Int.natCast_pow]
        rfl
       have HBV := Lib.hid hbv
       clear hbv
       go_wp2_with (at_builtin; refine wpList_append_fits _ rfl (.tmp 24) (.tmp 30) 22 rfl w.heap.size 5 i0 1 Tryz.underlying22 HI.out.1 HI.out.2.2.1 (w.heap.size + 1 + 1) n 64 _ rfl (J.out.2.2.2.2.alloc _) ⟨z.heap.size, 0, none⟩ 1 1 [.int .u8 (bvv : Int)] rfl rfl (by simpa only [aA] using cell_one_new ((z.pin w.heap.size (.cells #[.int .i64 8, .int .i64 64, .int .i64 80, .int .i64 1, .int .i64 8, .int .i64 7, .int .i64 19, .int .i64 61, .int .i64 6, .int .i64 28, .int .i64 34, .int .i64 39, .int .i64 14, .int .i64 18, .int .i64 41] 124)).pin (w.heap.size + 1) (.cells (v.cs .u64) 129)) (.int .u8 (bvv : Int)) 5) (by intro u hu; simp at hu; subst hu; rfl) (by have := J.out.2.2.1; have := J.out.2.1; omega) ?_)
       intro wb hown hgrow
       obtain ⟨zb, hzb, HBz, m0, m1⟩ : ∃ x : World, wb = (x.pin w.heap.size (.cells #[.int .i64 8, .int .i64 64, .int .i64 80, .int .i64 1, .int .i64 8, .int .i64 7, .int .i64 19, .int .i64 61, .int .i64 6, .int .i64 28, .int .i64 34, .int .i64 39, .int .i64 14, .int .i64 18, .int .i64 41] 124)).pin (w.heap.size + 1) (.cells (v.cs .u64) 129) ∧ Hid (Below w.heap.size w x) ∧ w.heap.size < x.heap.size ∧ w.heap.size + 1 < x.heap.size := by
        refine ⟨wb, Es ((hgrow.block _ sz (by first | (simp; done) | (simp; omega))).trans ob) ((hgrow.block _ sz (by first | (simp; done) | (simp; omega))).trans ob), Lib.hid (Below.grown (pl fC.out) hgrow sz (fun k h => by simp at h; omega)), ?_, ?_⟩
        · have := hgrow.size; simp only [World.size_alloc, aA] at this; omega
        · have := hgrow.size; simp only [World.size_alloc, aA] at this; omega
       subst hzb
       have aht := Lib.hid hown
       clear hown hgrow
       go_wp2_with fail
       refine ⟨⟨k, n + 1, xs ++ [bvv], zb, rfl, rfl, rfl, m0, m1, Lib.hid ⟨HBz.out, by have := J.out.2.1; omega, by have := J.out.2.1; have := J.out.2.2.1; omega, ?_, ?_⟩⟩, by simp [intOf]⟩
       · rw [← J.out.2.2.2.1, HBV.out]; simp [zI]
       · have := aht.out
         simpa only [List.map_append, List.map_cons, List.map_nil] using this
  · have hi8 : i = 8 := by have := H.out.2.1; omega
    have OW : ((i : Int) < 8) = False := eq_false (by omega)
    have HF : Hid (((y.pin w.heap.size (.cells #[.int .i64 8, .int .i64 64, .int .i64 80, .int .i64 1, .int .i64 8, .int .i64 7, .int .i64 19, .int .i64 61, .int .i64 6, .int .i64 28, .int .i64 34, .int .i64 39, .int .i64 14, .int .i64 18, .int .i64 41] 124)).pin (w.heap.size + 1) (.cells (v.cs .u64) 129)).heap[w.heap.size + 1 + 1]? = some (.cells (bF (v.out 8)) 5)) := Lib.hid (OwnB.adR (B := w.heap.size) (by have := H.out.2.2; rw [hi8] at this; exact this))
    go_wp2_with fail
    exact bodyPost_ret (v := .slice (some ⟨w.heap.size + 1 + 1, 0, none⟩) (8 * i) 64) (by simp [results, Tryz.results115, go_sem]) rfl ⟨⟨w.heap.size + 1 + 1, by omega, congrArg Ending.returned (uG (by omega) rfl), HF.out⟩, pl fB.out⟩
end
section
open Go.RowKit Go.Proofs.YtehfkbaendajbaaGreatDoorW.PrintLast
theorem KQ (n : Nat) : madeCells #[.int .u8 0] n = bF (List.replicate n 0) := by
 apply Array.ext_getElem?
 intro i
 rw [jr]
 by_cases h : i < n
 · simp [madeCells, h, Nat.mod_one]
 · simp [madeCells, h]
theorem KR (n : Nat) (h : n ≤ 4000000) (w : World) : (Instr.makeSlice 22 (.int .i64 (n : Int)) (.int .i64 (n : Int))).run Tryz.prog w = .ok (.slice (some ⟨w.heap.size, 0, none⟩) n n) (w.alloc (.cells (bF (List.replicate n 0)) 5)) := by
 have h1 := run_make_row' (P := Tryz.prog) 22 5 (.int .u8 0) 1 (by kernel_rfl) (by kernel_rfl) rfl .i64 .i64 n (by omega) (by omega) w
 rw [h1, KQ]
section
variable {o : Oper} {a : Act} {w : World} {Q : Exit → Act → World → Prop} {K : Act → World → Prop}
theorem DJ (l c : Operand) (n : Nat) (ho : o.op = .makeSlice 22 l c) (hl : a.eval l = .int .i64 (n : Int)) (hc : a.eval c = .int .i64 (n : Int)) (hn : n ≤ 4000000) (hK : K (a.put o.dst (.slice (some ⟨w.heap.size, 0, none⟩) n n)) (w.alloc (.cells (bF (List.replicate n 0)) 5))) : o.wp Tryz.prog a w K Q := by
 unfold Oper.wp execOp
 simp only [ho, hl, hc, Sem.run_bind, KR n hn, Result.andThen_ok, Sem.run_pure]
 exact hK
end
def yP (n i : Nat) : List Nat := 128 :: (List.replicate (dW aV n - 1 - i) 0 ++ zI i (8 * n))
theorem vM (n : Nat) : 17 ≤ dW aV n ∧ dW aV n < 145 := by
 unfold dW kH aV
 simp only
 omega
theorem Vg (n i : Nat) (h : i ≤ 8) : (yP n i).length = dW aV n := by
 have := vM n
 unfold yP
 simp only [List.length_cons, List.length_append, List.length_replicate, ES]
 omega
theorem Vh (n i : Nat) (h : i < 8) : (yP n i).set (dW aV n - 1 - i) (8 * n / 256 ^ i % 256) = yP n (i + 1) := by
 have := vM n
 unfold yP
 obtain ⟨k, hk⟩ : ∃ k, dW aV n - 1 - i = k + 1 := ⟨dW aV n - 1 - i - 1, by omega⟩
 rw [hk, List.set_cons_succ, show dW aV n - 1 - (i + 1) = k by omega]
 congr 1
 have e : List.replicate (k + 1) 0 ++ zI i (8 * n) = List.replicate k 0 ++ (0 :: zI i (8 * n)) := by
  rw [List.replicate_succ']; simp
 rw [e, List.set_append_right _ _ (by simp), List.length_replicate, Nat.sub_self]
 rfl
theorem IK (n : Nat) : yP n 8 = nK aV n := rfl
theorem Vf (n i : Nat) (h : i < 8) : (yP n i)[dW aV n - 1 - i]? = some 0 := by
 have := vM n
 unfold yP
 obtain ⟨k, hk⟩ : ∃ k, dW aV n - 1 - i = k + 1 := ⟨dW aV n - 1 - i - 1, by omega⟩
 rw [hk, List.getElem?_cons_succ, List.getElem?_append_left (by simp)]
 simp
theorem Vj (n i : Nat) (hn : n ≤ 1048576) : eX (8 * (n : Int)) / 2 ^ (8 * i) % 256 = ((8 * n / 256 ^ i % 256 : Nat) : Int) := by
 have h1 : eX (8 * (n : Int)) = ((8 * n : Nat) : Int) := by unfold eX; rw [IntKind.wrap_u64]; omega
 rw [h1, show (256 : Nat) ^ i = 2 ^ (8 * i) by rw [show (256 : Nat) = 2 ^ 8 from rfl, ← Nat.pow_mul], Int.natCast_emod, Int.natCast_ediv, Int.natCast_pow]
 rfl
theorem P9 (n : Nat) : (List.replicate (dW aV n) 0).set 0 128 = yP n 0 := by
 have := vM n
 obtain ⟨k, hk⟩ : ∃ k, dW aV n = k + 1 := ⟨dW aV n - 1, by omega⟩
 unfold yP
 rw [hk, List.replicate_succ]
 simp [zI]
theorem acu (n : Nat) (hn : n ≤ 1048576) (w : World) :
 Calls Tryz.prog 113 #[.int .i64 n, .int .i64 512] w fun e w' => (∃ b, w.heap.size ≤ b ∧ e = .returned (.tuple #[.slice (some ⟨b, 0, none⟩) (dW aV n) (dW aV n), .int .i64 0]) ∧ w'.heap[b]? = some (.cells (bF (nK aV n)) 5)) ∧ Below w.heap.size w w' := by
 obtain ⟨N, hN⟩ : ∃ z, z = dW aV n := ⟨_, rfl⟩
 have HN := Lib.hid (show N = dW aV n ∧ 17 ≤ N ∧ N < 145 from ⟨hN, by rw [hN]; exact (vM n).1, by rw [hN]; exact (vM n).2⟩)
 clear hN
 have h0 : ¬ (n : Int) < 0 := by omega
 have h1 : ¬ (1048576 : Int) < (n : Int) := by omega
 have e3 : IntKind.i64.wrap (128 - ((n : Int) + 17) % 128) = ((128 - (n + 17) % 128 : Nat) : Int) := (IntWalk.i64_in _ (by omega)).trans (by omega)
 have e4 : (((128 - (n + 17) % 128 : Nat) : Int)).tmod 128 = (((128 - (n + 17) % 128) % 128 : Nat) : Int) := by rw [Int.tmod_eq_emod_of_nonneg (by omega)]; omega
 have e5 : IntKind.i64.wrap (17 + ((128 - (n + 17) % 128 : Nat) : Int) % 128) = (N : Int) := (IntWalk.i64_in _ (by omega)).trans (by have := HN.out.1; unfold dW kH aV at this; simp only at this; omega)
 have hz0 : (bF (List.replicate N 0))[0]? = some (.int .u8 0) := by rw [jr, List.getElem?_replicate, if_pos (by have := HN.out; omega)]; rfl
 have hN0 : (0 : Int) < (N : Int) := by have := HN.out; omega
 have e6 : IntKind.i64.wrap ((N : Int) - 1) = ((N - 1 : Nat) : Int) := (IntWalk.i64_in _ (by have := HN.out; omega)).trans (by have := HN.out; omega)
 have e7 : IntKind.i64.wrap (8 * (n : Int)) = ((8 * n : Nat) : Int) := (IntWalk.i64_in _ (by omega)).trans (by omega)
 go_enter Tryz.func113, Tryz.ntmps113
 go_wp2_with fail
 refine (ZW _).mono ?_
 rintro e x1 ⟨rfl, hb1⟩
 have HB1 : Hid (Below w.heap.size w x1) := Below.trans (pl (Below.refl _ _)) (hb1.mono sz)
 have hz1 := HB1.out.size
 clear hb1
 go_wp2_with (first | (refine bf 124 (.tmp 6) (.tmp 16) rfl rfl (x1.heap.size) 0 #[.int .i64 8, .int .i64 64, .int .i64 80, .int .i64 1, .int .i64 8, .int .i64 7, .int .i64 19, .int .i64 61, .int .i64 6, .int .i64 28, .int .i64 34, .int .i64 39, .int .i64 14, .int .i64 18, .int .i64 41] rfl rfl 124 #[.int .i64 0, .int .i64 0, .int .i64 0, .int .i64 0, .int .i64 0, .int .i64 0, .int .i64 0, .int .i64 0, .int .i64 0, .int .i64 0, .int .i64 0, .int .i64 0, .int .i64 0, .int .i64 0, .int .i64 0] #[.int .i64 8, .int .i64 64, .int .i64 80, .int .i64 1, .int .i64 8, .int .i64 7, .int .i64 19, .int .i64 61, .int .i64 6, .int .i64 28, .int .i64 34, .int .i64 39, .int .i64 14, .int .i64 18, .int .i64 41] ob (by kernel_rfl) (by kernel_rfl) (by kernel_rfl) (by kernel_rfl) ?_) | (refine gZ 124 (.tmp 6) rfl rfl (x1.heap.size) #[.int .i64 8, .int .i64 64, .int .i64 80, .int .i64 1, .int .i64 8, .int .i64 7, .int .i64 19, .int .i64 61, .int .i64 6, .int .i64 28, .int .i64 34, .int .i64 39, .int .i64 14, .int .i64 18, .int .i64 41] 124 rfl (by kernel_rfl) (by kernel_rfl) ob ?_))
 refine (oZ _).mono ?_
 rintro e y2 ⟨rfl, hb2⟩
 obtain ⟨x2, rfl, hc2, hz2, kD⟩ := bQ (b := x1.heap.size) hb2 rfl ob
 have HB2 := aZ HB1.out hc2
 clear hb2 hc2
 try simp only [eF] at hz2
 go_wp2_with fail
 refine st1 w [9, 10] 11 (ak (b := x1.heap.size) ob (aO (pl HB2.out))) (fun HS => ?_)
 refine tk1 0 (some 38) HS (h := ?_)
 refine tk1 1 (some 39) HS (v := .agg #[.int .i64 8, .int .i64 64, .int .i64 80, .int .i64 1, .int .i64 8, .int .i64 7, .int .i64 19, .int .i64 61, .int .i64 6, .int .i64 28, .int .i64 34, .int .i64 39, .int .i64 14, .int .i64 18, .int .i64 41]) (hy := by (intro v hv; obtain ⟨x, rfl, _, _, n0⟩ := hv.jE; exact mF 124 (.tmp 6) rfl x1.heap.size #[.int .i64 8, .int .i64 64, .int .i64 80, .int .i64 1, .int .i64 8, .int .i64 7, .int .i64 19, .int .i64 61, .int .i64 6, .int .i64 28, .int .i64 34, .int .i64 39, .int .i64 14, .int .i64 18, .int .i64 41] 124 rfl (by kernel_rfl) (by kernel_rfl) ob)) (h := ?_)
 refine tk1 3 (some 41) HS (h := ?_)
 refine tk1 5 (some 43) HS (v := .agg #[.int .i64 8, .int .i64 64, .int .i64 80, .int .i64 1, .int .i64 8, .int .i64 7, .int .i64 19, .int .i64 61, .int .i64 6, .int .i64 28, .int .i64 34, .int .i64 39, .int .i64 14, .int .i64 18, .int .i64 41]) (hy := by (intro v hv; obtain ⟨x, rfl, _, _, n0⟩ := hv.jE; exact mF 124 (.tmp 6) rfl x1.heap.size #[.int .i64 8, .int .i64 64, .int .i64 80, .int .i64 1, .int .i64 8, .int .i64 7, .int .i64 19, .int .i64 61, .int .i64 6, .int .i64 28, .int .i64 34, .int .i64 39, .int .i64 14, .int .i64 18, .int .i64 41] 124 rfl (by kernel_rfl) (by kernel_rfl) ob)) (h := ?_)
 refine dH 2 (some 40) (h := fun K hK => ?_)
 go_simp
 refine (oZ _).mono ?_
 rintro e y ⟨rfl, hb⟩
 refine hK.out _ _ (HS.step hb rfl) ?_
 clear HS hb
 intro HS
 refine tk1 4 (some 42) HS (h := ?_)
 refine dH 6 (some 44) (h := fun K hK => ?_)
 go_simp
 refine (oZ _).mono ?_
 rintro e y ⟨rfl, hb⟩
 refine hK.out _ _ (HS.step hb rfl) ?_
 clear HS hb
 intro HS
 refine tk1 7 (some 45) HS (v := .int .i64 (((128 - (n + 17) % 128) % 128 : Nat) : Int)) (h := ?_)
 refine tk1 8 (some 46) HS (v := .int .i64 (N : Int)) (h := ?_)
 obtain ⟨x3, rfl, hk3, hz3, nN⟩ := HS.jE
 have HB3 : Hid (Below w.heap.size w x3) := hk3.below
 clear HS hk3
 refine pO 9 (some 47) (h := fun K hK => ?_)
 refine (if_pos (by rfl)).mpr ?_
 refine DJ (.tmp 46) (.tmp 46) N rfl rfl rfl (by have := HN.out; omega) ?_
 refine hK.out _ _ ?_
 refine pO 10 (some 10) (h := fun K hK => ?_)
 go_simp
 refine hK.out _ _ ?_
 refine done_ (by kernel_rfl) ?_
 go_wp2_with fail
 have hG : w.heap.size ≤ x3.heap.size := by have := HB3.out.size; exact this
 go_loopw [11, 12] (fun iv kv wr => ∃ (i : Nat) (y : World), iv = .int .i64 (i : Int) ∧ kv = .int .i64 (((N - 1 - i : Nat)) : Int) ∧ wr = y.pin x3.heap.size (.cells (bF (yP n i)) 5) ∧ x3.heap.size < y.heap.size ∧ Hid (Below w.heap.size w y ∧ i ≤ 8)) (fun iv _ _ => (8 - intOf iv).toNat)
 case atStart => exact ⟨0, _, rfl, by simp, xI (by refine Eq.trans ob ?_; rw [← P9 n, ← HN.out.1, ← kU]; rfl), sz, pl HB3.out, by decide⟩
 case round =>
  obtain ⟨i, y, rfl, rfl, rfl, q0, H⟩ := hrel
  by_cases hi : i < 8
  · have OW : (i : Int) < 8 := by omega
    have e8 : IntKind.i64.wrap (8 * (i : Int)) = ((8 * i : Nat) : Int) := (IntWalk.i64_in _ (by omega)).trans (by omega)
    have hi64 : 8 * i < 64 := by omega
    have hA : (bF (yP n i))[N - 1 - i]? = some (.int .u8 0) := by rw [jr, HN.out.1, Vf n i hi]; rfl
    have hb : ((N - 1 - i : Nat) : Int) < (N : Int) := by have := HN.out; omega
    go_wp2_with fail
    refine ⟨⟨i + 1, y, by simp, congrArg (Value.int .i64) (by have := HN.out; unfold wrap64; omega), by rw [Vj n i hn, kU, HN.out.1, Vh n i hi], q0, Lib.hid ⟨H.out.1, by omega⟩⟩, by simp [intOf]; omega⟩
  · have h8 : i = 8 := by have := H.out.2; omega
    have OW : ((i : Int) < 8) = False := eq_false (by omega)
    have HF : Hid ((y.pin x3.heap.size (.cells (bF (yP n 8)) 5)).heap[x3.heap.size]? = some (.cells (bF (nK aV n)) 5)) := Lib.hid (by rw [← IK]; exact ob)
    go_wp2_with fail
    exact bodyPost_ret (v := .tuple #[.slice (some ⟨x3.heap.size, 0, none⟩) N N, .int .i64 0]) (by simp [results, Tryz.results113, go_sem]) rfl ⟨⟨x3.heap.size, hG, by rw [HN.out.1], HF.out⟩, pl H.out.1⟩
end
section
open Go.RowKit Go.Proofs.YtehfkbaendajbaaGreatDoorW.PrintLast
def gu (w : World) (B : Nat) (v : Value) (bs : List Nat) : Prop := w.ownsRow B 5 1 v bs.length (bs.map bv)
theorem gu.nil (w : World) (B : Nat) : gu w B (.slice none 0 0) [] := World.ownsRow_nil w B 5 1
theorem gu.form {w : World} {B : Nat} {v : Value} {bs : List Nat} (h : gu w B v bs) : ∃ A c, v = .slice A bs.length c ∧ bs.length ≤ c ∧ (A = none → bs.length = 0) ∧ (∀ a, A = some a → ∃ g, a = ⟨g, 0, none⟩ ∧ v.ownBlock = some g ∧ B ≤ g ∧ g < w.heap.size) := by
 have h0 := h
 unfold gu at h
 rcases h.2 with ⟨rfl, h2⟩ | ⟨g, cap, cur, rfl, hb, hg, hn, _⟩
 · exact ⟨none, 0, by rw [h2], by omega, fun _ => h2, (fun a e => by cases e)⟩
 · refine ⟨some ⟨g, 0, none⟩, cap, rfl, hn, (fun e => by cases e), (fun a e => ?_)⟩
   cases e
   exact ⟨g, rfl, rfl, hb, (Array.getElem?_eq_some_iff.mp hg).1⟩
theorem gu.rd {w : World} {B g c n : Nat} {bs : List Nat} (h : gu w B (.slice (some ⟨g, 0, none⟩) n c) bs) : Rd w .u8 (some ⟨g, 0, none⟩) bs := by
 intro i hi
 refine ⟨g, 0, rfl, ?_⟩
 have h1 := World.ownsRow.cells (g := g) h rfl i (bv bs[i]) (by simp [hi])
 rw [Addr.add_mid] at h1
 exact h1
theorem yS (w : World) (B : Nat) (v : Value) (xs ys : List Nat) (A : Option Addr) (c : Nat) (hown : gu w B v xs) (hrd : Rd w .u8 A ys) (hlen : xs.length + ys.length ≤ 4000000) (hB : B ≤ w.heap.size) (ty : TypeId) :
 ∃ v' w', (Builtin.append_ #[22, 22] ty #[v, .slice A ys.length c]).run Tryz.prog w = .ok v' w' ∧ gu w' B v' (xs ++ ys) ∧ w.grownBy w' v.ownBlock ∧ (v'.ownBlock = v.ownBlock ∨ v'.ownBlock = some w.heap.size) := by
 obtain ⟨i, hi, hz0, hz1, hz2⟩ := info_parts Ur
 cases ys with
 | nil =>
  obtain ⟨A', c', rfl, hc', _⟩ := hown.form
  refine ⟨_, w, run_append_nothing w 22 22 ty 5 i Tryz.underlying22 hi A' xs.length c' hc' _ ⟨.inl ⟨5, Tryz.underlying22⟩, fun w3 => rfl, ?_, ?_, by simp, (fun u hu => by cases hu)⟩, by rw [List.append_nil]; exact hown, World.grownBy.refl _ _, .inl rfl⟩
  · cases A <;> simp [Builtin.firstCells, loadCells, loadCellsFrom]
  · cases A <;> simp [Builtin.firstCells, loadCells, loadCellsFrom]
 | cons y l =>
  obtain ⟨b, off, rfl, hlt, hc⟩ := hrd.place (by simp)
  obtain ⟨v', w', hr, ho, hg, _, hl⟩ := run_append_own_at (P := Tryz.prog) w B 22 ty 5 i (.int .u8 0) 1 1 Tryz.underlying22 hi hz0 hz1 hz2 rfl (by decide) v xs.length (xs.map bv) hown ⟨b, off, none⟩ (y :: l).length c ((y :: l).map bv) (by simp) (by
   intro j u hj
   rw [List.getElem?_map] at hj
   obtain ⟨z, hz, rfl⟩ := Option.map_eq_some_iff.mp hj
   obtain ⟨hjl, hze⟩ := List.getElem?_eq_some_iff.mp hz
   rw [Addr.add_mid, hc j hjl, hze]) (by intro u hu; obtain ⟨z, _, rfl⟩ := List.mem_map.mp hu; rfl) (by unfold maxLen; omega) (by omega) hB
  refine ⟨v', w', hr, ?_, hg, hl⟩
  unfold gu
  rw [List.length_append, List.map_append]
  exact ho
section
variable {ops : Array Oper} {rest : List Oper} {o : Oper} {a : Act} {w : World} {Q : Exit → Act → World → Prop}
theorem bH (s x : Operand) (hgd : o.guard = none) (ho : o.op = .call { callee := .builtin .append, args := #[s, x], argTypes := #[22, 22] }) (B : Nat) (v : Value) (xs ys : List Nat) (A : Option Addr) (n c : Nat) (hs : a.eval s = v) (hx : a.eval x = .slice A n c) (hn : n = ys.length) (hown : gu w B v xs) (hrd : Rd w .u8 A ys) (hlen : xs.length + ys.length ≤ 4000000) (hB : B ≤ w.heap.size)
 (h : ∀ v' w', gu w' B v' (xs ++ ys) → w.grownBy w' v.ownBlock → (v'.ownBlock = v.ownBlock ∨ v'.ownBlock = some w.heap.size) → wpList Tryz.prog ops Q rest (a.put o.dst v') w') : wpList Tryz.prog ops Q (o :: rest) a w := by
 subst hn
 refine wpList_plain hgd fun K hK => ?_
 obtain ⟨v', w', hr, h2, h3, h4⟩ := yS w B v xs ys A c hown hrd hlen hB o.type
 unfold Oper.wp execOp
 simp only [ho, resolve, invoke, builtin, Sem.run_bind, Sem.run_pure, Result.andThen_ok, List.map_toArray, List.map_cons, List.map_nil, hs, hx, hr]
 exact hK _ _ (h v' w' h2 h3 h4)
end
def QM (m : List Nat) : V8 := iV aV (m.length / 128) m (fE aV)
def uF (m : List Nat) : List Nat := m.drop (128 * (m.length / 128))
def Xb (B : Nat) (w : World) (g : Nat) (m : List Nat) : Prop := B ≤ g ∧ ∃ v, w.heap[g]? = some (.cells (dJ (m.length) v (fE qC) (QM m)) 131) ∧ gu w B v (uF m) ∧ v.ownBlock ≠ some g
theorem xO (m : List Nat) : (uF m).length = m.length % 128 := by unfold uF; rw [List.length_drop]; omega
theorem BZ (s : Sh) : ∀ (k : Nat) (l r : List Nat) (h : V8), kH s * k ≤ l.length → iV s k (l ++ r) h = iV s k l h
 | 0, _, _, _, _ => rfl
 | k + 1, l, r, h, hl => by
  have h0 : kH s ≤ l.length := by rw [Nat.mul_succ] at hl; omega
  rw [iV, iV, List.take_append_of_le_length h0, List.drop_append_of_le_length h0]
  exact BZ s k _ r _ (by rw [List.length_drop]; rw [Nat.mul_succ] at hl; omega)
theorem Ez (s : Sh) : ∀ (j k : Nat) (l : List Nat) (h : V8), iV s (j + k) l h = iV s k (l.drop (kH s * j)) (iV s j l h)
 | 0, k, l, h => by rw [Nat.zero_add, Nat.mul_zero, List.drop_zero]; rfl
 | j + 1, k, l, h => by
  rw [show j + 1 + k = (j + k) + 1 by omega, iV, Ez s j k, List.drop_drop, iV]
  rw [show kH s + kH s * j = kH s * (j + 1) by rw [Nat.mul_succ, Nat.add_comm]]
theorem ND (m ys : List Nat) : iV aV ((uF m ++ ys).length / 128) (uF m ++ ys) (QM m) = QM (m ++ ys) := by
 unfold QM
 have e : (m ++ ys).length / 128 = m.length / 128 + (uF m ++ ys).length / 128 := by
  rw [List.length_append, List.length_append, xO]; omega
 rw [e, Ez, BZ aV _ m ys _ (by show 128 * _ ≤ _; omega)]
 congr 1
 show uF m ++ ys = (m ++ ys).drop (128 * (m.length / 128))
 rw [List.drop_append_of_le_length (by omega)]
 rfl
theorem YX (m ys : List Nat) : (uF m ++ ys).drop (128 * ((uF m ++ ys).length / 128)) = uF (m ++ ys) := by
 have h1 : (uF m ++ ys) = (m ++ ys).drop (128 * (m.length / 128)) := by
  rw [List.drop_append_of_le_length (by omega)]; rfl
 have h2 := xO m
 unfold uF at h1 h2 ⊢
 rw [h1, List.drop_drop]
 congr 1
 rw [← h1, List.length_append, List.length_append, h2]
 omega
theorem RU : (fE aV).lt 64 := by unfold V8.lt; decide
theorem Lm (m : List Nat) : (QM m).lt 64 := BU aV _ _ _ RU
end
end Go.Proofs.YtehfkbaendajbaaGreatDoor
