/-
  Shared, part 17: walks and plain laws; each theorem states its own conditions.
-/
import Derived.Test.YtehfkbaendajbaaGreatDoorB15
import Derived.Test.YtehfkbaendajbaaGreatDoorB16
import Derived.Lib.Hide
import Derived.StillTailTactics
namespace Go.Proofs.YtehfkbaendajbaaGreatDoor
set_option linter.unusedSimpArgs false
set_option linter.unusedVariables false
set_option maxRecDepth 100000
set_option maxHeartbeats 8000000
section
open Go.RowKit Go.Proofs.YtehfkbaendajbaaGreatDoorW.PrintLast
theorem ad3 {w : World} {b0 b1 : Nat} {o0 o1 p0 p1 : Obj} (h0 : w.heap[b0]? = some o0) (h1 : w.heap[b1]? = some o1) (e0 : o0 = p0) (e1 : o1 = p1) : w = (w.pin b0 p0).pin b1 p1 := by
 subst e0 e1; exact Es h0 h1
theorem aif {w : World} {b0 b1 b2 : Nat} {o0 o1 o2 p0 p1 p2 : Obj} (h0 : w.heap[b0]? = some o0) (h1 : w.heap[b1]? = some o1) (h2 : w.heap[b2]? = some o2) (e0 : o0 = p0) (e1 : o1 = p1) (e2 : o2 = p2) : w = ((w.pin b0 p0).pin b1 p1).pin b2 p2 := by
 subst e0 e1 e2; exact jf h0 h1 h2
theorem anM (f : Nat → Nat) {j : Nat} (h : j < 9) : (row 9 f)[j]? = some (.int .u64 ((f j : Nat) : Int)) := gV f h
theorem ag8 (x y : Nat) (hx : x < WW ^ 9) (hy : y < WW ^ 9) (w : World) :
 Calls Tryz.prog 60 #[Lv x, Lv y] w fun e w' => e = .returned (.bool (decide (x < y))) ∧ Below w.heap.size w w' := by
 have HX := Lib.hid hx
 have HY := Lib.hid hy
 clear hx hy
 go_enter Tryz.func60, Tryz.ntmps60
 go_wp2_with fail
 go_loopw [5, 7] (fun bv iv wr => ∃ (i : Nat) (z : World), bv = .int .u64 ((bor x y i : Nat) : Int) ∧ iv = .int .i64 (i : Int) ∧ wr = ((z.pin (w.heap.size) (.cells (row 9 (lim x)) 66)).pin (w.heap.size + 1) (.cells (row 9 (lim y)) 66)) ∧ w.heap.size < z.heap.size ∧ w.heap.size + 1 < z.heap.size ∧ Hid (Below w.heap.size w z ∧ i ≤ 9)) (fun _ iv _ => (9 - intOf iv).toNat)
 case atStart => exact ⟨0, _, by rw [ae3]; rfl, rfl, ad3 ob ob (by rfl) (by rfl), sz, sz, (pl (Below.refl _ _)), by omega⟩
 case round =>
  obtain ⟨i, z, rfl, rfl, rfl, q0, q1, H⟩ := hrel
  by_cases hi : i < 9
  · have hgx := anM (lim x) hi
    have hgy := anM (lim y) hi
    have hiz : (i : Int) < 9 := by omega
    obtain ⟨a, ha⟩ : ∃ a, a = lim x i := ⟨_, rfl⟩
    obtain ⟨b, hb⟩ : ∃ b, b = lim y i := ⟨_, rfl⟩
    obtain ⟨c, hc⟩ : ∃ c, c = bor x y i := ⟨_, rfl⟩
    rw [← ha] at hgx
    rw [← hb] at hgy
    have hS := adY a b c (by rw [hc]; exact afZ _ _ _)
    have HC := Lib.hid (show bor x y (i + 1) = if a < b + c then 1 else 0 by rw [ha, hb, hc]; exact ae0 x y i)
    rw [← hc]
    clear ha hb hc
    go_wp2_with fail
    refine wp_region_still_tail 11 (by kernel_rfl) (by kernel_rfl) ?_
    simp only [List.take_succ_cons, List.take_zero, List.drop_succ_cons, List.drop_zero, World.drew_eq]
    (repeat still_step)
    refine wpStill_nil ?_
    go_wp2_with fail
    exact ⟨⟨i + 1, z.drew, by rw [HC.out], vi0 i, rfl, q0, q1, H.out.1.drew, hi⟩, tH 9 i hi⟩
  · have hi : i = 9 := by have := H.out.2; omega
    subst hi
    have hbe := akr HX.out HY.out
    by_cases hlt : x < y
    · rw [if_pos hlt] at hbe
      rw [hbe]
      go_wp2_with fail
      go_ret
      exact ⟨by rw [decide_eq_true hlt]; rfl, (pl H.out.1)⟩
    · rw [if_neg hlt] at hbe
      rw [hbe]
      go_wp2_with fail
      go_ret
      exact ⟨by rw [decide_eq_false hlt]; rfl, (pl H.out.1)⟩
def acT (x y i : Nat) : Nat → Nat := fun j => if j < i then lim (x - y) j else lim x j
theorem aha (x y : Nat) : acT x y 0 = lim x := by funext j; simp [acT]
theorem aks (x y i : Nat) : acT x y i i = lim x i := by simp [acT]
theorem ag9 {x y i v : Nat} (hv : v = lim (x - y) i) : upd (acT x y i) i v = acT x y (i + 1) := by
 funext j
 by_cases h : j = i
 · subst h; rw [eU, hv]; simp [acT]
 · rw [upd_ne _ _ h]
   unfold acT
   by_cases h2 : j < i
   · rw [if_pos h2, if_pos (by omega)]
   · rw [if_neg h2, if_neg (by omega)]
theorem ahI (x y : Nat) : row 9 (acT x y 9) = row 9 (lim (x - y)) := aow (fun j hj => by simp [acT, hj])
theorem akf : (#[.int .u64 0, .int .u64 0, .int .u64 0, .int .u64 0, .int .u64 0, .int .u64 0, .int .u64 0, .int .u64 0, .int .u64 0] : Array Value) = row 9 (lim 0) := by
 rw [aow (g := fun _ => 0) (fun j _ => afG j)]
 rfl
theorem ah7 (x y : Nat) (hxy : y ≤ x) (w : World) :
 Calls Tryz.prog 84 #[Lv x, Lv y] w fun e w' => e = .returned (Lv (x - y)) ∧ Below w.heap.size w w' := by
 have HXY := Lib.hid hxy
 clear hxy
 go_enter Tryz.func84, Tryz.ntmps84
 go_wp2_with fail
 go_loopw [5, 7] (fun bv iv wr => ∃ (i : Nat) (z : World), bv = .int .u64 ((bor x y i : Nat) : Int) ∧ iv = .int .i64 (i : Int) ∧ wr = (((z.pin (w.heap.size) (.cells (row 9 (acT x y i)) 66)).pin (w.heap.size + 1) (.cells (row 9 (lim y)) 66)).pin (w.heap.size + 2) (.cells #[.int .u64 0, .int .u64 0, .int .u64 0, .int .u64 0, .int .u64 0, .int .u64 0, .int .u64 0, .int .u64 0, .int .u64 0] 66)) ∧ w.heap.size < z.heap.size ∧ w.heap.size + 1 < z.heap.size ∧ w.heap.size + 2 < z.heap.size ∧ Hid (Below w.heap.size w z ∧ i ≤ 9)) (fun _ iv _ => (9 - intOf iv).toNat)
 case atStart => exact ⟨0, _, by rw [ae3]; rfl, rfl, aif ob ob ob (by rw [aha]; rfl) (by rfl) (by rfl), sz, sz, sz, (pl (Below.refl _ _)), by omega⟩
 case round =>
  obtain ⟨i, z, rfl, rfl, rfl, q0, q1, q2, H⟩ := hrel
  by_cases hi : i < 9
  · have hgx := anM (acT x y i) hi
    rw [aks] at hgx
    have hgy := anM (lim y) hi
    have hiz : (i : Int) < 9 := by omega
    obtain ⟨a, ha⟩ : ∃ a, a = lim x i := ⟨_, rfl⟩
    obtain ⟨b, hb⟩ : ∃ b, b = lim y i := ⟨_, rfl⟩
    obtain ⟨c, hc⟩ : ∃ c, c = bor x y i := ⟨_, rfl⟩
    rw [← ha] at hgx
    rw [← hb] at hgy
    have hS := adY a b c (by rw [hc]; exact afZ _ _ _)
    have HC := Lib.hid (show bor x y (i + 1) = if a < b + c then 1 else 0 by rw [ha, hb, hc]; exact ae0 x y i)
    obtain ⟨v, hv⟩ : ∃ v, v = (a + 18446744073709551616 - b - c) % 18446744073709551616 := ⟨_, rfl⟩
    have HV := Lib.hid (show v = lim (x - y) i by rw [hv, ha, hb, hc]; exact akK HXY.out i)
    rw [← hv] at hS
    rw [← hc]
    clear ha hb hc hv
    have HB1 : Hid (Below w.heap.size w z) := H.out.1
    have HI := Lib.hid hi
    clear H hi
    go_wp2_with fail
    refine st1 w [13, 14] 15 (ak (b := w.heap.size) ob (ak (b := w.heap.size + 1) ob (ak (b := w.heap.size + 2) ob (aO (pl HB1.out))))) (fun HS => ?_)
    refine pure_ #[true, false, false, false, false, false, false, false, false, false, false, false, false, false, false] (i := 0) (N := some 11) (v := ?v1) rfl rfl (by kernel_rfl) (fun _ _ _ h => h) (Or.inl ⟨by rfl, ?hy1⟩) rfl ?_
    case hy1 => (intro v; go_simp; first | done | with_reducible rfl)
    simp only [Act.put, List.setIfInBounds_toArray, List.set_cons_zero, List.set_cons_succ]
    refine pure_ #[true, true, false, false, false, false, false, false, false, false, false, false, false, false, false] (i := 1) (N := some 12) (v := ?v2) rfl rfl (by kernel_rfl) (fun _ _ _ h => h) (Or.inl ⟨by rfl, ?hy2⟩) rfl ?_
    case hy2 => (intro v; go_simp; first | done | with_reducible rfl)
    simp only [Act.put, List.setIfInBounds_toArray, List.set_cons_zero, List.set_cons_succ]
    refine tk3 2 (some 13) HS (h := ?_)
    refine tk3 3 (some 14) HS (h := ?_)
    refine pure_ #[true, true, true, true, true, false, false, false, false, false, false, false, false, false, false] (i := 4) (N := some 15) (v := ?v5) rfl rfl (by kernel_rfl) (fun _ _ _ h => h) (Or.inl ⟨by rfl, ?Ul⟩) rfl ?_
    case Ul => (intro v; go_simp; first | done | with_reducible rfl)
    simp only [Act.put, List.setIfInBounds_toArray, List.set_cons_zero, List.set_cons_succ]
    refine tk3 5 (some 16) HS (h := ?_)
    refine tk3 6 (some 17) HS (h := ?_)
    refine pure_ #[true, true, true, true, true, true, true, true, false, false, false, false, false, false, false] (i := 7) (N := some 18) (v := ?v8) rfl rfl (by kernel_rfl) (fun _ _ _ h => h) (Or.inl ⟨by rfl, ?hy8⟩) rfl ?_
    case hy8 => (intro v; go_simp; first | done | with_reducible rfl)
    simp only [Act.put, List.setIfInBounds_toArray, List.set_cons_zero, List.set_cons_succ]
    refine pure_ #[true, true, true, true, true, true, true, true, true, false, false, false, false, false, false] (i := 8) (N := some 19) (v := ?v9) rfl rfl (by kernel_rfl) (fun _ _ _ h => h) (Or.inl ⟨by rfl, ?hy9⟩) rfl ?_
    case hy9 => (intro v; go_simp; first | done | with_reducible rfl)
    simp only [Act.put, List.setIfInBounds_toArray, List.set_cons_zero, List.set_cons_succ]
    refine pure_ #[true, true, true, true, true, true, true, true, true, true, false, false, false, false, false] (i := 9) (N := some 10) (v := ?v10) rfl rfl (by kernel_rfl) (fun _ _ _ h => h) (Or.inl ⟨by rfl, ?Uh⟩) rfl ?_
    case Uh => (intro v; go_simp; first | done | with_reducible rfl)
    simp only [Act.put, List.setIfInBounds_toArray, List.set_cons_zero, List.set_cons_succ]
    refine pure_ #[true, true, true, true, true, true, true, true, true, true, true, false, false, false, false] (i := 10) (N := some 20) (v := ?v11) rfl rfl (by kernel_rfl) (fun _ _ _ h => h) (Or.inl ⟨by rfl, ?abN⟩) rfl ?_
    case abN => (intro v; go_simp; first | done | with_reducible rfl)
    simp only [Act.put, List.setIfInBounds_toArray, List.set_cons_zero, List.set_cons_succ]
    refine pure_ #[true, true, true, true, true, true, true, true, true, true, true, true, false, false, false] (i := 11) (N := some 21) (v := ?v12) rfl rfl (by kernel_rfl) (fun _ _ _ h => h) (Or.inl ⟨by rfl, ?Ui⟩) rfl ?_
    case Ui => (intro v; go_simp; first | done | with_reducible rfl)
    simp only [Act.put, List.setIfInBounds_toArray, List.set_cons_zero, List.set_cons_succ]
    refine tk3 12 (some 22) HS (h := ?_)
    clear HS
    refine pO 13 none (h := fun K hK => ?_)
    go_simp
    refine hK.out _ _ ?_
    refine pO 14 (some 5) (h := fun K hK => ?_)
    go_simp
    refine hK.out _ _ ?_
    refine done_ (by kernel_rfl) ?_
    go_wp2_with fail
    exact ⟨⟨i + 1, z.drew, by rw [HC.out], vi0 i, by rw [iy, ag9 HV.out]; rfl, q0, q1, q2, HB1.out.drew, HI.out⟩, tH 9 i HI.out⟩
  · have hi : i = 9 := by have := H.out.2; omega
    subst hi
    rw [ahI, alS (x - y)]
    go_wp2_with fail
    refine bodyPost_ret (v := Lv (x - y)) ?_ rfl ⟨rfl, ?_⟩
    · simp [results, Tryz.results84, go_sem, q0, q1, q2]
    · exact (pl H.out.1)
def alF (x i : Nat) : Nat → Nat := fun j => if j < i then lim (x / 2) j else lim x j
theorem af4 (x : Nat) : alF x 0 = lim x := by funext j; simp [alF]
theorem ahK (x i : Nat) : alF x i i = lim x i := by simp [alF]
theorem af0 (x i : Nat) : alF x i (i + 1) = lim x (i + 1) := by
 unfold alF
 rw [if_neg (by omega)]
theorem acU {x i v : Nat} (hv : v = lim (x / 2) i) : upd (alF x i) i v = alF x (i + 1) := by
 funext j
 by_cases h : j = i
 · subst h; rw [eU, hv]; simp [alF]
 · rw [upd_ne _ _ h]
   unfold alF
   by_cases h2 : j < i
   · rw [if_pos h2, if_pos (by omega)]
   · rw [if_neg h2, if_neg (by omega)]
theorem ahd (a : Nat) : ((a : Int) / 2) = ((a / 2 : Nat) : Int) := by omega
theorem ahb (x : Nat) : row 9 (alF x 9) = row 9 (lim (x / 2)) := aow (fun j hj => by simp [alF, hj])
theorem akA (a b : Nat) (ha : a < WW) (hb : b < WW) : bits .or .u64 ((a : Int) / 2) (eX ((b : Int) * 9223372036854775808)) = ((a / 2 + b % 2 * 9223372036854775808 : Nat) : Int) := by
 have e1 : (a : Int) / 2 = ((a / 2 : Nat) : Int) := by omega
 have e2 : eX ((b : Int) * 9223372036854775808) = ((b % 2 * 9223372036854775808 : Nat) : Int) := by unfold eX; simp only [IntKind.wrap_u64]; omega
 simp only [WW] at ha hb
 have hor := bits_nat .u64 64 (by decide) (fun n h0 h1 => by
  simp only [IntKind.wrap, IntKind.bits, IntKind.signed] at *
  simp at *
  omega) (a / 2) (b % 2 * 9223372036854775808) (by omega) (by omega)
 rw [e1, e2, hor.2]
 have := Nat.shiftLeft_add_eq_or_of_lt (show a / 2 < 2 ^ 63 by omega) (b % 2)
 rw [Nat.shiftLeft_eq, show (2 : Nat) ^ 63 = 9223372036854775808 from rfl, Nat.or_comm] at this
 omega
theorem adl (x : Nat) (hx : x < WW ^ 9) (w : World) :
 Calls Tryz.prog 85 #[Lv x] w fun e w' => e = .returned (Lv (x / 2)) ∧ Below w.heap.size w w' := by
 have HX := Lib.hid hx
 clear hx
 go_enter Tryz.func85, Tryz.ntmps85
 go_wp2_with fail
 go_loopw [4] (fun iv wr => ∃ (i : Nat) (z : World), iv = .int .i64 (i : Int) ∧ wr = ((z.pin (w.heap.size) (.cells (row 9 (alF x i)) 66)).pin (w.heap.size + 1) (.cells #[.int .u64 0, .int .u64 0, .int .u64 0, .int .u64 0, .int .u64 0, .int .u64 0, .int .u64 0, .int .u64 0, .int .u64 0] 66)) ∧ w.heap.size < z.heap.size ∧ w.heap.size + 1 < z.heap.size ∧ Hid (Below w.heap.size w z ∧ i ≤ 9)) (fun iv _ => (9 - intOf iv).toNat)
 case atStart => exact ⟨0, _, rfl, ad3 ob ob (by rw [af4]; rfl) (by rfl), sz, sz, (pl (Below.refl _ _)), by omega⟩
 case round =>
  obtain ⟨i, z, rfl, rfl, q0, q1, H⟩ := hrel
  by_cases hi : i < 9
  · have hgx := anM (alF x i) hi
    rw [ahK] at hgx
    have hiz : (i : Int) < 9 := by omega
    obtain ⟨a, ha⟩ : ∃ a, a = lim x i := ⟨_, rfl⟩
    rw [← ha] at hgx
    have HB1 : Hid (Below w.heap.size w z) := H.out.1
    have HI := Lib.hid hi
    have hs1 : ((row 9 (alF x i)).setIfInBounds i (.int .u64 ((a : Int) / 2)))[i]? = some (.int .u64 ((a : Int) / 2)) := by rw [Array.getElem?_setIfInBounds_self_of_lt (by rw [BN]; exact hi)]
    by_cases hj : i + 1 < 9
    · have hgy := anM (alF x i) hj
      rw [af0] at hgy
      obtain ⟨b, hb⟩ : ∃ b, b = lim x (i + 1) := ⟨_, rfl⟩
      rw [← hb] at hgy
      have HV := Lib.hid (show a / 2 + b % 2 * 9223372036854775808 = lim (x / 2) i by rw [ha, hb]; exact afx x i)
      have HAB := Lib.hid (And.intro (show a < WW by rw [ha]; exact amn _ _) (show b < WW by rw [hb]; exact amn _ _))
      have hjz : (i : Int) + 1 < 9 := by omega
      have hs2 : ((row 9 (alF x i)).setIfInBounds i (.int .u64 ((a : Int) / 2)))[i + 1]? = some (.int .u64 (b : Int)) := by rw [Array.getElem?_setIfInBounds_ne (by omega)]; exact hgy
      have HJ := Lib.hid hj
      have hp0 : (0 : Int) ≤ (i : Int) + 1 := by omega
      have e6 : IntKind.i64.wrap ((i : Int) + 1) = (i : Int) + 1 := (Dc _).trans (kX _ (by omega))
      clear H hi hj ha hb
      go_wp2_with fail
      refine st1 w [10] 11 (ak (b := w.heap.size) ob (ak (b := w.heap.size + 1) ob (aO (pl HB1.out)))) (fun HS => ?_)
      refine pure_ #[true, false, false, false, false, false, false, false, false, false, false] (i := 0) (N := some 15) (v := ?v1) rfl rfl (by kernel_rfl) (fun _ _ _ h => h) (Or.inl ⟨by rfl, ?hy1⟩) rfl ?_
      case hy1 => (intro v; go_simp; first | done | with_reducible rfl)
      simp only [Act.put, List.setIfInBounds_toArray, List.set_cons_zero, List.set_cons_succ]
      refine tk2 1 (some 16) HS (h := ?_)
      refine tk2 2 (some 17) HS (h := ?_)
      refine pure_ #[true, true, true, true, false, false, false, false, false, false, false] (i := 3) (N := some 18) (v := ?v4) rfl rfl (by kernel_rfl) (fun _ _ _ h => h) (Or.inl ⟨by rfl, ?hy4⟩) rfl ?_
      case hy4 => (intro v; go_simp; first | done | with_reducible rfl)
      simp only [Act.put, List.setIfInBounds_toArray, List.set_cons_zero, List.set_cons_succ]
      refine pure_ #[true, true, true, true, true, false, false, false, false, false, false] (i := 4) (N := some 19) (v := ?v5) rfl rfl (by kernel_rfl) (fun _ _ _ h => h) (Or.inl ⟨by rfl, ?Ul⟩) rfl ?_
      case Ul => (intro v; go_simp; first | done | with_reducible rfl)
      simp only [Act.put, List.setIfInBounds_toArray, List.set_cons_zero, List.set_cons_succ]
      refine tk2 5 (some 20) HS (h := ?_)
      refine tk2 6 (some 21) HS (h := ?_)
      refine pure_ #[true, true, true, true, true, true, true, true, false, false, false] (i := 7) (N := some 22) (v := ?v8) rfl rfl (by kernel_rfl) (fun _ _ _ h => h) (Or.inl ⟨by rfl, ?hy8⟩) rfl ?_
      case hy8 => (intro v; go_simp; first | done | with_reducible rfl)
      simp only [Act.put, List.setIfInBounds_toArray, List.set_cons_zero, List.set_cons_succ]
      refine pure_ #[true, true, true, true, true, true, true, true, true, false, false] (i := 8) (N := some 23) (v := ?v9) rfl rfl (by kernel_rfl) (fun _ _ _ h => h) (Or.inl ⟨by rfl, ?hy9⟩) rfl ?_
      case hy9 => (intro v; go_simp; first | done | with_reducible rfl)
      simp only [Act.put, List.setIfInBounds_toArray, List.set_cons_zero, List.set_cons_succ]
      refine tk2 9 (some 24) HS (h := ?_)
      clear HS
      refine pO 10 none (h := fun K hK => ?_)
      go_simp
      refine hK.out _ _ ?_
      refine done_ (by kernel_rfl) ?_
      go_wp2_with fail
      exact ⟨⟨i + 1, z.drew, vi0 i, by rw [akA a b HAB.out.1 HAB.out.2, iy, acU HV.out]; rfl, q0, q1, HB1.out.drew, HI.out⟩, tH 9 i HI.out⟩
    · have HV := Lib.hid (show a / 2 = lim (x / 2) i by rw [← afx x i, ha, show lim x (i + 1) = 0 from by rw [show i + 1 = 9 by omega]; exact ah9 HX.out]; omega)
      have hjz : ¬ (i : Int) + 1 < 9 := by omega
      clear H hi hj ha
      go_wp2_with fail
      exact ⟨⟨i + 1, z, vi0 i, by rw [ahd, iy, acU HV.out], q0, q1, HB1.out, HI.out⟩, tH 9 i HI.out⟩
  · have hi : i = 9 := by have := H.out.2; omega
    subst hi
    rw [ahb, alS (x / 2)]
    go_wp2_with fail
    refine bodyPost_ret (v := Lv (x / 2)) ?_ rfl ⟨rfl, ?_⟩
    · simp [results, Tryz.results85, go_sem, q0, q1]
    · exact (pl H.out.1)
theorem wr8 (q : Nat) (h : q < 8) : wrap64 (8 * (q : Int)) = ((8 * q : Nat) : Int) := by rw [kX _ (by omega)]; omega
theorem akO (o b q v : Nat) (ho : o < 256 ^ q) (hb : b < 256) (hq : q < 8) (hv : v = o + b * 256 ^ q) : bits .or .u64 (o : Int) (eX ((b : Int) * 2 ^ (8 * q))) = (v : Int) := by
 have hp : 256 ^ q ≤ 256 ^ 7 := Nat.pow_le_pow_right (by decide) (by omega)
 have e8 : (2 : Nat) ^ (8 * q) = 256 ^ q := by rw [show (256 : Nat) = 2 ^ 8 by decide, ← Nat.pow_mul]
 have hbq : b * 256 ^ q ≤ 255 * 256 ^ 7 := Nat.mul_le_mul (by omega) hp
 have e2 : eX ((b : Int) * 2 ^ (8 * q)) = ((b * 256 ^ q : Nat) : Int) := by
  have e4 : ((2 : Int) ^ (8 * q)) = ((256 ^ q : Nat) : Int) := by rw [← e8, Int.natCast_pow]; rfl
  rw [e4, ← Int.natCast_mul]
  exact nH _ (by omega)
 have hor := bits_nat .u64 64 (by decide) (fun n h0 h1 => by
  simp only [IntKind.wrap, IntKind.bits, IntKind.signed] at *
  simp at *
  omega) o (b * 256 ^ q) (by omega) (by omega)
 rw [e2, hor.2]
 have := Nat.shiftLeft_add_eq_or_of_lt (show o < 2 ^ (8 * q) by rw [e8]; exact ho) b
 rw [Nat.shiftLeft_eq, e8, Nat.or_comm] at this
 omega
theorem aiv (A : Option Addr) (c : Nat) (bs : List Nat) (hby : ∀ b ∈ bs, b < 256) (hl : bs.length ≤ 64) (w : World) (hr : Rd w .u8 A bs) :
 Calls Tryz.prog 43 #[.slice A bs.length c] w fun e w' => e = .returned (Lv (bW bs)) ∧ Below w.heap.size w w' := by
 have HR := Lib.hid hr
 have rV := Lib.hid hby
 obtain ⟨n, hn⟩ : ∃ n, n = bs.length := ⟨_, rfl⟩
 have HN := Lib.hid hn
 have HL := Lib.hid hl
 rw [← hn]
 clear hr hby hn hl
 go_enter Tryz.func43, Tryz.ntmps43
 go_wp2_with fail
 go_loopw [8] (fun iv wr => ∃ (i : Nat) (z : World), iv = .int .i64 (i : Int) ∧ wr = ((z.pin (w.heap.size) (.cells #[.int .u64 0, .int .u64 0, .int .u64 0, .int .u64 0, .int .u64 0, .int .u64 0, .int .u64 0, .int .u64 0, .int .u64 0] 66)).pin (w.heap.size + 1) (.cells (row 9 (lim (bW (bs.take i)))) 66)) ∧ w.heap.size < z.heap.size ∧ w.heap.size + 1 < z.heap.size ∧ Hid (Below w.heap.size w z ∧ i ≤ n)) (fun iv _ => (n - intOf iv).toNat)
 case atStart => exact ⟨0, _, rfl, ad3 ob ob (by rfl) (by rw [List.take_zero]; rfl), sz, sz, (pl (Below.refl _ _)), Nat.zero_le _⟩
 case round =>
  obtain ⟨i, z, rfl, rfl, q0, q1, H⟩ := hrel
  by_cases hi : i < n
  · have hi' : i < bs.length := by rw [← HN.out]; exact hi
    obtain ⟨b, off, rfl, hbw, hcell⟩ := HR.out.place (by omega)
    obtain ⟨v, hv⟩ : ∃ v, v = bs[i] := ⟨_, rfl⟩
    have hc : z.cell? ⟨b, off + i, none⟩ = some (.int .u8 (v : Int)) := by rw [hv]; exact (H.out.1.cell (p := ⟨b, off + i, none⟩) hbw).trans (hcell i hi')
    have HB1 : Hid (Below w.heap.size w z) := H.out.1
    have HI := Lib.hid hi
    have HLL := HL.out
    obtain ⟨j, hj⟩ : ∃ j, j = i / 8 := ⟨_, rfl⟩
    obtain ⟨q, hq⟩ : ∃ q, q = i % 8 := ⟨_, rfl⟩
    have hj9 : j < 9 := by have := HN.out; omega
    have hgx := anM (lim (bW (bs.take i))) hj9
    obtain ⟨o, ho⟩ : ∃ o, o = lim (bW (bs.take i)) j := ⟨_, rfl⟩
    rw [← ho] at hgx
    have ZG : v < 256 := by rw [hv]; exact rV.out _ (List.getElem_mem _)
    have hNt := ae4 bs rV.out i (by omega)
    have hra := agF (b := v) hNt ZG
    rw [← hj, ← hq, ← ho] at hra
    obtain ⟨nv, hnv⟩ : ∃ nv, nv = o + v * 256 ^ q := ⟨_, rfl⟩
    have HOR := Lib.hid (akO o v q nv hra.1 ZG (by omega) hnv)
    have amW := Lib.hid (show row 9 (upd (lim (bW (bs.take i))) j nv) = row 9 (lim (bW (bs.take (i + 1)))) by
     rw [aoB bs i hi', ← hv, hj]
     exact aiz hNt ZG (by rw [hnv, ← hj, ← ho, ← hq]))
    have e1 : ((i : Int)).tdiv 8 = (j : Int) := by rw [Int.tdiv_eq_ediv_of_nonneg (by omega)]; omega
    have e2 : ((i : Int)) / 8 = (j : Int) := by omega
    have e3 : ((i : Int)).tmod 8 = (q : Int) := by rw [Int.tmod_eq_emod_of_nonneg (by omega)]; omega
    have e4 : ((i : Int)) % 8 = (q : Int) := by omega
    have hjz : (j : Int) < 9 := by omega
    have s1 : eX (v : Int) = (v : Int) := nH v (by omega)
    have e5 : wrap64 (8 * (q : Int)) = ((8 * q : Nat) : Int) := wr8 q (by omega)
    have e6 : IntKind.i64.wrap (j : Int) = (j : Int) := (Dc _).trans (kX _ (by omega))
    have e7 : IntKind.i64.wrap (q : Int) = (q : Int) := (Dc _).trans (kX _ (by omega))
    have e8 : IntKind.i64.wrap (8 * (q : Int)) = ((8 * q : Nat) : Int) := (Dc _).trans e5
    clear H hi hi' hcell hv ZG hNt hra hnv hj hq ho hj9 HLL
    go_wp2_with fail
    refine st1 w [12] 13 (ak (b := w.heap.size) ob (ak (b := w.heap.size + 1) ob (aO (pl HB1.out)))) (fun HS => ?_)
    refine pure_ #[true, false, false, false, false, false, false, false, false, false, false, false, false] (i := 0) (N := some 13) (v := ?v1) rfl rfl (by kernel_rfl) (fun _ _ _ h => h) (Or.inl ⟨by rfl, ?hy1⟩) rfl ?_
    case hy1 => (intro v; go_simp; first | done | with_reducible rfl)
    simp only [Act.put, List.setIfInBounds_toArray, List.set_cons_zero, List.set_cons_succ]
    refine pure_ #[true, true, false, false, false, false, false, false, false, false, false, false, false] (i := 1) (N := some 14) (v := ?v2) rfl rfl (by kernel_rfl) (fun _ _ _ h => h) (Or.inl ⟨by rfl, ?hy2⟩) rfl ?_
    case hy2 => (intro v; go_simp; first | done | with_reducible rfl)
    simp only [Act.put, List.setIfInBounds_toArray, List.set_cons_zero, List.set_cons_succ]
    refine tk2 2 (some 15) HS (h := ?_)
    refine tk2 3 (some 16) HS (h := ?_)
    refine pure_ #[true, true, true, true, true, false, false, false, false, false, false, false, false] (i := 4) (N := some 17) (v := ?v5) rfl rfl (by kernel_rfl) (fun _ _ _ h => h) (Or.inl ⟨by rfl, ?Ul⟩) rfl ?_
    case Ul => (intro v; go_simp; first | done | with_reducible rfl)
    simp only [Act.put, List.setIfInBounds_toArray, List.set_cons_zero, List.set_cons_succ]
    refine pure_ #[true, true, true, true, true, true, false, false, false, false, false, false, false] (i := 5) (N := some 18) (v := ?v6) rfl rfl (by kernel_rfl) (fun _ _ _ h => h) (Or.inl ⟨by rfl, ?Pj⟩) rfl ?_
    case Pj => (intro v; go_simp; first | done | with_reducible rfl)
    simp only [Act.put, List.setIfInBounds_toArray, List.set_cons_zero, List.set_cons_succ]
    refine pure_ #[true, true, true, true, true, true, true, false, false, false, false, false, false] (i := 6) (N := some 19) (v := ?v7) rfl rfl (by kernel_rfl) (fun _ _ _ h => h) (Or.inl ⟨by rfl, ?Um⟩) rfl ?_
    case Um => (intro v; go_simp; first | done | with_reducible rfl)
    simp only [Act.put, List.setIfInBounds_toArray, List.set_cons_zero, List.set_cons_succ]
    refine pure_ #[true, true, true, true, true, true, true, true, false, false, false, false, false] (i := 7) (N := some 20) (v := ?v8) rfl rfl (by kernel_rfl) (fun _ _ _ h => h) (Or.inl ⟨by rfl, ?hy8⟩) rfl ?_
    case hy8 => (intro v; go_simp; first | done | with_reducible rfl)
    simp only [Act.put, List.setIfInBounds_toArray, List.set_cons_zero, List.set_cons_succ]
    refine pure_ #[true, true, true, true, true, true, true, true, true, false, false, false, false] (i := 8) (N := some 21) (v := ?v9) rfl rfl (by kernel_rfl) (fun _ _ _ h => h) (Or.inl ⟨by rfl, ?hy9⟩) rfl ?_
    case hy9 => (intro v; go_simp; first | done | with_reducible rfl)
    simp only [Act.put, List.setIfInBounds_toArray, List.set_cons_zero, List.set_cons_succ]
    refine pure_ #[true, true, true, true, true, true, true, true, true, true, false, false, false] (i := 9) (N := some 22) (v := ?v10) rfl rfl (by kernel_rfl) (fun _ _ _ h => h) (Or.inl ⟨by rfl, ?Uh⟩) rfl ?_
    case Uh => (intro v; go_simp; first | done | with_reducible rfl)
    simp only [Act.put, List.setIfInBounds_toArray, List.set_cons_zero, List.set_cons_succ]
    refine pure_ #[true, true, true, true, true, true, true, true, true, true, true, false, false] (i := 10) (N := some 23) (v := ?v11) rfl rfl (by kernel_rfl) (fun _ _ _ h => h) (Or.inl ⟨by rfl, ?abN⟩) rfl ?_
    case abN => (intro v; go_simp; first | done | with_reducible rfl)
    simp only [Act.put, List.setIfInBounds_toArray, List.set_cons_zero, List.set_cons_succ]
    refine tk2 11 (some 24) HS (h := ?_)
    clear HS
    refine pO 12 none (h := fun K hK => ?_)
    go_simp
    refine hK.out _ _ ?_
    refine done_ (by kernel_rfl) ?_
    go_wp2_with fail
    exact ⟨⟨i + 1, z.drew, vi0 i, by rw [HOR.out, iy, amW.out]; rfl, q0, q1, HB1.out.drew, HI.out⟩, tH n i HI.out⟩
  · have hi : i = n := by have := H.out.2; omega
    subst hi
    have ht : bs.take i = bs := by rw [HN.out]; exact List.take_length
    rw [ht, alS (bW bs)]
    go_wp2_with fail
    refine bodyPost_ret (v := Lv (bW bs)) ?_ rfl ⟨rfl, ?_⟩
    · simp [results, Tryz.results43, go_sem, q0, q1]
    · exact (pl H.out.1)
end
section
open Go.RowKit Go.Proofs.YtehfkbaendajbaaGreatDoorW.PrintLast
def acX (x i : Nat) : Nat → Nat := fun j => if j < i then zV x j else 0
theorem ahh {x i v : Nat} (hv : v = zV x i) : upd (acX x i) i v = acX x (i + 1) := by
 funext j
 by_cases h : j = i
 · subst h; rw [eU, hv]; simp [acX]
 · rw [upd_ne _ _ h]
   unfold acX
   by_cases h2 : j < i
   · rw [if_pos h2, if_pos (by omega)]
   · rw [if_neg h2, if_neg (by omega)]
theorem ahk (x : Nat) : acX x 0 = fun _ => 0 := by funext j; simp [acX]
theorem aiN (f : Nat → Nat) : tV 32 f = bF ((List.range 32).map f) := by
 unfold tV bF
 simp
theorem aie (x : Nat) : (List.range 32).map (acX x 32) = dw 32 x := by
 unfold dw
 refine List.map_congr_left (fun j hj => ?_)
 unfold acX
 rw [if_pos (List.mem_range.mp hj)]
theorem aiT (a q : Nat) : (a : Int) / 2 ^ (8 * q) % 256 = ((a / 2 ^ (8 * q) % 256 : Nat) : Int) := by
 have e1 : ((a : Int) / 2 ^ (8 * q)) = ((a / 2 ^ (8 * q) : Nat) : Int) := by rw [Int.natCast_ediv, Int.natCast_pow]; rfl
 rw [e1]
 generalize a / 2 ^ (8 * q) = z
 omega
theorem acN (x : Nat) (w : World) :
 Calls Tryz.prog 45 #[Lv x] w fun e w' => (∃ b, w.heap.size ≤ b ∧ e = .returned (.slice (some ⟨b, 0, none⟩) 32 32) ∧ w'.heap[b]? = some (.cells (bF (dw 32 x)) 5)) ∧ Below w.heap.size w w' := by
 have hmk := UO
 go_enter Tryz.func45, Tryz.ntmps45
 go_wp2_with fail
 go_loopw [8] (fun iv wr => ∃ (i : Nat) (z : World), iv = .int .i64 (i : Int) ∧ wr = ((z.pin (w.heap.size) (.cells (row 9 (lim x)) 66)).pin (w.heap.size + 1) (.cells (tV 32 (acX x i)) 5)) ∧ w.heap.size < z.heap.size ∧ w.heap.size + 1 < z.heap.size ∧ Hid (Below w.heap.size w z ∧ i ≤ 32)) (fun iv _ => (32 - intOf iv).toNat)
 case atStart => exact ⟨0, _, rfl, ad3 ob ob (by rfl) (by rw [ahk]), sz, sz, (pl (Below.refl _ _)), by omega⟩
 case round =>
  obtain ⟨i, z, rfl, rfl, q0, q1, H⟩ := hrel
  by_cases hi : i < 32
  · have HB1 : Hid (Below w.heap.size w z) := H.out.1
    have HI := Lib.hid hi
    obtain ⟨j, hj⟩ : ∃ j, j = i / 8 := ⟨_, rfl⟩
    obtain ⟨q, hq⟩ : ∃ q, q = i % 8 := ⟨_, rfl⟩
    have hgx := anM (lim x) (show j < 9 by omega)
    obtain ⟨a, ha⟩ : ∃ a, a = lim x j := ⟨_, rfl⟩
    rw [← ha] at hgx
    have hg8 := qB (acX x i) hi
    have hiz : (i : Int) < 32 := by omega
    have e1 : ((i : Int)).tdiv 8 = (j : Int) := by rw [Int.tdiv_eq_ediv_of_nonneg (by omega)]; omega
    have e2 : ((i : Int)) / 8 = (j : Int) := by omega
    have e3 : ((i : Int)).tmod 8 = (q : Int) := by rw [Int.tmod_eq_emod_of_nonneg (by omega)]; omega
    have e4 : ((i : Int)) % 8 = (q : Int) := by omega
    have hjz : (j : Int) < 9 := by omega
    have e5 : wrap64 (8 * (q : Int)) = ((8 * q : Nat) : Int) := wr8 q (by omega)
    have HV := Lib.hid (show a / 2 ^ (8 * q) % 256 = zV x i by rw [ha, hj, hq, ah8])
    clear H hi hj hq ha
    go_wp2_with fail
    exact ⟨⟨i + 1, z, vi0 i, by rw [aiT, xJ, ahh HV.out], q0, q1, HB1.out, HI.out⟩, tH 32 i HI.out⟩
  · have hi : i = 32 := by have := H.out.2; omega
    subst hi
    go_wp2_with fail
    go_ret
    refine ⟨⟨w.heap.size + 1, Nat.le_succ _, rfl, ?_⟩, (pl H.out.1)⟩
    have h := eY (w := z.pin w.heap.size (.cells (row 9 (lim x)) 66)) (b := w.heap.size + 1) (o := .cells (tV 32 (acX x 32)) 5) (by rw [aA]; exact q1)
    rw [aiN, aie] at h
    exact h
end
end Go.Proofs.YtehfkbaendajbaaGreatDoor
