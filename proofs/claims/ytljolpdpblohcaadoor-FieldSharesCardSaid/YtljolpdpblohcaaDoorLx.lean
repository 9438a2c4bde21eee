/-
  Walks: package field, numbers of nine words: bytes, products.
-/
import Derived.Test.YtljolpdpblohcaaDoorLw
import Derived.Test.YtljolpdpblohcaaDoorBy
namespace Go.Proofs.YtljolpdpblohcaaDoor
open Go.RowKit Go.Proofs.YtljolpdpblohcaaDoorW.PrintLast
set_option linter.unusedSimpArgs false

set_option linter.unusedVariables false
/-- The bytes, behind i rounds. -/
def lowB (x i : Nat) : Nat → Nat := fun j => if j < i then byt x j else 0
theorem lowB_step {x i v : Nat} (hv : v = byt x i) : upd (lowB x i) i v = lowB x (i + 1) := by
  funext j
  by_cases h : j = i
  · subst h; rw [upd_self, hv]; simp [lowB]
  · rw [upd_ne _ _ h]
    unfold lowB
    by_cases h2 : j < i
    · rw [if_pos h2, if_pos (by omega)]
    · rw [if_neg h2, if_neg (by omega)]
theorem lowB_zero (x : Nat) : lowB x 0 = fun _ => 0 := by funext j; simp [lowB]
theorem lowB_end (x : Nat) : (List.range 32).map (lowB x 32) = bytesN 32 x := by
  unfold bytesN
  refine List.map_congr_left (fun j hj => ?_)
  unfold lowB
  rw [if_pos (List.mem_range.mp hj)]
theorem shr_byte (a q : Nat) : (a : Int) / 2 ^ (8 * q) % 256 = ((a / 2 ^ (8 * q) % 256 : Nat) : Int) := by
  have e1 : ((a : Int) / 2 ^ (8 * q)) = ((a / 2 ^ (8 * q) : Nat) : Int) := by rw [Int.natCast_ediv, Int.natCast_pow]; rfl
  rw [e1]
  generalize a / 2 ^ (8 * q) = z
  omega
set_option maxRecDepth 100000 in
set_option maxHeartbeats 1000000 in
theorem bytesOf_any (x : Nat) (w : World) :
    Calls Tryd.prog 19 #[Lv x] w fun e w' => (∃ b, e = .returned (.slice (some ⟨b, 0, none⟩) 32 32) ∧ Rd w' .u8 (some ⟨b, 0, none⟩) (bytesN 32 x)) ∧ Below w.heap.size w w' := by
  have hmk := make8
  go_enter Tryd.func19, Tryd.ntmps19
  go_wp2_with fail
  go_loopw [8] (fun iv wr => ∃ (i : Nat) (z : World), iv = .int .i64 (i : Int) ∧ wr = ((z.pin (w.heap.size) (.cells (row 9 (lim x)) 44)).pin (w.heap.size + 1) (.cells (row8 32 (lowB x i)) 5)) ∧ w.heap.size < z.heap.size ∧ w.heap.size + 1 < z.heap.size ∧ Hid (Below w.heap.size w z ∧ i ≤ 32)) (fun iv _ => (32 - intOf iv).toNat)
  case atStart => exact ⟨0, _, rfl, pins2f (by (repeat (first | with_reducible exact pin_at (by assumption) | (with_reducible apply pin_at; (first | omega | (simp only [World.size_alloc, pin_size, World.size_drew, World.size_setCell] <;> omega))) | (with_reducible apply alloc_at; first | rfl | (simp only [World.size_alloc, pin_size, World.size_drew, World.size_setCell] <;> omega)) | with_reducible apply past_pin | with_reducible apply past_alloc | with_reducible apply past_drew)); all_goals (first | omega | (simp only [World.size_alloc, pin_size, World.size_drew, World.size_setCell] <;> omega))) (by (repeat (first | with_reducible exact pin_at (by assumption) | (with_reducible apply pin_at; (first | omega | (simp only [World.size_alloc, pin_size, World.size_drew, World.size_setCell] <;> omega))) | (with_reducible apply alloc_at; first | rfl | (simp only [World.size_alloc, pin_size, World.size_drew, World.size_setCell] <;> omega)) | with_reducible apply past_pin | with_reducible apply past_alloc | with_reducible apply past_drew)); all_goals (first | omega | (simp only [World.size_alloc, pin_size, World.size_drew, World.size_setCell] <;> omega))) (by rfl) (by rw [lowB_zero]), (by (first | omega | (simp only [World.size_alloc, pin_size, World.size_drew, World.size_setCell] <;> omega))), (by (first | omega | (simp only [World.size_alloc, pin_size, World.size_drew, World.size_setCell] <;> omega))), (by (repeat (first | with_reducible exact (Below.refl _ _) | with_reducible refine below_pin ?_ ?_ | with_reducible refine Below.alloc ?_ ?_ _ | with_reducible refine Below.setCell ?_ ?_ _ | with_reducible refine Below.drew ?_)); all_goals (first | omega | (simp only [World.size_alloc, pin_size, World.size_drew, World.size_setCell] <;> omega))), by omega⟩
  case round =>
    obtain ⟨i, z, rfl, rfl, q0, q1, H⟩ := hrel
    by_cases hi : i < 32
    · have HB1 : Hid (Below w.heap.size w z) := H.out.1
      have HI := Lib.hid hi
      obtain ⟨j, hj⟩ : ∃ j, j = i / 8 := ⟨_, rfl⟩
      obtain ⟨q, hq⟩ : ∃ q, q = i % 8 := ⟨_, rfl⟩
      have hgx := row9_get (lim x) (show j < 9 by omega)
      obtain ⟨a, ha⟩ : ∃ a, a = lim x j := ⟨_, rfl⟩
      rw [← ha] at hgx
      have hg8 := row8_get (lowB x i) hi
      have hiz : (i : Int) < 32 := by omega
      have e1 : ((i : Int)).tdiv 8 = (j : Int) := by rw [Int.tdiv_eq_ediv_of_nonneg (by omega)]; omega
      have e2 : ((i : Int)) / 8 = (j : Int) := by omega
      have e3 : ((i : Int)).tmod 8 = (q : Int) := by rw [Int.tmod_eq_emod_of_nonneg (by omega)]; omega
      have e4 : ((i : Int)) % 8 = (q : Int) := by omega
      have hjz : (j : Int) < 9 := by omega
      have e5 : wrap64 (8 * (q : Int)) = ((8 * q : Nat) : Int) := wr8 q (by omega)
      have HV := Lib.hid (show a / 2 ^ (8 * q) % 256 = byt x i by rw [ha, hj, hq, lim_byte])
      clear H hi hj hq ha
      go_wp2_with fail
      exact ⟨⟨i + 1, z, vi0 i, by rw [shr_byte, row8_set, lowB_step HV.out], q0, q1, HB1.out, HI.out⟩, meas_up0 32 i HI.out⟩
    · have hi : i = 32 := by have := H.out.2; omega
      subst hi
      go_wp2_with fail
      go_ret
      refine ⟨⟨w.heap.size + 1, rfl, ?_⟩, (by (repeat (first | with_reducible exact H.out.1 | with_reducible refine below_pin ?_ ?_ | with_reducible refine Below.alloc ?_ ?_ _ | with_reducible refine Below.setCell ?_ ?_ _ | with_reducible refine Below.drew ?_)); all_goals (first | omega | (simp only [World.size_alloc, pin_size, World.size_drew, World.size_setCell] <;> omega)))⟩
      have h := row8_rd (pin_at (w := z.pin w.heap.size (.cells (row 9 (lim x)) 44)) (b := w.heap.size + 1) (o := .cells (row8 32 (lowB x 32)) 5) (by rw [pin_size]; exact q1))
      rw [lowB_end] at h
      exact h

theorem Mul64_to (x y hi lo : Nat) (hx : x < WW) (hy : y < WW) (h1 : hi = x * y / WW) (h2 : lo = x * y % WW) (w : World) : Calls Tryd.prog 45 #[.int .u64 (x : Int), .int .u64 (y : Int)] w fun e w' => e = .returned (.tuple #[.int .u64 (hi : Int), .int .u64 (lo : Int)]) ∧ Below w.heap.size w w' :=
  (mul64_any x y hx hy w).mono fun e w' h => ⟨by rw [h.1, h1, h2]; rfl, by rw [h.2]; exact Below.refl _ _⟩
theorem Add64_to (x y l c : Nat) (h1 : l = (x + y) % WW) (h2 : c = (x + y) / WW) (w : World) : (callFunc 29 #[.int .u64 (x : Int), .int .u64 (y : Int), .int .u64 0]).run Tryd.prog w = .ok (.value (.tuple #[.int .u64 (l : Int), .int .u64 (c : Int)])) w := by
  have h := add64_law x y 0 (by omega) w
  rw [Nat.add_zero] at h
  rw [h1, h2]
  exact h
theorem prod_car {p o c hi lo l1 c1 l2 c2 h1 : Nat} (hp : p + o + c < WW * WW) (e1 : hi = p / WW) (e2 : lo = p % WW) (e3 : l1 = (lo + o) % WW) (e4 : c1 = (lo + o) / WW) (e5 : h1 = hi + c1) (e6 : l2 = (l1 + c) % WW) (e7 : c2 = (l1 + c) / WW) : l2 = (p + o + c) % WW ∧ h1 + c2 = (p + o + c) / WW ∧ h1 + c2 < WW := by
  simp only [WW] at *
  omega

theorem pins4e {w : World} {b0 b1 b2 b3 : Nat} {o0 o1 o2 o3 p0 p1 p2 p3 : Obj} (h0 : w.heap[b0]? = some o0) (h1 : w.heap[b1]? = some o1) (h2 : w.heap[b2]? = some o2) (h3 : w.heap[b3]? = some o3) (e0 : o0 = p0) (e1 : o1 = p1) (e2 : o2 = p2) (e3 : o3 = p3) : w = (((w.pin b0 p0).pin b1 p1).pin b2 p2).pin b3 p3 := by
  subst e0 e1 e2 e3; rw [pin_self h0, pin_self h1, pin_self h2, pin_self h3]
set_option maxRecDepth 100000 in
set_option maxHeartbeats 2000000 in
theorem product_any (a b : Nat) (ha : a < WW ^ 4) (hb : b < WW ^ 4) (w : World) :
    Calls Tryd.prog 28 #[Lv a, Lv b] w fun e w' => e = .returned (Lv (a * b)) ∧ Below w.heap.size w w' := by
  have HB := Lib.hid hb
  have HA := Lib.hid ha
  clear ha hb
  go_enter Tryd.func28, Tryd.ntmps28
  go_wp2_with fail
  go_loopw [12] (fun iv wr => ∃ (i : Nat) (fc : Nat → Nat) (z : World), iv = .int .i64 (i : Int) ∧ wr = ((((z.pin (w.heap.size) (.cells (row 9 (lim a)) 44)).pin (w.heap.size + 1) (.cells (row 9 (lim b)) 44)).pin (w.heap.size + 2) (.cells #[.int .u64 0, .int .u64 0, .int .u64 0, .int .u64 0, .int .u64 0, .int .u64 0, .int .u64 0, .int .u64 0, .int .u64 0] 44)).pin (w.heap.size + 3) (.cells (row 9 fc) 44)) ∧ w.heap.size < z.heap.size ∧ w.heap.size + 1 < z.heap.size ∧ w.heap.size + 2 < z.heap.size ∧ w.heap.size + 3 < z.heap.size ∧ Hid (Below w.heap.size w z ∧ i ≤ 4 ∧ (∀ j, fc j < WW) ∧ (∀ j, i + 4 ≤ j → fc j = 0) ∧ valL 9 fc = a % WW ^ i * b)) (fun iv _ => (4 - intOf iv).toNat)
  case atStart => exact ⟨0, lim 0, _, rfl, pins4e (by (repeat (first | with_reducible exact pin_at (by assumption) | (with_reducible apply pin_at; (first | omega | (simp only [World.size_alloc, pin_size, World.size_drew, World.size_setCell] <;> omega))) | (with_reducible apply alloc_at; first | rfl | (simp only [World.size_alloc, pin_size, World.size_drew, World.size_setCell] <;> omega)) | with_reducible apply past_pin | with_reducible apply past_alloc | with_reducible apply past_drew)); all_goals (first | omega | (simp only [World.size_alloc, pin_size, World.size_drew, World.size_setCell] <;> omega))) (by (repeat (first | with_reducible exact pin_at (by assumption) | (with_reducible apply pin_at; (first | omega | (simp only [World.size_alloc, pin_size, World.size_drew, World.size_setCell] <;> omega))) | (with_reducible apply alloc_at; first | rfl | (simp only [World.size_alloc, pin_size, World.size_drew, World.size_setCell] <;> omega)) | with_reducible apply past_pin | with_reducible apply past_alloc | with_reducible apply past_drew)); all_goals (first | omega | (simp only [World.size_alloc, pin_size, World.size_drew, World.size_setCell] <;> omega))) (by (repeat (first | with_reducible exact pin_at (by assumption) | (with_reducible apply pin_at; (first | omega | (simp only [World.size_alloc, pin_size, World.size_drew, World.size_setCell] <;> omega))) | (with_reducible apply alloc_at; first | rfl | (simp only [World.size_alloc, pin_size, World.size_drew, World.size_setCell] <;> omega)) | with_reducible apply past_pin | with_reducible apply past_alloc | with_reducible apply past_drew)); all_goals (first | omega | (simp only [World.size_alloc, pin_size, World.size_drew, World.size_setCell] <;> omega))) (by (repeat (first | with_reducible exact pin_at (by assumption) | (with_reducible apply pin_at; (first | omega | (simp only [World.size_alloc, pin_size, World.size_drew, World.size_setCell] <;> omega))) | (with_reducible apply alloc_at; first | rfl | (simp only [World.size_alloc, pin_size, World.size_drew, World.size_setCell] <;> omega)) | with_reducible apply past_pin | with_reducible apply past_alloc | with_reducible apply past_drew)); all_goals (first | omega | (simp only [World.size_alloc, pin_size, World.size_drew, World.size_setCell] <;> omega))) (by rfl) (by rfl) (by rfl) (by rw [← zeros9]), (by (first | omega | (simp only [World.size_alloc, pin_size, World.size_drew, World.size_setCell] <;> omega))), (by (first | omega | (simp only [World.size_alloc, pin_size, World.size_drew, World.size_setCell] <;> omega))), (by (first | omega | (simp only [World.size_alloc, pin_size, World.size_drew, World.size_setCell] <;> omega))), (by (first | omega | (simp only [World.size_alloc, pin_size, World.size_drew, World.size_setCell] <;> omega))), (by (repeat (first | with_reducible exact (Below.refl _ _) | with_reducible refine below_pin ?_ ?_ | with_reducible refine Below.alloc ?_ ?_ _ | with_reducible refine Below.setCell ?_ ?_ _ | with_reducible refine Below.drew ?_)); all_goals (first | omega | (simp only [World.size_alloc, pin_size, World.size_drew, World.size_setCell] <;> omega))), by omega, fun j => lim_lt _ _, fun j _ => lim_zero j, by rw [valL_lim, Nat.zero_mod, Nat.pow_zero, Nat.mod_one, Nat.zero_mul]⟩
  case round =>
    obtain ⟨i, fc0, z, rfl, rfl, q0, q1, q2, q3, H0⟩ := hrel
    by_cases hi : i < 4
    · have hiz : (i : Int) < 4 := by omega
      have HI := Lib.hid hi
      clear hi
      go_wp2_with fail
      go_loopw [7, 15] (fun cv kv wr => ∃ (k cr : Nat) (fc : Nat → Nat) (z : World), cv = .int .u64 (cr : Int) ∧ kv = .int .i64 (k : Int) ∧ wr = ((((z.pin (w.heap.size) (.cells (row 9 (lim a)) 44)).pin (w.heap.size + 1) (.cells (row 9 (lim b)) 44)).pin (w.heap.size + 2) (.cells #[.int .u64 0, .int .u64 0, .int .u64 0, .int .u64 0, .int .u64 0, .int .u64 0, .int .u64 0, .int .u64 0, .int .u64 0] 44)).pin (w.heap.size + 3) (.cells (row 9 fc) 44)) ∧ w.heap.size < z.heap.size ∧ w.heap.size + 1 < z.heap.size ∧ w.heap.size + 2 < z.heap.size ∧ w.heap.size + 3 < z.heap.size ∧ Hid (Below w.heap.size w z ∧ k ≤ 4 ∧ ProdI a b i k fc cr)) (fun _ kv _ => (4 - intOf kv).toNat)
      case atStart => exact ⟨0, 0, fc0, z, rfl, rfl, rfl, q0, q1, q2, q3, H0.out.1, by omega, prod_start a b fc0 i H0.out.2.2.1 H0.out.2.2.2.1 H0.out.2.2.2.2⟩
      case round =>
        clear q0 q1 q2 q3
        obtain ⟨k, cr, fc, z, rfl, rfl, rfl, q0, q1, q2, q3, H⟩ := hrel
        by_cases hk : k < 4
        · have hik : i + k < 9 := by have := HI.out; omega
          have hi9 : (i : Int) < 9 := by omega
          have hk9 : (k : Int) < 9 := by omega
          have hga := row9_get (lim a) (show i < 9 by have := HI.out; omega)
          have hgb := row9_get (lim b) (show k < 9 by omega)
          obtain ⟨x, hx⟩ : ∃ x, x = lim a i := ⟨_, rfl⟩
          obtain ⟨y, hy⟩ : ∃ y, y = lim b k := ⟨_, rfl⟩
          rw [← hx] at hga
          rw [← hy] at hgb
          obtain ⟨j, hj⟩ : ∃ j, j = i + k := ⟨_, rfl⟩
          have hj9 : j < 9 := by have := HI.out; omega
          have hgo := row9_get fc hj9
          obtain ⟨o, ho⟩ : ∃ o, o = fc j := ⟨_, rfl⟩
          rw [← ho] at hgo
          have hjz : (j : Int) < 9 := by omega
          have e5 : wrap64 ((i : Int) + (k : Int)) = (j : Int) := by rw [wr64 _ (by have := HI.out; omega)]; omega
          have e6 : IntKind.i64.wrap ((i : Int) + (k : Int)) = (j : Int) := (wrap_w64 _).trans e5
          have hxW : x < WW := by rw [hx]; exact lim_lt _ _
          have hyW : y < WW := by rw [hy]; exact lim_lt _ _
          obtain ⟨p, hp⟩ : ∃ p, p = x * y := ⟨_, rfl⟩
          have hbd : p + o + cr < WW * WW := by rw [hp]; exact prod_bound x y o cr hxW hyW (by rw [ho]; exact H.out.2.2.1 j) H.out.2.2.2.1
          obtain ⟨hi, hhi⟩ : ∃ v, v = p / WW := ⟨_, rfl⟩
          obtain ⟨lo, hlo⟩ : ∃ v, v = p % WW := ⟨_, rfl⟩
          obtain ⟨l1, hl1⟩ : ∃ v, v = (lo + o) % WW := ⟨_, rfl⟩
          obtain ⟨c1, hc1⟩ : ∃ v, v = (lo + o) / WW := ⟨_, rfl⟩
          obtain ⟨l2, hl2⟩ : ∃ v, v = (l1 + cr) % WW := ⟨_, rfl⟩
          obtain ⟨c2, hc2⟩ : ∃ v, v = (l1 + cr) / WW := ⟨_, rfl⟩
          obtain ⟨h1, hh1⟩ : ∃ v, v = hi + c1 := ⟨_, rfl⟩
          obtain ⟨h2, hh2⟩ : ∃ v, v = h1 + c2 := ⟨_, rfl⟩
          have hcar := prod_car hbd hhi hlo hl1 hc1 hh1 hl2 hc2
          rw [← hh2] at hcar
          have HM := Lib.hid (Mul64_to x y hi lo hxW hyW (by rw [hhi, hp]) (by rw [hlo, hp]))
          have hS1 := Add64_to lo o l1 c1 hl1 hc1
          have hS2 := Add64_to l1 cr l2 c2 hl2 hc2
          have v1 : w64 ((hi : Int) + (c1 : Int)) = (h1 : Int) := by rw [hh1, ← Int.natCast_add]; exact w64_of _ (by have := hcar.2.2; simp only [WW] at this; omega)
          have v2 : w64 ((h1 : Int) + (c2 : Int)) = (h2 : Int) := by rw [hh2, ← Int.natCast_add]; exact w64_of _ (by have := hcar.2.2; rw [hh2] at this; simp only [WW] at this; omega)
          have HST := Lib.hid (show ProdI a b i (k + 1) (upd fc j l2) h2 by
            rw [hj]
            exact prod_step H.out.2.2 hik hk (by rw [hcar.1, hp, hx, hy, ho, hj]) (by rw [hcar.2.1, hp, hx, hy, ho, hj]))
          have hkz : (k : Int) < 4 := by omega
          have HK := Lib.hid hk
          have HB1 : Hid (Below w.heap.size w z) := H.out.1
          clear hik H hk hx hy hj hj9 ho hp hbd hhi hlo hl1 hc1 hl2 hc2 hh1 hh2 hcar hxW hyW
          go_wp2_with fail
          refine start_ (S := Keeps w _) (ds := []) (n := 12) #[false, false, false, false, false, false, false, false, false, false, false, false] (by kernel_rfl) rfl rfl (keepsC (b := w.heap.size) (by (repeat (first | with_reducible exact pin_at (by assumption) | (with_reducible apply pin_at; (first | omega | (simp only [World.size_alloc, pin_size, World.size_drew, World.size_setCell] <;> omega))) | (with_reducible apply alloc_at; first | rfl | (simp only [World.size_alloc, pin_size, World.size_drew, World.size_setCell] <;> omega)) | with_reducible apply past_pin | with_reducible apply past_alloc | with_reducible apply past_drew)); all_goals (first | omega | (simp only [World.size_alloc, pin_size, World.size_drew, World.size_setCell] <;> omega))) (keepsC (b := w.heap.size + 1) (by (repeat (first | with_reducible exact pin_at (by assumption) | (with_reducible apply pin_at; (first | omega | (simp only [World.size_alloc, pin_size, World.size_drew, World.size_setCell] <;> omega))) | (with_reducible apply alloc_at; first | rfl | (simp only [World.size_alloc, pin_size, World.size_drew, World.size_setCell] <;> omega)) | with_reducible apply past_pin | with_reducible apply past_alloc | with_reducible apply past_drew)); all_goals (first | omega | (simp only [World.size_alloc, pin_size, World.size_drew, World.size_setCell] <;> omega))) (keepsC (b := w.heap.size + 2) (by (repeat (first | with_reducible exact pin_at (by assumption) | (with_reducible apply pin_at; (first | omega | (simp only [World.size_alloc, pin_size, World.size_drew, World.size_setCell] <;> omega))) | (with_reducible apply alloc_at; first | rfl | (simp only [World.size_alloc, pin_size, World.size_drew, World.size_setCell] <;> omega)) | with_reducible apply past_pin | with_reducible apply past_alloc | with_reducible apply past_drew)); all_goals (first | omega | (simp only [World.size_alloc, pin_size, World.size_drew, World.size_setCell] <;> omega))) (keepsC (b := w.heap.size + 3) (by (repeat (first | with_reducible exact pin_at (by assumption) | (with_reducible apply pin_at; (first | omega | (simp only [World.size_alloc, pin_size, World.size_drew, World.size_setCell] <;> omega))) | (with_reducible apply alloc_at; first | rfl | (simp only [World.size_alloc, pin_size, World.size_drew, World.size_setCell] <;> omega)) | with_reducible apply past_pin | with_reducible apply past_alloc | with_reducible apply past_drew)); all_goals (first | omega | (simp only [World.size_alloc, pin_size, World.size_drew, World.size_setCell] <;> omega))) (keeps0 (by (repeat (first | with_reducible exact HB1.out | with_reducible refine below_pin ?_ ?_ | with_reducible refine Below.alloc ?_ ?_ _ | with_reducible refine Below.setCell ?_ ?_ _ | with_reducible refine Below.drew ?_)); all_goals (first | omega | (simp only [World.size_alloc, pin_size, World.size_drew, World.size_setCell] <;> omega)))))))) (fun HS => ?_)
          refine take_ #[true, false, false, false, false, false, false, false, false, false, false, false] (i := 0) (N := some 19) (v := ?v1) rfl rfl (by kernel_rfl) (fun _ _ _ h => h) (Or.inl ⟨by rfl, ?hy1⟩) HS rfl ?_
          case hy1 => (intro v hv; obtain ⟨x, rfl, _, _, n0, n1, n2, n3⟩ := hv.pin4; go_simp; first | done | with_reducible rfl)
          simp only [Act.put, List.setIfInBounds_toArray, List.set_cons_zero, List.set_cons_succ]
          refine take_ #[true, true, false, false, false, false, false, false, false, false, false, false] (i := 1) (N := some 20) (v := ?v2) rfl rfl (by kernel_rfl) (fun _ _ _ h => h) (Or.inl ⟨by rfl, ?hy2⟩) HS rfl ?_
          case hy2 => (intro v hv; obtain ⟨x, rfl, _, _, n0, n1, n2, n3⟩ := hv.pin4; go_simp; first | done | with_reducible rfl)
          simp only [Act.put, List.setIfInBounds_toArray, List.set_cons_zero, List.set_cons_succ]
          refine take_ #[true, true, true, false, false, false, false, false, false, false, false, false] (i := 2) (N := some 21) (v := ?v3) rfl rfl (by kernel_rfl) (fun _ _ _ h => h) (Or.inl ⟨by rfl, ?hy3⟩) HS rfl ?_
          case hy3 => (intro v hv; obtain ⟨x, rfl, _, _, n0, n1, n2, n3⟩ := hv.pin4; go_simp; first | done | with_reducible rfl)
          simp only [Act.put, List.setIfInBounds_toArray, List.set_cons_zero, List.set_cons_succ]
          refine take_ #[true, true, true, true, false, false, false, false, false, false, false, false] (i := 3) (N := some 22) (v := ?v4) rfl rfl (by kernel_rfl) (fun _ _ _ h => h) (Or.inl ⟨by rfl, ?hy4⟩) HS rfl ?_
          case hy4 => (intro v hv; obtain ⟨x, rfl, _, _, n0, n1, n2, n3⟩ := hv.pin4; go_simp; first | done | with_reducible rfl)
          simp only [Act.put, List.setIfInBounds_toArray, List.set_cons_zero, List.set_cons_succ]
          refine take_ #[true, true, true, true, true, false, false, false, false, false, false, false] (i := 4) (N := some 23) (v := ?v5) rfl rfl (by kernel_rfl) (fun _ _ _ h => h) (Or.inl ⟨by rfl, ?hy5⟩) HS rfl ?_
          case hy5 => (intro v hv; obtain ⟨x, rfl, _, _, n0, n1, n2, n3⟩ := hv.pin4; go_simp; first | done | with_reducible rfl)
          simp only [Act.put, List.setIfInBounds_toArray, List.set_cons_zero, List.set_cons_succ]
          refine take_ #[true, true, true, true, true, true, false, false, false, false, false, false] (i := 5) (N := some 24) (v := ?v6) rfl rfl (by kernel_rfl) (fun _ _ _ h => h) (Or.inl ⟨by rfl, ?hy6⟩) HS rfl ?_
          case hy6 => (intro v hv; obtain ⟨x, rfl, _, _, n0, n1, n2, n3⟩ := hv.pin4; go_simp; first | done | with_reducible rfl)
          simp only [Act.put, List.setIfInBounds_toArray, List.set_cons_zero, List.set_cons_succ]
          refine one_ #[true, true, true, true, true, true, true, false, false, false, false, false] (i := 6) (N := some 25) rfl rfl (by kernel_rfl) (by decide) (fun K hK => ?_)
          go_simp
          refine (HM.out _).mono ?_
          rintro e y ⟨rfl, hb⟩
          refine hK.out _ _ (HS.step hb rfl) ?_
          clear HS hb
          intro HS
          refine take_ #[true, true, true, true, true, true, true, true, false, false, false, false] (i := 7) (N := some 18) (v := ?v7) rfl rfl (by kernel_rfl) (fun _ _ _ h => h) (Or.inl ⟨by rfl, ?hy7⟩) HS rfl ?_
          case hy7 => (intro v hv; obtain ⟨x, rfl, _, _, n0, n1, n2, n3⟩ := hv.pin4; go_simp; first | done | with_reducible rfl)
          simp only [Act.put, List.setIfInBounds_toArray, List.set_cons_zero, List.set_cons_succ]
          refine take_ #[true, true, true, true, true, true, true, true, true, false, false, false] (i := 8) (N := some 26) (v := ?v8) rfl rfl (by kernel_rfl) (fun _ _ _ h => h) (Or.inl ⟨by rfl, ?hy8⟩) HS rfl ?_
          case hy8 => (intro v hv; obtain ⟨x, rfl, _, _, n0, n1, n2, n3⟩ := hv.pin4; go_simp; first | done | with_reducible rfl)
          simp only [Act.put, List.setIfInBounds_toArray, List.set_cons_zero, List.set_cons_succ]
          refine take_ #[true, true, true, true, true, true, true, true, true, true, false, false] (i := 9) (N := some 27) (v := ?v9) rfl rfl (by kernel_rfl) (fun _ _ _ h => h) (Or.inl ⟨by rfl, ?hy9⟩) HS rfl ?_
          case hy9 => (intro v hv; obtain ⟨x, rfl, _, _, n0, n1, n2, n3⟩ := hv.pin4; go_simp; first | done | with_reducible rfl)
          simp only [Act.put, List.setIfInBounds_toArray, List.set_cons_zero, List.set_cons_succ]
          refine take_ #[true, true, true, true, true, true, true, true, true, true, true, false] (i := 10) (N := some 9) (v := ?v10) rfl rfl (by kernel_rfl) (fun _ _ _ h => h) (Or.inl ⟨by rfl, ?hy10⟩) HS rfl ?_
          case hy10 => (intro v hv; obtain ⟨x, rfl, _, _, n0, n1, n2, n3⟩ := hv.pin4; go_simp; first | done | with_reducible rfl)
          simp only [Act.put, List.setIfInBounds_toArray, List.set_cons_zero, List.set_cons_succ]
          refine take_ #[true, true, true, true, true, true, true, true, true, true, true, true] (i := 11) (N := some 10) (v := ?v11) rfl rfl (by kernel_rfl) (fun _ _ _ h => h) (Or.inl ⟨by rfl, ?hy11⟩) HS rfl ?_
          case hy11 => (intro v hv; obtain ⟨x, rfl, _, _, n0, n1, n2, n3⟩ := hv.pin4; go_simp; first | done | with_reducible rfl)
          simp only [Act.put, List.setIfInBounds_toArray, List.set_cons_zero, List.set_cons_succ]
          obtain ⟨x2, rfl, hk2, hz2, l20, l21, l22, l23⟩ := HS.pin4
          have HB2 : Hid (Below w.heap.size w x2) := hk2.below
          clear HS hk2
          refine done_ (by kernel_rfl) ?_
          go_wp2_with fail
          exact ⟨⟨k + 1, h2, upd fc j l2, x2, rfl, vi0 k, by rw [row_set], l20, l21, l22, l23, HB2.out, HK.out, HST.out⟩, meas_up0 4 k HK.out⟩
        · have hk4 : k = 4 := by have := H.out.2.1; omega
          subst hk4
          have HE := Lib.hid (prod_end H.out.2.2 (by have := HI.out; omega) HB.out)
          have hiz5 : (i : Int) + 4 < 9 := by omega
          have hip : (0 : Int) ≤ (i : Int) + 4 := by omega
          have hgo := row9_get fc (show i + 4 < 9 by have := HI.out; omega)
          have HB1 : Hid (Below w.heap.size w z) := H.out.1
          clear H
          go_wp2_with fail
          exact ⟨⟨i + 1, upd fc (i + 4) cr, z, vi0 i, by rw [row_set], q0, q1, q2, q3, HB1.out, HI.out, HE.out⟩, meas_up0 4 i HI.out⟩
    · have hi4 : i = 4 := by have := H0.out.2.1; omega
      subst hi4
      have hrow : row 9 fc0 = row 9 (lim (a * b)) := by
        rw [row_valL H0.out.2.2.1, H0.out.2.2.2.2, Nat.mod_eq_of_lt HA.out]
      rw [hrow, row9_lit (a * b)]
      go_wp2_with fail
      refine bodyPost_ret (v := Lv (a * b)) ?_ rfl ⟨rfl, ?_⟩
      · simp [results, Tryd.results28, go_sem, q0, q1, q2, q3]
      · exact (by (repeat (first | with_reducible exact H0.out.1 | with_reducible refine below_pin ?_ ?_ | with_reducible refine Below.alloc ?_ ?_ _ | with_reducible refine Below.setCell ?_ ?_ _ | with_reducible refine Below.drew ?_)); all_goals (first | omega | (simp only [World.size_alloc, pin_size, World.size_drew, World.size_setCell] <;> omega)))

end Go.Proofs.YtljolpdpblohcaaDoor
