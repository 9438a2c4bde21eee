/-
  Shared, part 13: walks and plain laws; each theorem states its own conditions.
-/
import Derived.Test.YtehfkbaendajbaaGreatDoorB7
import Derived.IntWalk
import Derived.Laws.Bits64b
import Derived.StillTailTactics
namespace Go.Proofs.YtehfkbaendajbaaGreatDoor
set_option linter.unusedSimpArgs false
set_option linter.unusedVariables false
set_option maxRecDepth 100000
set_option maxHeartbeats 8000000
section
open Go.RowKit
def um (s : Fn) : Array Value := #[.int .u64 s.a, .int .u64 s.b, .int .u64 s.c, .int .u64 s.d, .int .u64 s.e]
def byteAt (n i j : Nat) : Nat := n % 2 ^ i / 256 ^ j % 256
def uO (n i : Nat) : Array Value := ((List.range 32).map fun j => Value.int .u8 (byteAt n i j)).toArray
def fU (s : Fn) : Nat → Nat
 | 0 => s.a
 | 1 => s.b
 | 2 => s.c
 | 3 => s.d
 | _ => s.e
theorem wK (n i j : Nat) (h : j < 32) : (uO n i)[j]? = some (.int .u8 (byteAt n i j)) := by
 simp [uO, h]
theorem nM (s : Fn) (m : Nat) (h : m < 5) : (um s)[m]? = some (.int .u64 (fU s m)) := by
 have : m = 0 ∨ m = 1 ∨ m = 2 ∨ m = 3 ∨ m = 4 := by omega
 rcases this with rfl | rfl | rfl | rfl | rfl <;> rfl
theorem OL (n : Nat) : uO n 0 = #[.int .u8 0, .int .u8 0, .int .u8 0, .int .u8 0, .int .u8 0, .int .u8 0, .int .u8 0, .int .u8 0, .int .u8 0, .int .u8 0, .int .u8 0, .int .u8 0, .int .u8 0, .int .u8 0, .int .u8 0, .int .u8 0, .int .u8 0, .int .u8 0, .int .u8 0, .int .u8 0, .int .u8 0, .int .u8 0, .int .u8 0, .int .u8 0, .int .u8 0, .int .u8 0, .int .u8 0, .int .u8 0, .int .u8 0, .int .u8 0, .int .u8 0, .int .u8 0] := by
 simp [uO, byteAt, Nat.mod_one, List.range_succ]
theorem MC (X r K : Nat) (h : r < K) : X % 2 ^ K / 2 ^ r % 2 = X / 2 ^ r % 2 := by
 have h1 : Nat.testBit (X % 2 ^ K) r = Nat.testBit X r := by rw [Nat.testBit_mod_two_pow]; simp [h]
 simp only [Nat.testBit_eq_decide_div_mod_eq, decide_eq_decide] at h1
 omega
theorem jL (n m : Nat) (h : m < 5) : fU (dI n) m = n / 2 ^ (51 * m) % 2 ^ 51 := by
 have : m = 0 ∨ m = 1 ∨ m = 2 ∨ m = 3 ∨ m = 4 := by omega
 rcases this with rfl | rfl | rfl | rfl | rfl <;> simp only [fU, dI, Nat.div_div_eq_div_mul] <;> simp
theorem UK (n i : Nat) (h : i < 255) : fU (dI n) (i / 51) / 2 ^ (i % 51) % 2 = n / 2 ^ i % 2 := by
 rw [jL n _ (by omega), MC _ _ _ (by omega), Nat.div_div_eq_div_mul, ← Nat.pow_add]
 rw [show 51 * (i / 51) + i % 51 = i from by omega]
theorem yQ (i : Nat) : 2 ^ i = 256 ^ (i / 8) * 2 ^ (i % 8) := by
 rw [show (256 : Nat) = 2 ^ 8 from rfl, ← Nat.pow_mul, ← Nat.pow_add, Nat.div_add_mod]
theorem MG (n i : Nat) : byteAt n i (i / 8) < 2 ^ (i % 8) := by
 unfold byteAt
 refine Nat.lt_of_le_of_lt (Nat.mod_le _ _) ?_
 refine Nat.div_lt_of_lt_mul ?_
 rw [← yQ]
 exact Nat.mod_lt _ (Nat.two_pow_pos i)
theorem Vr (q : Nat) (h : q < 8) : 2 ^ q ≤ 128 := by
 have := Nat.pow_le_pow_right (show 0 < 2 by omega) (show q ≤ 7 by omega)
 simpa using this
theorem Ol (n i : Nat) : byteAt n (i + 1) (i / 8) = byteAt n i (i / 8) + n / 2 ^ i % 2 * 2 ^ (i % 8) := by
 have h1 := MG n i
 have h2 := Vr (i % 8) (Nat.mod_lt _ (by decide))
 unfold byteAt at *
 have h3 : n % 2 ^ i / 256 ^ (i / 8) < 2 ^ (i % 8) := by
  refine Nat.div_lt_of_lt_mul ?_
  rw [← yQ]
  exact Nat.mod_lt _ (Nat.two_pow_pos i)
 have e : n % 2 ^ (i + 1) = n % 2 ^ i + 256 ^ (i / 8) * (n / 2 ^ i % 2 * 2 ^ (i % 8)) := by
  have e1 := Nat.mod_pow_succ (b := 2) (x := n) (k := i)
  rw [e1]
  have e2 := yQ i
  generalize n / 2 ^ i % 2 = b
  rw [e2]
  simp only [Nat.mul_comm, Nat.mul_left_comm, Nat.mul_assoc]
 rw [e, Nat.add_mul_div_left _ _ (Nat.pow_pos (by decide))]
 have hb : n / 2 ^ i % 2 < 2 := Nat.mod_lt _ (by decide)
 generalize n % 2 ^ i / 256 ^ (i / 8) = A at *
 generalize n / 2 ^ i % 2 = b at *
 generalize 2 ^ (i % 8) = Q at *
 have : b = 0 ∨ b = 1 := by omega
 rcases this with rfl | rfl <;> omega
theorem Ju (n i j : Nat) (h : j ≠ i / 8) : byteAt n (i + 1) j = byteAt n i j := by
 unfold byteAt
 have e1 := Nat.mod_pow_succ (b := 2) (x := n) (k := i)
 by_cases hj : j < i / 8
 · have e2 : 2 ^ i = 256 ^ j * (256 * 2 ^ (i - 8 * (j + 1))) := by
    rw [← Nat.mul_assoc, ← Nat.pow_succ, show (256 : Nat) = 2 ^ 8 from rfl, ← Nat.pow_mul, ← Nat.pow_add]
    congr 1; omega
   rw [e1]
   generalize n / 2 ^ i % 2 = b
   have e3 : 2 ^ i * b = 256 ^ j * (256 * (2 ^ (i - 8 * (j + 1)) * b)) := by
    rw [e2]; simp only [Nat.mul_comm, Nat.mul_left_comm, Nat.mul_assoc]
   rw [e3, Nat.add_mul_div_left _ _ (Nat.pow_pos (by decide)), Nat.add_mul_mod_self_left]
 · have hp : 2 ^ (i + 1) ≤ 256 ^ j := by
    rw [show (256 : Nat) = 2 ^ 8 from rfl, ← Nat.pow_mul]
    exact Nat.pow_le_pow_right (by decide) (by omega)
   have h1 : n % 2 ^ (i + 1) < 256 ^ j := Nat.lt_of_lt_of_le (Nat.mod_lt _ (Nat.two_pow_pos _)) hp
   have h2 : n % 2 ^ i < 256 ^ j := Nat.lt_of_lt_of_le (Nat.mod_lt _ (Nat.two_pow_pos _)) (Nat.le_trans (Nat.pow_le_pow_right (by decide) (by omega)) hp)
   rw [Nat.div_eq_of_lt h1, Nat.div_eq_of_lt h2]
theorem or_bit (x b q : Nat) (hx : x < 2 ^ q) (hb : b < 2) (hq : q < 8) : bits .or .u8 (x : Int) ((b * 2 ^ q : Nat) : Int) = ((x + b * 2 ^ q : Nat) : Int) := by
 have h2 := Vr q hq
 have hle : b * 2 ^ q ≤ 128 := by
  have : b = 0 ∨ b = 1 := by omega
  rcases this with rfl | rfl <;> omega
 have h := (bits_nat .u8 8 (by decide) wraps_u8 x (b * 2 ^ q) (by omega) (by omega)).2
 rw [h]
 have e := Nat.shiftLeft_add_eq_or_of_lt hx b
 rw [Nat.shiftLeft_eq] at e
 rw [Nat.or_comm, ← e, Nat.add_comm]
theorem Tm (n i : Nat) (h : i < 255) :
 (uO n i).setIfInBounds (i / 8) (.int .u8 (bits .or .u8 (byteAt n i (i / 8) : Int) (bits .and .u64 ((fU (dI n) (i / 51) : Int) / 2 ^ (i % 51)) 1 % 256 * 2 ^ (i % 8) % 256))) = uO n (i + 1) := by
 have hl := (Fn.lJ (wH n) (show 2251799813685248 ≤ 18446744073709551616 by decide))
 have hlim : fU (dI n) (i / 51) < 18446744073709551616 := by
  obtain ⟨h1, h2, h3, h4, h5⟩ := hl
  have : i / 51 = 0 ∨ i / 51 = 1 ∨ i / 51 = 2 ∨ i / 51 = 3 ∨ i / 51 = 4 := by omega
  rcases this with e | e | e | e | e <;> rw [e] <;> assumption
 have e1 : ((fU (dI n) (i / 51) : Int) / 2 ^ (i % 51)) = ((fU (dI n) (i / 51) / 2 ^ (i % 51) : Nat) : Int) := by rw [Int.natCast_ediv, Int.natCast_pow]; rfl
 have hlt : fU (dI n) (i / 51) / 2 ^ (i % 51) < 18446744073709551616 := Nat.lt_of_le_of_lt (Nat.div_le_self _ _) hlim
 have e2 : bits .and .u64 ((fU (dI n) (i / 51) / 2 ^ (i % 51) : Nat) : Int) 1 = ((n / 2 ^ i % 2 : Nat) : Int) := by
  have hb := bits_and_u64_nat (fU (dI n) (i / 51) / 2 ^ (i % 51)) 1 hlt (by omega)
  rw [Nat.and_one_is_mod, UK n i h] at hb
  exact hb
 have hb2 : n / 2 ^ i % 2 < 2 := Nat.mod_lt _ (by decide)
 have hq := Vr (i % 8) (Nat.mod_lt _ (by decide))
 have e3 : (((n / 2 ^ i % 2 : Nat) : Int) % 256 * 2 ^ (i % 8) % 256) = ((n / 2 ^ i % 2 * 2 ^ (i % 8) : Nat) : Int) := by
  have : n / 2 ^ i % 2 = 0 ∨ n / 2 ^ i % 2 = 1 := by omega
  have e4 : ((2 : Int) ^ (i % 8)) = ((2 ^ (i % 8) : Nat) : Int) := by rw [Int.natCast_pow]; rfl
  rw [e4]
  rcases this with e | e <;> rw [e] <;> omega
 rw [e1, e2, e3, or_bit _ _ _ (MG n i) hb2 (Nat.mod_lt _ (by decide)), ← Ol]
 apply Array.ext_getElem?
 intro k
 by_cases hk : k < 32
 · rw [wK n (i + 1) k hk]
   by_cases hk2 : i / 8 = k
   · subst hk2
     rw [Array.getElem?_setIfInBounds_self_of_lt (by simp [uO]; omega)]
   · rw [Array.getElem?_setIfInBounds_ne hk2, wK n i k hk, Ju n i k (Ne.symm hk2)]
 · rw [Array.getElem?_eq_none (by simp [uO]; omega), Array.getElem?_eq_none (by simp [uO]; omega)]
end
section
open Go.RowKit Go.Proofs.YtehfkbaendajbaaGreatDoorW.PrintLast
theorem FQ {w : World} {b0 b1 : Nat} {o0 o1 p0 p1 : Obj} (h0 : w.heap[b0]? = some o0) (h1 : w.heap[b1]? = some o1) (e0 : o0 = p0) (e1 : o1 = p1) : w = (w.pin b0 p0).pin b1 p1 := by
 subst e0
 subst e1
 exact Es h0 h1
theorem Jo (a : Fn) (ha : a.lt 18446744073709551616) (w : World) :
 Calls Tryz.prog 37 #[a.v] w fun e w' => (∃ b, w.heap.size ≤ b ∧ e = .returned (.slice (some ⟨b, 0, none⟩) 32 32) ∧ w'.heap[b]? = some (.cells (uO (a.val % Num.p) 255) 5)) ∧ Below w.heap.size w w' := by
 have CX := Lib.hid ha
 clear ha
 have hmk := UN
 go_enter Tryz.func37, Tryz.ntmps37
 go_wp2_with fail
 refine (reduce_nat a CX.out _).mono ?_
 rintro e y1 ⟨rfl, hb1⟩
 obtain ⟨x1, rfl, hc1, hz1, l10⟩ := bQ (b := w.heap.size) hb1 rfl ob
 have HB1 : Hid (Below w.heap.size w x1) := Below.trans (pl (Below.refl _ _)) (hc1.mono sz)
 clear hb1 hc1
 try simp only [eF] at hz1
 go_wp2_with fail
 obtain ⟨s, hs⟩ : ∃ s, Hid (s = small a.val) := ⟨_, rfl⟩
 go_loopw [8] (fun iv wr => ∃ (i : Nat) (x : World), iv = .int .i64 (i : Int) ∧ wr = (x.pin w.heap.size (.cells (um s) 36)).pin x1.heap.size (.cells (uO (a.val % Num.p) i) 5) ∧ w.heap.size < x.heap.size ∧ x1.heap.size < x.heap.size ∧ Hid (Below w.heap.size w x ∧ i ≤ 255)) (fun i _ => (255 - intOf i).toNat)
 case atStart => exact ⟨0, _, rfl, FQ ob ob (by rw [hs.out]; rfl) (by rw [OL]), sz, sz, (pl HB1.out), by omega⟩
 case round =>
  obtain ⟨i, x, rfl, rfl, q0, q1, H⟩ := hrel
  by_cases hlt : i < 255
  · obtain ⟨j, hj⟩ : ∃ j, j = i / 8 := ⟨_, rfl⟩
    obtain ⟨m, hm⟩ : ∃ m, m = i / 51 := ⟨_, rfl⟩
    obtain ⟨r, hr⟩ : ∃ r, r = i % 51 := ⟨_, rfl⟩
    obtain ⟨q, hq⟩ : ∃ q, q = i % 8 := ⟨_, rfl⟩
    obtain ⟨old, hold⟩ : ∃ b, b = byteAt (a.val % Num.p) i j := ⟨_, rfl⟩
    obtain ⟨lim, hlim⟩ : ∃ b, b = fU s m := ⟨_, rfl⟩
    have hA : (uO (a.val % Num.p) i)[j]? = some (.int .u8 old) := by rw [wK _ _ _ (by omega), hold]
    have hL : (um s)[m]? = some (.int .u64 lim) := by rw [nM _ _ (by omega), hlim]
    have b1 : (j : Int) < 32 := by omega
    have b3 : (m : Int) < 5 := by omega
    have b4 : r < 64 := by omega
    have b5 : q < 8 := by omega
    have e1 : IntKind.i64.wrap ((i : Int) / 8) = (j : Int) := (IntWalk.i64_in _ (by omega)).trans (by omega)
    have e2 : IntKind.i64.wrap ((i : Int) / 51) = (m : Int) := (IntWalk.i64_in _ (by omega)).trans (by omega)
    have e3 : (i : Int).tmod 51 = (r : Int) := by rw [Int.tmod_eq_emod_of_nonneg (by omega)]; omega
    have e4 : (i : Int).tmod 8 = (q : Int) := by rw [Int.tmod_eq_emod_of_nonneg (by omega)]; omega
    have HH := Lib.hid (And.intro hj (And.intro hm (And.intro hr (And.intro hq (And.intro hold hlim)))))
    clear hj hm hr hq hold hlim
    go_wp2
    refine wp_region_still_tail 19 (by kernel_rfl) (by kernel_rfl) ?_
    simp only [List.take_succ_cons, List.take_zero, List.drop_succ_cons, List.drop_zero, World.drew_eq]
    (repeat still_step)
    refine wpStill_nil ?_
    go_wp2
    have hst : (uO (a.val % Num.p) i).setIfInBounds j (.int .u8 (bits .or .u8 (old : Int) (bits .and .u64 ((lim : Int) / 2 ^ r) 1 % 256 * 2 ^ q % 256))) = uO (a.val % Num.p) (i + 1) := by
     obtain ⟨h1, h2, h3, h4, h5, h6⟩ := HH.out
     have hs' : s = dI (a.val % Num.p) := hs.out
     have := Tm (a.val % Num.p) i hlt
     rw [h5, h6, h1, h2, h3, h4, hs']
     exact this
    refine ⟨⟨i + 1, x.drew, by simp, by rw [hst]; rfl, q0, q1, H.out.1.drew, by omega⟩, ?_⟩
    first | (simp [intOf]; done) | (simp [intOf]; omega)
  · have hi : i = 255 := by have := H.out.2; omega
    subst hi
    go_wp2
    go_ret
    exact ⟨⟨x1.heap.size, by omega, rfl, ob⟩, (pl H.out.1)⟩
end
section
open Go.RowKit
theorem NJ (K i : Nat) : 2 ^ i = 2 ^ (K * (i / K)) * 2 ^ (i % K) := by rw [← Nat.pow_add, Nat.div_add_mod]
theorem aa0 (K n i : Nat) : n % 2 ^ i / 2 ^ (K * (i / K)) < 2 ^ (i % K) := by
 refine Nat.div_lt_of_lt_mul ?_
 rw [← NJ]
 exact Nat.mod_lt _ (Nat.two_pow_pos i)
theorem SG (K n i : Nat) (hK : 0 < K) : n % 2 ^ (i + 1) / 2 ^ (K * (i / K)) % 2 ^ K = n % 2 ^ i / 2 ^ (K * (i / K)) % 2 ^ K + n / 2 ^ i % 2 * 2 ^ (i % K) := by
 have h3 := aa0 K n i
 have e : n % 2 ^ (i + 1) = n % 2 ^ i + 2 ^ (K * (i / K)) * (n / 2 ^ i % 2 * 2 ^ (i % K)) := by
  have e1 := Nat.mod_pow_succ (b := 2) (x := n) (k := i)
  rw [e1]
  have e2 := NJ K i
  generalize n / 2 ^ i % 2 = b
  rw [e2]
  generalize 2 ^ (K * (i / K)) = X
  generalize 2 ^ (i % K) = Y
  rw [Nat.mul_assoc, Nat.mul_comm Y b]
 rw [e, Nat.add_mul_div_left _ _ (Nat.two_pow_pos _)]
 have hb : n / 2 ^ i % 2 < 2 := Nat.mod_lt _ (by decide)
 have hq : 2 * 2 ^ (i % K) ≤ 2 ^ K := by
  rw [← Nat.pow_succ']
  exact Nat.pow_le_pow_right (by decide) (Nat.mod_lt _ hK)
 generalize n % 2 ^ i / 2 ^ (K * (i / K)) = A at *
 generalize n / 2 ^ i % 2 = b at *
 generalize 2 ^ (i % K) = Q at *
 generalize 2 ^ K = R at *
 have : b = 0 ∨ b = 1 := by omega
 rcases this with rfl | rfl
 · rw [Nat.zero_mul, Nat.add_zero, Nat.add_zero]
 · rw [Nat.one_mul, Nat.mod_eq_of_lt (by omega), Nat.mod_eq_of_lt (by omega)]
theorem MO (K n i j : Nat) (hK : 0 < K) (h : j ≠ i / K) : n % 2 ^ (i + 1) / 2 ^ (K * j) % 2 ^ K = n % 2 ^ i / 2 ^ (K * j) % 2 ^ K := by
 have e1 := Nat.mod_pow_succ (b := 2) (x := n) (k := i)
 by_cases hj : j < i / K
 · have hle : K * (j + 1) ≤ i := Nat.le_trans (Nat.mul_le_mul_left K hj) (Nat.mul_div_le i K)
   have e2 : 2 ^ i = 2 ^ (K * j) * (2 ^ K * 2 ^ (i - K * (j + 1))) := by
    rw [← Nat.pow_add, ← Nat.pow_add]
    congr 1
    rw [Nat.mul_add, Nat.mul_one] at *
    omega
   rw [e1]
   generalize n / 2 ^ i % 2 = b
   have e3 : 2 ^ i * b = 2 ^ (K * j) * (2 ^ K * (2 ^ (i - K * (j + 1)) * b)) := by
    rw [e2, Nat.mul_assoc, Nat.mul_assoc]
   rw [e3, Nat.add_mul_div_left _ _ (Nat.two_pow_pos _), Nat.add_mul_mod_self_left]
 · have hlt : i + 1 ≤ K * j := by
    have h1 : i / K + 1 ≤ j := by omega
    have h2 := Nat.mul_le_mul_left K h1
    have h3 := Nat.lt_mul_div_succ i hK
    omega
   have hp : 2 ^ (i + 1) ≤ 2 ^ (K * j) := Nat.pow_le_pow_right (by decide) hlt
   have h1 : n % 2 ^ (i + 1) < 2 ^ (K * j) := Nat.lt_of_lt_of_le (Nat.mod_lt _ (Nat.two_pow_pos _)) hp
   have h2 : n % 2 ^ i < 2 ^ (K * j) := Nat.lt_of_lt_of_le (Nat.mod_lt _ (Nat.two_pow_pos _)) (Nat.le_trans (Nat.pow_le_pow_right (by decide) (by omega)) hp)
   rw [Nat.div_eq_of_lt h1, Nat.div_eq_of_lt h2]
theorem Vd (x b q : Nat) (hx : x < 2 ^ q) (hb : b < 2) (hq : q < 63) : bits .or .u64 (x : Int) ((b * 2 ^ q : Nat) : Int) = ((x + b * 2 ^ q : Nat) : Int) := by
 have h2 : 2 ^ q ≤ 2 ^ 62 := Nat.pow_le_pow_right (by decide) (by omega)
 have hle : b * 2 ^ q ≤ 2 ^ 62 := by
  have : b = 0 ∨ b = 1 := by omega
  rcases this with rfl | rfl <;> omega
 have h := (bits_nat .u64 64 (by decide) (fun n h0 h1 => by
  simp only [IntKind.wrap, IntKind.bits, IntKind.signed] at *
  simp at *
  omega) x (b * 2 ^ q) (by omega) (by omega)).2
 rw [h]
 have e := Nat.shiftLeft_add_eq_or_of_lt hx b
 rw [Nat.shiftLeft_eq] at e
 rw [Nat.or_comm, ← e, Nat.add_comm]
theorem G7 (n i bv : Nat) (h : i < 255) (hbv : bv < 256) (hbit : n / 2 ^ i % 2 = bv / 2 ^ (i % 8) % 2) :
 (um (dI (n % 2 ^ i))).setIfInBounds (i / 51) (.int .u64 (bits .or .u64 (fU (dI (n % 2 ^ i)) (i / 51) : Int) (eX (eX (bits .and .u8 ((bv : Int) / 2 ^ (i % 8)) 1) * 2 ^ (i % 51))))) = um (dI (n % 2 ^ (i + 1))) := by
 have e1 : ((bv : Int) / 2 ^ (i % 8)) = ((bv / 2 ^ (i % 8) : Nat) : Int) := by rw [Int.natCast_ediv, Int.natCast_pow]; rfl
 have hlt : bv / 2 ^ (i % 8) < 256 := Nat.lt_of_le_of_lt (Nat.div_le_self _ _) hbv
 have e2 : bits .and .u8 ((bv / 2 ^ (i % 8) : Nat) : Int) 1 = ((n / 2 ^ i % 2 : Nat) : Int) := by
  have hb := (bits_nat .u8 8 (by decide) wraps_u8 (bv / 2 ^ (i % 8)) 1 (by omega) (by omega)).1
  rw [Nat.and_one_is_mod, ← hbit] at hb
  exact hb
 have hb2 : n / 2 ^ i % 2 < 2 := Nat.mod_lt _ (by decide)
 have hr : i % 51 < 51 := Nat.mod_lt _ (by decide)
 have hq : 2 ^ (i % 51) ≤ 2 ^ 50 := Nat.pow_le_pow_right (by decide) (by omega)
 have e3 : eX (((n / 2 ^ i % 2 : Nat) : Int) * 2 ^ (i % 51)) = ((n / 2 ^ i % 2 * 2 ^ (i % 51) : Nat) : Int) := by
  have : n / 2 ^ i % 2 = 0 ∨ n / 2 ^ i % 2 = 1 := by omega
  have e4 : ((2 : Int) ^ (i % 51)) = ((2 ^ (i % 51) : Nat) : Int) := by rw [Int.natCast_pow]; rfl
  rw [e4, iW]
  rcases this with e | e <;> rw [e] <;> omega
 have hx : fU (dI (n % 2 ^ i)) (i / 51) < 2 ^ (i % 51) := by
  rw [jL _ _ (by omega)]
  exact Nat.lt_of_le_of_lt (Nat.mod_le _ _) (aa0 51 n i)
 have hnew : fU (dI (n % 2 ^ i)) (i / 51) + n / 2 ^ i % 2 * 2 ^ (i % 51) = fU (dI (n % 2 ^ (i + 1))) (i / 51) := by
  rw [jL _ _ (by omega), jL _ _ (by omega), SG 51 n i (by decide)]
 rw [e1, e2, nH _ (show n / 2 ^ i % 2 < 18446744073709551616 by omega), e3, Vd _ _ _ hx hb2 (by omega), hnew]
 apply Array.ext_getElem?
 intro k
 by_cases hk : k < 5
 · rw [nM _ k hk]
   by_cases hk2 : i / 51 = k
   · subst hk2
     rw [Array.getElem?_setIfInBounds_self_of_lt (by simp [um]; omega)]
   · rw [Array.getElem?_setIfInBounds_ne hk2, nM _ k hk]
     rw [jL _ _ hk, jL _ _ hk, MO 51 n i k (by decide) (Ne.symm hk2)]
 · rw [Array.getElem?_eq_none (by simp [um]; omega), Array.getElem?_eq_none (by simp [um]; omega)]
end
section
open Go.RowKit Go.Proofs.YtehfkbaendajbaaGreatDoorW.PrintLast
theorem afD (es : List Nat) (hl : es.length = 32) (h : ∀ b ∈ es, b < 256) (hn : bW es < 57896044618658097711785492504343953926634992332820282019728792003956564819968) : es[31]'(by omega) < 128 := by
 have h1 := xB es 31 h
 rw [List.drop_eq_getElem_cons (by omega), List.drop_eq_nil_of_le (by omega)] at h1
 simp only [bW, Nat.mul_zero, Nat.add_zero] at h1
 rw [← h1]
 omega
theorem U7 {t s : Fn} (h : t ≠ s) : ((t.a : Int) == (s.a : Int) && ((t.b : Int) == (s.b : Int) && ((t.c : Int) == (s.c : Int) && ((t.d : Int) == (s.d : Int) && (t.e : Int) == (s.e : Int))))) = false := by
 rw [Bool.eq_false_iff]
 intro h2
 simp only [Bool.and_eq_true, beq_iff_eq, Int.natCast_inj] at h2
 obtain ⟨h3, h4, h5, h6, h7⟩ := h2
 apply h
 cases t
 cases s
 simp only at h3 h4 h5 h6 h7
 rw [h3, h4, h5, h6, h7]
theorem NY (A : Option Addr) (c : Nat) (es : List Nat) (hl : es.length = 32) (hby : ∀ b ∈ es, b < 256) (hcase : bW es < Num.p) (w : World) (hr : Rd w .u8 A es) :
 Calls Tryz.prog 53 #[.slice A es.length c] w fun e w' => e = .returned (.tuple #[(small (bW es)).v, .int .i64 0]) ∧ Below w.heap.size w w' := by
 have rV := Lib.hid hby
 have mJ := Lib.hid hr
 have hd : ((32 : Int) != 32) = false := rfl
 obtain ⟨b, off, rfl, hbw, hcell⟩ := hr.place (by omega)
 have HC := Lib.hid hcell
 have HN := Lib.hid hcase
 clear hby hr hcell hcase
 obtain ⟨n, HNe⟩ : ∃ n, Hid (n = bW es) := ⟨_, rfl⟩
 have HL := Lib.hid hl
 rw [hl]
 clear hl
 go_enter Tryz.func53, Tryz.ntmps53
 go_wp2_with fail
 go_loopw [10] (fun iv wr => ∃ (i : Nat) (x : World), iv = .int .i64 (i : Int) ∧ wr = (x.pin w.heap.size (.cells #[.int .u64 0, .int .u64 0, .int .u64 0, .int .u64 0, .int .u64 0] 36)).pin (w.heap.size + 1) (.cells (um (dI (n % 2 ^ i))) 36) ∧ w.heap.size < x.heap.size ∧ w.heap.size + 1 < x.heap.size ∧ Hid (Below w.heap.size w x ∧ i ≤ 255)) (fun i _ => (255 - intOf i).toNat)
 case atStart => exact ⟨0, _, rfl, FQ ob ob rfl (by rw [Nat.pow_zero, Nat.mod_one]; rfl), sz, sz, (pl (Below.refl _ _)), by omega⟩
 case round =>
  obtain ⟨i, x, rfl, rfl, q0, q1, H⟩ := hrel
  by_cases hlt : i < 255
  · obtain ⟨j, hj⟩ : ∃ j, j = i / 8 := ⟨_, rfl⟩
    obtain ⟨m, hm⟩ : ∃ m, m = i / 51 := ⟨_, rfl⟩
    obtain ⟨r, hr⟩ : ∃ r, r = i % 51 := ⟨_, rfl⟩
    obtain ⟨q, hq⟩ : ∃ q, q = i % 8 := ⟨_, rfl⟩
    have Bf : j < es.length := by have := HL.out; omega
    obtain ⟨bv, hbv⟩ : ∃ b, b = es[j] := ⟨_, rfl⟩
    obtain ⟨lim, hlim⟩ : ∃ l, l = fU (dI (n % 2 ^ i)) m := ⟨_, rfl⟩
    have hA : x.cell? ⟨b, off + j, none⟩ = some (.int .u8 bv) := by
     rw [hbv]
     exact (H.out.1.cell (p := ⟨b, off + j, none⟩) hbw).trans (HC.out j Bf)
    have hL : (um (dI (n % 2 ^ i)))[m]? = some (.int .u64 lim) := by rw [nM _ _ (by omega), hlim]
    have b1 : (j : Int) < 32 := by omega
    have b3 : (m : Int) < 5 := by omega
    have b4 : r < 64 := by omega
    have b5 : q < 8 := by omega
    have e1 : IntKind.i64.wrap ((i : Int) / 8) = (j : Int) := (IntWalk.i64_in _ (by omega)).trans (by omega)
    have e2 : IntKind.i64.wrap ((i : Int) / 51) = (m : Int) := (IntWalk.i64_in _ (by omega)).trans (by omega)
    have e3 : (i : Int).tmod 51 = (r : Int) := by rw [Int.tmod_eq_emod_of_nonneg (by omega)]; omega
    have e4 : (i : Int).tmod 8 = (q : Int) := by rw [Int.tmod_eq_emod_of_nonneg (by omega)]; omega
    have hst : Hid ((um (dI (n % 2 ^ i))).setIfInBounds m (.int .u64 (bits .or .u64 (lim : Int) (eX (eX (bits .and .u8 ((bv : Int) / 2 ^ q) 1) * 2 ^ r)))) = um (dI (n % 2 ^ (i + 1)))) := by
     have hb2 : bv < 256 := by rw [hbv]; exact rV.out _ (List.getElem_mem _)
     have hbit : n / 2 ^ i % 2 = bv / 2 ^ (i % 8) % 2 := by
      rw [HNe.out, xA es rV.out i (by rw [← hj]; exact Bf), hbv]
      simp only [hj]
     have h0 := G7 n i bv hlt hb2 hbit
     rw [hlim, hm, hr, hq]
     exact h0
    clear hj hm hr hq hbv hlim
    go_wp2
    refine wp_region_still_tail 19 (by kernel_rfl) (by kernel_rfl) ?_
    simp only [List.take_succ_cons, List.take_zero, List.drop_succ_cons, List.drop_zero, World.drew_eq]
    (repeat still_step)
    refine wpStill_nil ?_
    go_wp2
    have hst' := hst.out
    refine ⟨⟨i + 1, x.drew, by simp, by rw [hst']; rfl, q0, q1, H.out.1.drew, by omega⟩, ?_⟩
    first | (simp [intOf]; done) | (simp [intOf]; omega)
  · have hi : i = 255 := by have := H.out.2; omega
    subst hi
    obtain ⟨s, hs⟩ : ∃ s, s = dI (n % 2 ^ 255) := ⟨_, rfl⟩
    rw [← hs, show um s = #[.int .u64 s.a, .int .u64 s.b, .int .u64 s.c, .int .u64 s.d, .int .u64 s.e] from rfl]
    have HSs := Lib.hid hs
    clear hs
    have HSl : Hid (s.lt 18446744073709551616) := by rw [HSs.out]; exact Fn.lJ (wH _) (by decide)
    have h31 : 31 < es.length := by have := HL.out; omega
    obtain ⟨bv, hbv⟩ : ∃ b, b = es[31] := ⟨_, rfl⟩
    have qG : Hid (w.cell? ⟨b, off + 31, none⟩ = some (.int .u8 bv)) := by
     rw [hbv]
     exact HC.out 31 h31
    have hg : decide ((bv : Int) > 127) = false := by rw [hbv]; exact decide_eq_false (by have := afD es HL.out rV.out (by have := HN.out; unfold Num.p at *; omega); omega)
    have hg' : decide (127 < (bv : Int)) = false := hg
    clear hbv
    have HB1 : Hid (Below w.heap.size w x) := H.out.1
    go_wp2_with fail
    have HV : Hid (s = small (bW es)) := by rw [HSs.out, HNe.out]; unfold small; congr 1; have := HN.out; unfold Num.p at *; omega
    have CR : ∀ w, Calls Tryz.prog 75 #[s.v] w fun e w' => e = .returned s.v ∧ Below w.heap.size w w' := by
     intro w
     have h0 := reduce_nat s HSl.out w
     rw [show small s.val = s from by rw [HV.out, jh, uH]] at h0
     exact h0
    have CRh := Lib.hid CR
    clear CR
    refine st1 w [] 10 (ak (b := w.heap.size) ob (ak (b := w.heap.size + 1) ob (aO (pl HB1.out)))) (fun HS => ?_)
    refine tk2 0 (some 33) HS (hy := by (intro v hv; obtain ⟨x, rfl, hk, _, n0, n1⟩ := hv.iL; have zJ := (hk.below.cell (p := ⟨b, off + 31, none⟩) hbw).trans qG.out; clear hk; go_simp; first | done | with_reducible rfl)) (h := ?_)
    refine tk2 1 (some 34) HS (hy := by (intro v hv; obtain ⟨x, rfl, hk, _, n0, n1⟩ := hv.iL; have zJ := (hk.below.cell (p := ⟨b, off + 31, none⟩) hbw).trans qG.out; clear hk; go_simp; first | done | with_reducible rfl)) (h := ?_)
    refine tk2 2 (some 35) HS (hy := by (intro v hv; obtain ⟨x, rfl, hk, _, n0, n1⟩ := hv.iL; have zJ := (hk.below.cell (p := ⟨b, off + 31, none⟩) hbw).trans qG.out; clear hk; go_simp; first | done | with_reducible rfl)) (h := ?_)
    refine tk2 3 (some 36) HS (hy := by (intro v hv; obtain ⟨x, rfl, hk, _, n0, n1⟩ := hv.iL; have zJ := (hk.below.cell (p := ⟨b, off + 31, none⟩) hbw).trans qG.out; clear hk; go_simp; first | done | with_reducible rfl)) (h := ?_)
    refine tk2 4 (some 37) HS (hy := by (intro v hv; obtain ⟨x, rfl, hk, _, n0, n1⟩ := hv.iL; have zJ := (hk.below.cell (p := ⟨b, off + 31, none⟩) hbw).trans qG.out; clear hk; go_simp; first | done | with_reducible rfl)) (h := ?_)
    refine tk2 5 (some 38) HS (hy := by (intro v hv; obtain ⟨x, rfl, hk, _, n0, n1⟩ := hv.iL; have zJ := (hk.below.cell (p := ⟨b, off + 31, none⟩) hbw).trans qG.out; clear hk; go_simp; first | done | with_reducible rfl)) (h := ?_)
    refine tk2 7 (some 40) HS (hy := by (intro v hv; obtain ⟨x, rfl, hk, _, n0, n1⟩ := hv.iL; have zJ := (hk.below.cell (p := ⟨b, off + 31, none⟩) hbw).trans qG.out; clear hk; go_simp; first | done | with_reducible rfl)) (h := ?_)
    refine dH 6 (some 39) (h := fun K hK => ?_)
    go_simp
    refine (CRh.out _).mono ?_
    rintro e y ⟨rfl, hb⟩
    refine hK.out _ _ (HS.step hb rfl) ?_
    clear HS hb
    intro HS
    refine tk2 8 (some 41) HS (hy := by (intro v hv; obtain ⟨x, rfl, hk, _, n0, n1⟩ := hv.iL; have zJ := (hk.below.cell (p := ⟨b, off + 31, none⟩) hbw).trans qG.out; clear hk; go_simp; first | done | with_reducible rfl)) (h := ?_)
    refine tk2 9 (some 42) HS (hy := by (intro v hv; obtain ⟨x, rfl, hk, _, n0, n1⟩ := hv.iL; have zJ := (hk.below.cell (p := ⟨b, off + 31, none⟩) hbw).trans qG.out; clear hk; go_simp; first | done | with_reducible rfl)) (h := ?_)
    obtain ⟨x2, rfl, hk2, hz2, kD, rQ⟩ := HS.iL
    have HB2 : Hid (Below w.heap.size w x2) := hk2.below
    clear HS hk2
    refine done_ (by kernel_rfl) ?_
    go_wp2_with fail
    refine bodyPost_ret (v := .tuple #[s.v, .int .i64 0]) ?_ rfl ⟨congrArg (fun z : Fn => Ending.returned (.tuple #[z.v, .int .i64 0])) HV.out, ?_⟩
    · simp [results, Tryz.results53, go_sem, q0, q1, kD, rQ]
    · exact (pl HB2.out)
theorem Jm (A : Option Addr) (c : Nat) (es : List Nat) (hl : es.length = 32) (hby : ∀ b ∈ es, b < 256) (hcase : Num.p ≤ bW es ∧ bW es < 57896044618658097711785492504343953926634992332820282019728792003956564819968) (w : World) (hr : Rd w .u8 A es) :
 Calls Tryz.prog 53 #[.slice A es.length c] w fun e w' => e = .returned (.tuple #[(⟨0, 0, 0, 0, 0⟩ : Fn).v, .int .i64 30]) ∧ Below w.heap.size w w' := by
 have rV := Lib.hid hby
 have mJ := Lib.hid hr
 have hd : ((32 : Int) != 32) = false := rfl
 obtain ⟨b, off, rfl, hbw, hcell⟩ := hr.place (by omega)
 have HC := Lib.hid hcell
 have HN := Lib.hid hcase
 clear hby hr hcell hcase
 obtain ⟨n, HNe⟩ : ∃ n, Hid (n = bW es) := ⟨_, rfl⟩
 have HL := Lib.hid hl
 rw [hl]
 clear hl
 go_enter Tryz.func53, Tryz.ntmps53
 go_wp2_with fail
 go_loopw [10] (fun iv wr => ∃ (i : Nat) (x : World), iv = .int .i64 (i : Int) ∧ wr = (x.pin w.heap.size (.cells #[.int .u64 0, .int .u64 0, .int .u64 0, .int .u64 0, .int .u64 0] 36)).pin (w.heap.size + 1) (.cells (um (dI (n % 2 ^ i))) 36) ∧ w.heap.size < x.heap.size ∧ w.heap.size + 1 < x.heap.size ∧ Hid (Below w.heap.size w x ∧ i ≤ 255)) (fun i _ => (255 - intOf i).toNat)
 case atStart => exact ⟨0, _, rfl, FQ ob ob rfl (by rw [Nat.pow_zero, Nat.mod_one]; rfl), sz, sz, (pl (Below.refl _ _)), by omega⟩
 case round =>
  obtain ⟨i, x, rfl, rfl, q0, q1, H⟩ := hrel
  by_cases hlt : i < 255
  · obtain ⟨j, hj⟩ : ∃ j, j = i / 8 := ⟨_, rfl⟩
    obtain ⟨m, hm⟩ : ∃ m, m = i / 51 := ⟨_, rfl⟩
    obtain ⟨r, hr⟩ : ∃ r, r = i % 51 := ⟨_, rfl⟩
    obtain ⟨q, hq⟩ : ∃ q, q = i % 8 := ⟨_, rfl⟩
    have Bf : j < es.length := by have := HL.out; omega
    obtain ⟨bv, hbv⟩ : ∃ b, b = es[j] := ⟨_, rfl⟩
    obtain ⟨lim, hlim⟩ : ∃ l, l = fU (dI (n % 2 ^ i)) m := ⟨_, rfl⟩
    have hA : x.cell? ⟨b, off + j, none⟩ = some (.int .u8 bv) := by
     rw [hbv]
     exact (H.out.1.cell (p := ⟨b, off + j, none⟩) hbw).trans (HC.out j Bf)
    have hL : (um (dI (n % 2 ^ i)))[m]? = some (.int .u64 lim) := by rw [nM _ _ (by omega), hlim]
    have b1 : (j : Int) < 32 := by omega
    have b3 : (m : Int) < 5 := by omega
    have b4 : r < 64 := by omega
    have b5 : q < 8 := by omega
    have e1 : IntKind.i64.wrap ((i : Int) / 8) = (j : Int) := (IntWalk.i64_in _ (by omega)).trans (by omega)
    have e2 : IntKind.i64.wrap ((i : Int) / 51) = (m : Int) := (IntWalk.i64_in _ (by omega)).trans (by omega)
    have e3 : (i : Int).tmod 51 = (r : Int) := by rw [Int.tmod_eq_emod_of_nonneg (by omega)]; omega
    have e4 : (i : Int).tmod 8 = (q : Int) := by rw [Int.tmod_eq_emod_of_nonneg (by omega)]; omega
    have hst : Hid ((um (dI (n % 2 ^ i))).setIfInBounds m (.int .u64 (bits .or .u64 (lim : Int) (eX (eX (bits .and .u8 ((bv : Int) / 2 ^ q) 1) * 2 ^ r)))) = um (dI (n % 2 ^ (i + 1)))) := by
     have hb2 : bv < 256 := by rw [hbv]; exact rV.out _ (List.getElem_mem _)
     have hbit : n / 2 ^ i % 2 = bv / 2 ^ (i % 8) % 2 := by
      rw [HNe.out, xA es rV.out i (by rw [← hj]; exact Bf), hbv]
      simp only [hj]
     have h0 := G7 n i bv hlt hb2 hbit
     rw [hlim, hm, hr, hq]
     exact h0
    clear hj hm hr hq hbv hlim
    go_wp2
    refine wp_region_still_tail 19 (by kernel_rfl) (by kernel_rfl) ?_
    simp only [List.take_succ_cons, List.take_zero, List.drop_succ_cons, List.drop_zero, World.drew_eq]
    (repeat still_step)
    refine wpStill_nil ?_
    go_wp2
    have hst' := hst.out
    refine ⟨⟨i + 1, x.drew, by simp, by rw [hst']; rfl, q0, q1, H.out.1.drew, by omega⟩, ?_⟩
    first | (simp [intOf]; done) | (simp [intOf]; omega)
  · have hi : i = 255 := by have := H.out.2; omega
    subst hi
    obtain ⟨s, hs⟩ : ∃ s, s = dI (n % 2 ^ 255) := ⟨_, rfl⟩
    rw [← hs, show um s = #[.int .u64 s.a, .int .u64 s.b, .int .u64 s.c, .int .u64 s.d, .int .u64 s.e] from rfl]
    have HSs := Lib.hid hs
    clear hs
    have HSl : Hid (s.lt 18446744073709551616) := by rw [HSs.out]; exact Fn.lJ (wH _) (by decide)
    have h31 : 31 < es.length := by have := HL.out; omega
    obtain ⟨bv, hbv⟩ : ∃ b, b = es[31] := ⟨_, rfl⟩
    have qG : Hid (w.cell? ⟨b, off + 31, none⟩ = some (.int .u8 bv)) := by
     rw [hbv]
     exact HC.out 31 h31
    have hg : decide ((bv : Int) > 127) = false := by rw [hbv]; exact decide_eq_false (by have := afD es HL.out rV.out (by have := HN.out; unfold Num.p at *; omega); omega)
    have hg' : decide (127 < (bv : Int)) = false := hg
    clear hbv
    have HB1 : Hid (Below w.heap.size w x) := H.out.1
    go_wp2_with fail
    obtain ⟨t, ht⟩ : ∃ t, t = small s.val := ⟨_, rfl⟩
    have CR : ∀ w, Calls Tryz.prog 75 #[s.v] w fun e w' => e = .returned t.v ∧ Below w.heap.size w w' := by
     intro w
     rw [ht]
     exact reduce_nat s HSl.out w
    have hv : s.val = bW es := by
     have h1 : Fn.val (dI (n % 2 ^ 255)) = n % 2 ^ 255 := by unfold dI Fn.val; simp only; omega
     rw [HSs.out, h1, HNe.out]
     have := HN.out
     omega
    have hne := U7 (t := t) (s := s) (by
     intro h
     have h2 := congrArg Fn.val h
     rw [ht, jh, hv] at h2
     have := HN.out
     have := Nat.mod_lt (bW es) gJ
     omega)
    clear hv ht
    have CRh := Lib.hid CR
    clear CR
    refine st1 w [] 10 (ak (b := w.heap.size) ob (ak (b := w.heap.size + 1) ob (aO (pl HB1.out)))) (fun HS => ?_)
    refine tk2 0 (some 33) HS (hy := by (intro v hv; obtain ⟨x, rfl, hk, _, n0, n1⟩ := hv.iL; have zJ := (hk.below.cell (p := ⟨b, off + 31, none⟩) hbw).trans qG.out; clear hk; go_simp; first | done | with_reducible rfl)) (h := ?_)
    refine tk2 1 (some 34) HS (hy := by (intro v hv; obtain ⟨x, rfl, hk, _, n0, n1⟩ := hv.iL; have zJ := (hk.below.cell (p := ⟨b, off + 31, none⟩) hbw).trans qG.out; clear hk; go_simp; first | done | with_reducible rfl)) (h := ?_)
    refine tk2 2 (some 35) HS (hy := by (intro v hv; obtain ⟨x, rfl, hk, _, n0, n1⟩ := hv.iL; have zJ := (hk.below.cell (p := ⟨b, off + 31, none⟩) hbw).trans qG.out; clear hk; go_simp; first | done | with_reducible rfl)) (h := ?_)
    refine tk2 3 (some 36) HS (hy := by (intro v hv; obtain ⟨x, rfl, hk, _, n0, n1⟩ := hv.iL; have zJ := (hk.below.cell (p := ⟨b, off + 31, none⟩) hbw).trans qG.out; clear hk; go_simp; first | done | with_reducible rfl)) (h := ?_)
    refine tk2 4 (some 37) HS (hy := by (intro v hv; obtain ⟨x, rfl, hk, _, n0, n1⟩ := hv.iL; have zJ := (hk.below.cell (p := ⟨b, off + 31, none⟩) hbw).trans qG.out; clear hk; go_simp; first | done | with_reducible rfl)) (h := ?_)
    refine tk2 5 (some 38) HS (hy := by (intro v hv; obtain ⟨x, rfl, hk, _, n0, n1⟩ := hv.iL; have zJ := (hk.below.cell (p := ⟨b, off + 31, none⟩) hbw).trans qG.out; clear hk; go_simp; first | done | with_reducible rfl)) (h := ?_)
    refine tk2 7 (some 40) HS (hy := by (intro v hv; obtain ⟨x, rfl, hk, _, n0, n1⟩ := hv.iL; have zJ := (hk.below.cell (p := ⟨b, off + 31, none⟩) hbw).trans qG.out; clear hk; go_simp; first | done | with_reducible rfl)) (h := ?_)
    refine dH 6 (some 39) (h := fun K hK => ?_)
    go_simp
    refine (CRh.out _).mono ?_
    rintro e y ⟨rfl, hb⟩
    refine hK.out _ _ (HS.step hb rfl) ?_
    clear HS hb
    intro HS
    refine tk2 8 (some 41) HS (hy := by (intro v hv; obtain ⟨x, rfl, hk, _, n0, n1⟩ := hv.iL; have zJ := (hk.below.cell (p := ⟨b, off + 31, none⟩) hbw).trans qG.out; clear hk; go_simp; first | done | with_reducible rfl)) (h := ?_)
    refine tk2 9 (some 42) HS (hy := by (intro v hv; obtain ⟨x, rfl, hk, _, n0, n1⟩ := hv.iL; have zJ := (hk.below.cell (p := ⟨b, off + 31, none⟩) hbw).trans qG.out; clear hk; go_simp; first | done | with_reducible rfl)) (h := ?_)
    obtain ⟨x2, rfl, hk2, hz2, kD, rQ⟩ := HS.iL
    have HB2 : Hid (Below w.heap.size w x2) := hk2.below
    clear HS hk2
    refine done_ (by kernel_rfl) ?_
    go_wp2_with fail
    refine bodyPost_ret (v := .tuple #[(⟨0, 0, 0, 0, 0⟩ : Fn).v, .int .i64 30]) ?_ rfl ⟨rfl, ?_⟩
    · simp [results, Tryz.results53, go_sem, q0, q1, kD, rQ]
    · exact (pl HB2.out)
end
end Go.Proofs.YtehfkbaendajbaaGreatDoor
