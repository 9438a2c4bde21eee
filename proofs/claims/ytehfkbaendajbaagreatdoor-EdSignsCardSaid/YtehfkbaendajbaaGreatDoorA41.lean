/-
  Shared, part 41: walks and plain laws; each theorem states its own conditions.
-/
import Derived.Test.YtehfkbaendajbaaGreatDoorA33
namespace Go.Proofs.YtehfkbaendajbaaGreatDoor
set_option linter.unusedSimpArgs false
set_option linter.unusedVariables false
set_option maxRecDepth 100000
set_option maxHeartbeats 8000000
section
open Go.RowKit Go.Proofs.YtehfkbaendajbaaGreatDoorW.PrintLast
theorem afX {n : Nat} {bs : List Nat} (h : ∀ b ∈ bs, b < 256) (hl : bs.length ≤ n) : bW bs < 256 ^ n := Nat.lt_of_lt_of_le (oD bs h) (Nat.pow_le_pow_right (by decide) hl)
theorem akz {bs : List Nat} (h : ∀ b ∈ bs, b < 256) (hl : bs.length ≤ 64) : bW bs < LO * 2 ^ 321 := Nat.lt_trans (afX h hl) (by decide +kernel)
theorem akV (x N : Nat) (hx : x < LO * 2 ^ 321) (hN : N = x % LO) (w : World) (ho : DW w) : Calls Tryz.prog 46 #[Lv x] w fun e w' => e = .returned (Lv N) ∧ Below w.heap.size w w' := by
 subst hN
 exact aiA x hx w ho
theorem ado (A : Option Addr) (c L N : Nat) (bs : List Nat) (hby : ∀ b ∈ bs, b < 256) (hl : bs.length ≤ 64) (hL : L = bs.length) (hN : N = bW bs) (w : World) (hr : Rd w .u8 A bs) : Calls Tryz.prog 43 #[.slice A L c] w fun e w' => e = .returned (Lv N) ∧ Below w.heap.size w w' := by
 subst hN
 subst hL
 exact aiv A c bs hby hl w hr
theorem akh (A : Option Addr) (c : Nat) (bs : List Nat) (hby : ∀ b ∈ bs, b < 256) (hl : bs.length ≤ 64) (w : World) (hr : Rd w .u8 A bs) (ho : DW w) :
 Calls Tryz.prog 41 #[.slice A bs.length c] w fun e w' => (∃ b, w.heap.size ≤ b ∧ e = .returned (.tuple #[.slice (some ⟨b, 0, none⟩) 32 32, .int .i64 0]) ∧ w'.heap[b]? = some (.cells (bF (dw 32 (bW bs % LO))) 5)) ∧ Below w.heap.size w w' := by
 have HR := Lib.hid hr
 have HO := Lib.hid ho
 have rV := Lib.hid hby
 have HL := Lib.hid hl
 obtain ⟨L, hL⟩ : ∃ L, L = bs.length := ⟨_, rfl⟩
 obtain ⟨N, hN⟩ : ∃ N, N = bW bs := ⟨_, rfl⟩
 obtain ⟨M, hM⟩ : ∃ M, M = N % LO := ⟨_, rfl⟩
 have HN := Lib.hid (show L = bs.length ∧ N = bW bs ∧ M = N % LO ∧ N < LO * 2 ^ 321 by rw [hM, hN, hL]; exact ⟨rfl, rfl, rfl, akz hby hl⟩)
 have hlz : (L : Int) ≤ 64 := by omega
 have al5 : ¬ (64 : Int) < (L : Int) := by omega
 have hd : decide ((64 : Int) < (L : Int)) = false := decide_eq_false al5
 have hd2 : decide (64 < L) = false := decide_eq_false (by omega)
 rw [← hL, ← hN, ← hM]
 clear hr ho hby hl hL hN hM hlz
 go_enter Tryz.func41, Tryz.ntmps41
 go_wp2_with fail
 refine (ado A c L N bs rV.out HL.out HN.out.1 HN.out.2.1 _ (HR.out.mono (pl (Below.refl _ _)) (Nat.le_refl _))).mono ?_
 rintro e x1 ⟨rfl, hb1⟩
 have HB1 : Hid (Below w.heap.size w x1) := Below.trans (pl (Below.refl _ _)) (hb1.mono sz)
 have hz1 := HB1.out.size
 replace HO := Lib.hid (HO.out.next (bt hb1))
 clear hb1
 go_wp2_with fail
 refine (akV N M HN.out.2.2.2 HN.out.2.2.1 _ (HO.out.next (pl (Below.refl _ _)))).mono ?_
 rintro e x2 ⟨rfl, hb2⟩
 have HB2 := aZ HB1.out hb2
 have hz2 := HB2.out.size
 clear hb2
 go_wp2_with fail
 refine (acN M _).mono ?_
 rintro e x3 ⟨⟨b, hge, rfl, hrd⟩, hb3⟩
 have HGE := Lib.hid (Nat.le_trans HB2.out.size (show x2.heap.size ≤ b by (try simp only [dU] at hge); omega))
 clear hge
 have HB3 := aZ HB2.out hb3
 have hz3 := HB3.out.size
 clear hb3
 have fM := Lib.hid hrd
 clear hrd
 go_wp2_with fail
 refine bodyPost_ret (v := .tuple #[.slice (some ⟨b, 0, none⟩) 32 32, .int .i64 0]) ?_ rfl ⟨⟨b, HGE.out, rfl, fM.out⟩, (pl HB3.out)⟩
 · simp [results, Tryz.results41, go_sem]
end
section
open Go.RowKit Go.Proofs.YtehfkbaendajbaaGreatDoorW.PrintLast
theorem amd (A : Option Addr) (c L N : Nat) (bs : List Nat) (hby : ∀ b ∈ bs, b < 256) (hl : bs.length ≤ 64) (hL : L = bs.length) (hN : N = bW bs) (w : World) (hr : Rd w .u8 A bs) : Calls Tryz.prog 43 #[.slice A L c] w fun e w' => e = .returned (.agg (row 9 (lim N))) ∧ Below w.heap.size w w' :=
 ado A c L N bs hby hl hL hN w hr
theorem aiu (a b p : Nat) (ha : a < WW ^ 4) (hb : b < WW ^ 4) (hp : p = a * b) (w : World) : Calls Tryz.prog 42 #[Lv a, Lv b] w fun e w' => e = .returned (Lv p) ∧ Below w.heap.size w w' := by
 subst hp
 exact afJ a b ha hb w
theorem amy (x y c l d : Nat) (hc : c ≤ 1) (h1 : l = (x + y + c) % WW) (h2 : d = (x + y + c) / WW) (w : World) : (callFunc 44 #[.int .u64 (x : Int), .int .u64 (y : Int), .int .u64 (c : Int)]).run Tryz.prog w = .ok (.value (.tuple #[.int .u64 (l : Int), .int .u64 (d : Int)])) w := by
 have h := yB x y c hc w
 rw [h1, h2]
 exact h
theorem ake {bs : List Nat} (h : ∀ b ∈ bs, b < 256) (hl : bs.length ≤ 32) : bW bs < WW ^ 4 := Nat.lt_of_lt_of_le (afX h hl) (by decide +kernel)
theorem ajl {a b c : Nat} (ha : a < WW ^ 4) (hb : b < WW ^ 4) (hc : c < WW ^ 4) : a * b + c < LO * 2 ^ 321 := by
 have h1 := Nat.mul_le_mul (Nat.le_of_lt ha) (Nat.le_of_lt hb)
 have h2 : WW ^ 4 * WW ^ 4 + WW ^ 4 < LO * 2 ^ 321 := by decide +kernel
 exact Nat.lt_of_le_of_lt (Nat.add_le_add h1 (Nat.le_of_lt hc)) h2
theorem ahL (f : Nat → Nat) (w : World) : (Instr.index 66 (.agg (row 9 f)) (.int .i64 ((0 : Nat) : Int))).run Tryz.prog w = .ok (.int .u64 ((f 0 : Nat) : Int)) w := by kernel_rfl
theorem ahM (f : Nat → Nat) (w : World) : (Instr.index 66 (.agg (row 9 f)) (.int .i64 ((1 : Nat) : Int))).run Tryz.prog w = .ok (.int .u64 ((f 1 : Nat) : Int)) w := by kernel_rfl
theorem ahN (f : Nat → Nat) (w : World) : (Instr.index 66 (.agg (row 9 f)) (.int .i64 ((2 : Nat) : Int))).run Tryz.prog w = .ok (.int .u64 ((f 2 : Nat) : Int)) w := by kernel_rfl
theorem ahO (f : Nat → Nat) (w : World) : (Instr.index 66 (.agg (row 9 f)) (.int .i64 ((3 : Nat) : Int))).run Tryz.prog w = .ok (.int .u64 ((f 3 : Nat) : Int)) w := by kernel_rfl
theorem ahP (f : Nat → Nat) (w : World) : (Instr.index 66 (.agg (row 9 f)) (.int .i64 ((4 : Nat) : Int))).run Tryz.prog w = .ok (.int .u64 ((f 4 : Nat) : Int)) w := by kernel_rfl
theorem ahQ (f : Nat → Nat) (w : World) : (Instr.index 66 (.agg (row 9 f)) (.int .i64 ((5 : Nat) : Int))).run Tryz.prog w = .ok (.int .u64 ((f 5 : Nat) : Int)) w := by kernel_rfl
theorem ahR (f : Nat → Nat) (w : World) : (Instr.index 66 (.agg (row 9 f)) (.int .i64 ((6 : Nat) : Int))).run Tryz.prog w = .ok (.int .u64 ((f 6 : Nat) : Int)) w := by kernel_rfl
theorem ahS (f : Nat → Nat) (w : World) : (Instr.index 66 (.agg (row 9 f)) (.int .i64 ((7 : Nat) : Int))).run Tryz.prog w = .ok (.int .u64 ((f 7 : Nat) : Int)) w := by kernel_rfl
theorem ahT (f : Nat → Nat) (w : World) : (Instr.index 66 (.agg (row 9 f)) (.int .i64 ((8 : Nat) : Int))).run Tryz.prog w = .ok (.int .u64 ((f 8 : Nat) : Int)) w := by kernel_rfl
theorem alf (f : Nat → Nat) (i : Nat) (h : i < 9) (w : World) : (Instr.index 66 (.agg (row 9 f)) (.int .i64 (i : Int))).run Tryz.prog w = .ok (.int .u64 ((f i : Nat) : Int)) w := by
 match i, h with
 | 0, _ => exact ahL f w
 | 1, _ => exact ahM f w
 | 2, _ => exact ahN f w
 | 3, _ => exact ahO f w
 | 4, _ => exact ahP f w
 | 5, _ => exact ahQ f w
 | 6, _ => exact ahR f w
 | 7, _ => exact ahS f w
 | 8, _ => exact ahT f w
theorem alr {w : World} {b0 : Nat} {o0 p0 : Obj} (h0 : w.heap[b0]? = some o0) (e0 : o0 = p0) : w = w.pin b0 p0 := by
 subst e0; exact xI h0
theorem ahE (A0 : Option Addr) (c0 : Nat) (b0 : List Nat) (jq : ∀ b ∈ b0, b < 256) (l0 : b0.length ≤ 32) (A1 : Option Addr) (c1 : Nat) (b1 : List Nat) (jH : ∀ b ∈ b1, b < 256) (l1 : b1.length ≤ 32) (A2 : Option Addr) (c2 : Nat) (b2 : List Nat) (oQ : ∀ b ∈ b2, b < 256) (l2 : b2.length ≤ 32) (w : World) (r0 : Rd w .u8 A0 b0) (r1 : Rd w .u8 A1 b1) (r2 : Rd w .u8 A2 b2) (ho : DW w) :
 Calls Tryz.prog 19 #[.slice A0 b0.length c0, .slice A1 b1.length c1, .slice A2 b2.length c2] w fun e w' => (∃ b, w.heap.size ≤ b ∧ e = .returned (.tuple #[.slice (some ⟨b, 0, none⟩) 32 32, .int .i64 0]) ∧ w'.heap[b]? = some (.cells (bF (dw 32 ((bW b0 * bW b1 + bW b2) % LO))) 5)) ∧ Below w.heap.size w w' := by
 have HO := Lib.hid ho
 clear ho
 obtain ⟨L0, hL0⟩ : ∃ L, L = b0.length := ⟨_, rfl⟩
 obtain ⟨N0, hN0⟩ : ∃ N, N = bW b0 := ⟨_, rfl⟩
 have H0 := Lib.hid (show L0 = b0.length ∧ N0 = bW b0 ∧ N0 < WW ^ 4 ∧ b0.length ≤ 64 by rw [hL0, hN0]; exact ⟨rfl, rfl, ake jq l0, by omega⟩)
 have ao1 : ¬ (32 : Int) < (L0 : Int) := by omega
 have hd0 : decide (32 < L0) = false := decide_eq_false (by omega)
 rw [← hL0, ← hN0]
 have HR0 := Lib.hid r0
 have Q5 := Lib.hid jq
 clear r0 jq l0 hL0 hN0
 obtain ⟨L1, hL1⟩ : ∃ L, L = b1.length := ⟨_, rfl⟩
 obtain ⟨N1, hN1⟩ : ∃ N, N = bW b1 := ⟨_, rfl⟩
 have H1 := Lib.hid (show L1 = b1.length ∧ N1 = bW b1 ∧ N1 < WW ^ 4 ∧ b1.length ≤ 64 by rw [hL1, hN1]; exact ⟨rfl, rfl, ake jH l1, by omega⟩)
 have hlz1 : ¬ (32 : Int) < (L1 : Int) := by omega
 have hd1 : decide (32 < L1) = false := decide_eq_false (by omega)
 rw [← hL1, ← hN1]
 have HR1 := Lib.hid r1
 have HY1 := Lib.hid jH
 clear r1 jH l1 hL1 hN1
 obtain ⟨L2, hL2⟩ : ∃ L, L = b2.length := ⟨_, rfl⟩
 obtain ⟨N2, hN2⟩ : ∃ N, N = bW b2 := ⟨_, rfl⟩
 have H2 := Lib.hid (show L2 = b2.length ∧ N2 = bW b2 ∧ N2 < WW ^ 4 ∧ b2.length ≤ 64 by rw [hL2, hN2]; exact ⟨rfl, rfl, ake oQ l2, by omega⟩)
 have al5 : ¬ (32 : Int) < (L2 : Int) := by omega
 have hd2 : decide (32 < L2) = false := decide_eq_false (by omega)
 rw [← hL2, ← hN2]
 have HR2 := Lib.hid r2
 have HY2 := Lib.hid oQ
 clear r2 oQ l2 hL2 hN2
 obtain ⟨P, hP⟩ : ∃ P, P = N0 * N1 := ⟨_, rfl⟩
 obtain ⟨M, hM⟩ : ∃ M, M = P + N2 := ⟨_, rfl⟩
 obtain ⟨R, hR⟩ : ∃ R, R = M % LO := ⟨_, rfl⟩
 have HP := Lib.hid (show P = N0 * N1 ∧ M = P + N2 ∧ R = M % LO ∧ M < LO * 2 ^ 321 by rw [hR, hM, hP]; exact ⟨rfl, rfl, rfl, ajl H0.out.2.2.1 H1.out.2.2.1 H2.out.2.2.1⟩)
 rw [← hP, ← hM, ← hR]
 clear hP hM hR
 go_enter Tryz.func19, Tryz.ntmps19
 go_wp2_with fail
 refine (ado A0 c0 L0 N0 b0 Q5.out H0.out.2.2.2 H0.out.1 H0.out.2.1 _ (HR0.out.mono (pl (Below.refl _ _)) (Nat.le_refl _))).mono ?_
 rintro e x1 ⟨rfl, hb1⟩
 have HB1 : Hid (Below w.heap.size w x1) := Below.trans (pl (Below.refl _ _)) (hb1.mono sz)
 have hz1 := HB1.out.size
 clear hb1
 go_wp2_with fail
 refine (ado A1 c1 L1 N1 b1 HY1.out H1.out.2.2.2 H1.out.1 H1.out.2.1 _ (HR1.out.mono (pl HB1.out) (Nat.le_refl _))).mono ?_
 rintro e x2 ⟨rfl, hb2⟩
 have HB2 := aZ HB1.out hb2
 have hz2 := HB2.out.size
 clear hb2
 go_wp2_with fail
 refine (aiu N0 N1 P H0.out.2.2.1 H1.out.2.2.1 HP.out.1 _).mono ?_
 rintro e x3 ⟨rfl, hb3⟩
 have HB3 := aZ HB2.out hb3
 have hz3 := HB3.out.size
 clear hb3
 go_wp2_with fail
 refine (amd A2 c2 L2 N2 b2 HY2.out H2.out.2.2.2 H2.out.1 H2.out.2.1 _ (HR2.out.mono (pl HB3.out) (Nat.le_refl _))).mono ?_
 rintro e y4 ⟨rfl, hb4⟩
 obtain ⟨x4, rfl, hc4, lT, rU⟩ := bQ (b := x3.heap.size) hb4 rfl ob
 have HB4 := aZ HB3.out hc4
 clear hb4 hc4
 try simp only [dU] at lT
 go_wp2_with fail
 go_loopw [9, 32] (fun cv iv wr => ∃ (i cr : Nat) (fc : Nat → Nat) (z : World), cv = .int .u64 (cr : Int) ∧ iv = .int .i64 (i : Int) ∧ wr = (z.pin x3.heap.size (.cells (row 9 fc) 66)) ∧ x3.heap.size < z.heap.size ∧ Hid (Below w.heap.size w z ∧ i ≤ 9 ∧ ahA P N2 i fc cr)) (fun _ iv _ => (9 - intOf iv).toNat)
 case atStart => exact ⟨0, 0, lim P, _, rfl, rfl, alr ob (by rfl), sz, (pl HB4.out), by omega, agM P N2⟩
 case round =>
  obtain ⟨i, cr, fc, z, rfl, rfl, rfl, q0, H⟩ := hrel
  have HB1 : Hid (Below w.heap.size w z) := H.out.1
  by_cases hi : i < 9
  · have hiz : (i : Int) < 9 := by omega
    have HI := Lib.hid hi
    have hga := CO fc hi
    have hgb := alf (lim N2) i hi
    rw [show fc i = lim P i from H.out.2.2.2.2.1 i (Nat.le_refl _)] at hga
    obtain ⟨x, hx⟩ : ∃ x, x = lim P i := ⟨_, rfl⟩
    obtain ⟨y, hy⟩ : ∃ y, y = lim N2 i := ⟨_, rfl⟩
    rw [← hx] at hga
    rw [← hy] at hgb
    obtain ⟨l, hl⟩ : ∃ l, l = (x + y + cr) % WW := ⟨_, rfl⟩
    obtain ⟨d, hd⟩ : ∃ d, d = (x + y + cr) / WW := ⟨_, rfl⟩
    have hS := amy x y cr l d H.out.2.2.1 hl hd
    have HE := Lib.hid (show ahA P N2 (i + 1) (upd fc i l) d by rw [hl, hd, hx, hy]; exact ahG H.out.2.2)
    clear H hi hx hy hl hd
    go_wp2_with fail
    exact ⟨⟨i + 1, d, upd fc i l, z, rfl, vi0 i, by rw [iy], q0, HB1.out, HI.out, HE.out⟩, tH 9 i HI.out⟩
  · have hi9 : i = 9 := by have := H.out.2.1; omega
    subst hi9
    have hrow : row 9 fc = row 9 (lim M) := by rw [HP.out.2.1]; exact A8 (fun j hj => H.out.2.2.2.1 j hj)
    rw [hrow, alS M]
    clear H hrow
    go_wp2_with fail
    refine (akV M R HP.out.2.2.2 HP.out.2.2.1 _ (HO.out.mono (pl HB1.out) (Nat.le_refl _))).mono ?_
    rintro e y2 ⟨rfl, hb2⟩
    obtain ⟨x2, rfl, hc2, hz2, kD⟩ := bQ (b := x3.heap.size) hb2 rfl ob
    have HB2 := aZ HB1.out hc2
    clear hb2 hc2
    try simp only [dU] at hz2
    go_wp2_with fail
    refine (acN R _).mono ?_
    rintro e x3 ⟨⟨b, hge, rfl, hrd⟩, hb3⟩
    have HGE := Lib.hid (Nat.le_trans HB2.out.size (show x2.heap.size ≤ b by (try simp only [dU] at hge); omega))
    clear hge
    have HB3 := aZ HB2.out hb3
    have hz3 := HB3.out.size
    clear hb3
    have fM := Lib.hid hrd
    clear hrd
    go_wp2_with fail
    refine bodyPost_ret (v := .tuple #[.slice (some ⟨b, 0, none⟩) 32 32, .int .i64 0]) ?_ rfl ⟨⟨b, HGE.out, rfl, fM.out⟩, (pl HB3.out)⟩
    · simp [results, Tryz.results19, go_sem]
end
section
open Go.RowKit Go.Proofs.YtehfkbaendajbaaGreatDoorW.PrintLast
theorem aoE (A : Option Addr) (c L N : Nat) (bs : List Nat) (hby : ∀ b ∈ bs, b < 256) (hl : bs.length ≤ 64) (hL : L = bs.length) (hN : N = bW bs) (w : World) (hr : Rd w .u8 A bs) : Calls Tryz.prog 67 #[.slice A L c] w fun e w' => (∃ A' c', e = .returned (.slice A' (aB (N)).length c') ∧ Dn w' A' c' (N)) ∧ Below w.heap.size w w' := by
 subst hN
 subst hL
 exact qH A c bs hby (Nat.le_trans hl (by decide)) w hr
theorem ao3 (A : Option Addr) (c X Z : Nat) (hsz : (aB X).length ≤ 1000000) (hz : Z = X % LO) (w : World) (hX : Dn w A c X) : Calls Tryz.prog 97 #[.slice A (aB X).length c] w fun e w' => (∃ A' c', e = .returned (.slice A' (aB (Z)).length c') ∧ Dn w' A' c' (Z)) ∧ Below w.heap.size w w' := by
 subst hz
 exact aob A c X hsz w hX
theorem am1 {n : Nat} (h : n < 256 ^ 64) : (aB n).length ≤ 1000000 := Nat.le_trans (dK (k := 32) (by rw [show BB ^ 32 = 256 ^ 64 by decide +kernel]; exact h)) (by decide)
theorem aoh {n : Nat} (h : n < LO * 2 ^ 321) : (aB n).length ≤ 1000000 := Nat.le_trans (dK (k := 40) (Nat.lt_trans h (by decide +kernel))) (by decide)
theorem apa {n : Nat} (h : n < LO) : n < BB ^ 16 := Nat.lt_trans h (by decide)
theorem aoa (A : Option Addr) (c : Nat) (bs : List Nat) (hby : ∀ b ∈ bs, b < 256) (hl : bs.length ≤ 64) (w : World) (hr : Rd w .u8 A bs) :
 Calls Tryz.prog 70 #[.slice A bs.length c] w fun e w' => (∃ b, e = .returned (.tuple #[.slice (some ⟨b, 0, none⟩) 32 32, .int .i64 0]) ∧ Rd w' .u8 (some ⟨b, 0, none⟩) (dw 32 (bW bs % LO))) ∧ Below w.heap.size w w' := by
 have HR := Lib.hid hr
 have rV := Lib.hid hby
 have HL := Lib.hid hl
 obtain ⟨L, hL⟩ : ∃ L, L = bs.length := ⟨_, rfl⟩
 obtain ⟨N, hN⟩ : ∃ N, N = bW bs := ⟨_, rfl⟩
 obtain ⟨M, hM⟩ : ∃ M, M = N % LO := ⟨_, rfl⟩
 have HN := Lib.hid (show L = bs.length ∧ N = bW bs ∧ M = N % LO ∧ (aB N).length ≤ 1000000 ∧ M < BB ^ 16 by rw [hM, hN, hL]; exact ⟨rfl, rfl, rfl, am1 (afX hby hl), apa (Nat.mod_lt _ (by decide))⟩)
 have al5 : ¬ (64 : Int) < (L : Int) := by omega
 have hd2 : decide (64 < L) = false := decide_eq_false (by omega)
 rw [← hL, ← hN, ← hM]
 clear hr hby hl hL hN hM
 go_enter Tryz.func70, Tryz.ntmps70
 go_wp2_with fail
 refine (aoE A c L N bs rV.out HL.out HN.out.1 HN.out.2.1 _ (HR.out.mono (pl (Below.refl _ _)) (Nat.le_refl _))).mono ?_
 rintro e x1 ⟨⟨A1, c1, rfl, hd1⟩, hb1⟩
 have HB1 : Hid (Below w.heap.size w x1) := Below.trans (pl (Below.refl _ _)) (hb1.mono sz)
 have hz1 := HB1.out.size
 clear hb1
 have HD1 := Lib.hid hd1
 clear hd1
 go_wp2_with fail
 refine (ao3 A1 c1 N M HN.out.2.2.2.1 HN.out.2.2.1 _ (HD1.out.next (pl (Below.refl _ _)))).mono ?_
 rintro e x2 ⟨⟨A2, c2, rfl, aoi⟩, hb2⟩
 have HB2 := aZ HB1.out hb2
 have hz2 := HB2.out.size
 clear hb2
 have HD2 := Lib.hid aoi
 clear aoi
 go_wp2_with fail
 refine (iE A2 c2 M HN.out.2.2.2.2 _ (HD2.out.next (pl (Below.refl _ _)))).mono ?_
 rintro e x3 ⟨⟨b, rfl, hrd⟩, hb3⟩
 have HB3 := aZ HB2.out hb3
 have hz3 := HB3.out.size
 clear hb3
 have fM := Lib.hid hrd
 clear hrd
 go_wp2_with fail
 refine bodyPost_ret (v := .tuple #[.slice (some ⟨b, 0, none⟩) 32 32, .int .i64 0]) ?_ rfl ⟨⟨b, rfl, fM.out⟩, (pl HB3.out)⟩
 · simp [results, Tryz.results70, go_sem]
theorem anY (A0 : Option Addr) (c0 : Nat) (b0 : List Nat) (jq : ∀ b ∈ b0, b < 256) (l0 : b0.length ≤ 32) (A1 : Option Addr) (c1 : Nat) (b1 : List Nat) (jH : ∀ b ∈ b1, b < 256) (l1 : b1.length ≤ 32) (A2 : Option Addr) (c2 : Nat) (b2 : List Nat) (oQ : ∀ b ∈ b2, b < 256) (l2 : b2.length ≤ 32) (w : World) (r0 : Rd w .u8 A0 b0) (r1 : Rd w .u8 A1 b1) (r2 : Rd w .u8 A2 b2) :
 Calls Tryz.prog 52 #[.slice A0 b0.length c0, .slice A1 b1.length c1, .slice A2 b2.length c2] w fun e w' => (∃ b, e = .returned (.tuple #[.slice (some ⟨b, 0, none⟩) 32 32, .int .i64 0]) ∧ Rd w' .u8 (some ⟨b, 0, none⟩) (dw 32 ((bW b0 * bW b1 + bW b2) % LO))) ∧ Below w.heap.size w w' := by
 obtain ⟨L0, hL0⟩ : ∃ L, L = b0.length := ⟨_, rfl⟩
 obtain ⟨N0, hN0⟩ : ∃ N, N = bW b0 := ⟨_, rfl⟩
 have H0 := Lib.hid (show L0 = b0.length ∧ N0 = bW b0 ∧ N0 < WW ^ 4 ∧ b0.length ≤ 64 ∧ (aB N0).length ≤ 1000000 by rw [hL0, hN0]; exact ⟨rfl, rfl, ake jq l0, by omega, am1 (afX jq (by omega))⟩)
 have ao1 : ¬ (32 : Int) < (L0 : Int) := by omega
 have hd0 : decide (32 < L0) = false := decide_eq_false (by omega)
 rw [← hL0, ← hN0]
 have HR0 := Lib.hid r0
 have Q5 := Lib.hid jq
 clear r0 jq l0 hL0 hN0
 obtain ⟨L1, hL1⟩ : ∃ L, L = b1.length := ⟨_, rfl⟩
 obtain ⟨N1, hN1⟩ : ∃ N, N = bW b1 := ⟨_, rfl⟩
 have H1 := Lib.hid (show L1 = b1.length ∧ N1 = bW b1 ∧ N1 < WW ^ 4 ∧ b1.length ≤ 64 ∧ (aB N1).length ≤ 1000000 by rw [hL1, hN1]; exact ⟨rfl, rfl, ake jH l1, by omega, am1 (afX jH (by omega))⟩)
 have hlz1 : ¬ (32 : Int) < (L1 : Int) := by omega
 have hd1 : decide (32 < L1) = false := decide_eq_false (by omega)
 rw [← hL1, ← hN1]
 have HR1 := Lib.hid r1
 have HY1 := Lib.hid jH
 clear r1 jH l1 hL1 hN1
 obtain ⟨L2, hL2⟩ : ∃ L, L = b2.length := ⟨_, rfl⟩
 obtain ⟨N2, hN2⟩ : ∃ N, N = bW b2 := ⟨_, rfl⟩
 have H2 := Lib.hid (show L2 = b2.length ∧ N2 = bW b2 ∧ N2 < WW ^ 4 ∧ b2.length ≤ 64 ∧ (aB N2).length ≤ 1000000 by rw [hL2, hN2]; exact ⟨rfl, rfl, ake oQ l2, by omega, am1 (afX oQ (by omega))⟩)
 have al5 : ¬ (32 : Int) < (L2 : Int) := by omega
 have hd2 : decide (32 < L2) = false := decide_eq_false (by omega)
 rw [← hL2, ← hN2]
 have HR2 := Lib.hid r2
 have HY2 := Lib.hid oQ
 clear r2 oQ l2 hL2 hN2
 obtain ⟨P, hP⟩ : ∃ P, P = N0 * N1 := ⟨_, rfl⟩
 obtain ⟨M, hM⟩ : ∃ M, M = P + N2 := ⟨_, rfl⟩
 obtain ⟨R, hR⟩ : ∃ R, R = M % LO := ⟨_, rfl⟩
 have HP := Lib.hid (show P = N0 * N1 ∧ M = P + N2 ∧ R = M % LO ∧ (aB P).length ≤ 1000000 ∧ (aB M).length ≤ 1000000 ∧ R < BB ^ 16 by
  have h := ajl H0.out.2.2.1 H1.out.2.2.1 H2.out.2.2.1
  rw [hR, hM, hP]
  exact ⟨rfl, rfl, rfl, aoh (Nat.lt_of_le_of_lt (Nat.le_add_right _ _) h), aoh h, apa (Nat.mod_lt _ (by decide))⟩)
 rw [← hP, ← hM, ← hR]
 clear hP hM hR
 go_enter Tryz.func52, Tryz.ntmps52
 go_wp2_with fail
 refine (aoE A0 c0 L0 N0 b0 Q5.out H0.out.2.2.2.1 H0.out.1 H0.out.2.1 _ (HR0.out.mono (pl (Below.refl _ _)) (Nat.le_refl _))).mono ?_
 rintro e x1 ⟨⟨B1, e1, rfl, aqh⟩, hb1⟩
 have HB1 : Hid (Below w.heap.size w x1) := Below.trans (pl (Below.refl _ _)) (hb1.mono sz)
 have hz1 := HB1.out.size
 clear hb1
 have HD1 := Lib.hid aqh
 clear aqh
 go_wp2_with fail
 refine (aoE A1 c1 L1 N1 b1 HY1.out H1.out.2.2.2.1 H1.out.1 H1.out.2.1 _ (HR1.out.mono (pl HB1.out) (Nat.le_refl _))).mono ?_
 rintro e x2 ⟨⟨B2, e2, rfl, aoi⟩, hb2⟩
 have HB2 := aZ HB1.out hb2
 have hz2 := HB2.out.size
 replace HD1 := Lib.hid (HD1.out.next (bt hb2))
 clear hb2
 have HD2 := Lib.hid aoi
 clear aoi
 go_wp2_with fail
 refine (apE B1 B2 e1 e2 N0 N1 P H0.out.2.2.2.2 H1.out.2.2.2.2 HP.out.1 _ (HD1.out.next (pl (Below.refl _ _))) (HD2.out.next (pl (Below.refl _ _)))).mono ?_
 rintro e x3 ⟨⟨B3, e3, rfl, aqi⟩, hb3⟩
 have HB3 := aZ HB2.out hb3
 have hz3 := HB3.out.size
 clear hb3
 have HD3 := Lib.hid aqi
 clear aqi
 go_wp2_with fail
 refine (aoE A2 c2 L2 N2 b2 HY2.out H2.out.2.2.2.1 H2.out.1 H2.out.2.1 _ (HR2.out.mono (pl HB3.out) (Nat.le_refl _))).mono ?_
 rintro e x4 ⟨⟨B4, e4, rfl, aqj⟩, hb4⟩
 have HB4 := aZ HB3.out hb4
 have lT := HB4.out.size
 replace HD3 := Lib.hid (HD3.out.next (bt hb4))
 clear hb4
 have HD4 := Lib.hid aqj
 clear aqj
 go_wp2_with fail
 refine (aov B3 B4 e3 e4 P N2 M HP.out.2.2.2.1 H2.out.2.2.2.2 HP.out.2.1 _ (HD3.out.next (pl (Below.refl _ _))) (HD4.out.next (pl (Below.refl _ _)))).mono ?_
 rintro e x5 ⟨⟨B5, e5, rfl, aqk⟩, hb5⟩
 have kR := aZ HB4.out hb5
 have rP := kR.out.size
 clear hb5
 have HD5 := Lib.hid aqk
 clear aqk
 go_wp2_with fail
 refine (ao3 B5 e5 M R HP.out.2.2.2.2.1 HP.out.2.2.1 _ (HD5.out.next (pl (Below.refl _ _)))).mono ?_
 rintro e x6 ⟨⟨B6, e6, rfl, aql⟩, hb6⟩
 have mg := aZ kR.out hb6
 have yH := mg.out.size
 clear hb6
 have HD6 := Lib.hid aql
 clear aql
 go_wp2_with fail
 refine (iE B6 e6 R HP.out.2.2.2.2.2 _ (HD6.out.next (pl (Below.refl _ _)))).mono ?_
 rintro e x7 ⟨⟨b, rfl, hrd⟩, hb7⟩
 have oW := aZ mg.out hb7
 have Ac := oW.out.size
 clear hb7
 have fM := Lib.hid hrd
 clear hrd
 go_wp2_with fail
 refine bodyPost_ret (v := .tuple #[.slice (some ⟨b, 0, none⟩) 32 32, .int .i64 0]) ?_ rfl ⟨⟨b, rfl, fM.out⟩, (pl oW.out)⟩
 · simp [results, Tryz.results52, go_sem]
end
end Go.Proofs.YtehfkbaendajbaaGreatDoor
