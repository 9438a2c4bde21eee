/-
  Shared, part 12: walks and plain laws; each theorem states its own conditions.
-/
import Derived.Test.YtehfkbaendajbaaGreatDoorB11
namespace Go.Proofs.YtehfkbaendajbaaGreatDoor
set_option linter.unusedSimpArgs false
set_option linter.unusedVariables false
set_option maxRecDepth 100000
set_option maxHeartbeats 8000000
section
open Go.RowKit Go.Proofs.YtehfkbaendajbaaGreatDoorW.PrintLast
def YW (j : Nat) : Nat := Lp.getD j 0
def jm (w : World) : Prop := 7 < w.heap.size ∧ ∃ t fr, w.heap[7]? = some (.cells (rk .u64 80 YW) t fr)
theorem jm.next {w w' : World} (h : jm w) (hb : Below w.heap.size w w') : jm w' := by
 obtain ⟨h1, t, fr, h2⟩ := h
 exact ⟨Nat.lt_of_lt_of_le h1 hb.size, t, fr, (hb.block 7 h1).trans h2⟩
def V8.lt (d : Nat) (v : V8) : Prop := v.a < 2 ^ d ∧ v.b < 2 ^ d ∧ v.c < 2 ^ d ∧ v.d < 2 ^ d ∧ v.e < 2 ^ d ∧ v.f < 2 ^ d ∧ v.g < 2 ^ d ∧ v.h < 2 ^ d
def V8.at (v : V8) : Nat → Nat
 | 0 => v.a
 | 1 => v.b
 | 2 => v.c
 | 3 => v.d
 | 4 => v.e
 | 5 => v.f
 | 6 => v.g
 | 7 => v.h
 | _ => 0
abbrev V8.cs (k : IntKind) (v : V8) : Array Value := #[.int k (v.a : Int), .int k (v.b : Int), .int k (v.c : Int), .int k (v.d : Int), .int k (v.e : Int), .int k (v.f : Int), .int k (v.g : Int), .int k (v.h : Int)]
theorem V8.rk (k : IntKind) (v : V8) : rk k 8 v.at = v.cs k := rfl
theorem qX {w : World} {b0 b1 b2 b3 b4 : Nat} {o0 o1 o2 o3 o4 : Obj} (h0 : w.heap[b0]? = some o0) (h1 : w.heap[b1]? = some o1) (h2 : w.heap[b2]? = some o2) (h3 : w.heap[b3]? = some o3) (h4 : w.heap[b4]? = some o4) : w = ((((w.pin b0 o0).pin b1 o1).pin b2 o2).pin b3 o3).pin b4 o4 := by rw [aN h0, aN h1, aN h2, aN h3, aN h4]
theorem Dz (s : Sh) (w : List Nat) (n t : Nat) (v : V8) : kJ s w (n + 1) t v = kJ s w n (t + 1) (xP s v (shK s t) (w.getD t 0)) := rfl
theorem afm (e : Nat) (he : e < 18446744073709551616) : (18446744073709551616 - 1) ^^^ e = 18446744073709551616 - 1 - e := by
 apply Nat.eq_of_testBit_eq
 intro i
 have h1 := Nat.testBit_two_pow_sub_succ (n := 64) he i
 rw [show (2 : Nat) ^ 64 - (e + 1) = 18446744073709551616 - 1 - e by omega] at h1
 rw [h1, Nat.testBit_xor, show (18446744073709551616 - 1 : Nat) = 2 ^ 64 - 1 from rfl, Nat.testBit_two_pow_sub_one]
 by_cases hi : i < 64
 · simp [hi]
 · have : e.testBit i = false := Nat.testBit_lt_two_pow (Nat.lt_of_lt_of_le he (by rw [show 18446744073709551616 = 2 ^ 64 from rfl]; exact Nat.pow_le_pow_right (by decide) (by omega)))
   simp [hi, this]
theorem ah3 (e f g : Nat) (he : e < 18446744073709551616) (hf : f < 18446744073709551616) (hg : g < 18446744073709551616) : bits .xor .u64 (bits .and .u64 (e : Int) (f : Int)) (bits .and .u64 (bits .xor .u64 IntKind.u64.max (e : Int)) (g : Int)) = ((e &&& f ^^^ (2 ^ 64 - 1 - e) &&& g : Nat) : Int) := by
 have hm : IntKind.u64.max = (((18446744073709551616 - 1 : Nat)) : Int) := by decide
 rw [hm, Gz e f he hf, zD (18446744073709551616 - 1) e (by decide) he, afm e he, Gz _ g (by omega) hg, zD _ _ (nZ he) (nZ (by omega))]
theorem afg (a b c : Nat) (ha : a < 18446744073709551616) (hb : b < 18446744073709551616) (hc : c < 18446744073709551616) : bits .xor .u64 (bits .xor .u64 (bits .and .u64 (a : Int) (b : Int)) (bits .and .u64 (a : Int) (c : Int))) (bits .and .u64 (b : Int) (c : Int)) = ((a &&& b ^^^ a &&& c ^^^ b &&& c : Nat) : Int) := by
 rw [Gz a b ha hb, Gz a c ha hc, Gz b c hb hc, zD _ _ (nZ ha) (nZ ha), zD _ _ (yj (nZ ha) (nZ ha)) (nZ hb)]
theorem abb (a b c d e : Nat) : eX (eX (eX (eX ((a : Int) + (b : Int)) + (c : Int)) + (d : Int)) + (e : Int)) = (((a + b + c + d + e) % 2 ^ 64 : Nat) : Int) := by
 unfold eX
 simp only [IntKind.wrap_u64]
 omega
theorem akl (x a b : Nat) : eX ((x : Int) + eX ((a : Int) + (b : Int))) = (((x + (a + b)) % 2 ^ 64 : Nat) : Int) := by
 unfold eX
 simp only [IntKind.wrap_u64]
 omega
theorem Z9 (a b : Nat) : eX ((a : Int) + (b : Int)) = (((a + b) % 2 ^ 64 : Nat) : Int) := by
 unfold eX
 simp only [IntKind.wrap_u64]
 omega
theorem afy (v : V8) (hv : v.lt 64) (s1 s0 kv wv : Nat) (hs1 : s1 = zy 64 v.e aV.b1) (hs0 : s0 = zy 64 v.a aV.b0) :
 #[.int .u64 (eX (eX (eX (eX (eX ((v.h : Int) + (s1 : Int)) + bits .xor .u64 (bits .and .u64 (v.e : Int) (v.f : Int)) (bits .and .u64 (bits .xor .u64 IntKind.u64.max (v.e : Int)) (v.g : Int))) + (kv : Int)) + (wv : Int)) + eX ((s0 : Int) + bits .xor .u64 (bits .xor .u64 (bits .and .u64 (v.a : Int) (v.b : Int)) (bits .and .u64 (v.a : Int) (v.c : Int))) (bits .and .u64 (v.b : Int) (v.c : Int))))), .int .u64 (v.a : Int), .int .u64 (v.b : Int), .int .u64 (v.c : Int), .int .u64 (eX ((v.d : Int) + eX (eX (eX (eX ((v.h : Int) + (s1 : Int)) + bits .xor .u64 (bits .and .u64 (v.e : Int) (v.f : Int)) (bits .and .u64 (bits .xor .u64 IntKind.u64.max (v.e : Int)) (v.g : Int))) + (kv : Int)) + (wv : Int)))), .int .u64 (v.e : Int), .int .u64 (v.f : Int), .int .u64 (v.g : Int)] = (xP aV v kv wv).cs .u64 := by
 obtain ⟨ha, hb, hc, hd, he, hf, hg, hh⟩ := hv
 rw [ah3 _ _ _ he hf hg, afg _ _ _ ha hb hc, abb, akl, Z9, hs1, hs0]
 rfl
theorem V8.aaM (d : Nat) (h v : V8) {j : Nat} (hj : j < 8) : (h.add d v).at j = (h.at j + v.at j) % 2 ^ d := by
 match j, hj with
 | 0, _ => rfl
 | 1, _ => rfl
 | 2, _ => rfl
 | 3, _ => rfl
 | 4, _ => rfl
 | 5, _ => rfl
 | 6, _ => rfl
 | 7, _ => rfl
theorem Le (v : V8) (hv : v.lt 64) (k x : Nat) : (xP aV v k x).lt 64 := ⟨Nat.mod_lt _ (Nat.pow_pos (by decide)), hv.1, hv.2.1, hv.2.2.1, Nat.mod_lt _ (Nat.pow_pos (by decide)), hv.2.2.2.2.1, hv.2.2.2.2.2.1, hv.2.2.2.2.2.2.1⟩
theorem afh (A : Option Addr) (c : Nat) (bs : List Nat) (v0 : V8) (hv : v0.lt 64) (hl : bs.length = 128) (hc : 128 ≤ c) (hby : ∀ x ∈ bs, x < 256) (w : World) (hk : jm w) (hr : Rd w .u8 A bs) :
 Calls Tryz.prog 126 #[.agg #[.int .i64 8, .int .i64 64, .int .i64 80, .int .i64 1, .int .i64 8, .int .i64 7, .int .i64 19, .int .i64 61, .int .i64 6, .int .i64 28, .int .i64 34, .int .i64 39, .int .i64 14, .int .i64 18, .int .i64 41], .agg (v0.cs .u64), .slice A 128 c] w fun e w' => e = .returned (.agg ((Cc aV v0 bs).cs .u64)) ∧ Below w.heap.size w w' := by
 obtain ⟨gb, off, rfl, hbw, hcell⟩ := hr.place (by omega)
 have mJ := Lib.hid hr
 have HL := Lib.hid hl
 have rV := Lib.hid hby
 have HVL := Lib.hid hv
 obtain ⟨hgk, kt, kf, hko⟩ := hk
 have HKO := Lib.hid hko
 have HZA : ∀ w, (Instr.alloc 147 true (.tuple #[])).run Tryz.prog w = .ok (.pointer (some ⟨w.heap.size, 0, none⟩)) (w.alloc (.cells (rk .u64 80 fun _ => 0) 147)) := fun w => by kernel_rfl
 obtain ⟨FW, hFW⟩ : ∃ z : Nat → Nat, z = fun j => if j < 80 then vO aV bs j else 0 := ⟨_, rfl⟩
 have CW : Hid (∀ w, Rd w .u8 (some ⟨gb, off, none⟩) bs → Calls Tryz.prog 130 #[.agg #[.int .i64 8, .int .i64 64, .int .i64 80, .int .i64 1, .int .i64 8, .int .i64 7, .int .i64 19, .int .i64 61, .int .i64 6, .int .i64 28, .int .i64 34, .int .i64 39, .int .i64 14, .int .i64 18, .int .i64 41], .slice (some ⟨gb, off, none⟩) 128 c] w fun e w' => e = .returned (.agg (rk .u64 80 FW)) ∧ Below w.heap.size w w') := Lib.hid (fun w hr => by rw [hFW]; exact Zk _ c bs hl hc hby w hr)
 have HFW := Lib.hid hFW
 clear hr hcell hl hby hbw hv hko hFW hc
 go_enter Tryz.func126, Tryz.ntmps126
 go_wp2_with fail
 refine (CW.out _ (by exact Rd.mono mJ.out (pl (Below.refl _ _)) (Nat.le_refl _))).mono ?_
 rintro e y1 ⟨rfl, hb1⟩
 obtain ⟨x1, rfl, hc1, hz1, l10, nG, l12⟩ := bZ (b0 := w.heap.size) (b1 := w.heap.size + 1) (b2 := w.heap.size + 2) hb1 rfl ob ob ob
 have HB1 : Hid (Below w.heap.size w x1) := Below.trans (pl (Below.refl _ _)) (hc1.mono sz)
 clear hb1 hc1
 try simp only [eF] at hz1
 dsimp only
 go_step
 refine qY 147 rfl rfl (rk .u64 80 fun _ => 0) (HZA _) ?_
 simp only [aA, World.size_alloc, Act.put, List.setIfInBounds_toArray, List.set_cons_zero, List.set_cons_succ]
 refine iG 147 (.tmp 7) (.tmp 17) rfl rfl (x1.heap.size) (rk .u64 80 FW) (rk .u64 80 fun _ => 0) 147 rfl rfl (by rw [fK]; kernel_rfl) (by rw [fK, fK]) (BJ _ _ _) ob ?_
 simp only [Act.put, List.setIfInBounds_toArray, List.set_cons_zero, List.set_cons_succ]
 go_wp2_with fail
 have hwx : w.heap.size + 2 < x1.heap.size := l12
 go_loopw [21] (fun iv wr => ∃ (t : Nat) (v : V8) (x : World), iv = .int .i64 (t : Int) ∧ wr = ((((x.pin w.heap.size (.cells #[.int .i64 8, .int .i64 64, .int .i64 80, .int .i64 1, .int .i64 8, .int .i64 7, .int .i64 19, .int .i64 61, .int .i64 6, .int .i64 28, .int .i64 34, .int .i64 39, .int .i64 14, .int .i64 18, .int .i64 41] 124)).pin (w.heap.size + 1) (.cells (v0.cs .u64) 129)).pin (w.heap.size + 2) (.cells #[.int .u64 0, .int .u64 0, .int .u64 0, .int .u64 0, .int .u64 0, .int .u64 0, .int .u64 0, .int .u64 0] 129)).pin (x1.heap.size) (.cells (rk .u64 80 FW) 147)).pin (x1.heap.size + 1) (.cells (v.cs .u64) 129) ∧ w.heap.size < x.heap.size ∧ w.heap.size + 1 < x.heap.size ∧ w.heap.size + 2 < x.heap.size ∧ x1.heap.size < x.heap.size ∧ x1.heap.size + 1 < x.heap.size ∧ Hid (Below w.heap.size w x ∧ t ≤ 80 ∧ v.lt 64 ∧ kJ aV (kQ aV bs) (80 - t) t v = kJ aV (kQ aV bs) 80 0 v0)) (fun iv _ => (80 - intOf iv).toNat)
 case atStart => exact ⟨0, v0, _, rfl, qX ob ob ob ob ob, sz, sz, sz, sz, sz, pl HB1.out, by decide, HVL.out, rfl⟩
 case round =>
  obtain ⟨t, v, x, rfl, rfl, q0, q1, q2, q3, q4, H⟩ := hrel
  have fB : Hid (Below w.heap.size w x) := Lib.hid H.out.1
  by_cases ht : t < 80
  · have htI : (t : Int) < 80 := by omega
    have aiS : (t : Int) < 80 := by omega
    have amE : 7 < x1.heap.size := by omega
    have hw0 : IntKind.i64.wrap 0 = 0 := by decide
    have hvl := H.out.2.2.1
    obtain ⟨kv, hkv⟩ : ∃ z, z = YW t := ⟨_, rfl⟩
    have hAK : (rk .u64 80 YW)[t]? = some (.int .u64 (kv : Int)) := by rw [anv _ (by omega), hkv]
    obtain ⟨wv, hwv⟩ : ∃ z, z = FW t := ⟨_, rfl⟩
    have hAW : (rk .u64 80 FW)[t]? = some (.int .u64 (wv : Int)) := by rw [anv _ (by omega), hwv]
    have HKV := Lib.hid (And.intro hkv hwv)
    clear hkv hwv
    obtain ⟨s1, hs1⟩ : ∃ z, z = zy 64 v.e (14, 18, 41) := ⟨_, rfl⟩
    obtain ⟨s0, hs0⟩ : ∃ z, z = zy 64 v.a (28, 34, 39) := ⟨_, rfl⟩
    have CB1 : Hid (∀ w, Calls Tryz.prog 131 #[.int .u64 (v.e : Int), .agg #[.int .i64 14, .int .i64 18, .int .i64 41], .int .i64 64] w fun e w' => e = .returned (.int .u64 (s1 : Int)) ∧ Below w.heap.size w w') := Lib.hid (by rw [hs1]; exact Zu v.e 14 18 41 hvl.2.2.2.2.1 (by decide))
    have CB0 : Hid (∀ w, Calls Tryz.prog 131 #[.int .u64 (v.a : Int), .agg #[.int .i64 28, .int .i64 34, .int .i64 39], .int .i64 64] w fun e w' => e = .returned (.int .u64 (s0 : Int)) ∧ Below w.heap.size w w') := Lib.hid (by rw [hs0]; exact Zu v.a 28 34 39 hvl.1 (by decide))
    have Xa := Lib.hid (And.intro hs1 (And.intro hs0 hvl))
    clear hs1 hs0 hvl
    go_wp2_with fail
    refine st1 w [] 6 (ak (b := w.heap.size) ob (ak (b := w.heap.size + 1) ob (ak (b := w.heap.size + 2) ob (ak (b := x1.heap.size) ob (ak (b := x1.heap.size + 1) ob (aO (pl fB.out))))))) (fun HS => ?_)
    refine jB 0 (some 24) HS (h := ?_)
    refine jB 1 (some 25) HS (h := ?_)
    refine jB 2 (some 26) HS (h := ?_)
    refine jB 3 (some 27) HS (h := ?_)
    refine jB 4 (some 10) HS (h := ?_)
    refine jB 5 (some 11) HS (h := ?_)
    clear HS
    refine done_ (by kernel_rfl) ?_
    go_wp2_with fail
    refine st1 w [] 33 (ak (b := 7) (by (repeat (first | with_reducible exact ((fB.out.block _ hgk).trans HKO.out) | with_reducible apply ng | with_reducible apply jw | with_reducible apply lg)); all_goals (first | omega | (simp only [World.size_alloc, aA, World.size_drew, World.size_setCell] <;> omega))) (ak (b := w.heap.size) ob (ak (b := w.heap.size + 1) ob (ak (b := w.heap.size + 2) ob (ak (b := x1.heap.size) ob (ak (b := x1.heap.size + 1) ob (aO (pl fB.out)))))))) (fun HS => ?_)
    refine uY 0 (some 28) HS (h := ?_)
    refine uY 1 (some 29) HS (h := ?_)
    refine uY 2 (some 30) HS (h := ?_)
    refine uY 3 (some 31) HS (h := ?_)
    refine uY 4 (some 32) HS (h := ?_)
    refine uY 5 (some 33) HS (h := ?_)
    refine uY 6 (some 34) HS (h := ?_)
    refine uY 9 (some 37) HS (h := ?_)
    refine uY 10 (some 38) HS (h := ?_)
    refine uY 11 (some 39) HS (h := ?_)
    refine uY 12 (some 40) HS (h := ?_)
    refine uY 13 (some 41) HS (h := ?_)
    refine uY 14 (some 42) HS (h := ?_)
    refine uY 15 (some 43) HS (h := ?_)
    refine uY 16 (some 44) HS (h := ?_)
    refine uY 17 (some 45) HS (h := ?_)
    refine uY 18 (some 46) HS (h := ?_)
    refine uY 20 (some 48) HS (h := ?_)
    refine uY 21 (some 49) HS (h := ?_)
    refine uY 22 (some 50) HS (h := ?_)
    refine uY 23 (some 51) HS (h := ?_)
    refine uY 24 (some 52) HS (h := ?_)
    refine uY 25 (some 53) HS (h := ?_)
    refine uY 26 (some 54) HS (h := ?_)
    refine uY 28 (some 56) HS (h := ?_)
    refine uY 29 (some 57) HS (h := ?_)
    refine uY 30 (some 58) HS (h := ?_)
    refine dH 7 (some 35) (h := fun K hK => ?_)
    go_simp
    refine (CB1.out _).mono ?_
    rintro e y ⟨rfl, hb⟩
    refine hK.out _ _ (HS.step hb rfl) ?_
    clear HS hb
    intro HS
    refine uY 8 (some 36) HS (h := ?_)
    refine uY 19 (some 47) HS (h := ?_)
    refine uY 27 (some 55) HS (h := ?_)
    refine uY 31 (some 59) HS (h := ?_)
    refine uY 32 (some 12) HS (h := ?_)
    replace HS := Keeps.tail HS
    obtain ⟨x11, rfl, aes, nD, Bo, Kr, Kt, Yd, Ye⟩ := HS.ji
    have fC : Hid (Below w.heap.size w x11) := aes.below
    clear HS aes
    refine done_ (by kernel_rfl) ?_
    go_wp2_with fail
    refine st1 w [] 23 (ak (b := w.heap.size) ob (ak (b := w.heap.size + 1) ob (ak (b := w.heap.size + 2) ob (ak (b := x1.heap.size) ob (ak (b := x1.heap.size + 1) ob (aO (pl fC.out))))))) (fun HS => ?_)
    refine jB 0 (some 60) HS (h := ?_)
    refine jB 1 (some 61) HS (h := ?_)
    refine jB 2 (some 62) HS (h := ?_)
    refine jB 3 (some 63) HS (h := ?_)
    refine jB 4 (some 64) HS (h := ?_)
    refine jB 6 (some 66) HS (h := ?_)
    refine jB 7 (some 67) HS (h := ?_)
    refine jB 8 (some 68) HS (h := ?_)
    refine jB 9 (some 69) HS (h := ?_)
    refine jB 10 (some 70) HS (h := ?_)
    refine jB 11 (some 71) HS (h := ?_)
    refine jB 12 (some 72) HS (h := ?_)
    refine jB 13 (some 73) HS (h := ?_)
    refine jB 14 (some 74) HS (h := ?_)
    refine jB 15 (some 75) HS (h := ?_)
    refine jB 16 (some 76) HS (h := ?_)
    refine jB 17 (some 77) HS (h := ?_)
    refine jB 18 (some 78) HS (h := ?_)
    refine jB 19 (some 79) HS (h := ?_)
    refine jB 20 (some 80) HS (h := ?_)
    refine dH 5 (some 65) (h := fun K hK => ?_)
    go_simp
    refine (CB0.out _).mono ?_
    rintro e y ⟨rfl, hb⟩
    refine hK.out _ _ (HS.step hb rfl) ?_
    clear HS hb
    intro HS
    refine jB 21 (some 81) HS (h := ?_)
    refine jB 22 (some 13) HS (h := ?_)
    obtain ⟨x12, rfl, hk12, kF, uS, vI, vJ, Fp, Fq⟩ := HS.ji
    have fG : Hid (Below w.heap.size w x12) := hk12.below
    clear HS hk12
    refine done_ (by kernel_rfl) ?_
    go_wp2_with fail
    refine ⟨⟨t + 1, xP aV v kv wv, x12, by simp, by rw [afy v Xa.out.2.2 s1 s0 kv wv Xa.out.1 Xa.out.2.1], uS, vI, vJ, Fp, Fq, Lib.hid ⟨fG.out, by omega, Le v Xa.out.2.2 _ _, ?_⟩⟩, by simp [intOf]; omega⟩
    rw [← H.out.2.2.2, show 80 - t = (80 - (t + 1)) + 1 by omega, Dz, HKV.out.1, HKV.out.2, HFW.out]
    simp only [if_pos ht]
    rfl
  · have htI : ((t : Int) < 80) = False := eq_false (by omega)
    have HE : Hid (v = kJ aV (kQ aV bs) 80 0 v0) := Lib.hid (by rw [← H.out.2.2.2, show 80 - t = 0 by omega]; rfl)
    go_wp2_with fail
    go_loopw [101] (fun iv wr => ∃ (i : Nat) (F : Nat → Nat) (y : World), iv = .int .i64 (i : Int) ∧ wr = ((((y.pin w.heap.size (.cells #[.int .i64 8, .int .i64 64, .int .i64 80, .int .i64 1, .int .i64 8, .int .i64 7, .int .i64 19, .int .i64 61, .int .i64 6, .int .i64 28, .int .i64 34, .int .i64 39, .int .i64 14, .int .i64 18, .int .i64 41] 124)).pin (w.heap.size + 1) (.cells (rk .u64 8 F) 129)).pin (w.heap.size + 2) (.cells #[.int .u64 0, .int .u64 0, .int .u64 0, .int .u64 0, .int .u64 0, .int .u64 0, .int .u64 0, .int .u64 0] 129)).pin (x1.heap.size) (.cells (rk .u64 80 FW) 147)).pin (x1.heap.size + 1) (.cells (rk .u64 8 v.at) 129) ∧ w.heap.size < y.heap.size ∧ w.heap.size + 1 < y.heap.size ∧ w.heap.size + 2 < y.heap.size ∧ x1.heap.size < y.heap.size ∧ x1.heap.size + 1 < y.heap.size ∧ Hid (Below w.heap.size w y ∧ i ≤ 8 ∧ ∀ j, F j = if j < i then (v0.at j + v.at j) % 2 ^ 64 else v0.at j)) (fun iv _ => (8 - intOf iv).toNat)
    case atStart => exact ⟨0, v0.at, _, rfl, qX ob (by rw [V8.rk]; exact ob) ob ob (by rw [V8.rk]; exact ob), sz, sz, sz, sz, sz, pl fB.out, by decide, fun j => rfl⟩
    case round =>
     obtain ⟨i, F, y, rfl, rfl, r0, r1, r2, r3, r4, J⟩ := hrel
     have fC : Hid (Below w.heap.size w y) := Lib.hid J.out.1
     by_cases hi : i < 8
     · have OW : (i : Int) < 8 := by omega
       obtain ⟨a, ha⟩ : ∃ z, z = F i := ⟨_, rfl⟩
       obtain ⟨b, hb⟩ : ∃ z, z = v.at i := ⟨_, rfl⟩
       have hA1 : (rk .u64 8 F)[i]? = some (.int .u64 (a : Int)) := by rw [anv _ hi, ha]
       have hA2 : (rk .u64 8 v.at)[i]? = some (.int .u64 (b : Int)) := by rw [anv _ hi, hb]
       have HAB := Lib.hid (And.intro ha hb)
       clear ha hb
       go_wp2_with fail
       refine wp_region_still_tail 8 (by kernel_rfl) (by kernel_rfl) ?_; simp only [List.take_succ_cons, List.take_zero, List.drop_succ_cons, List.drop_zero, World.drew_eq]; (repeat still_step); refine wpStill_nil ?_
       go_wp2_with fail
       refine ⟨⟨i + 1, upd F i ((a + b) % 2 ^ 64), y.drew, by simp, by rw [Z9, BK]; rfl, r0, r1, r2, r3, r4, Lib.hid ⟨J.out.1.drew, by omega, fun j => ?_⟩⟩, by simp [intOf]; omega⟩
       by_cases hj : j = i
       · rw [hj, if_pos (by omega), HAB.out.1, HAB.out.2, J.out.2.2, if_neg (by omega)]
         simp [upd]
       · have := J.out.2.2 j
         simp only [upd, if_neg hj, this]
         by_cases hj2 : j < i
         · rw [if_pos hj2, if_pos (by omega)]
         · rw [if_neg hj2, if_neg (by omega)]
     · have OW : ((i : Int) < 8) = False := eq_false (by omega)
       have HG : Hid (rk .u64 8 F = (Cc aV v0 bs).cs .u64) := Lib.hid (by
        rw [← V8.rk]
        refine FY fun j hj => ?_
        rw [J.out.2.2 j, if_pos (by have := J.out.2.1; omega)]
        unfold Cc
        rw [V8.aaM _ _ _ hj]
        show _ = (v0.at j + (kJ aV (kQ aV bs) 80 0 v0).at j) % 2 ^ 64
        rw [← HE.out])
       go_wp2_with (first | (refine gZ 129 (.tmp 4) rfl rfl (w.heap.size + 1) (rk .u64 8 F) 129 rfl (by kernel_rfl) (by rw [fK]; kernel_rfl) ob ?_) | (refine iG 129 (.tmp 6) (.tmp 113) rfl rfl (w.heap.size + 1 + 1) (rk .u64 8 F) #[.int .u64 0, .int .u64 0, .int .u64 0, .int .u64 0, .int .u64 0, .int .u64 0, .int .u64 0, .int .u64 0] 129 rfl rfl (by rw [fK]; kernel_rfl) (by rw [fK]; rfl) (BJ _ _ _) ob ?_))
       exact bodyPost_ret (v := .agg (rk .u64 8 F)) (fA rfl rfl (bC 129 (w.heap.size + 1 + 1) _ 129 (by kernel_rfl) (by rw [fK]; kernel_rfl) ob)) rfl ⟨by rw [HG.out], pl fC.out⟩
end
section
open Go.RowKit Go.Proofs.YtehfkbaendajbaaGreatDoorW.PrintLast
theorem cu {P : Program} {fn : Func} {k j : Nat} {ty : TypeId} {tmps : Array Value} {b : Nat} {v u : Value} {w : World} (hr : fn.results = #[.cell k ty, .tmp j]) (ht : tmps.getD k undef = .pointer (some ⟨b, 0, none⟩))
 (hl : (loadVar ty ⟨b, 0, none⟩).run P w = .ok v w) (hu : tmps.getD j undef = u) : (results fn tmps).run P w = .ok (.tuple #[v, u]) w := by
 have ht' : tmps[k]?.getD undef = .pointer (some ⟨b, 0, none⟩) := by simpa using ht
 have hu' : tmps[j]?.getD undef = u := by simpa using hu
 simp [results, hr, ht', hu', asAddr, Result.andThen, hl]
def Jc (j : Nat) : Nat := xM.getD j 0
theorem YV {i : Nat} (h : i < 8) : Jc i < 18446744073709551616 := by
 match i, h with
 | 0, _ => decide
 | 1, _ => decide
 | 2, _ => decide
 | 3, _ => decide
 | 4, _ => decide
 | 5, _ => decide
 | 6, _ => decide
 | 7, _ => decide
theorem GH (s : Sh) {i : Nat} (h : i < 8) : (fE s).at i = Jc i >>> (64 - s.d) := by
 match i, h with
 | 0, _ => rfl
 | 1, _ => rfl
 | 2, _ => rfl
 | 3, _ => rfl
 | 4, _ => rfl
 | 5, _ => rfl
 | 6, _ => rfl
 | 7, _ => rfl
theorem adw (v : Nat) (h : v < 18446744073709551616) : ((v : Int) / (4294967296 : Int) % (4294967296 : Int)) = ((v >>> (64 - 32) : Nat) : Int) := by
 rw [show 64 - 32 = 32 from rfl, Nat.shiftRight_eq_div_pow]
 omega
def ig (w : World) : Prop := 6 < w.heap.size ∧ ∀ j, j < 8 → w.cell? ⟨6, j, none⟩ = some (.int .u64 ((Jc j : Nat) : Int))
theorem ig.next {w w' : World} (h : ig w) (hb : Below w.heap.size w w') : ig w' := ⟨Nat.lt_of_lt_of_le h.1 hb.size, fun j hj => (hb.cell (p := ⟨6, j, none⟩) h.1).trans (h.2 j hj)⟩
theorem NR (w : World) :
 Calls Tryz.prog 121 #[] w fun e w' => e = .returned (.agg #[.int .i64 8, .int .i64 64, .int .i64 80, .int .i64 1, .int .i64 8, .int .i64 7, .int .i64 19, .int .i64 61, .int .i64 6, .int .i64 28, .int .i64 34, .int .i64 39, .int .i64 14, .int .i64 18, .int .i64 41]) ∧ Below w.heap.size w w' := by
 go_enter Tryz.func121, Tryz.ntmps121
 go_wp2_with (refine bf 124 (.tmp 0) (.tmp 5) rfl rfl (w.heap.size) 0 #[.int .i64 8, .int .i64 64, .int .i64 80, .int .i64 1, .int .i64 8, .int .i64 7, .int .i64 19, .int .i64 61, .int .i64 6, .int .i64 28, .int .i64 34, .int .i64 39, .int .i64 14, .int .i64 18, .int .i64 41] rfl rfl 124 #[.int .i64 0, .int .i64 0, .int .i64 0, .int .i64 0, .int .i64 0, .int .i64 0, .int .i64 0, .int .i64 0, .int .i64 0, .int .i64 0, .int .i64 0, .int .i64 0, .int .i64 0, .int .i64 0, .int .i64 0] #[.int .i64 8, .int .i64 64, .int .i64 80, .int .i64 1, .int .i64 8, .int .i64 7, .int .i64 19, .int .i64 61, .int .i64 6, .int .i64 28, .int .i64 34, .int .i64 39, .int .i64 14, .int .i64 18, .int .i64 41] ob (by kernel_rfl) (by kernel_rfl) (by kernel_rfl) (by kernel_rfl) ?_)
 exact bodyPost_ret (v := .agg #[.int .i64 8, .int .i64 64, .int .i64 80, .int .i64 1, .int .i64 8, .int .i64 7, .int .i64 19, .int .i64 61, .int .i64 6, .int .i64 28, .int .i64 34, .int .i64 39, .int .i64 14, .int .i64 18, .int .i64 41]) (fA rfl rfl (bC 124 _ #[.int .i64 8, .int .i64 64, .int .i64 80, .int .i64 1, .int .i64 8, .int .i64 7, .int .i64 19, .int .i64 61, .int .i64 6, .int .i64 28, .int .i64 34, .int .i64 39, .int .i64 14, .int .i64 18, .int .i64 41] 124 (by kernel_rfl) (by kernel_rfl) ob)) rfl ⟨rfl, pl (Below.refl _ _)⟩
theorem oZ (w : World) :
 Calls Tryz.prog 124 #[.agg #[.int .i64 8, .int .i64 64, .int .i64 80, .int .i64 1, .int .i64 8, .int .i64 7, .int .i64 19, .int .i64 61, .int .i64 6, .int .i64 28, .int .i64 34, .int .i64 39, .int .i64 14, .int .i64 18, .int .i64 41]] w fun e w' => e = .returned (.int .i64 128) ∧ Below w.heap.size w w' := by
 go_enter Tryz.func124, Tryz.ntmps124
 go_wp2_with fail
 exact bodyPost_ret (v := .int .i64 128) (by simp [results, Tryz.results124, go_sem]; try rfl) rfl ⟨rfl, pl (Below.refl _ _)⟩
theorem P5 (w : World) :
 Calls Tryz.prog 120 #[] w fun e w' => e = .returned (.agg #[.int .i64 4, .int .i64 32, .int .i64 64, .int .i64 7, .int .i64 18, .int .i64 3, .int .i64 17, .int .i64 19, .int .i64 10, .int .i64 2, .int .i64 13, .int .i64 22, .int .i64 6, .int .i64 11, .int .i64 25]) ∧ Below w.heap.size w w' := by
 go_enter Tryz.func120, Tryz.ntmps120
 go_wp2_with (refine bf 124 (.tmp 0) (.tmp 5) rfl rfl (w.heap.size) 0 #[.int .i64 4, .int .i64 32, .int .i64 64, .int .i64 7, .int .i64 18, .int .i64 3, .int .i64 17, .int .i64 19, .int .i64 10, .int .i64 2, .int .i64 13, .int .i64 22, .int .i64 6, .int .i64 11, .int .i64 25] rfl rfl 124 #[.int .i64 0, .int .i64 0, .int .i64 0, .int .i64 0, .int .i64 0, .int .i64 0, .int .i64 0, .int .i64 0, .int .i64 0, .int .i64 0, .int .i64 0, .int .i64 0, .int .i64 0, .int .i64 0, .int .i64 0] #[.int .i64 4, .int .i64 32, .int .i64 64, .int .i64 7, .int .i64 18, .int .i64 3, .int .i64 17, .int .i64 19, .int .i64 10, .int .i64 2, .int .i64 13, .int .i64 22, .int .i64 6, .int .i64 11, .int .i64 25] ob (by kernel_rfl) (by kernel_rfl) (by kernel_rfl) (by kernel_rfl) ?_)
 exact bodyPost_ret (v := .agg #[.int .i64 4, .int .i64 32, .int .i64 64, .int .i64 7, .int .i64 18, .int .i64 3, .int .i64 17, .int .i64 19, .int .i64 10, .int .i64 2, .int .i64 13, .int .i64 22, .int .i64 6, .int .i64 11, .int .i64 25]) (fA rfl rfl (bC 124 _ #[.int .i64 4, .int .i64 32, .int .i64 64, .int .i64 7, .int .i64 18, .int .i64 3, .int .i64 17, .int .i64 19, .int .i64 10, .int .i64 2, .int .i64 13, .int .i64 22, .int .i64 6, .int .i64 11, .int .i64 25] 124 (by kernel_rfl) (by kernel_rfl) ob)) rfl ⟨rfl, pl (Below.refl _ _)⟩
theorem ZW (w : World) :
 Calls Tryz.prog 109 #[.int .i64 512] w fun e w' => e = .returned (.tuple #[.agg #[.int .i64 8, .int .i64 64, .int .i64 80, .int .i64 1, .int .i64 8, .int .i64 7, .int .i64 19, .int .i64 61, .int .i64 6, .int .i64 28, .int .i64 34, .int .i64 39, .int .i64 14, .int .i64 18, .int .i64 41], .bool true]) ∧ Below w.heap.size w w' := by
 go_enter Tryz.func109, Tryz.ntmps109
 go_wp2_with fail
 refine (NR _).mono ?_
 rintro e y1 ⟨rfl, hb1⟩
 obtain ⟨x1, rfl, hc1, hz1, l10⟩ := bQ (b := w.heap.size) hb1 rfl ob
 have HB1 : Hid (Below w.heap.size w x1) := Below.trans (pl (Below.refl _ _)) (hc1.mono sz)
 clear hb1 hc1
 try simp only [eF] at hz1
 go_wp2_with (refine bf 124 (.tmp 2) (.tmp 10) rfl rfl (w.heap.size) 0 #[.int .i64 8, .int .i64 64, .int .i64 80, .int .i64 1, .int .i64 8, .int .i64 7, .int .i64 19, .int .i64 61, .int .i64 6, .int .i64 28, .int .i64 34, .int .i64 39, .int .i64 14, .int .i64 18, .int .i64 41] rfl rfl 124 #[.int .i64 0, .int .i64 0, .int .i64 0, .int .i64 0, .int .i64 0, .int .i64 0, .int .i64 0, .int .i64 0, .int .i64 0, .int .i64 0, .int .i64 0, .int .i64 0, .int .i64 0, .int .i64 0, .int .i64 0] #[.int .i64 8, .int .i64 64, .int .i64 80, .int .i64 1, .int .i64 8, .int .i64 7, .int .i64 19, .int .i64 61, .int .i64 6, .int .i64 28, .int .i64 34, .int .i64 39, .int .i64 14, .int .i64 18, .int .i64 41] ob (by kernel_rfl) (by kernel_rfl) (by kernel_rfl) (by kernel_rfl) ?_)
 exact bodyPost_ret (v := .tuple #[.agg #[.int .i64 8, .int .i64 64, .int .i64 80, .int .i64 1, .int .i64 8, .int .i64 7, .int .i64 19, .int .i64 61, .int .i64 6, .int .i64 28, .int .i64 34, .int .i64 39, .int .i64 14, .int .i64 18, .int .i64 41], .bool true]) (cu rfl rfl (bC 124 _ #[.int .i64 8, .int .i64 64, .int .i64 80, .int .i64 1, .int .i64 8, .int .i64 7, .int .i64 19, .int .i64 61, .int .i64 6, .int .i64 28, .int .i64 34, .int .i64 39, .int .i64 14, .int .i64 18, .int .i64 41] 124 (by kernel_rfl) (by kernel_rfl) ob) rfl) rfl ⟨rfl, pl HB1.out⟩
theorem Xm (w : World) (hs : ig w) :
 Calls Tryz.prog 123 #[.agg #[.int .i64 8, .int .i64 64, .int .i64 80, .int .i64 1, .int .i64 8, .int .i64 7, .int .i64 19, .int .i64 61, .int .i64 6, .int .i64 28, .int .i64 34, .int .i64 39, .int .i64 14, .int .i64 18, .int .i64 41]] w fun e w' => e = .returned (.agg ((fE aV).cs .u64)) ∧ Below w.heap.size w w' := by
 have HS := Lib.hid hs.2
 have hgs := hs.1
 clear hs
 go_enter Tryz.func123, Tryz.ntmps123
 go_wp2_with fail
 have hw0 : IntKind.i64.wrap 0 = 0 := by decide
 go_loopw [5] (fun iv wr => ∃ (i : Nat) (F : Nat → Nat) (y : World), iv = .int .i64 (i : Int) ∧ wr = ((y.pin w.heap.size (.cells #[.int .i64 8, .int .i64 64, .int .i64 80, .int .i64 1, .int .i64 8, .int .i64 7, .int .i64 19, .int .i64 61, .int .i64 6, .int .i64 28, .int .i64 34, .int .i64 39, .int .i64 14, .int .i64 18, .int .i64 41] 124)).pin (w.heap.size + 1) (.cells #[.int .u64 0, .int .u64 0, .int .u64 0, .int .u64 0, .int .u64 0, .int .u64 0, .int .u64 0, .int .u64 0] 129)).pin (w.heap.size + 2) (.cells (rk .u64 8 F) 129) ∧ w.heap.size < y.heap.size ∧ w.heap.size + 1 < y.heap.size ∧ w.heap.size + 2 < y.heap.size ∧ Hid (Below w.heap.size w y ∧ i ≤ 8 ∧ ∀ j, F j = if j < i then (fE aV).at j else 0)) (fun iv _ => (8 - intOf iv).toNat)
 case atStart => exact ⟨0, fun _ => 0, _, rfl, jf ob ob (by rw [show rk .u64 8 (fun _ => 0) = #[.int .u64 0, .int .u64 0, .int .u64 0, .int .u64 0, .int .u64 0, .int .u64 0, .int .u64 0, .int .u64 0] from rfl]; exact ob), sz, sz, sz, pl (Below.refl _ _), by decide, fun j => rfl⟩
 case round =>
  obtain ⟨i, F, y, rfl, rfl, r0, r1, r2, J⟩ := hrel
  have fB : Hid (Below w.heap.size w y) := Lib.hid J.out.1
  by_cases hi : i < 8
  · have OW : (i : Int) < 8 := by omega
    obtain ⟨sv, hsv⟩ : ∃ z, z = Jc i := ⟨_, rfl⟩
    have hcg : y.cell? ⟨6, i, none⟩ = some (.int .u64 (sv : Int)) := by
     rw [hsv]
     exact (fB.out.cell (p := ⟨6, i, none⟩) hgs).trans (HS.out i hi)
    obtain ⟨a, ha⟩ : ∃ z, z = F i := ⟨_, rfl⟩
    have hA1 : (rk .u64 8 F)[i]? = some (.int .u64 (a : Int)) := by rw [anv _ hi, ha]
    have HSV := Lib.hid hsv
    clear ha hsv
    go_wp2_with fail
    refine wp_region_still_tail 9 (by kernel_rfl) (by kernel_rfl) ?_; simp only [List.take_succ_cons, List.take_zero, List.drop_succ_cons, List.drop_zero, World.drew_eq]; (repeat still_step); refine wpStill_nil ?_
    go_wp2_with fail
    refine ⟨⟨i + 1, upd F i (Jc i >>> (64 - 64)), y.drew, by simp, by rw [← HSV.out, show ((sv : Nat) : Int) = ((sv >>> (64 - 64) : Nat) : Int) from rfl, BK]; rfl, r0, r1, r2, Lib.hid ⟨J.out.1.drew, by omega, fun j => ?_⟩⟩, by simp [intOf]; omega⟩
    by_cases hj : j = i
    · rw [hj, if_pos (by omega), GH aV hi]
      simp [upd]
      try rfl
    · have := J.out.2.2 j
      simp only [upd, if_neg hj, this]
      by_cases hj2 : j < i
      · rw [if_pos hj2, if_pos (by omega)]
      · rw [if_neg hj2, if_neg (by omega)]
  · have OW : ((i : Int) < 8) = False := eq_false (by omega)
    have HG : Hid (rk .u64 8 F = (fE aV).cs .u64) := Lib.hid (by
     rw [← V8.rk]
     refine FY fun j hj => ?_
     rw [J.out.2.2 j, if_pos (by have := J.out.2.1; omega)])
    go_wp2_with (first | (refine gZ 129 (.tmp 3) rfl rfl (w.heap.size + 1 + 1) (rk .u64 8 F) 129 rfl (by kernel_rfl) (by rw [fK]; kernel_rfl) ob ?_) | (refine iG 129 (.tmp 2) (.tmp 18) rfl rfl (w.heap.size + 1) (rk .u64 8 F) #[.int .u64 0, .int .u64 0, .int .u64 0, .int .u64 0, .int .u64 0, .int .u64 0, .int .u64 0, .int .u64 0] 129 rfl rfl (by rw [fK]; kernel_rfl) (by rw [fK]; rfl) (BJ _ _ _) ob ?_))
    exact bodyPost_ret (v := .agg (rk .u64 8 F)) (fA rfl rfl (bC 129 (w.heap.size + 1) _ 129 (by kernel_rfl) (by rw [fK]; kernel_rfl) ob)) rfl ⟨by rw [HG.out], pl fB.out⟩
theorem Xl (w : World) (hs : ig w) :
 Calls Tryz.prog 122 #[.agg #[.int .i64 4, .int .i64 32, .int .i64 64, .int .i64 7, .int .i64 18, .int .i64 3, .int .i64 17, .int .i64 19, .int .i64 10, .int .i64 2, .int .i64 13, .int .i64 22, .int .i64 6, .int .i64 11, .int .i64 25]] w fun e w' => e = .returned (.agg ((fE qC).cs .u32)) ∧ Below w.heap.size w w' := by
 have HS := Lib.hid hs.2
 have hgs := hs.1
 clear hs
 go_enter Tryz.func122, Tryz.ntmps122
 go_wp2_with fail
 have hw0 : IntKind.i64.wrap 32 = 32 := by decide
 go_loopw [5] (fun iv wr => ∃ (i : Nat) (F : Nat → Nat) (y : World), iv = .int .i64 (i : Int) ∧ wr = ((y.pin w.heap.size (.cells #[.int .i64 4, .int .i64 32, .int .i64 64, .int .i64 7, .int .i64 18, .int .i64 3, .int .i64 17, .int .i64 19, .int .i64 10, .int .i64 2, .int .i64 13, .int .i64 22, .int .i64 6, .int .i64 11, .int .i64 25] 124)).pin (w.heap.size + 1) (.cells #[.int .u32 0, .int .u32 0, .int .u32 0, .int .u32 0, .int .u32 0, .int .u32 0, .int .u32 0, .int .u32 0] 128)).pin (w.heap.size + 2) (.cells (rk .u32 8 F) 128) ∧ w.heap.size < y.heap.size ∧ w.heap.size + 1 < y.heap.size ∧ w.heap.size + 2 < y.heap.size ∧ Hid (Below w.heap.size w y ∧ i ≤ 8 ∧ ∀ j, F j = if j < i then (fE qC).at j else 0)) (fun iv _ => (8 - intOf iv).toNat)
 case atStart => exact ⟨0, fun _ => 0, _, rfl, jf ob ob (by rw [show rk .u32 8 (fun _ => 0) = #[.int .u32 0, .int .u32 0, .int .u32 0, .int .u32 0, .int .u32 0, .int .u32 0, .int .u32 0, .int .u32 0] from rfl]; exact ob), sz, sz, sz, pl (Below.refl _ _), by decide, fun j => rfl⟩
 case round =>
  obtain ⟨i, F, y, rfl, rfl, r0, r1, r2, J⟩ := hrel
  have fB : Hid (Below w.heap.size w y) := Lib.hid J.out.1
  by_cases hi : i < 8
  · have OW : (i : Int) < 8 := by omega
    obtain ⟨sv, hsv⟩ : ∃ z, z = Jc i := ⟨_, rfl⟩
    have hcg : y.cell? ⟨6, i, none⟩ = some (.int .u64 (sv : Int)) := by
     rw [hsv]
     exact (fB.out.cell (p := ⟨6, i, none⟩) hgs).trans (HS.out i hi)
    obtain ⟨a, ha⟩ : ∃ z, z = F i := ⟨_, rfl⟩
    have hA1 : (rk .u32 8 F)[i]? = some (.int .u32 (a : Int)) := by rw [anv _ hi, ha]
    have HSV := Lib.hid hsv
    clear ha hsv
    go_wp2_with fail
    refine wp_region_still_tail 10 (by kernel_rfl) (by kernel_rfl) ?_; simp only [List.take_succ_cons, List.take_zero, List.drop_succ_cons, List.drop_zero, World.drew_eq]; (repeat still_step); refine wpStill_nil ?_
    go_wp2_with fail
    refine ⟨⟨i + 1, upd F i (Jc i >>> (64 - 32)), y.drew, by simp, by rw [← HSV.out, adw sv (by rw [HSV.out]; exact YV hi), BK]; rfl, r0, r1, r2, Lib.hid ⟨J.out.1.drew, by omega, fun j => ?_⟩⟩, by simp [intOf]; omega⟩
    by_cases hj : j = i
    · rw [hj, if_pos (by omega), GH qC hi]
      simp [upd]
      try rfl
    · have := J.out.2.2 j
      simp only [upd, if_neg hj, this]
      by_cases hj2 : j < i
      · rw [if_pos hj2, if_pos (by omega)]
      · rw [if_neg hj2, if_neg (by omega)]
  · have OW : ((i : Int) < 8) = False := eq_false (by omega)
    have HG : Hid (rk .u32 8 F = (fE qC).cs .u32) := Lib.hid (by
     rw [← V8.rk]
     refine FY fun j hj => ?_
     rw [J.out.2.2 j, if_pos (by have := J.out.2.1; omega)])
    go_wp2_with (first | (refine gZ 128 (.tmp 3) rfl rfl (w.heap.size + 1 + 1) (rk .u32 8 F) 128 rfl (by kernel_rfl) (by rw [fK]; kernel_rfl) ob ?_) | (refine iG 128 (.tmp 2) (.tmp 19) rfl rfl (w.heap.size + 1) (rk .u32 8 F) #[.int .u32 0, .int .u32 0, .int .u32 0, .int .u32 0, .int .u32 0, .int .u32 0, .int .u32 0, .int .u32 0] 128 rfl rfl (by rw [fK]; kernel_rfl) (by rw [fK]; rfl) (BJ _ _ _) ob ?_))
    exact bodyPost_ret (v := .agg (rk .u32 8 F)) (fA rfl rfl (bC 128 (w.heap.size + 1) _ 128 (by kernel_rfl) (by rw [fK]; kernel_rfl) ob)) rfl ⟨by rw [HG.out], pl fB.out⟩
end
end Go.Proofs.YtehfkbaendajbaaGreatDoor
