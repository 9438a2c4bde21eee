/-
  Shared, part 10: walks and plain laws; each theorem states its own conditions.
-/
import Derived.Test.YtehfkbaendajbaaGreatDoorB8
import Derived.Test.YtehfkbaendajbaaGreatDoorB16
import Derived.IntWalk
import Derived.Laws.BitsLemmas
import Derived.Lib.Hide
import Derived.StillTailTactics
namespace Go.Proofs.YtehfkbaendajbaaGreatDoor
set_option linter.unusedSimpArgs false
set_option linter.unusedVariables false
set_option maxRecDepth 100000
set_option maxHeartbeats 8000000
section
open Go.RowKit Go.Proofs.YtehfkbaendajbaaGreatDoorW.PrintLast
theorem yh (n : Int) (h₀ : 0 ≤ n) (h₁ : n < 2 ^ 64) : IntKind.u64.wrap n = n := by rw [IntKind.wrap_u64]; omega
theorem afo (a b : Nat) (ha : a < 18446744073709551616) (hb : b < 18446744073709551616) : bits .or .u64 (a : Int) (b : Int) = ((a ||| b : Nat) : Int) := (bits_nat .u64 64 (by decide) yh a b ha hb).2
theorem Gz (a b : Nat) (ha : a < 18446744073709551616) (hb : b < 18446744073709551616) : bits .and .u64 (a : Int) (b : Int) = ((a &&& b : Nat) : Int) := (bits_nat .u64 64 (by decide) yh a b ha hb).1
theorem YF {a b : Nat} (ha : a < 18446744073709551616) (hb : b < 18446744073709551616) : a ||| b < 18446744073709551616 := Nat.or_lt_two_pow (n := 64) ha hb
theorem nZ {a b : Nat} (ha : a < 18446744073709551616) : a &&& b < 18446744073709551616 := Nat.lt_of_le_of_lt Nat.and_le_left ha
theorem yj {a b : Nat} (ha : a < 18446744073709551616) (hb : b < 18446744073709551616) : a ^^^ b < 18446744073709551616 := Nat.xor_lt_two_pow (n := 64) ha hb
theorem zD (a b : Nat) (ha : a < 18446744073709551616) (hb : b < 18446744073709551616) : bits .xor .u64 (a : Int) (b : Int) = ((a ^^^ b : Nat) : Int) := by
 have h := yj ha hb
 have ha' : a % 2 ^ IntKind.u64.bits = a := Nat.mod_eq_of_lt ha
 have hb' : b % 2 ^ IntKind.u64.bits = b := Nat.mod_eq_of_lt hb
 simp only [bits, BitVec.ofInt_natCast, BitVec.toNat_xor, BitVec.toNat_ofNat, ha', hb']
 exact yh _ (Int.natCast_nonneg _) (by omega)
theorem amc (a b : Nat) : IntKind.u64.wrap ((a : Int) + (b : Int)) = (((a + b) % 2 ^ 64 : Nat) : Int) := by rw [IntKind.wrap_u64]; omega
theorem jX (x n : Nat) (hx : x < 18446744073709551616) : l9 64 x n < 18446744073709551616 := YF (Nat.lt_of_le_of_lt (by rw [Nat.shiftRight_eq_div_pow]; exact Nat.div_le_self _ _) hx) (Nat.mod_lt _ (by decide))
theorem Qx (x n : Nat) (hx : x < 18446744073709551616) : bits .or .u64 ((x : Int) / 2 ^ n) (IntKind.u64.wrap ((x : Int) * 2 ^ (64 - n))) = ((l9 64 x n : Nat) : Int) := by
 have e1 : ((x : Int) / 2 ^ n) = ((x >>> n : Nat) : Int) := by rw [Nat.shiftRight_eq_div_pow, Int.natCast_ediv, Int.natCast_pow]; rfl
 have e2 : IntKind.u64.wrap ((x : Int) * 2 ^ (64 - n)) = (((x <<< (64 - n)) % 2 ^ 64 : Nat) : Int) := by
  rw [IntKind.wrap_u64, Nat.shiftLeft_eq, Int.natCast_emod, Int.natCast_mul, Int.natCast_pow]; rfl
 rw [e1, e2]
 exact afo _ _ (Nat.lt_of_le_of_lt (by rw [Nat.shiftRight_eq_div_pow]; exact Nat.div_le_self _ _) hx) (Nat.mod_lt _ (by decide))
theorem Y0 (x n : Nat) : ((x : Int) / 2 ^ n) = ((x >>> n : Nat) : Int) := by rw [Nat.shiftRight_eq_div_pow, Int.natCast_ediv, Int.natCast_pow]; rfl
theorem CP (x n : Nat) (hx : x < 18446744073709551616) (h0 : 0 < n) (hn : n < 64) (w : World) :
 Calls Tryz.prog 135 #[.int .u64 x, .int .i64 n, .int .i64 64] w fun e w' => e = .returned (.int .u64 ((l9 64 x n : Nat) : Int)) ∧ Below w.heap.size w w' := by
 have h1 : n ≤ 64 := Nat.le_of_lt hn
 have h2 : IntKind.i64.wrap ((64 : Int) - (n : Int)) = ((64 - n : Nat) : Int) := (IntWalk.i64_in _ (by omega)).trans (by omega)
 have h3 : 64 - n < 64 := by omega
 have HX := Lib.hid hx
 clear hx
 go_enter Tryz.func135, Tryz.ntmps135
 go_wp2_with fail
 refine wp_region_still_tail 9 (by kernel_rfl) (by kernel_rfl) ?_
 simp only [List.take_succ_cons, List.take_zero, List.drop_succ_cons, List.drop_zero, World.drew_eq]
 (repeat still_step)
 refine wpStill_nil ?_
 go_wp2_with fail
 exact bodyPost_ret (v := .int .u64 _) (by simp [results, Tryz.results135, go_sem]; try rfl) rfl ⟨by rw [← Qx x n HX.out]; try rfl, pl (Below.refl _ _)⟩
theorem NI (x a b c : Nat) (hx : x < 18446744073709551616) (h : (0 < a ∧ a < 64) ∧ (0 < b ∧ b < 64) ∧ 0 < c ∧ c < 64) (w : World) :
 Calls Tryz.prog 134 #[.int .u64 x, .agg #[.int .i64 a, .int .i64 b, .int .i64 c], .int .i64 64] w fun e w' => e = .returned (.int .u64 ((mG 64 x (a, b, c) : Nat) : Int)) ∧ Below w.heap.size w w' := by
 obtain ⟨t1, ht1⟩ : ∃ z, z = l9 64 x a := ⟨_, rfl⟩
 obtain ⟨t2, ht2⟩ : ∃ z, z = l9 64 x b := ⟨_, rfl⟩
 have C1 : Hid (∀ w, Calls Tryz.prog 135 #[.int .u64 x, .int .i64 a, .int .i64 64] w fun e w' => e = .returned (.int .u64 (t1 : Int)) ∧ Below w.heap.size w w') := Lib.hid (by rw [ht1]; exact CP x a hx h.1.1 h.1.2)
 have C2 : Hid (∀ w, Calls Tryz.prog 135 #[.int .u64 x, .int .i64 b, .int .i64 64] w fun e w' => e = .returned (.int .u64 (t2 : Int)) ∧ Below w.heap.size w w') := Lib.hid (by rw [ht2]; exact CP x b hx h.2.1.1 h.2.1.2)
 have HF : Hid (bits .xor .u64 (bits .xor .u64 (t1 : Int) (t2 : Int)) ((x : Int) / 2 ^ c) = ((mG 64 x (a, b, c) : Nat) : Int)) := Lib.hid (by rw [Y0, zD t1 t2 (ht1 ▸ jX _ _ hx) (ht2 ▸ jX _ _ hx), zD _ (x >>> c) (yj (ht1 ▸ jX _ _ hx) (ht2 ▸ jX _ _ hx)) (Nat.lt_of_le_of_lt (by rw [Nat.shiftRight_eq_div_pow]; exact Nat.div_le_self _ _) hx), ht1, ht2]; rfl)
 clear hx ht1 ht2
 have hcc : c < 64 := h.2.2.2
 clear h
 go_enter Tryz.func134, Tryz.ntmps134
 go_wp2_with fail
 refine st1 w [] 17 (ak (b := w.heap.size) ob (aO (pl (Below.refl _ _)))) (fun HS => ?_)
 refine tk1 0 (some 7) HS (h := ?_)
 refine tk1 1 (some 8) HS (h := ?_)
 refine tk1 2 (some 9) HS (h := ?_)
 refine tk1 3 (some 10) HS (h := ?_)
 refine tk1 5 (some 12) HS (h := ?_)
 refine tk1 6 (some 13) HS (h := ?_)
 refine tk1 7 (some 14) HS (h := ?_)
 refine tk1 8 (some 15) HS (h := ?_)
 refine tk1 11 (some 18) HS (h := ?_)
 refine tk1 12 (some 19) HS (h := ?_)
 refine tk1 13 (some 20) HS (h := ?_)
 refine tk1 14 (some 21) HS (h := ?_)
 refine dH 4 (some 11) (h := fun K hK => ?_)
 go_simp
 refine (C1.out _).mono ?_
 rintro e y ⟨rfl, hb⟩
 refine hK.out _ _ (HS.step hb rfl) ?_
 clear HS hb
 intro HS
 refine dH 9 (some 16) (h := fun K hK => ?_)
 go_simp
 refine (C2.out _).mono ?_
 rintro e y ⟨rfl, hb⟩
 refine hK.out _ _ (HS.step hb rfl) ?_
 clear HS hb
 intro HS
 refine tk1 10 (some 17) HS (h := ?_)
 refine tk1 15 (some 22) HS (h := ?_)
 refine tk1 16 (some 6) HS (h := ?_)
 obtain ⟨x1, rfl, hk1, hz1, l10⟩ := HS.jE
 have HB1 : Hid (Below w.heap.size w x1) := hk1.below
 clear HS hk1
 refine done_ (by kernel_rfl) ?_
 go_wp2_with fail
 exact bodyPost_ret (v := .int .u64 _) (by simp [results, Tryz.results134, go_sem]; try rfl) rfl ⟨by rw [← HF.out], (pl HB1.out)⟩
theorem Zu (x a b c : Nat) (hx : x < 18446744073709551616) (h : (0 < a ∧ a < 64) ∧ (0 < b ∧ b < 64) ∧ 0 < c ∧ c < 64) (w : World) :
 Calls Tryz.prog 131 #[.int .u64 x, .agg #[.int .i64 a, .int .i64 b, .int .i64 c], .int .i64 64] w fun e w' => e = .returned (.int .u64 ((zy 64 x (a, b, c) : Nat) : Int)) ∧ Below w.heap.size w w' := by
 obtain ⟨t1, ht1⟩ : ∃ z, z = l9 64 x a := ⟨_, rfl⟩
 obtain ⟨t2, ht2⟩ : ∃ z, z = l9 64 x b := ⟨_, rfl⟩
 have C1 : Hid (∀ w, Calls Tryz.prog 135 #[.int .u64 x, .int .i64 a, .int .i64 64] w fun e w' => e = .returned (.int .u64 (t1 : Int)) ∧ Below w.heap.size w w') := Lib.hid (by rw [ht1]; exact CP x a hx h.1.1 h.1.2)
 have C2 : Hid (∀ w, Calls Tryz.prog 135 #[.int .u64 x, .int .i64 b, .int .i64 64] w fun e w' => e = .returned (.int .u64 (t2 : Int)) ∧ Below w.heap.size w w') := Lib.hid (by rw [ht2]; exact CP x b hx h.2.1.1 h.2.1.2)
 obtain ⟨t3, ht3⟩ : ∃ z, z = l9 64 x c := ⟨_, rfl⟩
 have C3 : Hid (∀ w, Calls Tryz.prog 135 #[.int .u64 x, .int .i64 c, .int .i64 64] w fun e w' => e = .returned (.int .u64 (t3 : Int)) ∧ Below w.heap.size w w') := Lib.hid (by rw [ht3]; exact CP x c hx h.2.2.1 h.2.2.2)
 have HF : Hid (bits .xor .u64 (bits .xor .u64 (t1 : Int) (t2 : Int)) (t3 : Int) = ((zy 64 x (a, b, c) : Nat) : Int)) := Lib.hid (by rw [zD t1 t2 (ht1 ▸ jX _ _ hx) (ht2 ▸ jX _ _ hx), zD _ t3 (yj (ht1 ▸ jX _ _ hx) (ht2 ▸ jX _ _ hx)) (ht3 ▸ jX _ _ hx), ht1, ht2, ht3]; rfl)
 clear hx ht1 ht2 ht3
 have hcc : c < 64 := h.2.2.2
 clear h
 go_enter Tryz.func131, Tryz.ntmps131
 go_wp2_with fail
 refine st1 w [] 18 (ak (b := w.heap.size) ob (aO (pl (Below.refl _ _)))) (fun HS => ?_)
 refine tk1 0 (some 7) HS (h := ?_)
 refine tk1 1 (some 8) HS (h := ?_)
 refine tk1 2 (some 9) HS (h := ?_)
 refine tk1 3 (some 10) HS (h := ?_)
 refine tk1 5 (some 12) HS (h := ?_)
 refine tk1 6 (some 13) HS (h := ?_)
 refine tk1 7 (some 14) HS (h := ?_)
 refine tk1 8 (some 15) HS (h := ?_)
 refine tk1 11 (some 18) HS (h := ?_)
 refine tk1 12 (some 19) HS (h := ?_)
 refine tk1 13 (some 20) HS (h := ?_)
 refine tk1 14 (some 21) HS (h := ?_)
 refine dH 4 (some 11) (h := fun K hK => ?_)
 go_simp
 refine (C1.out _).mono ?_
 rintro e y ⟨rfl, hb⟩
 refine hK.out _ _ (HS.step hb rfl) ?_
 clear HS hb
 intro HS
 refine dH 9 (some 16) (h := fun K hK => ?_)
 go_simp
 refine (C2.out _).mono ?_
 rintro e y ⟨rfl, hb⟩
 refine hK.out _ _ (HS.step hb rfl) ?_
 clear HS hb
 intro HS
 refine tk1 10 (some 17) HS (h := ?_)
 refine dH 15 (some 22) (h := fun K hK => ?_)
 go_simp
 refine (C3.out _).mono ?_
 rintro e y ⟨rfl, hb⟩
 refine hK.out _ _ (HS.step hb rfl) ?_
 clear HS hb
 intro HS
 refine tk1 16 (some 23) HS (h := ?_)
 refine tk1 17 (some 6) HS (h := ?_)
 obtain ⟨x1, rfl, hk1, hz1, l10⟩ := HS.jE
 have HB1 : Hid (Below w.heap.size w x1) := hk1.below
 clear HS hk1
 refine done_ (by kernel_rfl) ?_
 go_wp2_with fail
 exact bodyPost_ret (v := .int .u64 _) (by simp [results, Tryz.results131, go_sem]; try rfl) rfl ⟨by rw [← HF.out], (pl HB1.out)⟩
end
section
open Go.RowKit Go.Proofs.YtehfkbaendajbaaGreatDoorW.PrintLast
def rk (k : IntKind) (n : Nat) (f : Nat → Nat) : Array Value := ((List.range n).map fun i => Value.int k ((f i : Nat) : Int)).toArray
theorem fK (k : IntKind) (n : Nat) (f : Nat → Nat) : (rk k n f).size = n := by simp [rk]
theorem anv {k : IntKind} {n j : Nat} (f : Nat → Nat) (h : j < n) : (rk k n f)[j]? = some (.int k ((f j : Nat) : Int)) := by simp [rk, h]
theorem FY {k : IntKind} {n : Nat} {f g : Nat → Nat} (h : ∀ j, j < n → f j = g j) : rk k n f = rk k n g := by
 unfold rk
 congr 1
 refine List.map_congr_left fun i hi => ?_
 rw [h i (List.mem_range.mp hi)]
theorem BK {k : IntKind} {n j : Nat} (f : Nat → Nat) (v : Nat) : (rk k n f).setIfInBounds j (.int k (v : Int)) = rk k n (upd f j v) := by
 apply Array.ext_getElem?
 intro i
 by_cases hi : i < n
 · rw [anv _ hi]
   by_cases hj : j = i
   · subst hj
     rw [Array.getElem?_setIfInBounds_self_of_lt (by rw [fK]; exact hi)]
     simp [upd]
   · rw [Array.getElem?_setIfInBounds_ne hj, anv _ hi]
     simp [upd, Ne.symm hj]
 · rw [Array.getElem?_eq_none (by simp [fK]; omega), Array.getElem?_eq_none (by rw [fK]; omega)]
theorem BJ (k : IntKind) (n : Nat) (f : Nat → Nat) : (rk k n f).all (·.oneCell') = true := by
 refine Array.all_eq_true_iff_forall_mem.2 fun v hv => ?_
 simp only [rk, List.mem_toArray, List.mem_map] at hv
 obtain ⟨i, _, rfl⟩ := hv
 rfl
section
variable {P : Program} {ops : Array Oper} {rest : List Oper} {o : Oper} {a : Act} {w : World} {Q : Exit → Act → World → Prop} {K : Act → World → Prop}
theorem bC (ty : TypeId) (b : Nat) (c : Array Value) (t : TypeId) (hr : (P.underlying ty).any TypeDesc.isRow = true) (hs : (P.info? ty).map (·.size) = some c.size) (h : w.heap[b]? = some (.cells c t)) : (loadVar ty ⟨b, 0, none⟩).run P w = .ok (.agg c) w := by
 have h1 := qP (P := P) b 0 ty c.toList c t h (by simp) hr (by rw [Array.length_toList]; exact hs)
 simpa using h1
theorem mF (ty : TypeId) (x : Operand) (ho : o.op = .load ty x) (b : Nat) (c : Array Value) (t : TypeId) (hx : a.eval x = .pointer (some ⟨b, 0, none⟩)) (hr : (P.underlying ty).any TypeDesc.isRow = true) (hs : (P.info? ty).map (·.size) = some c.size) (h : w.heap[b]? = some (.cells c t)) : (execOp a.eval o).run P w = .ok (.value (.agg c)) w := by
 unfold execOp
 simp only [ho, hx, Instr.loadAt, Instr.sureAddr, Sem.run_bind, Sem.run_pure, Result.andThen_ok, bC ty b c t hr hs h]
theorem gZ (ty : TypeId) (x : Operand) (ho : o.op = .load ty x) (hgd : o.guard = none) (b : Nat) (c : Array Value) (t : TypeId) (hx : a.eval x = .pointer (some ⟨b, 0, none⟩)) (hr : (P.underlying ty).any TypeDesc.isRow = true) (hs : (P.info? ty).map (·.size) = some c.size) (h : w.heap[b]? = some (.cells c t)) (hK : wpList P ops Q rest (a.put o.dst (.agg c)) w) : wpList P ops Q (o :: rest) a w :=
 wpList_plain hgd fun _ hk => by
  unfold Oper.wp
  rw [mF ty x ho b c t hx hr hs h]
  exact hk _ _ hK
theorem qU (ty : TypeId) (x y : Operand) (ho : o.op = .store ty x y) (b : Nat) (c old : Array Value) (t : TypeId) (hx : a.eval x = .pointer (some ⟨b, 0, none⟩)) (hy : a.eval y = .agg c) (hs : (P.info? ty).map (·.size) = some c.size) (hos : old.size = c.size) (h1 : c.all (·.oneCell') = true) (h : w.heap[b]? = some (.cells old t)) (hK : K (a.put o.dst undef) (w.pin b (.cells c t))) : o.wp P a w K Q :=
 gB ty x y ho b _ hx hy t _ h hs hos h1 hK
theorem iG (ty : TypeId) (x y : Operand) (ho : o.op = .store ty x y) (hgd : o.guard = none) (b : Nat) (c old : Array Value) (t : TypeId) (hx : a.eval x = .pointer (some ⟨b, 0, none⟩)) (hy : a.eval y = .agg c) (hs : (P.info? ty).map (·.size) = some c.size) (hos : old.size = c.size) (h1 : c.all (·.oneCell') = true) (h : w.heap[b]? = some (.cells old t)) (hK : wpList P ops Q rest (a.put o.dst undef) (w.pin b (.cells c t))) : wpList P ops Q (o :: rest) a w :=
 wpList_plain hgd fun _ hk => qU ty x y ho b c old t hx hy hs hos h1 h (hk _ _ hK)
theorem qY (ty : TypeId) (hg : o.guard = none) (hop : o.op = .alloc ty) (c : Array Value) (hr : (Instr.alloc ty true (.tuple #[])).run P w = .ok (.pointer (some ⟨w.heap.size, 0, none⟩)) (w.alloc (.cells c ty))) (h : wpList P ops Q rest (a.put o.dst (.pointer (some ⟨w.heap.size, 0, none⟩))) (w.alloc (.cells c ty))) : wpList P ops Q (o :: rest) a w := by
 refine wpList_plain hg fun K hK => ?_
 unfold Oper.wp execOp
 simp only [hop, Sem.run_bind, hr, Result.andThen_ok]
 exact hK _ _ h
end
def vO (s : Sh) (b : List Nat) (t : Nat) : Nat := (kQ s b).getD t 0
theorem uz (l : List Nat) {j : Nat} (h : j < l.length) : l.reverse.getD j 0 = l.getD (l.length - 1 - j) 0 := by
 simp [List.getD_eq_getElem?_getD, List.getElem?_reverse h]
theorem uD (s : Sh) : ∀ (n : Nat) (l : List Nat) (t : Nat), t < l.length → (nJ s n l).reverse.getD t 0 = l.reverse.getD t 0
 | 0, _, _, _ => rfl
 | n + 1, l, t, h => by
  rw [nJ, uD s n _ t (by simp; omega), uz _ (by simp; omega), uz _ h]
  obtain ⟨k, hk⟩ : ∃ k, l.length - 1 - t = k := ⟨_, rfl⟩
  rw [List.length_cons, show l.length + 1 - 1 - t = k + 1 by omega, hk]
  rfl
theorem Cb (s : Sh) : ∀ (n : Nat) (l : List Nat) (t : Nat), 16 ≤ l.length → l.length ≤ t → t < l.length + n → (nJ s n l).reverse.getD t 0 = ((nJ s n l).reverse.getD (t - 16) 0 + mG s.d ((nJ s n l).reverse.getD (t - 15) 0) s.s0 + (nJ s n l).reverse.getD (t - 7) 0 + mG s.d ((nJ s n l).reverse.getD (t - 2) 0) s.s1) % 2 ^ s.d
 | 0, _, t, _, h1, h2 => by omega
 | n + 1, l, t, h16, h1, h2 => by
  rw [nJ]
  by_cases ht : t = l.length
  · subst ht
    have e : ∀ j, j < 16 → (nJ s n (Ls s l :: l)).reverse.getD (l.length - (j + 1)) 0 = l.getD j 0 := by
     intro j hj
     rw [uD s n _ _ (by simp; omega), uz _ (by simp; omega), List.length_cons, show l.length + 1 - 1 - (l.length - (j + 1)) = j + 1 by omega]
     rfl
    rw [e 15 (by decide), e 14 (by decide), e 6 (by decide), e 1 (by decide), uD s n _ _ (by simp), uz _ (by simp), List.length_cons, show l.length + 1 - 1 - l.length = 0 by omega]
    rfl
  · exact Cb s n _ t (by simp; omega) (by simp; omega) (by simp; omega)
theorem Jd (s : Sh) (b : List Nat) {t : Nat} (h : t < 16) : vO s b t = VQ s b t := by
 unfold vO kQ
 rw [uD s _ _ _ (by simpa using h), uz _ (by simpa using h), List.length_reverse, List.length_map, List.length_range, uz _ (by simp; omega)]
 simp only [List.length_map, List.length_range]
 rw [show 16 - 1 - (16 - 1 - t) = t by omega]
 simp [List.getD_eq_getElem?_getD, h]
theorem EF (s : Sh) (b : List Nat) {t : Nat} (h : 16 ≤ t) (h2 : t < s.r) : vO s b t = (vO s b (t - 16) + mG s.d (vO s b (t - 15)) s.s0 + vO s b (t - 7) + mG s.d (vO s b (t - 2)) s.s1) % 2 ^ s.d := by
 unfold vO kQ
 exact Cb s _ _ t (by simp) (by simpa using h) (by simp; omega)
theorem RQ (l : List Nat) (h : ∀ x ∈ l, x < 256) : beN l < 256 ^ l.length := by
 have key : ∀ (l : List Nat) (a k : Nat), (∀ x ∈ l, x < 256) → a < 256 ^ k → l.foldl (fun a b => a * 256 + b) a < 256 ^ (k + l.length) := by
  intro l
  induction l with
  | nil => intro a k _ ha; exact ha
  | cons x l ih =>
   intro a k hx ha
   have h1 := hx x List.mem_cons_self
   have h2 := ih (a * 256 + x) (k + 1) (fun y hy => hx y (List.mem_cons_of_mem _ hy)) (by rw [Nat.pow_succ]; omega)
   rw [List.length_cons, show k + (l.length + 1) = k + 1 + l.length by omega]
   exact h2
 have h3 := key l 0 0 h (by decide)
 rwa [Nat.zero_add] at h3
theorem RS (l : List Nat) (i : Nat) (h : i < l.length) : beN (l.take (i + 1)) = beN (l.take i) * 256 + l[i] := by
 unfold beN
 rw [List.take_succ_eq_append_getElem h, List.foldl_append]
 rfl
theorem YZ (s : Sh) (b : List Nat) (hb : ∀ x ∈ b, x < 256) (t : Nat) (hd : 256 ^ (s.d / 8) = 2 ^ s.d) : VQ s b t < 2 ^ s.d := by
 unfold VQ
 have h1 := RQ ((b.drop (t * (s.d / 8))).take (s.d / 8)) (fun x hx => hb x (List.mem_of_mem_drop (List.mem_of_mem_take hx)))
 refine Nat.lt_of_lt_of_le h1 ?_
 rw [← hd]
 exact Nat.pow_le_pow_right (by decide) (List.length_take_le _ _)
theorem NG (s : Sh) (b : List Nat) (hb : ∀ x ∈ b, x < 256) (hd : 256 ^ (s.d / 8) = 2 ^ s.d) {t : Nat} (h : t < s.r) : vO s b t < 2 ^ s.d := by
 by_cases ht : t < 16
 · rw [Jd s b ht]; exact YZ s b hb t hd
 · rw [EF s b (by omega) h]; exact Nat.mod_lt _ (Nat.pow_pos (by decide))
end
end Go.Proofs.YtehfkbaendajbaaGreatDoor
