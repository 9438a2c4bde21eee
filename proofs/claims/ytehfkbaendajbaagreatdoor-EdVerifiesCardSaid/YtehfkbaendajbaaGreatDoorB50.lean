/-
  Shared, part 50: walks and plain laws; each theorem states its own conditions.
-/
import Derived.Test.YtehfkbaendajbaaGreatDoorB19
import Derived.Deep.Upon
import Derived.IntWalk
import Derived.Lib.Hide
import Derived.Maps.AppendAt
import Derived.StillTailTactics
namespace Go.Proofs.YtehfkbaendajbaaGreatDoor
set_option linter.unusedSimpArgs false
set_option linter.unusedVariables false
set_option maxRecDepth 100000
set_option maxHeartbeats 8000000
section
open Go.RowKit Go.Proofs.YtehfkbaendajbaaGreatDoorW.PrintLast
theorem an2 (v : Value) (w : World) :
 Calls Tryz.prog 91 #[.agg #[.int .u64 0, .int .u64 64], v] w fun e w' => e = .returned v ∧ Below w.heap.size w w' := by
 go_enter Tryz.func91, Tryz.ntmps91
 go_wp2_with fail
 exact bodyPost_ret (v := v) (by simp [results, Tryz.results91, go_sem]; try rfl) rfl ⟨rfl, pl (Below.refl _ _)⟩
theorem anu (x n : Nat) (hx : x < 18446744073709551616) (h0 : 0 < n) (hn : n < 64) (w : World) :
 Calls Tryz.prog 127 #[.agg #[.int .u64 0, .int .u64 64], .int .u64 x, .int .u64 n] w fun e w' => e = .returned (.int .u64 ((l9 64 x n : Nat) : Int)) ∧ Below w.heap.size w w' := by
 have h2 : IntKind.u64.wrap ((64 : Int) - (n : Int)) = ((64 - n : Nat) : Int) := by rw [IntKind.wrap_u64]; omega
 have h3 : 64 - n < 64 := by omega
 have HX := Lib.hid hx
 clear hx
 go_enter Tryz.func127, Tryz.ntmps127
 go_wp2_with fail
 refine (an2 _ _).mono ?_
 rintro e y1 ⟨rfl, hb1⟩
 obtain ⟨x1, rfl, hc1, hz1, l10⟩ := bQ (b := w.heap.size) hb1 rfl ob
 have HB1 : Hid (Below w.heap.size w x1) := Below.trans (pl (Below.refl _ _)) (hc1.mono sz)
 clear hb1 hc1
 try simp only [eF] at hz1
 go_wp2_with fail
 exact bodyPost_ret (v := .int .u64 _) (by simp [results, Tryz.results127, go_sem]; try rfl) rfl ⟨by rw [← Qx x n HX.out]; try rfl, pl HB1.out⟩
theorem aou (x a b c : Nat) (hx : x < 18446744073709551616) (h : (0 < a ∧ a < 64) ∧ (0 < b ∧ b < 64) ∧ 0 < c ∧ c < 64) (w : World) :
 Calls Tryz.prog 116 #[.agg #[.int .u64 0, .int .u64 64], .int .u64 x, .int .u64 a, .int .u64 b, .int .u64 c] w fun e w' => e = .returned (.int .u64 ((mG 64 x (a, b, c) : Nat) : Int)) ∧ Below w.heap.size w w' := by
 obtain ⟨t1, ht1⟩ : ∃ z, z = l9 64 x a := ⟨_, rfl⟩
 have C1 : Hid (∀ w, Calls Tryz.prog 127 #[.agg #[.int .u64 0, .int .u64 64], .int .u64 x, .int .u64 a] w fun e w' => e = .returned (.int .u64 (t1 : Int)) ∧ Below w.heap.size w w') := Lib.hid (by rw [ht1]; exact anu x a hx h.1.1 h.1.2)
 obtain ⟨t2, ht2⟩ : ∃ z, z = l9 64 x b := ⟨_, rfl⟩
 have C2 : Hid (∀ w, Calls Tryz.prog 127 #[.agg #[.int .u64 0, .int .u64 64], .int .u64 x, .int .u64 b] w fun e w' => e = .returned (.int .u64 (t2 : Int)) ∧ Below w.heap.size w w') := Lib.hid (by rw [ht2]; exact anu x b hx h.2.1.1 h.2.1.2)
 have HF : Hid (bits .xor .u64 (bits .xor .u64 (t1 : Int) (t2 : Int)) ((x : Int) / 2 ^ c) = ((mG 64 x (a, b, c) : Nat) : Int)) := Lib.hid (by rw [Y0, zD t1 t2 (ht1 ▸ jX _ _ hx) (ht2 ▸ jX _ _ hx), zD _ (x >>> c) (yj (ht1 ▸ jX _ _ hx) (ht2 ▸ jX _ _ hx)) (Nat.lt_of_le_of_lt (by rw [Nat.shiftRight_eq_div_pow]; exact Nat.div_le_self _ _) hx), ht1, ht2]; rfl)
 clear hx ht1 ht2
 have hcc : c < 64 := h.2.2.2
 clear h
 go_enter Tryz.func116, Tryz.ntmps116
 go_wp2_with fail
 refine st1 w [] 14 (ak (b := w.heap.size) ob (aO (pl (Below.refl _ _)))) (fun HS => ?_)
 refine tk1 0 (some 11) HS (h := ?_)
 refine tk1 1 (some 12) HS (h := ?_)
 refine tk1 2 (some 13) HS (h := ?_)
 refine tk1 4 (some 15) HS (h := ?_)
 refine tk1 5 (some 16) HS (h := ?_)
 refine tk1 6 (some 17) HS (h := ?_)
 refine tk1 9 (some 20) HS (h := ?_)
 refine tk1 10 (some 21) HS (h := ?_)
 refine tk1 11 (some 22) HS (h := ?_)
 refine dH 3 (some 14) (h := fun K hK => ?_)
 go_simp
 refine (C1.out _).mono ?_
 rintro e y ⟨rfl, hb⟩
 refine hK.out _ _ (HS.step hb rfl) ?_
 clear HS hb
 intro HS
 refine dH 7 (some 18) (h := fun K hK => ?_)
 go_simp
 refine (C2.out _).mono ?_
 rintro e y ⟨rfl, hb⟩
 refine hK.out _ _ (HS.step hb rfl) ?_
 clear HS hb
 intro HS
 refine tk1 8 (some 19) HS (h := ?_)
 refine tk1 12 (some 23) HS (h := ?_)
 refine tk1 13 (some 10) HS (h := ?_)
 obtain ⟨x1, rfl, hk1, hz1, l10⟩ := HS.jE
 have HB1 : Hid (Below w.heap.size w x1) := hk1.below
 clear HS hk1
 refine done_ (by kernel_rfl) ?_
 go_wp2_with fail
 exact bodyPost_ret (v := .int .u64 _) (by simp [results, Tryz.results116, go_sem]; try rfl) rfl ⟨by rw [← HF.out], (pl HB1.out)⟩
theorem ap4 (x a b c : Nat) (hx : x < 18446744073709551616) (h : (0 < a ∧ a < 64) ∧ (0 < b ∧ b < 64) ∧ 0 < c ∧ c < 64) (w : World) :
 Calls Tryz.prog 117 #[.agg #[.int .u64 0, .int .u64 64], .int .u64 x, .int .u64 a, .int .u64 b, .int .u64 c] w fun e w' => e = .returned (.int .u64 ((zy 64 x (a, b, c) : Nat) : Int)) ∧ Below w.heap.size w w' := by
 obtain ⟨t1, ht1⟩ : ∃ z, z = l9 64 x a := ⟨_, rfl⟩
 have C1 : Hid (∀ w, Calls Tryz.prog 127 #[.agg #[.int .u64 0, .int .u64 64], .int .u64 x, .int .u64 a] w fun e w' => e = .returned (.int .u64 (t1 : Int)) ∧ Below w.heap.size w w') := Lib.hid (by rw [ht1]; exact anu x a hx h.1.1 h.1.2)
 obtain ⟨t2, ht2⟩ : ∃ z, z = l9 64 x b := ⟨_, rfl⟩
 have C2 : Hid (∀ w, Calls Tryz.prog 127 #[.agg #[.int .u64 0, .int .u64 64], .int .u64 x, .int .u64 b] w fun e w' => e = .returned (.int .u64 (t2 : Int)) ∧ Below w.heap.size w w') := Lib.hid (by rw [ht2]; exact anu x b hx h.2.1.1 h.2.1.2)
 obtain ⟨t3, ht3⟩ : ∃ z, z = l9 64 x c := ⟨_, rfl⟩
 have C3 : Hid (∀ w, Calls Tryz.prog 127 #[.agg #[.int .u64 0, .int .u64 64], .int .u64 x, .int .u64 c] w fun e w' => e = .returned (.int .u64 (t3 : Int)) ∧ Below w.heap.size w w') := Lib.hid (by rw [ht3]; exact anu x c hx h.2.2.1 h.2.2.2)
 have HF : Hid (bits .xor .u64 (bits .xor .u64 (t1 : Int) (t2 : Int)) (t3 : Int) = ((zy 64 x (a, b, c) : Nat) : Int)) := Lib.hid (by rw [zD t1 t2 (ht1 ▸ jX _ _ hx) (ht2 ▸ jX _ _ hx), zD _ t3 (yj (ht1 ▸ jX _ _ hx) (ht2 ▸ jX _ _ hx)) (ht3 ▸ jX _ _ hx), ht1, ht2, ht3]; rfl)
 clear hx ht1 ht2 ht3
 have hcc : c < 64 := h.2.2.2
 clear h
 go_enter Tryz.func117, Tryz.ntmps117
 go_wp2_with fail
 refine st1 w [] 15 (ak (b := w.heap.size) ob (aO (pl (Below.refl _ _)))) (fun HS => ?_)
 refine tk1 0 (some 11) HS (h := ?_)
 refine tk1 1 (some 12) HS (h := ?_)
 refine tk1 2 (some 13) HS (h := ?_)
 refine tk1 4 (some 15) HS (h := ?_)
 refine tk1 5 (some 16) HS (h := ?_)
 refine tk1 6 (some 17) HS (h := ?_)
 refine tk1 9 (some 20) HS (h := ?_)
 refine tk1 10 (some 21) HS (h := ?_)
 refine tk1 11 (some 22) HS (h := ?_)
 refine dH 3 (some 14) (h := fun K hK => ?_)
 go_simp
 refine (C1.out _).mono ?_
 rintro e y ⟨rfl, hb⟩
 refine hK.out _ _ (HS.step hb rfl) ?_
 clear HS hb
 intro HS
 refine dH 7 (some 18) (h := fun K hK => ?_)
 go_simp
 refine (C2.out _).mono ?_
 rintro e y ⟨rfl, hb⟩
 refine hK.out _ _ (HS.step hb rfl) ?_
 clear HS hb
 intro HS
 refine tk1 8 (some 19) HS (h := ?_)
 refine dH 12 (some 23) (h := fun K hK => ?_)
 go_simp
 refine (C3.out _).mono ?_
 rintro e y ⟨rfl, hb⟩
 refine hK.out _ _ (HS.step hb rfl) ?_
 clear HS hb
 intro HS
 refine tk1 13 (some 24) HS (h := ?_)
 refine tk1 14 (some 10) HS (h := ?_)
 obtain ⟨x1, rfl, hk1, hz1, l10⟩ := HS.jE
 have HB1 : Hid (Below w.heap.size w x1) := hk1.below
 clear HS hk1
 refine done_ (by kernel_rfl) ?_
 go_wp2_with fail
 exact bodyPost_ret (v := .int .u64 _) (by simp [results, Tryz.results117, go_sem]; try rfl) rfl ⟨by rw [← HF.out], (pl HB1.out)⟩
end
section
open Go.RowKit Go.Proofs.YtehfkbaendajbaaGreatDoorW.PrintLast
abbrev wv (n : Nat) : Value := .int .u64 (n : Int)
def ald (ns : List Nat) : Array Value := (ns.map wv).toArray
theorem amS (ns : List Nat) (i : Nat) : (ald ns)[i]? = (ns[i]?).map wv := by simp [ald]
theorem apx : (Tryz.prog.info? 34).map (fun i => (i.zero, i.size, i.bytes)) = some (some (.int .u64 0), 1, 8) := by kernel_rfl
def akd (w : World) (B : Nat) (v : Value) (ns : List Nat) : Prop := w.ownsRow B 34 1 v ns.length (ns.map wv)
theorem akd.nil (w : World) (B : Nat) : akd w B (.slice none 0 0) [] := World.ownsRow_nil w B 34 1
theorem akd.form {w : World} {B : Nat} {v : Value} {ns : List Nat} (h : akd w B v ns) : ∃ A c, v = .slice A ns.length c ∧ ns.length ≤ c ∧ (A = none → ns.length = 0) ∧ (∀ a, A = some a → ∃ g, a = ⟨g, 0, none⟩ ∧ v.ownBlock = some g ∧ B ≤ g ∧ g < w.heap.size) := by
 have h0 := h
 unfold akd at h
 rcases h.2 with ⟨rfl, h2⟩ | ⟨g, cap, cur, rfl, hb, hg, hn, _⟩
 · exact ⟨none, 0, by rw [h2], by omega, fun _ => h2, (fun a e => by cases e)⟩
 · refine ⟨some ⟨g, 0, none⟩, cap, rfl, hn, (fun e => by cases e), (fun a e => ?_)⟩
   cases e
   exact ⟨g, rfl, rfl, hb, (Array.getElem?_eq_some_iff.mp hg).1⟩
theorem akd.rd {w : World} {B g c n : Nat} {ns : List Nat} (h : akd w B (.slice (some ⟨g, 0, none⟩) n c) ns) : Rd w .u64 (some ⟨g, 0, none⟩) ns := by
 intro i hi
 refine ⟨g, 0, rfl, ?_⟩
 have h1 := World.ownsRow.cells (g := g) h rfl i (wv ns[i]) (by simp [hi])
 rw [Addr.add_mid] at h1
 exact h1
theorem amb (w : World) (B : Nat) (v : Value) (xs ys : List Nat) (A : Option Addr) (c : Nat) (hown : akd w B v xs) (hrd : Rd w .u64 A ys) (hlen : xs.length + ys.length ≤ 4000000) (hB : B ≤ w.heap.size) (ty : TypeId) :
 ∃ v' w', (Builtin.append_ #[45, 45] ty #[v, .slice A ys.length c]).run Tryz.prog w = .ok v' w' ∧ akd w' B v' (xs ++ ys) ∧ w.grownBy w' v.ownBlock ∧ (v'.ownBlock = v.ownBlock ∨ v'.ownBlock = some w.heap.size) := by
 obtain ⟨i, hi, hz0, hz1, hz2⟩ := info_parts apx
 cases ys with
 | nil =>
  obtain ⟨A', c', rfl, hc', _⟩ := hown.form
  refine ⟨_, w, run_append_nothing w 45 45 ty 34 i Tryz.underlying45 hi A' xs.length c' hc' _ ⟨.inl ⟨34, Tryz.underlying45⟩, fun w3 => rfl, ?_, ?_, by simp, (fun u hu => by cases hu)⟩, by rw [List.append_nil]; exact hown, World.grownBy.refl _ _, .inl rfl⟩
  · cases A <;> simp [Builtin.firstCells, loadCells, loadCellsFrom]
  · cases A <;> simp [Builtin.firstCells, loadCells, loadCellsFrom]
 | cons y l =>
  obtain ⟨b, off, rfl, hlt, hc⟩ := hrd.place (by simp)
  obtain ⟨v', w', hr, ho, hg, _, hl⟩ := run_append_own_at (P := Tryz.prog) w B 45 ty 34 i (.int .u64 0) 1 8 Tryz.underlying45 hi hz0 hz1 hz2 rfl (by decide) v xs.length (xs.map wv) hown ⟨b, off, none⟩ (y :: l).length c ((y :: l).map wv) (by simp) (by
   intro j u hj
   rw [List.getElem?_map] at hj
   obtain ⟨z, hz, rfl⟩ := Option.map_eq_some_iff.mp hj
   obtain ⟨hjl, hze⟩ := List.getElem?_eq_some_iff.mp hz
   rw [Addr.add_mid, hc j hjl, hze]) (by intro u hu; obtain ⟨z, _, rfl⟩ := List.mem_map.mp hu; rfl) (by unfold maxLen; omega) (by omega) hB
  refine ⟨v', w', hr, ?_, hg, hl⟩
  unfold akd
  rw [List.length_append, List.map_append]
  exact ho
theorem akd.below {w w' : World} {B C : Nat} {v : Value} {ns : List Nat} (h : akd w B v ns) (hb : Below C w w') (hC : w.heap.size ≤ C) : akd w' B v ns := by
 unfold akd at h ⊢
 refine ⟨h.1, ?_⟩
 rcases h.2 with hn | ⟨q, cap, cur, rfl, hB, hq, hr⟩
 · exact .inl hn
 · exact .inr ⟨q, cap, cur, rfl, hB, (hb.block q (Nat.lt_of_lt_of_le (Array.getElem?_eq_some_iff.mp hq).1 hC)).trans hq, hr⟩
theorem akd.less {w : World} {B C : Nat} {v : Value} {ns : List Nat} (h : akd w B v ns) (hC : C ≤ B) : akd w C v ns := by
 unfold akd at h ⊢
 refine ⟨h.1, ?_⟩
 rcases h.2 with hn | ⟨q, cap, cur, rfl, hB, hq, hr⟩
 · exact .inl hn
 · exact .inr ⟨q, cap, cur, rfl, Nat.le_trans hC hB, hq, hr⟩
theorem akd.ahC {w : World} {B : Nat} {v : Value} {ns : List Nat} (h : akd w B v ns) : ∀ k, v.ownBlock = some k → B ≤ k ∧ k < w.heap.size := by
 intro k hk
 obtain ⟨A, c, rfl, _, _, h4⟩ := h.form
 cases A with
 | none => simp [Value.ownBlock] at hk
 | some a =>
  obtain ⟨g, rfl, e, hB, hl⟩ := h4 a rfl
  rw [e] at hk
  cases hk
  exact ⟨hB, hl⟩
theorem akd.slice {w : World} {B n : Nat} {v : Value} {ns : List Nat} (h : akd w B v ns) (hn : ns.length = n) (h0 : 0 < n) : ∃ q cap, v = .slice (some ⟨q, 0, none⟩) n cap ∧ B ≤ q ∧ q < w.heap.size ∧ n ≤ cap ∧ ∀ i, (hi : i < ns.length) → w.cell? ⟨q, i, none⟩ = some (wv ns[i]) := by
 subst hn
 obtain ⟨A, c, rfl, h2, h3, h4⟩ := h.form
 cases A with
 | none => have := h3 rfl; omega
 | some a =>
  obtain ⟨g, rfl, e, hB, hl⟩ := h4 _ rfl
  refine ⟨g, c, rfl, hB, hl, h2, fun i hi => ?_⟩
  obtain ⟨b, off, e', hc⟩ := h.rd i hi
  cases e'
  rw [Nat.zero_add] at hc
  exact hc
theorem aop {w : World} {g d : Nat} {t : TypeId} (h : w.heap[g]? = some (.cells #[.int .u64 (d : Int)] t)) : Rd w .u64 (some ⟨g, 0, none⟩) [d] := jC h (by intro i hi; obtain rfl : i = 0 := (by simpa using hi); rfl)
theorem amA {B b : Nat} {a w : World} {o : Obj} (h : Below B a w) (ha : a.heap[b]? = some o) : Below B a (w.pin b o) :=
 h.trans ⟨rfl, rfl, rfl, by simp [World.pin], fun k hk => by
  by_cases hkb : k = b
  · subst hkb
    rw [eY (Nat.lt_of_lt_of_le (Array.getElem?_eq_some_iff.mp ha).1 h.size), h.block k hk, ha]
  · exact je hkb⟩
theorem gu.am6 {w : World} {B n : Nat} {v : Value} {bs : List Nat} (h : gu w B v bs) (hn : bs.length = n) (h0 : 0 < n) : ∃ q cap, v = .slice (some ⟨q, 0, none⟩) n cap ∧ B ≤ q ∧ q < w.heap.size ∧ n ≤ cap ∧ Rd w .u8 (some ⟨q, 0, none⟩) bs := by
 subst hn
 obtain ⟨A, c, rfl, h2, h3, h4⟩ := h.form
 cases A with
 | none => have := h3 rfl; omega
 | some a =>
  obtain ⟨g, rfl, e, hB, hl⟩ := h4 _ rfl
  exact ⟨g, c, rfl, hB, hl, h2, h.rd⟩
theorem gu.aqH {w : World} {B g d : Nat} {z : Int} (h : w.heap[g]? = some (.cells #[.int .u8 z] 5)) (hB : B ≤ g) (hz : z = (d : Int) := by rfl) : gu w B (.slice (some ⟨g, 0, none⟩) 1 1) [d] := by subst hz; exact ⟨rfl, .inr ⟨g, 1, _, rfl, hB, h, Nat.le_refl _, by decide, rfl, rfl⟩⟩
theorem gu.amm {w : World} {B : Nat} {v : Value} {ns : List Nat} (h : gu w B v ns) : ∀ k, v.ownBlock = some k → B ≤ k ∧ k < w.heap.size := by
 intro k hk
 obtain ⟨A, c, rfl, _, _, h4⟩ := h.form
 cases A with
 | none => simp [Value.ownBlock] at hk
 | some a =>
  obtain ⟨g, rfl, e, hB, hl⟩ := h4 a rfl
  rw [e] at hk
  cases hk
  exact ⟨hB, hl⟩
theorem apb {w : World} {g d : Nat} {z : Int} {t : TypeId} (h : w.heap[g]? = some (.cells #[.int .u8 z] t)) (hz : z = (d : Int) := by rfl) : Rd w .u8 (some ⟨g, 0, none⟩) [d] := by
 subst hz
 exact jC h (by intro i hi; obtain rfl : i = 0 := (by simpa using hi); rfl)
theorem gu.rdA {w : World} {B n c : Nat} {A : Option Addr} {bs : List Nat} (h : gu w B (.slice A n c) bs) : Rd w .u8 A bs := by
 obtain ⟨A', c', e, h2, h3, h4⟩ := h.form
 cases e
 cases A with
 | none => intro i hi; have := h3 rfl; omega
 | some a =>
  obtain ⟨g, rfl, e, hB, hl⟩ := h4 _ rfl
  exact h.rd
theorem alk : ∀ (k n : Nat), (zI k n).length = k
 | 0, _ => rfl
 | k + 1, n => by rw [zI, List.length_cons, alk k n]
theorem amZ (n : Nat) (h : n < 256 ^ 8) : ∀ j, zI (j + 8) n = List.replicate j 0 ++ zI 8 n
 | 0 => by rw [Nat.zero_add]; rfl
 | j + 1 => by
  have h1 : n / 256 ^ (j + 8) = 0 := Nat.div_eq_of_lt (Nat.lt_of_lt_of_le h (Nat.pow_le_pow_right (by decide) (by omega)))
  rw [show j + 1 + 8 = (j + 8) + 1 by omega, zI, h1, amZ n h j, List.replicate_succ]
  rfl
def lenOf : Value → Nat | .slice _ n _ => n | _ => 0
section
variable {ops : Array Oper} {rest : List Oper} {o : Oper} {a : Act} {w : World} {Q : Exit → Act → World → Prop}
theorem alH (s x : Operand) (hgd : o.guard = none) (ho : o.op = .call { callee := .builtin .append, args := #[s, x], argTypes := #[45, 45] }) (B : Nat) (v : Value) (xs ys : List Nat) (A : Option Addr) (n c : Nat) (hs : a.eval s = v) (hx : a.eval x = .slice A n c) (hn : n = ys.length) (hown : akd w B v xs) (hrd : Rd w .u64 A ys) (hlen : xs.length + ys.length ≤ 4000000) (hB : B ≤ w.heap.size)
 (h : ∀ v' w', akd w' B v' (xs ++ ys) → w.grownBy w' v.ownBlock → (v'.ownBlock = v.ownBlock ∨ v'.ownBlock = some w.heap.size) → wpList Tryz.prog ops Q rest (a.put o.dst v') w') : wpList Tryz.prog ops Q (o :: rest) a w := by
 subst hn
 refine wpList_plain hgd fun K hK => ?_
 obtain ⟨v', w', hr, h2, h3, h4⟩ := amb w B v xs ys A c hown hrd hlen hB o.type
 unfold Oper.wp execOp
 simp only [ho, resolve, invoke, builtin, Sem.run_bind, Sem.run_pure, Result.andThen_ok, List.map_toArray, List.map_cons, List.map_nil, hs, hx, hr]
 exact hK _ _ (h v' w' h2 h3 h4)
end
end
end Go.Proofs.YtehfkbaendajbaaGreatDoor
