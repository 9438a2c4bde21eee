/-
  Shared, part 33: walks and plain laws; each theorem states its own conditions.
-/
import Derived.Test.YtbghdkmpjiffeaaDoorProg
import Derived.Test.YtbghdkmpjiffeaaDoorP17
import Derived.Test.YtbghdkmpjiffeaaDoorP26
import Derived.ArgAppend
import Derived.Deep.OwnRows
import Derived.IntWalk
import Derived.Laws.CopyRow
import Derived.Laws.OwnMore
import Derived.Lib.Hide
import Derived.OwnWalk
import Derived.StillTailTactics
namespace Go.Proofs.YtbghdkmpjiffeaaDoor
set_option linter.unusedSimpArgs false
set_option linter.unusedVariables false
set_option maxRecDepth 100000
set_option maxHeartbeats 8000000
section
open Go.RowKit Go.Proofs.YtbghdkmpjiffeaaDoorW.PrintLast
structure Dp where
 A : Option Addr
 a : Nat
 x : Nat
 B : Option Addr
 b : Nat
 y : Nat
 C : Option Addr
 c : Nat
 z : Nat
abbrev Dp.v (p : Dp) : Value := .agg #[.slice p.A (aB p.x).length p.a, .slice p.B (aB p.y).length p.b, .slice p.C (aB p.z).length p.c]
structure Dp.ok (p : Dp) (w : World) : Prop where
 x : Dn w p.A p.a p.x
 y : Dn w p.B p.b p.y
 z : Dn w p.C p.c p.z
theorem Dp.ok.next {p : Dp} {w w' : World} (h : p.ok w) (hb : Below w.heap.size w w') : p.ok w' := ⟨h.x.next hb, h.y.next hb, h.z.next hb⟩
structure Dp.lt (p : Dp) : Prop where
 x : p.x < Num.p
 y : p.y < Num.p
 z : p.z < Num.p
def Dp.of (p : Dp) (P : EP) : Prop := p.lt ∧ WO (fe p.x) (fe p.y) (fe p.z) P
end
section
open Go.RowKit Go.Proofs.YtbghdkmpjiffeaaDoorW.PrintLast
theorem Rd.oI {x : World} {g : Nat} {o' : Obj} {k : IntKind} {A A1 A2 A3 : Option Addr} {n1 n2 n3 c1 c2 c3 : Nat} {xs : List Nat} (hg : g < x.heap.size) (h : Rd (x.pin g (.cells #[.slice A1 n1 c1, .slice A2 n2 c2, .slice A3 n3 c3] 34)) k A xs) : Rd (x.pin g o') k A xs := fun i hi => by
 obtain ⟨b, off, e, hc⟩ := h i hi
 refine ⟨b, off, e, ?_⟩
 by_cases hb : b = g
 · exfalso
   subst hb
   have h1 := eY (o := .cells #[.slice A1 n1 c1, .slice A2 n2 c2, .slice A3 n3 c3] 34) hg
   simp only [World.cell?, h1] at hc
   generalize off + i = j at hc
   rcases j with _ | _ | _ | j <;> simp at hc
 · rw [jM hb] at hc ⊢
   exact hc
theorem Dn.oI {x : World} {g : Nat} {o' : Obj} {A A1 A2 A3 : Option Addr} {c n n1 n2 n3 c1 c2 c3 : Nat} (h : Dn (x.pin g (.cells #[.slice A1 n1 c1, .slice A2 n2 c2, .slice A3 n3 c3] 34)) A c n) (hg : g < x.heap.size) : Dn (x.pin g o') A c n := ⟨Rd.oI hg h.1, h.2⟩
theorem Dp.ok.oI {x : World} {g : Nat} {o' : Obj} {p : Dp} {A1 A2 A3 : Option Addr} {n1 n2 n3 c1 c2 c3 : Nat} (h : p.ok (x.pin g (.cells #[.slice A1 n1 c1, .slice A2 n2 c2, .slice A3 n3 c3] 34))) (hg : g < x.heap.size) : p.ok (x.pin g o') := ⟨h.x.oI hg, h.y.oI hg, h.z.oI hg⟩
end
section
open Go.RowKit Go.Proofs.YtbghdkmpjiffeaaDoorW.PrintLast
abbrev LO : Nat := 7237005577332262213973186563042994240857116359379907606001950938285454250989
def DW (w : World) : Prop := ∀ j, j < 4 → w.cell? ⟨5, j, none⟩ = some (.int .u64 ((lim LO j : Nat) : Int))
theorem DW.next {w w' : World} (h : DW w) (hb : Below w.heap.size w w') : DW w' := fun j hj => (hb.cell (p := ⟨5, j, none⟩) (World.block_lt_of_cell? w _ (h j hj))).trans (h j hj)
theorem DW.mono {w w' : World} (h : DW w) {B : Nat} (hb : Below B w w') (hB : w.heap.size ≤ B) : DW w' := fun j hj => (hb.cell (p := ⟨5, j, none⟩) (Nat.lt_of_lt_of_le (World.block_lt_of_cell? w _ (h j hj)) hB)).trans (h j hj)
theorem afN {w : World} {b : Nat} {old cs : Array Value} {t : TypeId} (h : w.heap[b]? = some (.cells old t)) : w.setRow b cs = w.pin b (.cells cs t) := by
 simp only [World.setRow, World.pin]
 congr 1
 apply Array.ext_getElem?
 intro k
 rw [Array.getElem?_modify, Array.getElem?_setIfInBounds]
 by_cases hk : b = k
 · subst hk
   have hlt := (Array.getElem?_eq_some_iff.mp h).1
   rw [if_pos rfl, h]
   simp [hlt]
 · simp [hk]
theorem agD (v : World) (g o l c : Nat) (ho9 : o + 4 ≤ 9) (hl : l = 4 ∨ l = 9) (hg : v.heap[g]? = some (.cells #[.int .u64 0, .int .u64 0, .int .u64 0, .int .u64 0, .int .u64 0, .int .u64 0, .int .u64 0, .int .u64 0, .int .u64 0] 106)) (ho : DW v) (ty : TypeId) :
 (Builtin.copy_ #[32, 32] ty #[.slice (some ⟨g, o, none⟩) l c, .slice (some ⟨5, 0, none⟩) 4 4]).run Tryd.prog v = .ok (.int .i64 4) (v.pin g (.cells (((row 9 (lim 0)).toList.take o ++ (row 4 (lim LO)).toList ++ (row 9 (lim 0)).toList.drop (o + 4)).toArray) 106)) := by
 have hz : (.cells #[.int .u64 0, .int .u64 0, .int .u64 0, .int .u64 0, .int .u64 0, .int .u64 0, .int .u64 0, .int .u64 0, .int .u64 0] 106) = (Obj.cells (row 9 (lim 0)) 106) := by rw [← akf]
 rw [hz] at hg
 have hlen : (row 4 (lim LO)).toList.length = Nat.min 4 l := by rcases hl with rfl | rfl <;> rfl
 have h := run_copy_row (P := Tryd.prog) v 32 32 ty 24 g o l c ⟨5, 0, none⟩ 4 4 (row 9 (lim 0)) 106 (row 4 (lim LO)).toList (by kernel_rfl) (by kernel_rfl) hg hlen ?_ (by rw [Array.length_toList, BN, BN]; exact ho9) ?_
 · rw [h, afN hg]
   rfl
 · intro j u hj
   have hj4 : j < 4 := by
    have := (List.getElem?_eq_some_iff.mp hj).1
    simpa [BN] using this
   have hu : u = .int .u64 ((lim LO j : Nat) : Int) := by
    have h1 := gV (lim LO) hj4
    rw [Array.getElem?_toList] at hj
    rw [h1] at hj
    exact (Option.some.inj hj).symm
   rw [Addr.add_lit, hu, Nat.zero_add]
   exact ho j hj4
 · intro u hu
   simp only [row, List.mem_map] at hu
   obtain ⟨j, _, rfl⟩ := hu
   rfl
def acK (x k N M : Nat) : Prop := M = LO * 2 ^ 320 / 2 ^ k ∧ N % LO = x % LO ∧ N * 2 ^ k < LO * 2 ^ 321 ∧ k ≤ 321
theorem afL {k : Nat} (hk : k ≤ 320) : LO * 2 ^ 320 / 2 ^ k = LO * 2 ^ (320 - k) := by
 have e : LO * 2 ^ 320 = LO * 2 ^ (320 - k) * 2 ^ k := by rw [Nat.mul_assoc, ← Nat.pow_add, Nat.sub_add_cancel hk]
 rw [e, Nat.mul_div_cancel _ (Nat.pow_pos (by decide))]
theorem acM {x k N M : Nat} (h : acK x k N M) : N < WW ^ 9 ∧ M < WW ^ 9 := by
 obtain ⟨h1, h2, h3, h4⟩ := h
 have hc : LO * 2 ^ 321 < WW ^ 9 := by decide +kernel
 have hc2 : LO * 2 ^ 320 < WW ^ 9 := by decide +kernel
 have hp : 0 < 2 ^ k := Nat.pow_pos (by decide)
 refine ⟨?_, ?_⟩
 · exact Nat.lt_of_le_of_lt (Nat.le_mul_of_pos_right N hp) (Nat.lt_trans h3 hc)
 · rw [h1]
   exact Nat.lt_of_le_of_lt (Nat.div_le_self _ _) hc2
theorem adp (k : Nat) : LO * 2 ^ 320 / 2 ^ k / 2 = LO * 2 ^ 320 / 2 ^ (k + 1) := by rw [Nat.div_div_eq_div_mul, ← Nat.pow_succ]
theorem acY {k : Nat} (hk : k ≤ 320) : LO * 2 ^ (320 - k) * 2 ^ (k + 1) = LO * 2 ^ 321 := by
 rw [Nat.mul_assoc, ← Nat.pow_add, show 320 - k + (k + 1) = 321 by omega]
theorem agA {x k N M : Nat} (h : acK x k N M) (hk : k < 321) (hlt : N < M) : acK x (k + 1) N (M / 2) := by
 obtain ⟨h1, h2, h3, h4⟩ := h
 refine ⟨by rw [h1, adp], h2, ?_, hk⟩
 rw [h1, afL (by omega)] at hlt
 have h5 := Nat.mul_lt_mul_of_pos_right hlt (show 0 < 2 ^ (k + 1) from Nat.pow_pos (by decide))
 rw [acY (by omega)] at h5
 exact h5
theorem ahu {x k N M : Nat} (h : acK x k N M) (hk : k < 321) (hle : M ≤ N) : acK x (k + 1) (N - M) (M / 2) := by
 obtain ⟨h1, h2, h3, h4⟩ := h
 have hM := h1
 rw [afL (by omega)] at hM
 refine ⟨by rw [h1, adp], ?_, ?_, hk⟩
 · rw [← h2]
   obtain ⟨d, hd⟩ : ∃ d, N = M + d := ⟨N - M, by omega⟩
   rw [hd, Nat.add_sub_cancel_left, hM, Nat.add_comm, Nat.add_mul_mod_self_left]
 · have h5 : N < M + M := by
    have h6 : (M + M) * 2 ^ k = LO * 2 ^ 321 := by
     rw [← Nat.two_mul, hM, ← acY (k := k) (by omega), Nat.pow_succ]
     simp only [Nat.mul_assoc, Nat.mul_comm, Nat.mul_left_comm]
    rw [← h6] at h3
    exact Nat.lt_of_mul_lt_mul_right h3
   have h7 : N - M < M := by omega
   have h8 := Nat.mul_lt_mul_of_pos_right h7 (show 0 < 2 ^ (k + 1) from Nat.pow_pos (by decide))
   rw [hM, acY (by omega), ← hM] at h8
   exact h8
theorem rest_start {x : Nat} (hx : x < LO * 2 ^ 321) : acK x 0 x (LO * 2 ^ 320) := ⟨by rw [Nat.pow_zero, Nat.div_one], rfl, by rw [Nat.pow_zero, Nat.mul_one]; exact hx, by decide⟩
theorem rest_end {x N M : Nat} (h : acK x 321 N M) : N = x % LO := by
 obtain ⟨h1, h2, h3, h4⟩ := h
 have h5 : N < LO := Nat.lt_of_mul_lt_mul_right h3
 rw [← h2, Nat.mod_eq_of_lt h5]
theorem anQ : (((row 9 (lim 0)).toList.take 5 ++ (row 4 (lim LO)).toList ++ (row 9 (lim 0)).toList.drop (5 + 4)).toArray) = row 9 (lim (LO * 2 ^ 320)) := by kernel_rfl
theorem anP : (((row 9 (lim 0)).toList.take 0 ++ (row 4 (lim LO)).toList ++ (row 9 (lim 0)).toList.drop (0 + 4)).toArray) = row 9 (lim LO) := by kernel_rfl
theorem ad1 (x y : Nat) (b : Bool) (hx : x < WW ^ 9) (hy : y < WW ^ 9) (hb : decide (x < y) = b) (w : World) : Calls Tryd.prog 98 #[Lv x, Lv y] w fun e w' => e = .returned (.bool b) ∧ Below w.heap.size w w' := by
 have h := ag8 x y hx hy w
 rw [hb] at h
 exact h
theorem aiA (x : Nat) (hx : x < LO * 2 ^ 321) (w : World) (ho : DW w) :
 Calls Tryd.prog 97 #[Lv x] w fun e w' => e = .returned (Lv (x % LO)) ∧ Below w.heap.size w w' := by
 have HO := Lib.hid ho
 have HX := Lib.hid hx
 clear ho hx
 go_enter Tryd.func97, Tryd.ntmps97
 go_wp2_with fail
 obtain ⟨v, hv⟩ : ∃ v, v = (((w.alloc (.cells #[.int .u64 ((lim x 0 : Nat) : Int), .int .u64 ((lim x 1 : Nat) : Int), .int .u64 ((lim x 2 : Nat) : Int), .int .u64 ((lim x 3 : Nat) : Int), .int .u64 ((lim x 4 : Nat) : Int), .int .u64 ((lim x 5 : Nat) : Int), .int .u64 ((lim x 6 : Nat) : Int), .int .u64 ((lim x 7 : Nat) : Int), .int .u64 ((lim x 8 : Nat) : Int)] 106)).alloc (.cells #[.int .u64 0, .int .u64 0, .int .u64 0, .int .u64 0, .int .u64 0, .int .u64 0, .int .u64 0, .int .u64 0, .int .u64 0] 106)).alloc (.cells #[.int .u64 0, .int .u64 0, .int .u64 0, .int .u64 0, .int .u64 0, .int .u64 0, .int .u64 0, .int .u64 0, .int .u64 0] 106)) := ⟨_, rfl⟩
 have hv2 : v.heap[w.heap.size + 2]? = some (.cells #[.int .u64 0, .int .u64 0, .int .u64 0, .int .u64 0, .int .u64 0, .int .u64 0, .int .u64 0, .int .u64 0, .int .u64 0] 106) := by rw [hv]; exact ob
 have HVO : DW v := by rw [hv]; exact HO.out.next (pl (Below.refl _ _))
 rw [← hv]
 have hcp := fun ty => agD v.drew (w.heap.size + 1 + 1) 5 4 4 (by decide) (.inl rfl) hv2 (fun j hj => HVO j hj) ty
 obtain ⟨M, hM⟩ : ∃ M, M = LO * 2 ^ 320 := ⟨_, rfl⟩
 rw [anQ, ← hM, He M] at hcp
 have HI0 : Hid (acK x 0 x M) := Lib.hid (by rw [hM]; exact rest_start HX.out)
 have HVV := Lib.hid hv
 clear hM HVO hv2 hv
 refine wp_region_still_tail 2 (by kernel_rfl) (by kernel_rfl) ?_
 simp only [List.take_succ_cons, List.take_zero, List.drop_succ_cons, List.drop_zero, World.drew_eq]
 (repeat still_step)
 refine wpStill_nil ?_
 go_wp2_with fail
 have hv := HVV.out
 subst hv
 go_loopw [7] (fun kv wr => ∃ (k N M : Nat) (z : World), kv = .int .i64 (k : Int) ∧ wr = (((z.pin (w.heap.size) (.cells #[.int .u64 ((lim N 0 : Nat) : Int), .int .u64 ((lim N 1 : Nat) : Int), .int .u64 ((lim N 2 : Nat) : Int), .int .u64 ((lim N 3 : Nat) : Int), .int .u64 ((lim N 4 : Nat) : Int), .int .u64 ((lim N 5 : Nat) : Int), .int .u64 ((lim N 6 : Nat) : Int), .int .u64 ((lim N 7 : Nat) : Int), .int .u64 ((lim N 8 : Nat) : Int)] 106)).pin (w.heap.size + 1) (.cells #[.int .u64 0, .int .u64 0, .int .u64 0, .int .u64 0, .int .u64 0, .int .u64 0, .int .u64 0, .int .u64 0, .int .u64 0] 106)).pin (w.heap.size + 2) (.cells #[.int .u64 ((lim M 0 : Nat) : Int), .int .u64 ((lim M 1 : Nat) : Int), .int .u64 ((lim M 2 : Nat) : Int), .int .u64 ((lim M 3 : Nat) : Int), .int .u64 ((lim M 4 : Nat) : Int), .int .u64 ((lim M 5 : Nat) : Int), .int .u64 ((lim M 6 : Nat) : Int), .int .u64 ((lim M 7 : Nat) : Int), .int .u64 ((lim M 8 : Nat) : Int)] 106)) ∧ w.heap.size < z.heap.size ∧ w.heap.size + 1 < z.heap.size ∧ w.heap.size + 2 < z.heap.size ∧ Hid (Below w.heap.size w z ∧ acK x k N M)) (fun kv _ => (321 - intOf kv).toNat)
 case atStart => exact ⟨0, x, M, _, rfl, aif ob ob ob (by rfl) (by rfl) (by rfl), sz, sz, sz, (pl (Below.refl _ _)), HI0.out⟩
 case round =>
  clear hcp HI0
  obtain ⟨k, N, M, z, rfl, rfl, q0, q1, q2, H⟩ := hrel
  have HB1 : Hid (Below w.heap.size w z) := H.out.1
  by_cases hk : k < 321
  · have hkz : (k : Int) < 321 := by omega
    have HK := Lib.hid hk
    clear hk
    by_cases hlt : N < M
    · have HBe := Lib.hid (ad1 N M true (acM H.out.2).1 (acM H.out.2).2 (decide_eq_true hlt))
      have HE := Lib.hid (agA H.out.2 HK.out hlt)
      have HMW := Lib.hid (acM H.out.2).2
      clear H hlt
      go_wp2_with fail
      refine (HBe.out _).mono ?_
      rintro e y2 ⟨rfl, hb2⟩
      obtain ⟨x2, rfl, hc2, hz2, kD, rQ, Gh⟩ := bZ (b0 := w.heap.size) (b1 := w.heap.size + 1) (b2 := w.heap.size + 2) hb2 rfl ob ob ob
      have HB2 := aZ HB1.out hc2
      clear hb2 hc2
      try simp only [ah] at hz2
      go_wp2_with fail
      refine (adl M HMW.out _).mono ?_
      rintro e y3 ⟨rfl, hb3⟩
      obtain ⟨x3, rfl, hc3, hz3, nN, uq, zn⟩ := bZ (b0 := w.heap.size) (b1 := w.heap.size + 1) (b2 := w.heap.size + 2) hb3 rfl ob ob ob
      have HB3 := aZ HB2.out hc3
      clear hb3 hc3
      try simp only [ah] at hz3
      go_wp2_with fail
      exact ⟨⟨k + 1, N, M / 2, x3, vi0 k, rfl, nN, uq, zn, HB3.out, HE.out⟩, tH 321 k HK.out⟩
    · have HBe := Lib.hid (ad1 N M false (acM H.out.2).1 (acM H.out.2).2 (decide_eq_false hlt))
      have HE := Lib.hid (ahu H.out.2 HK.out (by omega))
      have HMW := Lib.hid (acM H.out.2).2
      have WY := Lib.hid (show M ≤ N by omega)
      clear H hlt
      go_wp2_with fail
      refine (HBe.out _).mono ?_
      rintro e y2 ⟨rfl, hb2⟩
      obtain ⟨x2, rfl, hc2, hz2, kD, rQ, Gh⟩ := bZ (b0 := w.heap.size) (b1 := w.heap.size + 1) (b2 := w.heap.size + 2) hb2 rfl ob ob ob
      have HB2 := aZ HB1.out hc2
      clear hb2 hc2
      try simp only [ah] at hz2
      go_wp2_with fail
      refine (ah7 N M WY.out _).mono ?_
      rintro e y3 ⟨rfl, hb3⟩
      obtain ⟨x3, rfl, hc3, hz3, nN, uq, zn⟩ := bZ (b0 := w.heap.size) (b1 := w.heap.size + 1) (b2 := w.heap.size + 2) hb3 rfl ob ob ob
      have HB3 := aZ HB2.out hc3
      clear hb3 hc3
      try simp only [ah] at hz3
      go_wp2_with fail
      refine (adl M HMW.out _).mono ?_
      rintro e y4 ⟨rfl, hb4⟩
      obtain ⟨x4, rfl, hc4, lT, rU, yL, Dj⟩ := bZ (b0 := w.heap.size) (b1 := w.heap.size + 1) (b2 := w.heap.size + 2) hb4 rfl ob ob ob
      have HB4 := aZ HB3.out hc4
      clear hb4 hc4
      try simp only [ah] at lT
      go_wp2_with fail
      exact ⟨⟨k + 1, N - M, M / 2, x4, vi0 k, rfl, rU, yL, Dj, HB4.out, HE.out⟩, tH 321 k HK.out⟩
  · have hk' : k = 321 := by have := H.out.2.2.2.2; omega
    subst hk'
    have HE := Lib.hid (rest_end H.out.2)
    clear H
    go_wp2_with fail
    refine bodyPost_ret (v := Lv N) ?_ rfl ⟨by rw [HE.out], ?_⟩
    · simp [results, Tryd.results97, go_sem, q0, q1, q2]
    · exact (pl HB1.out)
end
section
open Go.RowKit Go.Proofs.YtbghdkmpjiffeaaDoorW.PrintLast
theorem adn : aB LO = [54253, 23797, 25370, 22546, 40150, 41719, 63966, 5342, 0, 0, 0, 0, 0, 0, 0, 4096] := by
 have h := kW [54253, 23797, 25370, 22546, 40150, 41719, 63966, 5342, 0, 0, 0, 0, 0, 0, 0, 4096] (by decide) (by decide)
 have e : oC [54253, 23797, 25370, 22546, 40150, 41719, 63966, 5342, 0, 0, 0, 0, 0, 0, 0, 4096] = LO := by decide
 rw [e] at h
 exact h
theorem ac4 (w : World)  :
 Calls Tryd.prog 30 #[] w fun e w' => (∃ A' c', e = .returned (.slice A' (aB (LO)).length c') ∧ Dn w' A' c' (LO)) ∧ Below w.heap.size w w' := by
 go_enter Tryd.func30, Tryd.ntmps30
 go_wp2
 go_ret
 refine ⟨⟨some ⟨w.heap.size, 0, none⟩, 16, ?_, ?_, ?_⟩, (pl (Below.refl _ _))⟩
 · rw [adn]; rfl
 · rw [adn]
   exact jC (alloc_at rfl) (by intro i hi; have hi' : i < 16 := hi; rcases i with _ | _ | _ | _ | _ | _ | _ | _ | _ | _ | _ | _ | _ | _ | _ | _ | i; all_goals first | rfl | omega)
 · rw [adn]; decide
theorem afR (l : Nat) (hl : l = LO) (w : World) : Calls Tryd.prog 30 #[] w fun e w' => (∃ A' c', e = .returned (.slice A' (aB (l)).length c') ∧ Dn w' A' c' (l)) ∧ Below w.heap.size w w' := by
 subst hl
 exact ac4 w
end
end Go.Proofs.YtbghdkmpjiffeaaDoor
