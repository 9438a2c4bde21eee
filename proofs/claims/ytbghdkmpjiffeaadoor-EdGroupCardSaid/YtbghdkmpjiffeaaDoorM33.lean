/-
  Shared, part 33: walks and plain laws; each theorem states its own conditions.
-/
import Derived.Test.YtbghdkmpjiffeaaDoorM32
import Derived.Test.YtbghdkmpjiffeaaDoorM26
import Derived.Laws.CopyRow
import Derived.Lib.Hide
import Derived.StillTailTactics
namespace Go.Proofs.YtbghdkmpjiffeaaDoor
set_option linter.unusedSimpArgs false
set_option linter.unusedVariables false
set_option maxRecDepth 100000
set_option maxHeartbeats 8000000
section
open Go.RowKit Go.Proofs.YtbghdkmpjiffeaaDoorW.PrintLast
theorem DX (A B : Option Addr) (c d X Y Z : Nat) (hx : X < Num.p) (hy : Y < Num.p) (hz : Z = (X + Y) % Num.p) (w : World) (hX : Dn w A c X) (hY : Dn w B d Y) :
 Calls Tryd.prog 61 #[.slice A (aB X).length c, .slice B (aB Y).length d] w fun e w' => (∃ A' c', e = .returned (.slice A' (aB Z).length c') ∧ Dn w' A' c' Z) ∧ Below w.heap.size w w' := by
 subst hz
 exact Rw A B c d X Y hx hy w hX hY
theorem Gu (A B : Option Addr) (c d X Y Z : Nat) (hx : X < Num.p) (hy : Y < Num.p) (hz : Z = (X + (Num.p - Y)) % Num.p) (w : World) (hX : Dn w A c X) (hY : Dn w B d Y) :
 Calls Tryd.prog 60 #[.slice A (aB X).length c, .slice B (aB Y).length d] w fun e w' => (∃ A' c', e = .returned (.slice A' (aB Z).length c') ∧ Dn w' A' c' Z) ∧ Below w.heap.size w w' := by
 subst hz
 exact Gv A B c d X Y hx hy w hX hY
theorem iC {z n : Nat} (h : z = n % Num.p) : z < Num.p := by rw [h]; exact Nat.mod_lt _ gJ
structure Dp where
 A : Option Addr
 a : Nat
 x : Nat
 B : Option Addr
 b : Nat
 y : Nat
 C : Option Addr
 c : Nat
 z : Nat
abbrev Dp.v (p : Dp) : Value := .agg #[.slice p.A (aB p.x).length p.a, .slice p.B (aB p.y).length p.b, .slice p.C (aB p.z).length p.c]
structure Dp.ok (p : Dp) (w : World) : Prop where
 x : Dn w p.A p.a p.x
 y : Dn w p.B p.b p.y
 z : Dn w p.C p.c p.z
theorem Dp.ok.next {p : Dp} {w w' : World} (h : p.ok w) (hb : Below w.heap.size w w') : p.ok w' := ⟨h.x.next hb, h.y.next hb, h.z.next hb⟩
structure Dp.lt (p : Dp) : Prop where
 x : p.x < Num.p
 y : p.y < Num.p
 z : p.z < Num.p
def Dp.of (p : Dp) (P : EP) : Prop := p.lt ∧ WO (fe p.x) (fe p.y) (fe p.z) P
end
section
open Go.RowKit Go.Proofs.YtbghdkmpjiffeaaDoorW.PrintLast
theorem qO {X Y : Nat} (h : Y < Num.p) : fe ((X + (Num.p - Y)) % Num.p) = fe X - fe Y := by rw [dA, XO h]
theorem adP : aB dN = [30883, 4953, 19914, 30187, 55467, 16705, 2637, 112, 59544, 30585, 16505, 36039, 65139, 11119, 27886, 20995] := by
 have h := kW [30883, 4953, 19914, 30187, 55467, 16705, 2637, 112, 59544, 30585, 16505, 36039, 65139, 11119, 27886, 20995] (by decide) (by decide)
 have e : oC [30883, 4953, 19914, 30187, 55467, 16705, 2637, 112, 59544, 30585, 16505, 36039, 65139, 11119, 27886, 20995] = dN := by decide
 rw [e] at h
 exact h
theorem KP : 1 < Num.p := by decide
theorem aco : fe 1 ≠ 0 := nI.mpr (by decide)
theorem IB {w : World} {g n : Nat} {l : List Nat} {t : TypeId} (hn : aB n = l) (hl : l.length = 16) (h : w.heap[g]? = some (.cells (l.map fun x => Value.int .u64 ((x : Nat) : Int)).toArray t)) : Dn w (some ⟨g, 0, none⟩) 16 n := by
 refine ⟨?_, by rw [hn]; omega⟩
 rw [hn]
 exact jC h (fun i hi => by simp [hi])
theorem D7 (w : World) :
 Calls Tryd.prog 24 #[] w fun e w' => (∃ A' c', e = .returned (.slice A' (aB dN).length c') ∧ Dn w' A' c' dN) ∧ Below w.heap.size w w' := by
 go_enter Tryd.func24, Tryd.ntmps24
 go_wp2
 go_ret
 refine ⟨⟨some ⟨w.heap.size, 0, none⟩, 16, ?_, IB adP rfl (alloc_at rfl)⟩, (pl (Below.refl _ _))⟩
 rw [adP]; rfl
end
section
open Go.RowKit Go.Proofs.YtbghdkmpjiffeaaDoorW.PrintLast
theorem Rd.oI {x : World} {g : Nat} {o' : Obj} {k : IntKind} {A A1 A2 A3 : Option Addr} {n1 n2 n3 c1 c2 c3 : Nat} {xs : List Nat} (hg : g < x.heap.size) (h : Rd (x.pin g (.cells #[.slice A1 n1 c1, .slice A2 n2 c2, .slice A3 n3 c3] 34)) k A xs) : Rd (x.pin g o') k A xs := fun i hi => by
 obtain ⟨b, off, e, hc⟩ := h i hi
 refine ⟨b, off, e, ?_⟩
 by_cases hb : b = g
 · exfalso
   subst hb
   have h1 := eY (o := .cells #[.slice A1 n1 c1, .slice A2 n2 c2, .slice A3 n3 c3] 34) hg
   simp only [World.cell?, h1] at hc
   generalize off + i = j at hc
   rcases j with _ | _ | _ | j <;> simp at hc
 · rw [jM hb] at hc ⊢
   exact hc
theorem Dn.oI {x : World} {g : Nat} {o' : Obj} {A A1 A2 A3 : Option Addr} {c n n1 n2 n3 c1 c2 c3 : Nat} (h : Dn (x.pin g (.cells #[.slice A1 n1 c1, .slice A2 n2 c2, .slice A3 n3 c3] 34)) A c n) (hg : g < x.heap.size) : Dn (x.pin g o') A c n := ⟨Rd.oI hg h.1, h.2⟩
theorem Dp.ok.oI {x : World} {g : Nat} {o' : Obj} {p : Dp} {A1 A2 A3 : Option Addr} {n1 n2 n3 c1 c2 c3 : Nat} (h : p.ok (x.pin g (.cells #[.slice A1 n1 c1, .slice A2 n2 c2, .slice A3 n3 c3] 34))) (hg : g < x.heap.size) : p.ok (x.pin g o') := ⟨h.x.oI hg, h.y.oI hg, h.z.oI hg⟩
theorem qA (x : World) {a b : Nat} (h : a ≠ b) {o o' : Obj} : (x.pin a o).pin b o' = (x.pin b o').pin a o := by
 simp only [World.pin]
 congr 1
 exact Array.setIfInBounds_comm _ _ h
theorem OC (p : Dp) (lp : p.lt) (z : Nat) (Hz : Hid (z = (Num.p - p.x) % Num.p)) (w : World) (hp : p.ok w) :
 Calls Tryd.prog 26 #[p.v] w fun e w' => (∃ o : Dp, e = .returned o.v ∧ o.ok w' ∧ o.x = z ∧ o.y = p.y ∧ o.z = p.z) ∧ Below w.heap.size w w' := by
 have HP := Lib.hid hp
 have pX := Lib.hid lp
 clear hp lp
 go_enter Tryd.func26, Tryd.ntmps26
 go_wp2_with fail
 refine (LZ _ _ p.x z pX.out.x Hz.out _ rfl _ (HP.out.next (pl (Below.refl _ _))).x).mono ?_
 rintro e y1 ⟨⟨R1, r1, rfl, hr1⟩, hb1⟩
 replace HP := Lib.hid (HP.out.next (bt hb1))
 obtain ⟨x1, rfl, hc1, hz1, l10, nG⟩ := fO (b0 := w.heap.size) (b1 := w.heap.size + 1) hb1 rfl ob ob
 have HB1 : Hid (Below w.heap.size w x1) := Below.trans (pl (Below.refl _ _)) (hc1.mono sz)
 clear hb1 hc1
 try simp only [bF] at hz1
 have HR1 := Lib.hid hr1
 clear hr1
 go_wp2_with fail
 have HF : ∀ o1 o2 : Obj, Hid (Dn ((x1.pin w.heap.size o1).pin (w.heap.size + 1) o2) R1 r1 z ∧ p.ok ((x1.pin w.heap.size o1).pin (w.heap.size + 1) o2)) := fun o1 o2 => Lib.hid ⟨by
  have h := HR1.out.oI (o' := o2) sz
  rw [qA _ (Nat.ne_of_lt (Nat.lt_succ_self _))] at h ⊢
  exact h.oI sz, by
  have h := HP.out.oI (o' := o2) sz
  rw [qA _ (Nat.ne_of_lt (Nat.lt_succ_self _))] at h ⊢
  exact h.oI sz⟩
 exact bodyPost_ret (v := .agg #[.slice R1 (aB z).length r1, .slice p.B (aB p.y).length p.b, .slice p.C (aB p.z).length p.c]) (fA rfl rfl (bC 34 (w.heap.size + 1) #[.slice R1 (aB z).length r1, .slice p.B (aB p.y).length p.b, .slice p.C (aB p.z).length p.c] 34 (by kernel_rfl) (by kernel_rfl) (eY sz))) rfl ⟨⟨⟨R1, r1, z, p.B, p.b, p.y, p.C, p.c, p.z⟩, rfl, ⟨(HF _ _).out.1, (HF _ _).out.2.y, (HF _ _).out.2.z⟩, rfl, rfl, rfl⟩, pl HB1.out⟩
theorem Y3 (v m : Nat) : (((v : Int) / 2 ^ m).tmod 2 == 1) = decide (v / 2 ^ m % 2 = 1) := by
 have h1 : (v : Int) / 2 ^ m = ((v / 2 ^ m : Nat) : Int) := by rw [Int.natCast_ediv, Int.natCast_pow]; rfl
 rw [h1, Int.tmod_eq_emod_of_nonneg (Int.natCast_nonneg _)]
 generalize v / 2 ^ m = q
 rw [Bool.eq_iff_iff]
 simp only [beq_iff_eq, decide_eq_true_eq]
 omega
theorem Hr (A : Option Addr) (c : Nat) (ns : List Nat) (i : Nat) (hi : i ≤ 8000) (h : i / 8 < ns.length) (hby : ∀ z ∈ ns, z < 256) (w : World) (hr : Rd w .u8 A ns) :
 Calls Tryd.prog 64 #[.slice A ns.length c, .int .i64 (i : Int)] w fun e w' => e = .returned (.bool (decide (ns.getD (i / 8) 0 / 2 ^ (i % 8) % 2 = 1))) ∧ Below w.heap.size w w' := by
 obtain ⟨gb, off, rfl, hgb, hc⟩ := hr.place (by omega)
 obtain ⟨k, hk⟩ : ∃ k, k = i / 8 := ⟨_, rfl⟩
 obtain ⟨m, hm⟩ : ∃ m, m = i % 8 := ⟨_, rfl⟩
 have hm8 : m < 8 := by omega
 rw [← hk] at h ⊢
 rw [← hm]
 obtain ⟨v, hv⟩ : ∃ z, z = ns.getD k 0 := ⟨_, rfl⟩
 have hcell := hc k h
 rw [show ns[k] = v by rw [hv, List.getD_eq_getElem?_getD, List.getElem?_eq_getElem h]; rfl] at hcell
 rw [← hv]
 have e1 : (i : Int) / 8 = (k : Int) := by omega
 have e2 : (i : Int) % 8 = (m : Int) := by omega
 have e3 : eX (m : Int) = (m : Int) := by unfold eX; rw [IntKind.wrap_u64]; omega
 have hkI : (k : Int) < (ns.length : Int) := by omega
 have ZG : v < 256 := by rw [hv]; exact getD_lt rfl hby k h
 have HI := Lib.hid (And.intro hk hm)
 clear hc hr hv hk hm hby
 go_enter Tryd.func64, Tryd.ntmps64
 go_wp2_with fail
 have e4 := Y3 v m
 exact bodyPost_ret (v := .bool (decide (v / 2 ^ m % 2 = 1))) (by simp [results, Tryd.results64, go_sem, e4]) rfl ⟨rfl, pl (Below.refl _ _)⟩
theorem Ho (A : Option Addr) (c : Nat) (ns : List Nat) (i : Nat) (hi : i ≤ 8000) (h : ns.length ≤ i / 8) (w : World) :
 Calls Tryd.prog 64 #[.slice A ns.length c, .int .i64 (i : Int)] w fun e w' => e = .returned (.bool false) ∧ Below w.heap.size w w' := by
 have e1 : ¬ (i : Int) / 8 < (ns.length : Int) := by omega
 go_enter Tryd.func64, Tryd.ntmps64
 go_wp2_with fail
 exact bodyPost_ret (v := .bool false) (by simp [results, Tryd.results64, go_sem]) rfl ⟨rfl, pl (Below.refl _ _)⟩
theorem digit_eq (A : Option Addr) (c : Nat) (ns : List Nat) (i : Nat) (hi : i ≤ 8000) (hby : ∀ z ∈ ns, z < 256) (w : World) (hr : Rd w .u8 A ns) : Calls Tryd.prog 64 #[.slice A ns.length c, .int .i64 (i : Int)] w fun e w' => e = .returned (.bool (decide (bW ns / 2 ^ i % 2 = 1))) ∧ Below w.heap.size w w' := by
 by_cases h : i / 8 < ns.length
 · have h1 := Hr A c ns i hi h hby w hr
   rw [xA ns hby i h, show ns[i / 8] = ns.getD (i / 8) 0 by rw [List.getD_eq_getElem?_getD, List.getElem?_eq_getElem h]; rfl]
   exact h1
 · have h1 := Ho A c ns i hi (by omega) w
   have h2 : bW ns / 2 ^ i = 0 := Nat.div_eq_of_lt (Nat.lt_of_lt_of_le (oD ns hby) (by rw [show (256 : Nat) = 2 ^ 8 from rfl, ← Nat.pow_mul]; exact Nat.pow_le_pow_right (by decide) (by omega)))
   rw [h2]
   exact h1
theorem Xw (p : Dp) (P : EP) (hp : p.of P) (w : World) (kp : p.ok w) : Calls Tryd.prog 26 #[p.v] w fun e w' => (∃ o : Dp, e = .returned o.v ∧ o.ok w' ∧ o.of (-P)) ∧ Below w.heap.size w w' := by
 obtain ⟨z, hz⟩ : ∃ z, z = (Num.p - p.x) % Num.p := ⟨_, rfl⟩
 refine (OC p hp.1 z (Lib.hid hz) w kp).mono ?_
 rintro e w' ⟨⟨o, rfl, hok, h1, h2, h3⟩, hbl⟩
 refine ⟨⟨o, rfl, hok, ⟨⟨by rw [h1]; exact iC hz, by rw [h2]; exact hp.1.y, by rw [h3]; exact hp.1.z⟩, ?_⟩⟩, hbl⟩
 have h := Xu P hp.2
 have e1 : fe z = -fe p.x := by
  have := qO (X := 0) hp.1.x
  rw [Nat.zero_add, jc] at this
  rw [hz, this, ← lG, jI, jc]
 rw [h1, h2, h3, e1]
 exact h
end
section
open Go.RowKit Go.Proofs.YtbghdkmpjiffeaaDoorW.PrintLast
abbrev LO : Nat := 7237005577332262213973186563042994240857116359379907606001950938285454250989
def DW (w : World) : Prop := ∀ j, j < 4 → w.cell? ⟨5, j, none⟩ = some (.int .u64 ((lim LO j : Nat) : Int))
theorem DW.next {w w' : World} (h : DW w) (hb : Below w.heap.size w w') : DW w' := fun j hj => (hb.cell (p := ⟨5, j, none⟩) (World.block_lt_of_cell? w _ (h j hj))).trans (h j hj)
theorem DW.mono {w w' : World} (h : DW w) {B : Nat} (hb : Below B w w') (hB : w.heap.size ≤ B) : DW w' := fun j hj => (hb.cell (p := ⟨5, j, none⟩) (Nat.lt_of_lt_of_le (World.block_lt_of_cell? w _ (h j hj)) hB)).trans (h j hj)
end
end Go.Proofs.YtbghdkmpjiffeaaDoor
