/-
  Shared, part 51: walks and plain laws; each theorem states its own conditions.
-/
import Derived.Test.YtehfkbaendajbaaGreatDoorB20
import Derived.Test.YtehfkbaendajbaaGreatDoorB43
import Derived.Test.YtehfkbaendajbaaGreatDoorB50
import Derived.IntWalk
import Derived.Lib.Hide
import Derived.StillTailTactics
namespace Go.Proofs.YtehfkbaendajbaaGreatDoor
set_option linter.unusedSimpArgs false
set_option linter.unusedVariables false
set_option maxRecDepth 100000
set_option maxHeartbeats 8000000
section
open Go.RowKit Go.Proofs.YtehfkbaendajbaaGreatDoorW.PrintLast
theorem chD (e f g : Nat) (he : e < 18446744073709551616) (hf : f < 18446744073709551616) (hg : g < 18446744073709551616) : bits .or .u64 (bits .and .u64 (e : Int) (f : Int)) (bits .and .u64 (bits .xor .u64 IntKind.u64.max (e : Int)) (g : Int)) = ((e &&& f ^^^ (2 ^ 64 - 1 - e) &&& g : Nat) : Int) := by
 have hm : IntKind.u64.max = (((18446744073709551616 - 1 : Nat)) : Int) := by decide
 rw [hm, Gz e f he hf, zD (18446744073709551616 - 1) e (by decide) he, afm e he, Gz _ g (by omega) hg, afo _ _ (nZ he) (nZ (by omega))]
 congr 1
 apply Nat.eq_of_testBit_eq
 intro i
 have h1 := Nat.testBit_two_pow_sub_succ (n := 64) he i
 rw [show (2 : Nat) ^ 64 - (e + 1) = 18446744073709551616 - 1 - e by omega] at h1
 rw [show (2 : Nat) ^ 64 - 1 - e = 18446744073709551616 - 1 - e from rfl, Nat.testBit_or, Nat.testBit_xor, Nat.testBit_and, Nat.testBit_and, h1]
 cases e.testBit i <;> simp
theorem asF (a b c : Nat) (ha : a < 18446744073709551616) (hb : b < 18446744073709551616) (hc : c < 18446744073709551616) : bits .or .u64 (bits .or .u64 (bits .and .u64 (a : Int) (b : Int)) (bits .and .u64 (a : Int) (c : Int))) (bits .and .u64 (b : Int) (c : Int)) = ((a &&& b ^^^ a &&& c ^^^ b &&& c : Nat) : Int) := by
 rw [Gz a b ha hb, Gz a c ha hc, Gz b c hb hc, afo _ _ (nZ ha) (nZ ha), afo _ _ (YF (nZ ha) (nZ ha)) (nZ hb)]
 congr 1
 apply Nat.eq_of_testBit_eq
 intro i
 simp only [Nat.testBit_or, Nat.testBit_xor, Nat.testBit_and]
 cases a.testBit i <;> cases b.testBit i <;> cases c.testBit i <;> rfl
structure ar0 (v : V8) (k x s1 s0 ch mj q1 q2 q3 q4 p1 p2 p3 : Nat) : Prop where
 ec : bits .or .u64 (bits .and .u64 (v.e : Int) (v.f : Int)) (bits .and .u64 (bits .xor .u64 IntKind.u64.max (v.e : Int)) (v.g : Int)) = (ch : Int)
 em : bits .or .u64 (bits .or .u64 (bits .and .u64 (v.a : Int) (v.b : Int)) (bits .and .u64 (v.a : Int) (v.c : Int))) (bits .and .u64 (v.b : Int) (v.c : Int)) = (mj : Int)
 f1 : IntKind.u64.wrap ((v.h : Int) + (s1 : Int)) = (q1 : Int)
 f2 : IntKind.u64.wrap ((q1 : Int) + (ch : Int)) = (q2 : Int)
 f3 : IntKind.u64.wrap ((q2 : Int) + (k : Int)) = (q3 : Int)
 f4 : IntKind.u64.wrap ((q3 : Int) + (x : Int)) = (q4 : Int)
 f5 : IntKind.u64.wrap ((q4 : Int) + (s0 : Int)) = (p1 : Int)
 f6 : IntKind.u64.wrap ((p1 : Int) + (mj : Int)) = (p2 : Int)
 f7 : IntKind.u64.wrap ((v.d : Int) + (q4 : Int)) = (p3 : Int)
 g1 : eX ((v.h : Int) + (s1 : Int)) = (q1 : Int)
 g2 : eX ((q1 : Int) + (ch : Int)) = (q2 : Int)
 g3 : eX ((q2 : Int) + (k : Int)) = (q3 : Int)
 g4 : eX ((q3 : Int) + (x : Int)) = (q4 : Int)
 res : xP aV v k x = ⟨p2, v.a, v.b, v.c, p3, v.e, v.f, v.g⟩
theorem an8 (v : V8) (k x s1 s0 : Nat) (hv : v.lt 64) (h1 : s1 = zy 64 v.e (14, 18, 41)) (h0 : s0 = zy 64 v.a (28, 34, 39)) : ∃ ch mj q1 q2 q3 q4 p1 p2 p3, ar0 v k x s1 s0 ch mj q1 q2 q3 q4 p1 p2 p3 := by
 obtain ⟨ch, hch⟩ : ∃ z, z = (v.e &&& v.f ^^^ (2 ^ 64 - 1 - v.e) &&& v.g) := ⟨_, rfl⟩
 obtain ⟨mj, hmj⟩ : ∃ z, z = (v.a &&& v.b ^^^ v.a &&& v.c ^^^ v.b &&& v.c) := ⟨_, rfl⟩
 have hw : ∀ a b : Nat, eX ((a : Int) + (b : Int)) = (((a + b) % 2 ^ 64 : Nat) : Int) := fun a b => amc a b
 have hx : shX aV v k x = ((((v.h + s1) % 2 ^ 64 + ch) % 2 ^ 64 + k) % 2 ^ 64 + x) % 2 ^ 64 := by
  show (v.h + zy 64 v.e (14, 18, 41) + (v.e &&& v.f ^^^ (2 ^ 64 - 1 - v.e) &&& v.g) + k + x) % 2 ^ 64 = _
  rw [← h1, ← hch]
  omega
 have hy : shY aV v = s0 + mj := by
  show zy 64 v.a (28, 34, 39) + (v.a &&& v.b ^^^ v.a &&& v.c ^^^ v.b &&& v.c) = _
  rw [← h0, ← hmj]
 have hr : xP aV v k x = ⟨((shX aV v k x + s0) % 2 ^ 64 + mj) % 2 ^ 64, v.a, v.b, v.c, (v.d + shX aV v k x) % 2 ^ 64, v.e, v.f, v.g⟩ := by
  show V8.mk ((shX aV v k x + shY aV v) % 2 ^ 64) _ _ _ _ _ _ _ = _
  rw [hy]
  congr 1
  omega
 rw [hx] at hr
 exact ⟨ch, mj, _, _, _, _, _, _, _, { ec := by rw [hch]; exact chD _ _ _ hv.2.2.2.2.1 hv.2.2.2.2.2.1 hv.2.2.2.2.2.2.1, em := by rw [hmj]; exact asF _ _ _ hv.1 hv.2.1 hv.2.2.1, f1 := amc _ _, f2 := amc _ _, f3 := amc _ _, f4 := amc _ _, f5 := amc _ _, f6 := amc _ _, f7 := amc _ _, g1 := hw _ _, g2 := hw _ _, g3 := hw _ _, g4 := hw _ _, res := hr }⟩
theorem apC (g c : Nat) (v : V8) (k x : Nat) (hv : v.lt 64) (hk : k < 18446744073709551616) (hx : x < 18446744073709551616) (w : World) (hg : g < w.heap.size) (hr : ∀ i, i < 8 → w.cell? ⟨g, i, none⟩ = some (.int .u64 (v.at i : Int))) :
 Calls Tryz.prog 90 #[.agg #[.int .u64 0, .int .u64 64], .slice (some ⟨g, 0, none⟩) 8 c, .int .u64 k, .int .u64 x] w fun e w' => (∃ b, w.heap.size ≤ b ∧ e = .returned (.slice (some ⟨b, 0, none⟩) 8 8) ∧ w'.heap[b]? = some (.cells ((xP aV v k x).cs .u64) 34)) ∧ Below w.heap.size w w' := by
 obtain ⟨s1, hs1⟩ : ∃ z, z = zy 64 v.e (14, 18, 41) := ⟨_, rfl⟩
 obtain ⟨s0, hs0⟩ : ∃ z, z = zy 64 v.a (28, 34, 39) := ⟨_, rfl⟩
 have C1 : Hid (∀ w, Calls Tryz.prog 117 #[.agg #[.int .u64 0, .int .u64 64], .int .u64 v.e, .int .u64 14, .int .u64 18, .int .u64 41] w fun e w' => e = .returned (.int .u64 (s1 : Int)) ∧ Below w.heap.size w w') := Lib.hid (by rw [hs1]; exact ap4 v.e 14 18 41 hv.2.2.2.2.1 (by decide))
 have C0 : Hid (∀ w, Calls Tryz.prog 117 #[.agg #[.int .u64 0, .int .u64 64], .int .u64 v.a, .int .u64 28, .int .u64 34, .int .u64 39] w fun e w' => e = .returned (.int .u64 (s0 : Int)) ∧ Below w.heap.size w w') := Lib.hid (by rw [hs0]; exact ap4 v.a 28 34 39 hv.1 (by decide))
 have hc0 := hr 0 (by decide)
 have hc1 := hr 1 (by decide)
 have hc2 := hr 2 (by decide)
 have hc4 := hr 4 (by decide)
 have hc5 := hr 5 (by decide)
 have hc6 := hr 6 (by decide)
 simp only [V8.at] at hc0 hc1 hc2 hc4 hc5 hc6
 have HR := Lib.hid hr
 have HV := Lib.hid hv
 have HKX := Lib.hid (And.intro hk hx)
 obtain ⟨ch, mj, q1, q2, q3, q4, p1, p2, p3, hF⟩ := an8 v k x s1 s0 hv hs1 hs0
 have HF := Lib.hid hF
 clear hr hv hk hx hs1 hs0 hF
 go_enter Tryz.func90, Tryz.ntmps90
 go_wp2_with fail
 refine aac w [(w.heap.size, .cells #[.int .u64 0, .int .u64 64] 106)] [.is (.slice (some ⟨g, 0, none⟩) 8 c), .is (.pointer (some ⟨g, 0, none⟩)), .is (.int .u64 (v.a : Int)), .is (.slice (some ⟨g, 0, none⟩) 8 c), .is (.pointer (some ⟨g, 1, none⟩)), .is (.int .u64 (v.b : Int)), .is (.slice (some ⟨g, 0, none⟩) 8 c), .is (.pointer (some ⟨g, 2, none⟩)), .is (.int .u64 (v.c : Int)), .is (.slice (some ⟨g, 0, none⟩) 8 c), .is (.pointer (some ⟨g, 4, none⟩)), .is (.int .u64 (v.e : Int)), .is (.slice (some ⟨g, 0, none⟩) 8 c), .is (.pointer (some ⟨g, 5, none⟩)), .is (.int .u64 (v.f : Int)), .is (.slice (some ⟨g, 0, none⟩) 8 c), .is (.pointer (some ⟨g, 6, none⟩)), .is (.int .u64 (v.g : Int)), .is (.int .u64 (v.a : Int)), .is (.int .u64 (v.b : Int)), .is (.int .u64 (v.c : Int)), .is (.int .u64 (v.e : Int)), .is (.int .u64 (v.f : Int)), .is (.int .u64 (v.g : Int))] [some 20, some 21, some 22, some 23, some 24, some 25, some 26, some 27, some 28, some 29, some 30, some 31, some 32, some 33, some 34, some 35, some 36, some 37, some 9, some 10, some 11, some 12, some 13, some 14] [(1, .slice (some ⟨g, 0, none⟩) 8 c)] 37 (ak (b := w.heap.size) ob (aO (pl (Below.refl _ _)))) (fun a0 hc => ⟨abp hc [(1, none)], abp hc [(20, some 0)], abp hc [(21, some 1)] (h := by intro ρ a w hr hk; simp only [aaf, aan, valOf, Sp.val, aae, List.getElem?_cons_zero, List.getElem?_cons_succ, Nat.reduceBEq, cond_true, cond_false] at hr; (repeat (obtain ⟨_, hr⟩ := hr)); have hA := (hk.1.cell (p := ⟨g, 0, none⟩) hg).trans hc0; clear hk; refine ⟨rfl, ?_⟩; go_simp; first | done | rfl), abp hc [(1, none)], abp hc [(23, some 3)], abp hc [(24, some 4)] (h := by intro ρ a w hr hk; simp only [aaf, aan, valOf, Sp.val, aae, List.getElem?_cons_zero, List.getElem?_cons_succ, Nat.reduceBEq, cond_true, cond_false] at hr; (repeat (obtain ⟨_, hr⟩ := hr)); have hA := (hk.1.cell (p := ⟨g, 1, none⟩) hg).trans hc1; clear hk; refine ⟨rfl, ?_⟩; go_simp; first | done | rfl), abp hc [(1, none)], abp hc [(26, some 6)], abp hc [(27, some 7)] (h := by intro ρ a w hr hk; simp only [aaf, aan, valOf, Sp.val, aae, List.getElem?_cons_zero, List.getElem?_cons_succ, Nat.reduceBEq, cond_true, cond_false] at hr; (repeat (obtain ⟨_, hr⟩ := hr)); have hA := (hk.1.cell (p := ⟨g, 2, none⟩) hg).trans hc2; clear hk; refine ⟨rfl, ?_⟩; go_simp; first | done | rfl), abp hc [(1, none)], abp hc [(29, some 9)], abp hc [(30, some 10)] (h := by intro ρ a w hr hk; simp only [aaf, aan, valOf, Sp.val, aae, List.getElem?_cons_zero, List.getElem?_cons_succ, Nat.reduceBEq, cond_true, cond_false] at hr; (repeat (obtain ⟨_, hr⟩ := hr)); have hA := (hk.1.cell (p := ⟨g, 4, none⟩) hg).trans hc4; clear hk; refine ⟨rfl, ?_⟩; go_simp; first | done | rfl), abp hc [(1, none)], abp hc [(32, some 12)], abp hc [(33, some 13)] (h := by intro ρ a w hr hk; simp only [aaf, aan, valOf, Sp.val, aae, List.getElem?_cons_zero, List.getElem?_cons_succ, Nat.reduceBEq, cond_true, cond_false] at hr; (repeat (obtain ⟨_, hr⟩ := hr)); have hA := (hk.1.cell (p := ⟨g, 5, none⟩) hg).trans hc5; clear hk; refine ⟨rfl, ?_⟩; go_simp; first | done | rfl), abp hc [(1, none)], abp hc [(35, some 15)], abp hc [(36, some 16)] (h := by intro ρ a w hr hk; simp only [aaf, aan, valOf, Sp.val, aae, List.getElem?_cons_zero, List.getElem?_cons_succ, Nat.reduceBEq, cond_true, cond_false] at hr; (repeat (obtain ⟨_, hr⟩ := hr)); have hA := (hk.1.cell (p := ⟨g, 6, none⟩) hg).trans hc6; clear hk; refine ⟨rfl, ?_⟩; go_simp; first | done | rfl), abp hc [(22, some 2)], abp hc [(25, some 5)], abp hc [(28, some 8)], abp hc [(31, some 11)], abp hc [(34, some 14)], abp hc [(37, some 17)], trivial⟩) ?_ ⟨rfl, trivial⟩ (by simp) (by kernel_rfl) rfl rfl rfl rfl rfl (by kernel_rfl)
 intro ρ w' HK HO HN aC HW0
 simp only [ae7, ae8, valOf, Sp.val, List.getElem?_cons_zero, List.getElem?_cons_succ, Act.put, List.setIfInBounds_toArray, List.set_cons_zero, List.set_cons_succ]
 clear HO HN
 clear ρ
 have gI : Keeps w [(w.heap.size, .cells #[.int .u64 0, .int .u64 64] 106)] w' := HK
 obtain ⟨x1, rfl, hk1, hz1, l10⟩ := gI.jE
 have HB1 : Hid (Below w.heap.size w x1) := hk1.below
 clear HK aC gI hk1
 clear HW0
 clear hc0 hc1 hc2 hc4 hc5 hc6
 go_wp2_with fail
 refine (C1.out _).mono ?_
 rintro e y2 ⟨rfl, hb2⟩
 obtain ⟨x2, rfl, hc2, hz2, kD⟩ := bQ (b := w.heap.size) hb2 rfl ob
 have HB2 := aZ HB1.out hc2
 clear hb2 hc2
 try simp only [eF] at hz2
 go_wp2_with fail
 refine (C0.out _).mono ?_
 rintro e y3 ⟨rfl, hb3⟩
 obtain ⟨x3, rfl, hc3, hz3, nN⟩ := bQ (b := w.heap.size) hb3 rfl ob
 have HB3 := aZ HB2.out hc3
 clear hb3 hc3
 try simp only [eF] at hz3
 go_wp2_with fail
 refine (an2 _ _).mono ?_
 rintro e y4 ⟨rfl, hb4⟩
 obtain ⟨x4, rfl, hc4, lT, rU⟩ := bQ (b := w.heap.size) hb4 rfl ob
 have HB4 := aZ HB3.out hc4
 clear hb4 hc4
 try simp only [eF] at lT
 have Ef : x4.cell? ⟨g, 7, none⟩ = some (.int .u64 (v.h : Int)) := (HB4.out.cell (p := ⟨g, 7, none⟩) hg).trans (HR.out 7 (by decide))
 have ec := HF.out.ec
 have em := HF.out.em
 have g1 := HF.out.g1
 have g2 := HF.out.g2
 have g3 := HF.out.g3
 have g4 := HF.out.g4
 go_wp2_with fail
 clear Ef ec em g1 g2 g3 g4
 have hc3 : w.cell? ⟨g, 3, none⟩ = some (.int .u64 (v.d : Int)) := HR.out 3 (by decide)
 have f5 := HF.out.f5
 have f6 := HF.out.f6
 have f7 := HF.out.f7
 refine aac w [(w.heap.size, .cells #[.int .u64 0, .int .u64 64] 106)] [.is (.agg #[.int .u64 0, .int .u64 64]), .is (.int .u64 (q4 : Int)), .is (.int .u64 (s0 : Int)), .is (.int .u64 (p1 : Int)), .is (.int .u64 (mj : Int)), .is (.int .u64 (p2 : Int)), .is (.int .u64 (p2 : Int)), .is (.int .u64 (v.a : Int)), .is (.int .u64 (v.b : Int)), .is (.int .u64 (v.c : Int)), .is (.agg #[.int .u64 0, .int .u64 64]), .is (.slice (some ⟨g, 0, none⟩) 8 c), .is (.pointer (some ⟨g, 3, none⟩)), .is (.int .u64 (v.d : Int)), .is (.int .u64 (q4 : Int)), .is (.int .u64 (p3 : Int)), .is (.int .u64 (p3 : Int)), .is (.int .u64 (v.e : Int)), .is (.int .u64 (v.f : Int)), .is (.int .u64 (v.g : Int)), .new (fun p => .slice (some ⟨p, 0, none⟩) 8 8) (.cells (V8.cs .u64 ⟨p2, v.a, v.b, v.c, p3, v.e, v.f, v.g⟩) 34), .over 20 (fun p => .slice (some ⟨p, 0, none⟩) 8 8)] [some 87, some 88, some 89, some 90, some 91, some 92, some 93, some 94, some 95, some 96, some 97, some 98, some 99, some 100, some 101, some 102, some 103, some 104, some 105, some 106, some 107, some 8] [(1, .slice (some ⟨g, 0, none⟩) 8 c), (4, .pointer (some ⟨w.heap.size, 0, none⟩)), (9, .int .u64 (v.a : Int)), (10, .int .u64 (v.b : Int)), (11, .int .u64 (v.c : Int)), (12, .int .u64 (v.e : Int)), (13, .int .u64 (v.f : Int)), (14, .int .u64 (v.g : Int)), (16, .int .u64 (s0 : Int)), (18, .int .u64 (mj : Int)), (19, .int .u64 (q4 : Int))] 107 (ak (b := w.heap.size) ob (aO (pl HB4.out))) (fun a0 hc => ⟨adg hc 4 w.heap.size, abp hc [(19, none)], abp hc [(16, none)], abp hc [(88, some 1), (89, some 2)], abp hc [(18, none)], abp hc [(90, some 3), (91, some 4)], abP hc [(87, some 0), (92, some 5)] Tryz.func91 (fun _ HK => an2 _ _), abp hc [(9, none)], abp hc [(10, none)], abp hc [(11, none)], adg hc 4 w.heap.size, abp hc [(1, none)], abp hc [(98, some 11)], abp hc [(99, some 12)] (h := by intro ρ a w hr hk; simp only [aaf, aan, valOf, Sp.val, aae, List.getElem?_cons_zero, List.getElem?_cons_succ, Nat.reduceBEq, cond_true, cond_false] at hr; (repeat (obtain ⟨_, hr⟩ := hr)); have hA := (hk.1.cell (p := ⟨g, 3, none⟩) hg).trans hc3; clear hk; refine ⟨rfl, ?_⟩; go_simp; first | done | rfl), abp hc [(19, none)], abp hc [(100, some 13), (101, some 14)], abP hc [(97, some 10), (102, some 15)] Tryz.func91 (fun _ HK => an2 _ _), abp hc [(12, none)], abp hc [(13, none)], abp hc [(14, none)], ac5 hc [(93, some 6), (94, some 7), (95, some 8), (96, some 9), (103, some 16), (104, some 17), (105, some 18), (106, some 19)], ar1 hc [(107, some 20)], trivial⟩) ?_ ⟨rfl, rfl, rfl, rfl, rfl, rfl, rfl, rfl, rfl, rfl, rfl, trivial⟩ (by simp) (by kernel_rfl) rfl rfl rfl rfl rfl (by kernel_rfl)
 intro ρ w' HK HO HN aC HW0
 simp only [ae7, ae8, valOf, Sp.val, List.getElem?_cons_zero, List.getElem?_cons_succ, Act.put, List.setIfInBounds_toArray, List.set_cons_zero, List.set_cons_succ]
 obtain ⟨hg0, ho0⟩ := HO 20 _ _ _ rfl
 clear HO HN
 generalize ρ 20 = bn at hg0 ho0 ⊢
 clear ρ
 have gI : Keeps w [(bn, .cells (V8.cs .u64 ⟨p2, v.a, v.b, v.c, p3, v.e, v.f, v.g⟩) 34), (w.heap.size, .cells #[.int .u64 0, .int .u64 64] 106)] w' := ak ho0 (HK)
 have aqW : w.heap.size < bn := Nat.lt_of_lt_of_le (aC _ (List.mem_cons_self)) hg0
 obtain ⟨x5, rfl, hk5, rP, Ae, l51⟩ := gI.iL
 have kR : Hid (Below w.heap.size w x5) := hk5.below
 clear HK aC gI hk5 ho0
 have apY : w.heap.size ≤ bn := Nat.le_trans HW0 hg0
 clear hg0
 clear HW0
 go_wp2_with fail
 exact bodyPost_ret (v := .slice (some ⟨bn, 0, none⟩) 8 8) (by simp [results, Tryz.results90, go_sem]) rfl ⟨⟨bn, apY, rfl, by rw [HF.out.res]; exact ob⟩, pl kR.out⟩
end
section
open Go.RowKit Go.Proofs.YtehfkbaendajbaaGreatDoorW.PrintLast
theorem amr (n i : Nat) (h : i < n) : ((n : Int) - intOf (.int .i64 (((i + 1 : Nat)) : Int))).toNat < ((n : Int) - intOf (.int .i64 (i : Int))).toNat := by
 show ((n : Int) - (((i + 1 : Nat)) : Int)).toNat < ((n : Int) - (i : Int)).toNat
 omega
theorem aoT (n k m : Nat) (hn : n ≤ 1048576) (hk : k = (128 - (n + 17) % 128) % 128) (hm : m = 8 * n) : 128 :: (List.replicate k 0 ++ zI 16 m) = nK aV n := by
 have h1 : dW aV n - 9 = k + 8 := by
  show 1 + 64 / 4 + (2 * 64 - (n + (1 + 64 / 4)) % (2 * 64)) % (2 * 64) - 9 = k + 8
  omega
 unfold nK
 rw [h1, ← hm, show (16 : Nat) = 8 + 8 from rfl, amZ m (by rw [show (256 : Nat) ^ 8 = 18446744073709551616 from by decide]; omega) 8, ← List.replicate_append_replicate]
 simp
theorem asI (n : Nat) (hn : n ≤ 1048576) (w : World) :
 Calls Tryz.prog 86 #[.int .i64 n, .int .i64 512] w fun e w' => (∃ v, e = .returned (.tuple #[v, .int .i64 0]) ∧ gu w' w.heap.size v (nK aV n)) ∧ Below w.heap.size w w' := by
 have hI0 : ((n : Int) < 0) = False := eq_false (by omega)
 have hI1 : ((1048576 : Int) < (n : Int)) = False := eq_false (by omega)
 have hI2 : (n : Int) ≤ 1048576 := by omega
 obtain ⟨K, hK⟩ : ∃ z, z = (128 - (n + 17) % 128) % 128 := ⟨_, rfl⟩
 have HK := Lib.hid hK
 have HN := Lib.hid hn
 clear hK hn
 go_enter Tryz.func86, Tryz.ntmps86
 go_wp2_with fail
 go_loopw [8] (fun ov wr => ∃ (k : Nat), Hid (Below w.heap.size w wr ∧ k ≤ K ∧ gu wr w.heap.size ov (128 :: List.replicate k 0))) (fun ov _ => K + 1 - lenOf ov)
 case atStart => exact ⟨0, pl (Below.refl _ _), Nat.zero_le _, gu.aqH ob (Nat.le_refl _)⟩
 case round =>
  obtain ⟨k, J⟩ := hrel
  obtain ⟨q, cap, rfl, hqB, hql, hcap, hrd⟩ := J.out.2.2.am6 (n := k + 1) (by simp) (Nat.succ_pos _)
  have hkI : (k : Int) ≤ 128 := by have := J.out.2.1; have := HK.out; omega
  by_cases hk : k < K
  · obtain ⟨r, hr⟩ : ∃ r : Nat, r = (n + (k + 1) + 16) % 128 := ⟨_, rfl⟩
    have hr0 : 0 < r := by have := HK.out; omega
    have hre : ((n : Int) + ((k : Int) + 1) + 16) % 128 = (r : Int) := by omega
    have hrt : ((n : Int) + ((k : Int) + 1) + 16).tmod 128 = (r : Int) := by rw [Int.tmod_eq_emod_of_nonneg (by omega)]; exact hre
    have hrI : ((r : Int) = 0) = False := eq_false (by omega)
    have hrJ : ((r : Int) == 0) = false := beq_eq_false_iff_ne.mpr (by omega)
    have hrK : ((r : Int) != 0) = true := by simp only [bne, hrJ]; rfl
    have hlen : (128 :: List.replicate k 0).length + [0].length ≤ 4000000 := by have := HK.out; simp; omega
    have HL := Lib.hid (And.intro hlen hk)
    have HS := Lib.hid J.out.1.size
    clear hr hr0 hlen hk
    go_wp2_with (at_builtin; refine bH (.tmp 38) (.tmp 39) rfl rfl w.heap.size (.slice (some ⟨q, 0, none⟩) (k + 1) cap) (128 :: List.replicate k 0) [0] (some ⟨wr.heap.size, 0, none⟩) 1 1 rfl rfl rfl (J.out.2.2.below (pl (Below.refl _ _) : Below wr.heap.size wr _) (Nat.le_refl _)) (apb ob) HL.out.1 (by (try simp only [World.size_alloc, aA]); have := HS.out; omega) ?_)
    intro v5 w5 ak3 ahz ak2
    have HN5 : Hid (Below w.heap.size w w5 ∧ gu w5 w.heap.size v5 (128 :: List.replicate (k + 1) 0)) := Lib.hid (by
     have hs := HS.out
     refine ⟨Below.grown (pl J.out.1) ahz (by (try simp only [World.size_alloc, aA]); omega) (fun k h => (J.out.2.2.amm k h).1), ?_⟩
     rw [List.replicate_succ']; exact ak3)
    have ank := ak3
    obtain ⟨q5, cap5, rfl, _, _, _, _⟩ := ank.am6 (n := k + 2) (by simp) (Nat.succ_pos _)
    clear ak3 ahz ak2 ank
    go_wp2_with fail
    go_roundw
    case rel => exact ⟨k + 1, HN5.out.1, HL.out.2, HN5.out.2⟩
    case measure =>
     show K + 1 - (k + 2) < K + 1 - (k + 1)
     have := HL.out.2
     omega
  · have hkK : k = K := by have := J.out.2.1; omega
    have hre : ((n : Int) + ((k : Int) + 1) + 16) % 128 = 0 := by have := HK.out; omega
    have hrt : ((n : Int) + ((k : Int) + 1) + 16).tmod 128 = 0 := by rw [Int.tmod_eq_emod_of_nonneg (by omega)]; exact hre
    have hn8 : eX (n : Int) = (n : Int) := by unfold eX; rw [IntKind.wrap_u64]; omega
    obtain ⟨m, hm⟩ : ∃ z, z = 8 * n := ⟨_, rfl⟩
    have hm8 : eX ((n : Int) * 8) = (m : Int) := by unfold eX; rw [IntKind.wrap_u64]; omega
    have HM := Lib.hid hm
    clear hm
    have HKK := Lib.hid hkK
    clear hkK hk
    go_wp2_with fail
    clear hre hrt hn8 hm8
    obtain ⟨w2, hw2⟩ : ∃ z, z = wr := ⟨_, rfl⟩
    subst hw2
    go_loopw [9, 10, 11] (fun tv lv iv wr => ∃ (i l : Nat), lv = .int .u64 (l : Int) ∧ iv = .int .i64 (i : Int) ∧ Hid (Below w2.heap.size w2 wr ∧ i ≤ 16 ∧ l = m / 256 ^ i ∧ gu wr w2.heap.size tv (zI i m))) (fun _ _ iv _ => (16 - intOf iv).toNat)
    case atStart => exact ⟨0, m, rfl, rfl, Below.refl _ _, by decide, by simp, gu.nil _ _⟩
    case round =>
     obtain ⟨i, l, rfl, rfl, G⟩ := hrel
     by_cases hi : i < 16
     · obtain ⟨A, c, rfl, hc1, _, _⟩ := G.out.2.2.2.form
       rw [alk]
       obtain ⟨b, hb⟩ : ∃ z, z = l % 256 := ⟨_, rfl⟩
       obtain ⟨d, hd⟩ : ∃ z, z = l / 256 := ⟨_, rfl⟩
       have hlm : l < 18446744073709551616 := by rw [G.out.2.2.1]; exact Nat.lt_of_le_of_lt (Nat.div_le_self _ _) (by have := HM.out; have := HN.out; omega)
       have k1 : (l : Int).tmod 256 = (b : Int) := by rw [Int.tmod_eq_emod_of_nonneg (by omega)]; omega
       have k2 : (l : Int) % 256 = (b : Int) := by omega
       have k3 : (l : Int).tdiv 256 = (d : Int) := by rw [Int.tdiv_eq_ediv_of_nonneg (by omega)]; omega
       have k4 : (l : Int) / 256 = (d : Int) := by omega
       have k5 : eX (b : Int) = (b : Int) := by unfold eX; rw [IntKind.wrap_u64]; omega
       have k6 : eX (d : Int) = (d : Int) := by unfold eX; rw [IntKind.wrap_u64]; omega
       have k7 : IntKind.u8.wrap (b : Int) = (b : Int) := by rw [IntKind.wrap_u8]; omega
       have OW : (i : Int) < 16 := by omega
       have hbb : (b : Int) < 256 := by omega
       have hlen : [b].length + (zI i m).length ≤ 4000000 := by rw [alk]; simp; omega
       have HL2 := Lib.hid (And.intro hlen (And.intro hi (And.intro hb hd)))
       have HS2 := Lib.hid G.out.1.size
       clear hlen hi hb hd hc1 hlm
       go_wp2_with (at_builtin; refine bH (.tmp 52) (.tmp 53) rfl rfl w2.heap.size (.slice (some ⟨wr.heap.size, 0, none⟩) 1 1) [b] (zI i m) A i c rfl rfl (alk i m).symm ?_ ?_ ?_ ?_ ?_)
       case refine_1 => exact gu.aqH ob HS2.out
       case refine_2 => exact Rd.mono (gu.rdA G.out.2.2.2) (pl (Below.refl _ _) : Below wr.heap.size wr _) (Nat.le_refl _)
       case refine_3 => exact HL2.out.1
       case refine_4 => (try simp only [World.size_alloc, aA]); have := HS2.out; omega
       intro v5 w5 ak3 ahz ak2
       have HN6 : Hid (Below w2.heap.size w2 w5 ∧ gu w5 w2.heap.size v5 (zI (i + 1) m)) := Lib.hid (by
        have hs := HS2.out
        refine ⟨Below.grown (pl G.out.1) ahz (by (try simp only [World.size_alloc, aA]); omega) (fun k h => by cases h; exact hs), ?_⟩
        rw [zI, ← G.out.2.2.1, ← HL2.out.2.2.1]; exact ak3)
       have HD : Hid (d = m / 256 ^ (i + 1)) := Lib.hid (by rw [HL2.out.2.2.2, G.out.2.2.1, Nat.pow_succ, Nat.div_div_eq_div_mul])
       clear ak3 ahz ak2
       go_wp2_with fail
       go_roundw
       case rel => exact ⟨i + 1, d, rfl, rfl, HN6.out.1, HL2.out.2.1, HD.out, HN6.out.2⟩
       case measure => exact amr 16 i HL2.out.2.1
     · have h16 : i = 16 := by have := G.out.2.1; omega
       have asi : ((i : Int) < 16) = False := eq_false (by omega)
       obtain ⟨A, c, rfl, hc1, _, _⟩ := G.out.2.2.2.form
       rw [alk]
       have H16 := Lib.hid h16
       clear h16 hi
       have hlen : (128 :: List.replicate k 0).length + (zI i m).length ≤ 4000000 := by rw [alk]; have := HK.out; have := HKK.out; have := H16.out; simp; omega
       have zF := Lib.hid hlen
       have HS3 := Lib.hid (And.intro G.out.1.size J.out.1.size)
       clear hlen hc1
       go_wp2_with (at_builtin; refine bH (.tmp 57) (.tmp 58) rfl rfl w.heap.size (.slice (some ⟨q, 0, none⟩) (k + 1) cap) (128 :: List.replicate k 0) (zI i m) A i c rfl rfl (alk i m).symm (J.out.2.2.below G.out.1 (Nat.le_refl _)) G.out.2.2.2.rdA zF.out (Nat.le_trans HS3.out.2 HS3.out.1) ?_)
       intro v6 w6 ank hgrow6 aqs
       have HN7 : Hid (Below w.heap.size w w6 ∧ gu w6 w.heap.size v6 (nK aV n)) := Lib.hid (by
        have hs := HS3.out
        refine ⟨Below.grown (Below.trans J.out.1 (G.out.1.mono hs.2)) hgrow6 (Nat.le_trans hs.2 hs.1) (fun k h => (J.out.2.2.amm k h).1), ?_⟩
        have h := ank
        rw [H16.out, aoT n k m HN.out (HKK.out.trans HK.out) HM.out] at h
        exact h)
       clear ank hgrow6 aqs
       go_wp2_with fail
       exact bodyPost_ret (v := .tuple #[v6, .int .i64 0]) (by simp [results, Tryz.results86, go_sem]) rfl ⟨⟨_, rfl, HN7.out.2⟩, HN7.out.1⟩
end
section
open Go.RowKit Go.Proofs.YtehfkbaendajbaaGreatDoorW.PrintLast
theorem amX {w : World} {o o' : Obj} (h : o = o') : (w.alloc o).heap[w.heap.size]? = some o' := by subst h; exact ob
theorem aoY (w : World) :
 Calls Tryz.prog 88 #[] w fun e w' => (∃ b, w.heap.size ≤ b ∧ e = .returned (.slice (some ⟨b, 0, none⟩) 8 8) ∧ w'.heap[b]? = some (.cells (ald xM) 34)) ∧ Below w.heap.size w w' := by
 go_enter Tryz.func88, Tryz.ntmps88
 go_wp2_with fail
 exact bodyPost_ret (v := .slice (some ⟨w.heap.size, 0, none⟩) 8 8) (by simp [results, Tryz.results88, go_sem]) rfl ⟨⟨_, Nat.le_refl _, rfl, amX (by kernel_rfl)⟩, pl (Below.refl _ _)⟩
theorem aoH (w : World) :
 Calls Tryz.prog 87 #[] w fun e w' => (∃ b, w.heap.size ≤ b ∧ e = .returned (.slice (some ⟨b, 0, none⟩) 80 80) ∧ w'.heap[b]? = some (.cells (ald Lp) 34)) ∧ Below w.heap.size w w' := by
 go_enter Tryz.func87, Tryz.ntmps87
 go_wp2_with fail
 exact bodyPost_ret (v := .slice (some ⟨w.heap.size, 0, none⟩) 80 80) (by simp [results, Tryz.results87, go_sem]) rfl ⟨⟨_, Nat.le_refl _, rfl, amX (by kernel_rfl)⟩, pl (Below.refl _ _)⟩
end
end Go.Proofs.YtehfkbaendajbaaGreatDoor
