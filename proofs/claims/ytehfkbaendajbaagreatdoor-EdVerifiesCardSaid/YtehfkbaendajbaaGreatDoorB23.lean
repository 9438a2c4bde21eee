/-
  Shared, part 23: walks and plain laws; each theorem states its own conditions.
-/
import Derived.Test.YtehfkbaendajbaaGreatDoorB8
import Derived.Test.YtehfkbaendajbaaGreatDoorB42
import Derived.Lib.Hide
import Derived.StillTailTactics
namespace Go.Proofs.YtehfkbaendajbaaGreatDoor
set_option linter.unusedSimpArgs false
set_option linter.unusedVariables false
set_option maxRecDepth 100000
set_option maxHeartbeats 8000000
section
open Go.RowKit Go.Proofs.YtehfkbaendajbaaGreatDoorW.PrintLast
theorem JW (p : Pn) (a b c0 c s s0 s1 ee f g h X Y Z T : Fn) (C1 : Hid (∀ w, Calls Tryz.prog 54 #[p.x.v] w fun e w' => e = .returned a.v ∧ Below w.heap.size w w')) (C2 : Hid (∀ w, Calls Tryz.prog 54 #[p.y.v] w fun e w' => e = .returned b.v ∧ Below w.heap.size w w')) (C3 : Hid (∀ w, Calls Tryz.prog 54 #[p.z.v] w fun e w' => e = .returned c0.v ∧ Below w.heap.size w w')) (C4 : Hid (∀ w, Calls Tryz.prog 58 #[c0.v, c0.v] w fun e w' => e = .returned c.v ∧ Below w.heap.size w w')) (C5 : Hid (∀ w, Calls Tryz.prog 58 #[a.v, b.v] w fun e w' => e = .returned s.v ∧ Below w.heap.size w w')) (C6 : Hid (∀ w, Calls Tryz.prog 58 #[p.x.v, p.y.v] w fun e w' => e = .returned s0.v ∧ Below w.heap.size w w')) (C7 : Hid (∀ w, Calls Tryz.prog 54 #[s0.v] w fun e w' => e = .returned s1.v ∧ Below w.heap.size w w')) (C8 : Hid (∀ w, Calls Tryz.prog 56 #[s1.v, s.v] w fun e w' => e = .returned ee.v ∧ Below w.heap.size w w')) (C9 : Hid (∀ w, Calls Tryz.prog 56 #[b.v, a.v] w fun e w' => e = .returned g.v ∧ Below w.heap.size w w')) (C10 : Hid (∀ w, Calls Tryz.prog 56 #[g.v, c.v] w fun e w' => e = .returned f.v ∧ Below w.heap.size w w')) (C11 : Hid (∀ w, Calls Tryz.prog 59 #[s.v] w fun e w' => e = .returned h.v ∧ Below w.heap.size w w')) (C12 : Hid (∀ w, Calls Tryz.prog 38 #[ee.v, f.v] w fun e w' => e = .returned X.v ∧ Below w.heap.size w w')) (C13 : Hid (∀ w, Calls Tryz.prog 38 #[g.v, h.v] w fun e w' => e = .returned Y.v ∧ Below w.heap.size w w')) (C14 : Hid (∀ w, Calls Tryz.prog 38 #[f.v, g.v] w fun e w' => e = .returned Z.v ∧ Below w.heap.size w w')) (C15 : Hid (∀ w, Calls Tryz.prog 38 #[ee.v, h.v] w fun e w' => e = .returned T.v ∧ Below w.heap.size w w')) (w : World) :
 Calls Tryz.prog 62 #[p.v] w fun e w' => e = .returned (Pn.mk X Y Z T).v ∧ Below w.heap.size w w' := by
 go_enter Tryz.func62, Tryz.ntmps62
 go_wp2_with fail
 refine aac w [(w.heap.size, .cells p.cA 38), (w.heap.size + 1, .cells bP 38)] [.is (.pointer (some ⟨w.heap.size, 0, none⟩)), .is p.x.v, .is a.v, .is (.pointer (some ⟨w.heap.size, 5, none⟩)), .is p.y.v, .is b.v, .is (.pointer (some ⟨w.heap.size, 10, none⟩)), .is p.z.v, .is c0.v, .own 12 (.cells #[.int .u64 0, .int .u64 0, .int .u64 0, .int .u64 0, .int .u64 0] 36) (.cells #[.int .u64 a.a, .int .u64 a.b, .int .u64 a.c, .int .u64 a.d, .int .u64 a.e] 36), .own 13 (.cells #[.int .u64 0, .int .u64 0, .int .u64 0, .int .u64 0, .int .u64 0] 36) (.cells #[.int .u64 b.a, .int .u64 b.b, .int .u64 b.c, .int .u64 b.d, .int .u64 b.e] 36), .own 14 (.cells #[.int .u64 0, .int .u64 0, .int .u64 0, .int .u64 0, .int .u64 0] 36) (.cells #[.int .u64 c0.a, .int .u64 c0.b, .int .u64 c0.c, .int .u64 c0.d, .int .u64 c0.e] 36), .is undef, .is undef, .is undef] [some 11, some 12, some 13, some 14, some 15, some 16, some 17, some 18, some 19, some 3, some 4, some 5, none, none, none] [(1, .pointer (some ⟨w.heap.size, 0, none⟩))] 19 (ak (b := w.heap.size) ob (ak (b := w.heap.size + 1) ob (aO (pl (Below.refl _ _))))) (fun a0 hc => ⟨abp hc [(1, none)], abp hc [(11, some 0)], abP hc [(12, some 1)] Tryz.func54 (fun _ HK => C1.out _), abp hc [(1, none)], abp hc [(14, some 3)], abP hc [(15, some 4)] Tryz.func54 (fun _ HK => C2.out _), abp hc [(1, none)], abp hc [(17, some 6)], abP hc [(18, some 7)] Tryz.func54 (fun _ HK => C3.out _), abR hc [], abR hc [], abR hc [], abX hc 9 [(3, some 9), (13, some 2)], abX hc 10 [(4, some 10), (16, some 5)], abX hc 11 [(5, some 11), (19, some 8)], trivial⟩) ?_ ⟨rfl, trivial⟩ (by simp) (by kernel_rfl) rfl rfl rfl rfl rfl (by kernel_rfl)
 intro ρ w' HK HO HN aC HW0
 simp only [ae7, ae8, valOf, Sp.val, List.getElem?_cons_zero, List.getElem?_cons_succ, Act.put, List.setIfInBounds_toArray, List.set_cons_zero, List.set_cons_succ]
 obtain ⟨hg0, ho0⟩ := HO 9 _ _ _ rfl
 obtain ⟨hg1, ho1⟩ := HO 10 _ _ _ rfl
 obtain ⟨hg2, ho2⟩ := HO 11 _ _ _ rfl
 have J7 : ρ 10 ≠ ρ 9 := fun h => absurd (HN _ _ _ _ rfl rfl h) (by decide)
 have J8 : ρ 11 ≠ ρ 9 := fun h => absurd (HN _ _ _ _ rfl rfl h) (by decide)
 have J9 : ρ 11 ≠ ρ 10 := fun h => absurd (HN _ _ _ _ rfl rfl h) (by decide)
 clear HO HN
 generalize ρ 9 = ga at hg0 ho0 J7 J8 ⊢
 generalize ρ 10 = gb at hg1 ho1 J7 J9 ⊢
 generalize ρ 11 = gc at hg2 ho2 J8 J9 ⊢
 clear ρ
 have gI : Keeps w [(ga, .cells #[.int .u64 a.a, .int .u64 a.b, .int .u64 a.c, .int .u64 a.d, .int .u64 a.e] 36), (gb, .cells #[.int .u64 b.a, .int .u64 b.b, .int .u64 b.c, .int .u64 b.d, .int .u64 b.e] 36), (gc, .cells #[.int .u64 c0.a, .int .u64 c0.b, .int .u64 c0.c, .int .u64 c0.d, .int .u64 c0.e] 36), (w.heap.size, .cells p.cA 38), (w.heap.size + 1, .cells bP 38)] w' := ak ho0 (ak ho1 (ak ho2 (HK)))
 have zY : w.heap.size < ga := Nat.lt_of_lt_of_le (aC _ (List.mem_cons_self)) hg0
 have XW : w.heap.size < gb := Nat.lt_of_lt_of_le (aC _ (List.mem_cons_self)) hg1
 have XZ : w.heap.size < gc := Nat.lt_of_lt_of_le (aC _ (List.mem_cons_self)) hg2
 have Fh : w.heap.size + 1 < ga := Nat.lt_of_lt_of_le (aC _ (List.mem_cons_of_mem _ (List.mem_cons_self))) hg0
 have agd : w.heap.size + 1 < gb := Nat.lt_of_lt_of_le (aC _ (List.mem_cons_of_mem _ (List.mem_cons_self))) hg1
 have agf : w.heap.size + 1 < gc := Nat.lt_of_lt_of_le (aC _ (List.mem_cons_of_mem _ (List.mem_cons_self))) hg2
 have abx := Ne.symm J7
 have aby := Ne.symm J8
 have abz := Ne.symm J9
 obtain ⟨x1, rfl, hk1, hz1, l10, nG, l12, l13, l14⟩ := gI.ji
 have HB1 : Hid (Below w.heap.size w x1) := hk1.below
 clear HK aC gI hk1 ho0 ho1 ho2
 have LQ : w.heap.size ≤ ga := Nat.le_trans HW0 hg0
 clear hg0
 have ac7 : w.heap.size ≤ gb := Nat.le_trans HW0 hg1
 clear hg1
 have ac8 : w.heap.size ≤ gc := Nat.le_trans HW0 hg2
 clear hg2
 clear HW0
 go_wp2_with fail
 refine (C4.out _).mono ?_
 rintro e y2 ⟨rfl, hb2⟩
 obtain ⟨x2, rfl, hc2, hz2, kD, rQ, Gh, UE, l24⟩ := dZ (b0 := w.heap.size) (b1 := w.heap.size + 1) (b2 := ga) (b3 := gb) (b4 := gc) hb2 rfl ob ob ob ob ob
 have HB2 := aZ HB1.out hc2
 clear hb2 hc2
 try simp only [eF] at hz2
 go_wp2_with fail
 refine (C5.out _).mono ?_
 rintro e y3 ⟨rfl, hb3⟩
 obtain ⟨x3, rfl, hc3, hz3, nN, uq, zn, Py, ZN⟩ := dZ (b0 := w.heap.size) (b1 := w.heap.size + 1) (b2 := ga) (b3 := gb) (b4 := gc) hb3 rfl ob ob ob ob ob
 have HB3 := aZ HB2.out hc3
 clear hb3 hc3
 try simp only [eF] at hz3
 go_wp2_with fail
 refine aac w [(w.heap.size, .cells p.cA 38), (w.heap.size + 1, .cells bP 38), (ga, .cells #[.int .u64 a.a, .int .u64 a.b, .int .u64 a.c, .int .u64 a.d, .int .u64 a.e] 36), (gb, .cells #[.int .u64 b.a, .int .u64 b.b, .int .u64 b.c, .int .u64 b.d, .int .u64 b.e] 36), (gc, .cells #[.int .u64 c.a, .int .u64 c.b, .int .u64 c.c, .int .u64 c.d, .int .u64 c.e] 36), (x3.heap.size, .cells #[.int .u64 s.a, .int .u64 s.b, .int .u64 s.c, .int .u64 s.d, .int .u64 s.e] 36)] [.is (.pointer (some ⟨w.heap.size, 0, none⟩)), .is p.x.v, .is (.pointer (some ⟨w.heap.size, 5, none⟩)), .is p.y.v, .is s0.v, .is s1.v, .is s.v, .is ee.v, .own 9 (.cells #[.int .u64 0, .int .u64 0, .int .u64 0, .int .u64 0, .int .u64 0] 36) (.cells #[.int .u64 ee.a, .int .u64 ee.b, .int .u64 ee.c, .int .u64 ee.d, .int .u64 ee.e] 36), .is undef] [some 26, some 27, some 28, some 29, some 30, some 31, some 32, some 33, some 7, none] [(1, .pointer (some ⟨w.heap.size, 0, none⟩)), (6, .pointer (some ⟨x3.heap.size, 0, none⟩))] 33 (ak (b := w.heap.size) ob (ak (b := w.heap.size + 1) ob (ak (b := ga) ob (ak (b := gb) ob (ak (b := gc) ob (ak (b := x3.heap.size) ob (aO (pl HB3.out)))))))) (fun a0 hc => ⟨abp hc [(1, none)], abp hc [(26, some 0)], abp hc [(1, none)], abp hc [(28, some 2)], abP hc [(27, some 1), (29, some 3)] Tryz.func58 (fun _ HK => C6.out _), abP hc [(30, some 4)] Tryz.func54 (fun _ HK => C7.out _), abp hc [(6, none)], abP hc [(31, some 5), (32, some 6)] Tryz.func56 (fun _ HK => C8.out _), abR hc [], abX hc 8 [(7, some 8), (33, some 7)], trivial⟩) ?_ ⟨rfl, rfl, trivial⟩ (by simp) (by kernel_rfl) rfl rfl rfl rfl rfl (by kernel_rfl)
 intro ρ w' HK HO HN aC HW0
 simp only [ae7, ae8, valOf, Sp.val, List.getElem?_cons_zero, List.getElem?_cons_succ, Act.put, List.setIfInBounds_toArray, List.set_cons_zero, List.set_cons_succ]
 obtain ⟨hg0, ho0⟩ := HO 8 _ _ _ rfl
 clear HO HN
 generalize ρ 8 = ge at hg0 ho0 ⊢
 clear ρ
 have gI : Keeps w [(ge, .cells #[.int .u64 ee.a, .int .u64 ee.b, .int .u64 ee.c, .int .u64 ee.d, .int .u64 ee.e] 36), (w.heap.size + 1, .cells bP 38), (ga, .cells #[.int .u64 a.a, .int .u64 a.b, .int .u64 a.c, .int .u64 a.d, .int .u64 a.e] 36), (gb, .cells #[.int .u64 b.a, .int .u64 b.b, .int .u64 b.c, .int .u64 b.d, .int .u64 b.e] 36), (gc, .cells #[.int .u64 c.a, .int .u64 c.b, .int .u64 c.c, .int .u64 c.d, .int .u64 c.e] 36), (x3.heap.size, .cells #[.int .u64 s.a, .int .u64 s.b, .int .u64 s.c, .int .u64 s.d, .int .u64 s.e] 36)] w' := ak ho0 (⟨HK.1, fun q hq => HK.2 q (by simp only [List.mem_cons, List.not_mem_nil, or_false] at hq ⊢; rcases hq with rfl | rfl | rfl | rfl | rfl <;> simp)⟩)
 have zZ : w.heap.size + 1 < ge := Nat.lt_of_lt_of_le (aC _ (List.mem_cons_of_mem _ (List.mem_cons_self))) hg0
 have Aa : ga < ge := Nat.lt_of_lt_of_le (aC _ (List.mem_cons_of_mem _ (List.mem_cons_of_mem _ (List.mem_cons_self)))) hg0
 have agr : gb < ge := Nat.lt_of_lt_of_le (aC _ (List.mem_cons_of_mem _ (List.mem_cons_of_mem _ (List.mem_cons_of_mem _ (List.mem_cons_self))))) hg0
 have ags : gc < ge := Nat.lt_of_lt_of_le (aC _ (List.mem_cons_of_mem _ (List.mem_cons_of_mem _ (List.mem_cons_of_mem _ (List.mem_cons_of_mem _ (List.mem_cons_self)))))) hg0
 have agt : x3.heap.size < ge := Nat.lt_of_lt_of_le (aC _ (List.mem_cons_of_mem _ (List.mem_cons_of_mem _ (List.mem_cons_of_mem _ (List.mem_cons_of_mem _ (List.mem_cons_of_mem _ (List.mem_cons_self))))))) hg0
 obtain ⟨x4, rfl, hk4, lT, rU, yL, Dj, Yf, l44, l45⟩ := gI.FN
 have HB4 : Hid (Below w.heap.size w x4) := hk4.below
 clear HK aC gI hk4 ho0
 have LU : w.heap.size ≤ ge := Nat.le_trans HW0 hg0
 clear hg0
 clear HW0
 go_wp2_with fail
 refine (C9.out _).mono ?_
 rintro e y5 ⟨rfl, hb5⟩
 obtain ⟨x5, rfl, hc5, rP, Ae, l51, Gi, WC⟩ := Bl (b0 := w.heap.size + 1) (b1 := gc) (b2 := x3.heap.size) (b3 := ge) hb5 rfl ob ob ob ob
 have kR := aZ HB4.out hc5
 clear hb5 hc5
 try simp only [eF] at rP
 go_wp2_with fail
 refine aac w [(w.heap.size + 1, .cells bP 38), (gc, .cells #[.int .u64 c.a, .int .u64 c.b, .int .u64 c.c, .int .u64 c.d, .int .u64 c.e] 36), (x3.heap.size, .cells #[.int .u64 s.a, .int .u64 s.b, .int .u64 s.c, .int .u64 s.d, .int .u64 s.e] 36), (ge, .cells #[.int .u64 ee.a, .int .u64 ee.b, .int .u64 ee.c, .int .u64 ee.d, .int .u64 ee.e] 36), (x5.heap.size, .cells #[.int .u64 g.a, .int .u64 g.b, .int .u64 g.c, .int .u64 g.d, .int .u64 g.e] 36)] [.is g.v, .is c.v, .is f.v, .is s.v, .is h.v, .own 7 (.cells #[.int .u64 0, .int .u64 0, .int .u64 0, .int .u64 0, .int .u64 0] 36) (.cells #[.int .u64 f.a, .int .u64 f.b, .int .u64 f.c, .int .u64 f.d, .int .u64 f.e] 36), .own 8 (.cells #[.int .u64 0, .int .u64 0, .int .u64 0, .int .u64 0, .int .u64 0] 36) (.cells #[.int .u64 h.a, .int .u64 h.b, .int .u64 h.c, .int .u64 h.d, .int .u64 h.e] 36), .is undef, .is undef] [some 37, some 38, some 39, some 40, some 41, some 9, some 10, none, none] [(5, .pointer (some ⟨gc, 0, none⟩)), (6, .pointer (some ⟨x3.heap.size, 0, none⟩)), (8, .pointer (some ⟨x5.heap.size, 0, none⟩))] 41 (ak (b := w.heap.size + 1) ob (ak (b := gc) ob (ak (b := x3.heap.size) ob (ak (b := ge) ob (ak (b := x5.heap.size) ob (aO (pl kR.out))))))) (fun a0 hc => ⟨abp hc [(8, none)], abp hc [(5, none)], abP hc [(37, some 0), (38, some 1)] Tryz.func56 (fun _ HK => C10.out _), abp hc [(6, none)], abP hc [(40, some 3)] Tryz.func59 (fun _ HK => C11.out _), abR hc [], abR hc [], abX hc 5 [(9, some 5), (39, some 2)], abX hc 6 [(10, some 6), (41, some 4)], trivial⟩) ?_ ⟨rfl, rfl, rfl, trivial⟩ (by simp) (by kernel_rfl) rfl rfl rfl rfl rfl (by kernel_rfl)
 intro ρ w' HK HO HN aC HW0
 simp only [ae7, ae8, valOf, Sp.val, List.getElem?_cons_zero, List.getElem?_cons_succ, Act.put, List.setIfInBounds_toArray, List.set_cons_zero, List.set_cons_succ]
 obtain ⟨hg0, ho0⟩ := HO 5 _ _ _ rfl
 obtain ⟨hg1, ho1⟩ := HO 6 _ _ _ rfl
 have Ko : ρ 6 ≠ ρ 5 := fun h => absurd (HN _ _ _ _ rfl rfl h) (by decide)
 clear HO HN
 generalize ρ 5 = gf at hg0 ho0 Ko ⊢
 generalize ρ 6 = gh at hg1 ho1 Ko ⊢
 clear ρ
 have gI : Keeps w [(gf, .cells #[.int .u64 f.a, .int .u64 f.b, .int .u64 f.c, .int .u64 f.d, .int .u64 f.e] 36), (gh, .cells #[.int .u64 h.a, .int .u64 h.b, .int .u64 h.c, .int .u64 h.d, .int .u64 h.e] 36), (w.heap.size + 1, .cells bP 38), (ge, .cells #[.int .u64 ee.a, .int .u64 ee.b, .int .u64 ee.c, .int .u64 ee.d, .int .u64 ee.e] 36), (x5.heap.size, .cells #[.int .u64 g.a, .int .u64 g.b, .int .u64 g.c, .int .u64 g.d, .int .u64 g.e] 36)] w' := ak ho0 (ak ho1 (⟨HK.1, fun q hq => HK.2 q (by simp only [List.mem_cons, List.not_mem_nil, or_false] at hq ⊢; rcases hq with rfl | rfl | rfl <;> simp)⟩))
 have X0 : w.heap.size + 1 < gf := Nat.lt_of_lt_of_le (aC _ (List.mem_cons_self)) hg0
 have X3 : w.heap.size + 1 < gh := Nat.lt_of_lt_of_le (aC _ (List.mem_cons_self)) hg1
 have agw : ge < gf := Nat.lt_of_lt_of_le (aC _ (List.mem_cons_of_mem _ (List.mem_cons_of_mem _ (List.mem_cons_of_mem _ (List.mem_cons_self))))) hg0
 have agx : ge < gh := Nat.lt_of_lt_of_le (aC _ (List.mem_cons_of_mem _ (List.mem_cons_of_mem _ (List.mem_cons_of_mem _ (List.mem_cons_self))))) hg1
 have agy : x5.heap.size < gf := Nat.lt_of_lt_of_le (aC _ (List.mem_cons_of_mem _ (List.mem_cons_of_mem _ (List.mem_cons_of_mem _ (List.mem_cons_of_mem _ (List.mem_cons_self)))))) hg0
 have agz : x5.heap.size < gh := Nat.lt_of_lt_of_le (aC _ (List.mem_cons_of_mem _ (List.mem_cons_of_mem _ (List.mem_cons_of_mem _ (List.mem_cons_of_mem _ (List.mem_cons_self)))))) hg1
 have abA := Ne.symm Ko
 obtain ⟨x6, rfl, hk6, yH, Gj, Jk, Kz, UF, WE⟩ := gI.ji
 have mg : Hid (Below w.heap.size w x6) := hk6.below
 clear HK aC gI hk6 ho0 ho1
 have ac9 : w.heap.size ≤ gf := Nat.le_trans HW0 hg0
 clear hg0
 have ada : w.heap.size ≤ gh := Nat.le_trans HW0 hg1
 clear hg1
 clear HW0
 go_wp2_with fail
 refine st1 w [13] 14 (ak (b := w.heap.size + 1) ob (ak (b := ge) ob (ak (b := gf) ob (ak (b := x5.heap.size) ob (ak (b := gh) ob (aO (pl mg.out))))))) (fun HS => ?_)
 refine jB 0 (some 42) HS (h := ?_)
 refine jB 1 (some 43) HS (h := ?_)
 refine jB 3 (some 45) HS (h := ?_)
 refine jB 4 (some 46) HS (h := ?_)
 refine jB 6 (some 48) HS (h := ?_)
 refine jB 7 (some 49) HS (h := ?_)
 refine jB 9 (some 51) HS (h := ?_)
 refine jB 10 (some 52) HS (h := ?_)
 refine dH 2 (some 44) (h := fun K hK => ?_)
 go_simp
 refine (C12.out _).mono ?_
 rintro e y ⟨rfl, hb⟩
 refine hK.out _ _ (HS.step hb rfl) ?_
 clear HS hb
 intro HS
 refine dH 5 (some 47) (h := fun K hK => ?_)
 go_simp
 refine (C13.out _).mono ?_
 rintro e y ⟨rfl, hb⟩
 refine hK.out _ _ (HS.step hb rfl) ?_
 clear HS hb
 intro HS
 refine dH 8 (some 50) (h := fun K hK => ?_)
 go_simp
 refine (C14.out _).mono ?_
 rintro e y ⟨rfl, hb⟩
 refine hK.out _ _ (HS.step hb rfl) ?_
 clear HS hb
 intro HS
 refine dH 11 (some 53) (h := fun K hK => ?_)
 go_simp
 refine (C15.out _).mono ?_
 rintro e y ⟨rfl, hb⟩
 refine hK.out _ _ (HS.step hb rfl) ?_
 clear HS hb
 intro HS
 refine jB 12 (some 54) HS (h := ?_)
 obtain ⟨x7, rfl, ZA, Ac, KA, Pz, QJ, Yg, Yh⟩ := HS.ji
 have oW : Hid (Below w.heap.size w x7) := ZA.below
 clear HS ZA
 refine pO 13 none (h := fun K hK => ?_)
 refine (if_pos (by rfl)).mpr ?_
 refine gB 38 _ _ rfl (w.heap.size + 1) (#[.int .u64 X.a, .int .u64 X.b, .int .u64 X.c, .int .u64 X.d, .int .u64 X.e, .int .u64 Y.a, .int .u64 Y.b, .int .u64 Y.c, .int .u64 Y.d, .int .u64 Y.e, .int .u64 Z.a, .int .u64 Z.b, .int .u64 Z.c, .int .u64 Z.d, .int .u64 Z.e, .int .u64 T.a, .int .u64 T.b, .int .u64 T.c, .int .u64 T.d, .int .u64 T.e]) rfl rfl 38 (bP) ob (by kernel_rfl) rfl (eH (Pn.mk X Y Z T)) ?_
 refine hK.out _ _ ?_
 refine done_ (by kernel_rfl) ?_
 go_wp2_with fail
 refine bodyPost_ret (v := (Pn.mk X Y Z T).v) (fA rfl rfl (fD (Pn.mk X Y Z T) ob)) rfl ⟨rfl, (pl oW.out)⟩
end
end Go.Proofs.YtehfkbaendajbaaGreatDoor
