/-
  Shared, part 22: walks and plain laws; each theorem states its own conditions.
-/
import Derived.Test.YtehfkbaendajbaaGreatDoorB8
import Derived.Test.YtehfkbaendajbaaGreatDoorB42
import Derived.Lib.Hide
import Derived.StillTailTactics
namespace Go.Proofs.YtehfkbaendajbaaGreatDoor
set_option linter.unusedSimpArgs false
set_option linter.unusedVariables false
set_option maxRecDepth 100000
set_option maxHeartbeats 8000000
section
open Go.RowKit Go.Proofs.YtehfkbaendajbaaGreatDoorW.PrintLast
theorem JV (gt : TypeId) (gf : Nat × Nat) (p q : Pn) (s1 s2 s3 s4 s5 a b c d0 d ee f g h X Y Z T : Fn) (C1 : Hid (∀ w, Calls Tryz.prog 56 #[p.y.v, p.x.v] w fun e w' => e = .returned s1.v ∧ Below w.heap.size w w')) (C2 : Hid (∀ w, Calls Tryz.prog 56 #[q.y.v, q.x.v] w fun e w' => e = .returned s2.v ∧ Below w.heap.size w w')) (C3 : Hid (∀ w, Calls Tryz.prog 38 #[s1.v, s2.v] w fun e w' => e = .returned a.v ∧ Below w.heap.size w w')) (C4 : Hid (∀ w, Calls Tryz.prog 58 #[p.y.v, p.x.v] w fun e w' => e = .returned s3.v ∧ Below w.heap.size w w')) (C5 : Hid (∀ w, Calls Tryz.prog 58 #[q.y.v, q.x.v] w fun e w' => e = .returned s4.v ∧ Below w.heap.size w w')) (C6 : Hid (∀ w, Calls Tryz.prog 38 #[s3.v, s4.v] w fun e w' => e = .returned b.v ∧ Below w.heap.size w w')) (C7 : Hid (∀ w, Calls Tryz.prog 38 #[p.t.v, q.t.v] w fun e w' => e = .returned s5.v ∧ Below w.heap.size w w')) (C8 : Hid (∀ w, Calls Tryz.prog 38 #[s5.v, .agg #[.int .u64 1859910466990425, .int .u64 932731440258426, .int .u64 1072319116312658, .int .u64 1815898335770999, .int .u64 633789495995903]] w fun e w' => e = .returned c.v ∧ Below w.heap.size w w')) (C9 : Hid (∀ w, Calls Tryz.prog 38 #[p.z.v, q.z.v] w fun e w' => e = .returned d0.v ∧ Below w.heap.size w w')) (C10 : Hid (∀ w, Calls Tryz.prog 58 #[d0.v, d0.v] w fun e w' => e = .returned d.v ∧ Below w.heap.size w w')) (C11 : Hid (∀ w, Calls Tryz.prog 56 #[b.v, a.v] w fun e w' => e = .returned ee.v ∧ Below w.heap.size w w')) (C12 : Hid (∀ w, Calls Tryz.prog 56 #[d.v, c.v] w fun e w' => e = .returned f.v ∧ Below w.heap.size w w')) (C13 : Hid (∀ w, Calls Tryz.prog 58 #[d.v, c.v] w fun e w' => e = .returned g.v ∧ Below w.heap.size w w')) (C14 : Hid (∀ w, Calls Tryz.prog 58 #[b.v, a.v] w fun e w' => e = .returned h.v ∧ Below w.heap.size w w')) (C15 : Hid (∀ w, Calls Tryz.prog 38 #[ee.v, f.v] w fun e w' => e = .returned X.v ∧ Below w.heap.size w w')) (C16 : Hid (∀ w, Calls Tryz.prog 38 #[g.v, h.v] w fun e w' => e = .returned Y.v ∧ Below w.heap.size w w')) (C17 : Hid (∀ w, Calls Tryz.prog 38 #[f.v, g.v] w fun e w' => e = .returned Z.v ∧ Below w.heap.size w w')) (C18 : Hid (∀ w, Calls Tryz.prog 38 #[ee.v, h.v] w fun e w' => e = .returned T.v ∧ Below w.heap.size w w')) (w : World) (hg : 5 < w.heap.size ∧ w.heap[5]? = some (.cells #[.int .u64 1859910466990425, .int .u64 932731440258426, .int .u64 1072319116312658, .int .u64 1815898335770999, .int .u64 633789495995903] gt gf)) :
 Calls Tryz.prog 64 #[p.v, q.v] w fun e w' => e = .returned (Pn.mk X Y Z T).v ∧ Below w.heap.size w w' := by
 have hgl := hg.1
 have XU : w.heap.size ≠ 0 := by omega
 have amF : 5 < w.heap.size + 1 := by omega
 have amG : w.heap.size + 1 ≠ 5 := by omega
 have HG := Lib.hid hg.2
 clear hg
 go_enter Tryz.func64, Tryz.ntmps64
 go_wp2_with fail
 refine aac w [(w.heap.size, .cells p.cA 38), (w.heap.size + 1, .cells q.cA 38), (w.heap.size + 2, .cells bP 38)] [.is (.pointer (some ⟨w.heap.size, 5, none⟩)), .is p.y.v, .is (.pointer (some ⟨w.heap.size, 0, none⟩)), .is p.x.v, .is s1.v, .is (.pointer (some ⟨w.heap.size + 1, 5, none⟩)), .is q.y.v, .is (.pointer (some ⟨w.heap.size + 1, 0, none⟩)), .is q.x.v, .is s2.v, .is a.v, .own 12 (.cells #[.int .u64 0, .int .u64 0, .int .u64 0, .int .u64 0, .int .u64 0] 36) (.cells #[.int .u64 a.a, .int .u64 a.b, .int .u64 a.c, .int .u64 a.d, .int .u64 a.e] 36), .is undef] [some 13, some 14, some 15, some 16, some 17, some 18, some 19, some 20, some 21, some 22, some 23, some 5, none] [(2, .pointer (some ⟨w.heap.size, 0, none⟩)), (3, .pointer (some ⟨w.heap.size + 1, 0, none⟩))] 23 (ak (b := w.heap.size) ob (ak (b := w.heap.size + 1) ob (ak (b := w.heap.size + 2) ob (aO (pl (Below.refl _ _)))))) (fun a0 hc => ⟨abp hc [(2, none)], abp hc [(13, some 0)], abp hc [(2, none)], abp hc [(15, some 2)], abP hc [(14, some 1), (16, some 3)] Tryz.func56 (fun _ HK => C1.out _), abp hc [(3, none)], abp hc [(18, some 5)], abp hc [(3, none)], abp hc [(20, some 7)], abP hc [(19, some 6), (21, some 8)] Tryz.func56 (fun _ HK => C2.out _), abP hc [(17, some 4), (22, some 9)] Tryz.func38 (fun _ HK => C3.out _), abR hc [], abX hc 11 [(5, some 11), (23, some 10)], trivial⟩) ?_ ⟨rfl, rfl, trivial⟩ (by simp) (by kernel_rfl) rfl rfl rfl rfl rfl (by kernel_rfl)
 intro ρ w' HK HO HN aC HW0
 simp only [ae7, ae8, valOf, Sp.val, List.getElem?_cons_zero, List.getElem?_cons_succ, Act.put, List.setIfInBounds_toArray, List.set_cons_zero, List.set_cons_succ]
 obtain ⟨hg0, ho0⟩ := HO 11 _ _ _ rfl
 clear HO HN
 generalize ρ 11 = ga at hg0 ho0 ⊢
 clear ρ
 have gI : Keeps w [(ga, .cells #[.int .u64 a.a, .int .u64 a.b, .int .u64 a.c, .int .u64 a.d, .int .u64 a.e] 36), (w.heap.size, .cells p.cA 38), (w.heap.size + 1, .cells q.cA 38), (w.heap.size + 2, .cells bP 38)] w' := ak ho0 (HK)
 have zY : w.heap.size < ga := Nat.lt_of_lt_of_le (aC _ (List.mem_cons_self)) hg0
 have Fh : w.heap.size + 1 < ga := Nat.lt_of_lt_of_le (aC _ (List.mem_cons_of_mem _ (List.mem_cons_self))) hg0
 have Nk : w.heap.size + 2 < ga := Nat.lt_of_lt_of_le (aC _ (List.mem_cons_of_mem _ (List.mem_cons_of_mem _ (List.mem_cons_self)))) hg0
 obtain ⟨x1, rfl, hk1, hz1, l10, nG, l12, l13⟩ := gI.iO
 have HB1 : Hid (Below w.heap.size w x1) := hk1.below
 clear HK aC gI hk1 ho0
 have LQ : w.heap.size ≤ ga := Nat.le_trans HW0 hg0
 clear hg0
 clear HW0
 go_wp2_with fail
 refine aac w [(w.heap.size, .cells p.cA 38), (w.heap.size + 1, .cells q.cA 38), (w.heap.size + 2, .cells bP 38), (ga, .cells #[.int .u64 a.a, .int .u64 a.b, .int .u64 a.c, .int .u64 a.d, .int .u64 a.e] 36)] [.is (.pointer (some ⟨w.heap.size, 5, none⟩)), .is p.y.v, .is (.pointer (some ⟨w.heap.size, 0, none⟩)), .is p.x.v, .is s3.v, .is (.pointer (some ⟨w.heap.size + 1, 5, none⟩)), .is q.y.v, .is (.pointer (some ⟨w.heap.size + 1, 0, none⟩)), .is q.x.v, .is s4.v, .is b.v, .own 12 (.cells #[.int .u64 0, .int .u64 0, .int .u64 0, .int .u64 0, .int .u64 0] 36) (.cells #[.int .u64 b.a, .int .u64 b.b, .int .u64 b.c, .int .u64 b.d, .int .u64 b.e] 36), .is undef] [some 24, some 25, some 26, some 27, some 28, some 29, some 30, some 31, some 32, some 33, some 34, some 6, none] [(2, .pointer (some ⟨w.heap.size, 0, none⟩)), (3, .pointer (some ⟨w.heap.size + 1, 0, none⟩))] 34 (ak (b := w.heap.size) ob (ak (b := w.heap.size + 1) ob (ak (b := w.heap.size + 2) ob (ak (b := ga) ob (aO (pl HB1.out)))))) (fun a0 hc => ⟨abp hc [(2, none)], abp hc [(24, some 0)], abp hc [(2, none)], abp hc [(26, some 2)], abP hc [(25, some 1), (27, some 3)] Tryz.func58 (fun _ HK => C4.out _), abp hc [(3, none)], abp hc [(29, some 5)], abp hc [(3, none)], abp hc [(31, some 7)], abP hc [(30, some 6), (32, some 8)] Tryz.func58 (fun _ HK => C5.out _), abP hc [(28, some 4), (33, some 9)] Tryz.func38 (fun _ HK => C6.out _), abR hc [], abX hc 11 [(6, some 11), (34, some 10)], trivial⟩) ?_ ⟨rfl, rfl, trivial⟩ (by simp) (by kernel_rfl) rfl rfl rfl rfl rfl (by kernel_rfl)
 intro ρ w' HK HO HN aC HW0
 simp only [ae7, ae8, valOf, Sp.val, List.getElem?_cons_zero, List.getElem?_cons_succ, Act.put, List.setIfInBounds_toArray, List.set_cons_zero, List.set_cons_succ]
 obtain ⟨hg0, ho0⟩ := HO 11 _ _ _ rfl
 clear HO HN
 generalize ρ 11 = gb at hg0 ho0 ⊢
 clear ρ
 have gI : Keeps w [(gb, .cells #[.int .u64 b.a, .int .u64 b.b, .int .u64 b.c, .int .u64 b.d, .int .u64 b.e] 36), (w.heap.size, .cells p.cA 38), (w.heap.size + 1, .cells q.cA 38), (w.heap.size + 2, .cells bP 38), (ga, .cells #[.int .u64 a.a, .int .u64 a.b, .int .u64 a.c, .int .u64 a.d, .int .u64 a.e] 36)] w' := ak ho0 (HK)
 have agh : w.heap.size < gb := Nat.lt_of_lt_of_le (aC _ (List.mem_cons_self)) hg0
 have agi : w.heap.size + 1 < gb := Nat.lt_of_lt_of_le (aC _ (List.mem_cons_of_mem _ (List.mem_cons_self))) hg0
 have agj : w.heap.size + 2 < gb := Nat.lt_of_lt_of_le (aC _ (List.mem_cons_of_mem _ (List.mem_cons_of_mem _ (List.mem_cons_self)))) hg0
 have agk : ga < gb := Nat.lt_of_lt_of_le (aC _ (List.mem_cons_of_mem _ (List.mem_cons_of_mem _ (List.mem_cons_of_mem _ (List.mem_cons_self))))) hg0
 obtain ⟨x2, rfl, hk2, hz2, kD, rQ, Gh, UE, l24⟩ := gI.ji
 have HB2 : Hid (Below w.heap.size w x2) := hk2.below
 clear HK aC gI hk2 ho0
 have akv : w.heap.size ≤ gb := Nat.le_trans HW0 hg0
 clear hg0
 clear HW0
 go_wp2_with fail
 refine aac w [(w.heap.size, .cells p.cA 38), (w.heap.size + 1, .cells q.cA 38), (w.heap.size + 2, .cells bP 38), (ga, .cells #[.int .u64 a.a, .int .u64 a.b, .int .u64 a.c, .int .u64 a.d, .int .u64 a.e] 36), (gb, .cells #[.int .u64 b.a, .int .u64 b.b, .int .u64 b.c, .int .u64 b.d, .int .u64 b.e] 36), (5, .cells #[.int .u64 1859910466990425, .int .u64 932731440258426, .int .u64 1072319116312658, .int .u64 1815898335770999, .int .u64 633789495995903] gt gf)] [.is (.pointer (some ⟨w.heap.size, 15, none⟩)), .is p.t.v, .is (.pointer (some ⟨w.heap.size + 1, 15, none⟩)), .is q.t.v, .is s5.v, .is (.agg #[.int .u64 1859910466990425, .int .u64 932731440258426, .int .u64 1072319116312658, .int .u64 1815898335770999, .int .u64 633789495995903]), .is c.v, .own 8 (.cells #[.int .u64 0, .int .u64 0, .int .u64 0, .int .u64 0, .int .u64 0] 36) (.cells #[.int .u64 c.a, .int .u64 c.b, .int .u64 c.c, .int .u64 c.d, .int .u64 c.e] 36), .is undef] [some 35, some 36, some 37, some 38, some 39, some 40, some 41, some 7, none] [(2, .pointer (some ⟨w.heap.size, 0, none⟩)), (3, .pointer (some ⟨w.heap.size + 1, 0, none⟩))] 41 (ak (b := w.heap.size) ob (ak (b := w.heap.size + 1) ob (ak (b := w.heap.size + 2) ob (ak (b := ga) ob (ak (b := gb) ob (ak (b := 5) (by (repeat (first | with_reducible exact ((HB2.out.block _ hgl).trans HG.out) | with_reducible apply ng | with_reducible apply jw | with_reducible apply lg)); all_goals (first | omega | (simp only [World.size_alloc, aA, World.size_drew, World.size_setCell] <;> omega))) (aO (pl HB2.out)))))))) (fun a0 hc => ⟨abp hc [(2, none)], abp hc [(35, some 0)], abp hc [(3, none)], abp hc [(37, some 2)], abP hc [(36, some 1), (38, some 3)] Tryz.func38 (fun _ HK => C7.out _), abp hc [], abP hc [(39, some 4), (40, some 5)] Tryz.func38 (fun _ HK => C8.out _), abR hc [], abX hc 7 [(7, some 7), (41, some 6)], trivial⟩) ?_ ⟨rfl, rfl, trivial⟩ (by simp) (by kernel_rfl) rfl rfl rfl rfl rfl (by kernel_rfl)
 intro ρ w' HK HO HN aC HW0
 simp only [ae7, ae8, valOf, Sp.val, List.getElem?_cons_zero, List.getElem?_cons_succ, Act.put, List.setIfInBounds_toArray, List.set_cons_zero, List.set_cons_succ]
 obtain ⟨hg0, ho0⟩ := HO 7 _ _ _ rfl
 clear HO HN
 generalize ρ 7 = gc at hg0 ho0 ⊢
 clear ρ
 have gI : Keeps w [(gc, .cells #[.int .u64 c.a, .int .u64 c.b, .int .u64 c.c, .int .u64 c.d, .int .u64 c.e] 36), (w.heap.size, .cells p.cA 38), (w.heap.size + 1, .cells q.cA 38), (w.heap.size + 2, .cells bP 38), (ga, .cells #[.int .u64 a.a, .int .u64 a.b, .int .u64 a.c, .int .u64 a.d, .int .u64 a.e] 36), (gb, .cells #[.int .u64 b.a, .int .u64 b.b, .int .u64 b.c, .int .u64 b.d, .int .u64 b.e] 36)] w' := ak ho0 (⟨HK.1, fun q hq => HK.2 q (by simp only [List.mem_cons, List.not_mem_nil, or_false] at hq ⊢; rcases hq with rfl | rfl | rfl | rfl | rfl <;> simp)⟩)
 have agl : w.heap.size < gc := Nat.lt_of_lt_of_le (aC _ (List.mem_cons_self)) hg0
 have agm : w.heap.size + 1 < gc := Nat.lt_of_lt_of_le (aC _ (List.mem_cons_of_mem _ (List.mem_cons_self))) hg0
 have agn : w.heap.size + 2 < gc := Nat.lt_of_lt_of_le (aC _ (List.mem_cons_of_mem _ (List.mem_cons_of_mem _ (List.mem_cons_self)))) hg0
 have agp : ga < gc := Nat.lt_of_lt_of_le (aC _ (List.mem_cons_of_mem _ (List.mem_cons_of_mem _ (List.mem_cons_of_mem _ (List.mem_cons_self))))) hg0
 have agq : gb < gc := Nat.lt_of_lt_of_le (aC _ (List.mem_cons_of_mem _ (List.mem_cons_of_mem _ (List.mem_cons_of_mem _ (List.mem_cons_of_mem _ (List.mem_cons_self)))))) hg0
 obtain ⟨x3, rfl, hk3, hz3, nN, uq, zn, Py, ZN, l35⟩ := gI.FN
 have HB3 : Hid (Below w.heap.size w x3) := hk3.below
 clear HK aC gI hk3 ho0
 have akw : w.heap.size ≤ gc := Nat.le_trans HW0 hg0
 clear hg0
 clear HW0
 go_wp2_with fail
 refine (C9.out _).mono ?_
 rintro e y4 ⟨rfl, hb4⟩
 obtain ⟨x4, rfl, hc4, lT, rU, yL, Dj, Yf⟩ := Bl (b0 := w.heap.size + 2) (b1 := ga) (b2 := gb) (b3 := gc) hb4 rfl ob ob ob ob
 have HB4 := aZ HB3.out hc4
 clear hb4 hc4
 try simp only [eF] at lT
 go_wp2_with fail
 refine (C10.out _).mono ?_
 rintro e y5 ⟨rfl, hb5⟩
 obtain ⟨x5, rfl, hc5, rP, Ae, l51, Gi, WC, ZO⟩ := dZ (b0 := w.heap.size + 2) (b1 := ga) (b2 := gb) (b3 := gc) (b4 := x4.heap.size) hb5 rfl ob ob ob ob ob
 have kR := aZ HB4.out hc5
 clear hb5 hc5
 try simp only [eF] at rP
 go_wp2_with fail
 refine aac w [(w.heap.size + 2, .cells bP 38), (ga, .cells #[.int .u64 a.a, .int .u64 a.b, .int .u64 a.c, .int .u64 a.d, .int .u64 a.e] 36), (gb, .cells #[.int .u64 b.a, .int .u64 b.b, .int .u64 b.c, .int .u64 b.d, .int .u64 b.e] 36), (gc, .cells #[.int .u64 c.a, .int .u64 c.b, .int .u64 c.c, .int .u64 c.d, .int .u64 c.e] 36), (x4.heap.size, .cells #[.int .u64 d.a, .int .u64 d.b, .int .u64 d.c, .int .u64 d.d, .int .u64 d.e] 36)] [.is b.v, .is a.v, .is ee.v, .is d.v, .is c.v, .is f.v, .is d.v, .is c.v, .is g.v, .is b.v, .is a.v, .is h.v, .own 16 (.cells #[.int .u64 0, .int .u64 0, .int .u64 0, .int .u64 0, .int .u64 0] 36) (.cells #[.int .u64 ee.a, .int .u64 ee.b, .int .u64 ee.c, .int .u64 ee.d, .int .u64 ee.e] 36), .own 17 (.cells #[.int .u64 0, .int .u64 0, .int .u64 0, .int .u64 0, .int .u64 0] 36) (.cells #[.int .u64 f.a, .int .u64 f.b, .int .u64 f.c, .int .u64 f.d, .int .u64 f.e] 36), .own 18 (.cells #[.int .u64 0, .int .u64 0, .int .u64 0, .int .u64 0, .int .u64 0] 36) (.cells #[.int .u64 g.a, .int .u64 g.b, .int .u64 g.c, .int .u64 g.d, .int .u64 g.e] 36), .own 19 (.cells #[.int .u64 0, .int .u64 0, .int .u64 0, .int .u64 0, .int .u64 0] 36) (.cells #[.int .u64 h.a, .int .u64 h.b, .int .u64 h.c, .int .u64 h.d, .int .u64 h.e] 36), .is undef, .is undef, .is undef, .is undef] [some 50, some 51, some 52, some 53, some 54, some 55, some 56, some 57, some 58, some 59, some 60, some 61, some 9, some 10, some 11, some 12, none, none, none, none] [(5, .pointer (some ⟨ga, 0, none⟩)), (6, .pointer (some ⟨gb, 0, none⟩)), (7, .pointer (some ⟨gc, 0, none⟩)), (8, .pointer (some ⟨x4.heap.size, 0, none⟩))] 61 (ak (b := w.heap.size + 2) ob (ak (b := ga) ob (ak (b := gb) ob (ak (b := gc) ob (ak (b := x4.heap.size) ob (aO (pl kR.out))))))) (fun a0 hc => ⟨abp hc [(6, none)], abp hc [(5, none)], abP hc [(50, some 0), (51, some 1)] Tryz.func56 (fun _ HK => C11.out _), abp hc [(8, none)], abp hc [(7, none)], abP hc [(53, some 3), (54, some 4)] Tryz.func56 (fun _ HK => C12.out _), abp hc [(8, none)], abp hc [(7, none)], abP hc [(56, some 6), (57, some 7)] Tryz.func58 (fun _ HK => C13.out _), abp hc [(6, none)], abp hc [(5, none)], abP hc [(59, some 9), (60, some 10)] Tryz.func58 (fun _ HK => C14.out _), abR hc [], abR hc [], abR hc [], abR hc [], abX hc 12 [(9, some 12), (52, some 2)], abX hc 13 [(10, some 13), (55, some 5)], abX hc 14 [(11, some 14), (58, some 8)], abX hc 15 [(12, some 15), (61, some 11)], trivial⟩) ?_ ⟨rfl, rfl, rfl, rfl, trivial⟩ (by simp) (by kernel_rfl) rfl rfl rfl rfl rfl (by kernel_rfl)
 intro ρ w' HK HO HN aC HW0
 simp only [ae7, ae8, valOf, Sp.val, List.getElem?_cons_zero, List.getElem?_cons_succ, Act.put, List.setIfInBounds_toArray, List.set_cons_zero, List.set_cons_succ]
 obtain ⟨hg0, ho0⟩ := HO 12 _ _ _ rfl
 obtain ⟨hg1, ho1⟩ := HO 13 _ _ _ rfl
 obtain ⟨hg2, ho2⟩ := HO 14 _ _ _ rfl
 obtain ⟨hg3, ho3⟩ := HO 15 _ _ _ rfl
 have Ko : ρ 13 ≠ ρ 12 := fun h => absurd (HN _ _ _ _ rfl rfl h) (by decide)
 have abG : ρ 14 ≠ ρ 12 := fun h => absurd (HN _ _ _ _ rfl rfl h) (by decide)
 have abH : ρ 14 ≠ ρ 13 := fun h => absurd (HN _ _ _ _ rfl rfl h) (by decide)
 have abI : ρ 15 ≠ ρ 12 := fun h => absurd (HN _ _ _ _ rfl rfl h) (by decide)
 have abJ : ρ 15 ≠ ρ 13 := fun h => absurd (HN _ _ _ _ rfl rfl h) (by decide)
 have abK : ρ 15 ≠ ρ 14 := fun h => absurd (HN _ _ _ _ rfl rfl h) (by decide)
 clear HO HN
 generalize ρ 12 = ge at hg0 ho0 Ko abG abI ⊢
 generalize ρ 13 = gf at hg1 ho1 Ko abH abJ ⊢
 generalize ρ 14 = gg at hg2 ho2 abG abH abK ⊢
 generalize ρ 15 = gh at hg3 ho3 abI abJ abK ⊢
 clear ρ
 have gI : Keeps w [(ge, .cells #[.int .u64 ee.a, .int .u64 ee.b, .int .u64 ee.c, .int .u64 ee.d, .int .u64 ee.e] 36), (gf, .cells #[.int .u64 f.a, .int .u64 f.b, .int .u64 f.c, .int .u64 f.d, .int .u64 f.e] 36), (gg, .cells #[.int .u64 g.a, .int .u64 g.b, .int .u64 g.c, .int .u64 g.d, .int .u64 g.e] 36), (gh, .cells #[.int .u64 h.a, .int .u64 h.b, .int .u64 h.c, .int .u64 h.d, .int .u64 h.e] 36), (w.heap.size + 2, .cells bP 38)] w' := ak ho0 (ak ho1 (ak ho2 (ak ho3 (⟨HK.1, fun q hq => HK.2 q (by simp only [List.mem_cons, List.not_mem_nil, or_false] at hq ⊢; rcases hq with rfl <;> simp)⟩))))
 have X0 : w.heap.size + 2 < ge := Nat.lt_of_lt_of_le (aC _ (List.mem_cons_self)) hg0
 have X3 : w.heap.size + 2 < gf := Nat.lt_of_lt_of_le (aC _ (List.mem_cons_self)) hg1
 have agu : w.heap.size + 2 < gg := Nat.lt_of_lt_of_le (aC _ (List.mem_cons_self)) hg2
 have agv : w.heap.size + 2 < gh := Nat.lt_of_lt_of_le (aC _ (List.mem_cons_self)) hg3
 have abA := Ne.symm Ko
 have aiH := Ne.symm abG
 have aiI := Ne.symm abH
 have aiJ := Ne.symm abI
 have aiK := Ne.symm abJ
 have aiL := Ne.symm abK
 obtain ⟨x6, rfl, hk6, yH, Gj, Jk, Kz, UF, WE⟩ := gI.ji
 have mg : Hid (Below w.heap.size w x6) := hk6.below
 clear HK aC gI hk6 ho0 ho1 ho2 ho3
 have ac9 : w.heap.size ≤ ge := Nat.le_trans HW0 hg0
 clear hg0
 have ada : w.heap.size ≤ gf := Nat.le_trans HW0 hg1
 clear hg1
 have akx : w.heap.size ≤ gg := Nat.le_trans HW0 hg2
 clear hg2
 have aky : w.heap.size ≤ gh := Nat.le_trans HW0 hg3
 clear hg3
 clear HW0
 go_wp2_with fail
 refine st1 w [13] 14 (ak (b := w.heap.size + 2) ob (ak (b := ge) ob (ak (b := gf) ob (ak (b := gg) ob (ak (b := gh) ob (aO (pl mg.out))))))) (fun HS => ?_)
 refine jB 0 (some 62) HS (h := ?_)
 refine jB 1 (some 63) HS (h := ?_)
 refine jB 3 (some 65) HS (h := ?_)
 refine jB 4 (some 66) HS (h := ?_)
 refine jB 6 (some 68) HS (h := ?_)
 refine jB 7 (some 69) HS (h := ?_)
 refine jB 9 (some 71) HS (h := ?_)
 refine jB 10 (some 72) HS (h := ?_)
 refine dH 2 (some 64) (h := fun K hK => ?_)
 go_simp
 refine (C15.out _).mono ?_
 rintro e y ⟨rfl, hb⟩
 refine hK.out _ _ (HS.step hb rfl) ?_
 clear HS hb
 intro HS
 refine dH 5 (some 67) (h := fun K hK => ?_)
 go_simp
 refine (C16.out _).mono ?_
 rintro e y ⟨rfl, hb⟩
 refine hK.out _ _ (HS.step hb rfl) ?_
 clear HS hb
 intro HS
 refine dH 8 (some 70) (h := fun K hK => ?_)
 go_simp
 refine (C17.out _).mono ?_
 rintro e y ⟨rfl, hb⟩
 refine hK.out _ _ (HS.step hb rfl) ?_
 clear HS hb
 intro HS
 refine dH 11 (some 73) (h := fun K hK => ?_)
 go_simp
 refine (C18.out _).mono ?_
 rintro e y ⟨rfl, hb⟩
 refine hK.out _ _ (HS.step hb rfl) ?_
 clear HS hb
 intro HS
 refine jB 12 (some 74) HS (h := ?_)
 obtain ⟨x7, rfl, ZA, Ac, KA, Pz, QJ, Yg, Yh⟩ := HS.ji
 have oW : Hid (Below w.heap.size w x7) := ZA.below
 clear HS ZA
 refine pO 13 none (h := fun K hK => ?_)
 refine (if_pos (by rfl)).mpr ?_
 refine gB 38 _ _ rfl (w.heap.size + 2) (#[.int .u64 X.a, .int .u64 X.b, .int .u64 X.c, .int .u64 X.d, .int .u64 X.e, .int .u64 Y.a, .int .u64 Y.b, .int .u64 Y.c, .int .u64 Y.d, .int .u64 Y.e, .int .u64 Z.a, .int .u64 Z.b, .int .u64 Z.c, .int .u64 Z.d, .int .u64 Z.e, .int .u64 T.a, .int .u64 T.b, .int .u64 T.c, .int .u64 T.d, .int .u64 T.e]) rfl rfl 38 (bP) ob (by kernel_rfl) rfl (eH (Pn.mk X Y Z T)) ?_
 refine hK.out _ _ ?_
 refine done_ (by kernel_rfl) ?_
 go_wp2_with fail
 refine bodyPost_ret (v := (Pn.mk X Y Z T).v) (fA rfl rfl (fD (Pn.mk X Y Z T) ob)) rfl ⟨rfl, (pl oW.out)⟩
end
end Go.Proofs.YtehfkbaendajbaaGreatDoor
