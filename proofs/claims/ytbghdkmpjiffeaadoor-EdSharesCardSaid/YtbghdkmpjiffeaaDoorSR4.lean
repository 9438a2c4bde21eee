/-
 The statement EdShares.
-/
import Derived.Test.YtbghdkmpjiffeaaDoorCards
import Derived.Test.YtbghdkmpjiffeaaDoorTie
import Derived.Test.YtbghdkmpjiffeaaDoorS40
import Derived.Test.YtbghdkmpjiffeaaDoorS43
import Derived.Test.YtbghdkmpjiffeaaDoorS44
import Derived.SevenTiedAt
namespace Go.Proofs.YtbghdkmpjiffeaaDoor
open Go.RowKit Go.ChangeShapes Go.WideShapes Go.ChangeAt Go.Proofs.YtbghdkmpjiffeaaDoorW.PrintLast
set_option linter.unusedSimpArgs false
set_option linter.unusedVariables false
set_option maxRecDepth 100000 in
set_option maxHeartbeats 8000000 in
theorem DT (A0 : Option Addr) (c0 : Nat) (bV : List Nat) (jq : ∀ b ∈ bV, b < 256) (jv : bV.length ≤ c0) (kZ : c0 ≤ maxLen) (a1 : Nat) (w1 : a1 < 4294967296) (a2 : Nat) (w2 : a2 < 4294967296) (hl : 100 < bV.length) (w : World) (jA : Rd w .u8 A0 bV) (h5 : uU w) :
 Calls Tryd.prog 6 #[.slice A0 bV.length c0, .int .u32 a1, .int .u32 a2] w fun e w' => e = .returned (.bool true) ∧ Below w.heap.size w w' := by
 have HE := Lib.hid h5
 clear h5
 have HR0 := Lib.hid jA
 have au := Lib.hid (And.intro jv jq)
 clear jA jv jq kZ
 have HW1 := Lib.hid w1
 clear w1
 have HW2 := Lib.hid w2
 clear w2
 have hI0 : (100 : Int) < (bV.length : Int) := by omega
 have hK0 : decide (100 < bV.length) = true := decide_eq_true (by omega)
 go_enter Tryd.func6, Tryd.ntmps6
 go_wp2_with fail
 refine (fJ _ (HE.out.next (pl (Below.refl _ _)))).mono ?_
 rintro e x1 ⟨rfl, hb1⟩
 have HB1 : Hid (Below w.heap.size w x1) := Below.trans (pl (Below.refl _ _)) (hb1.mono sz)
 have hz1 := HB1.out.size
 clear hb1
 go_wp2_with fail
 go_ret
 exact ⟨rfl, (pl HB1.out)⟩
set_option maxRecDepth 100000 in
set_option maxHeartbeats 8000000 in
theorem Hz (A0 : Option Addr) (c0 : Nat) (bV : List Nat) (jq : ∀ b ∈ bV, b < 256) (jv : bV.length ≤ c0) (kZ : c0 ≤ maxLen) (a1 : Nat) (w1 : a1 < 4294967296) (a2 : Nat) (w2 : a2 < 4294967296) (hl : bV.length ≤ 100) (w : World) (jA : Rd w .u8 A0 bV) (h5 : uU w) :
 Calls Tryd.prog 6 #[.slice A0 bV.length c0, .int .u32 a1, .int .u32 a2] w fun e w' => e = .returned (.bool true) ∧ Below w.heap.size w w' := by
 have HE := Lib.hid h5
 clear h5
 have HR0 := Lib.hid jA
 have au := Lib.hid (And.intro jv jq)
 clear jA jv jq kZ
 have HW1 := Lib.hid w1
 clear w1
 have HW2 := Lib.hid w2
 clear w2
 have hI0 : ((100 : Int) < (bV.length : Int)) = False := eq_false (by omega)
 have hK0 : decide (100 < bV.length) = false := decide_eq_false (by omega)
 have HL := Lib.hid hl
 clear hl
 go_enter Tryd.func6, Tryd.ntmps6
 go_wp2_with fail
 refine (lN A0 c0 bV au.out.1 HL.out au.out.2 _ (HE.out.next (pl (Below.refl _ _))) (HR0.out.next (pl (Below.refl _ _)))).mono ?_
 rintro e x1 ⟨⟨P0, p0, q0, rfl, TP, TS, TU⟩, hb1⟩
 have HB1 : Hid (Below w.heap.size w x1) := Below.trans (pl (Below.refl _ _)) (hb1.mono sz)
 have hz1 := HB1.out.size
 clear hb1
 have QE := Lib.hid TP
 have HF0 := Lib.hid TS
 have ug := Lib.hid TU
 clear TP TS TU
 go_wp2_with (refine aI (.tmp 7) (.tmp 25) rfl (by rfl) (x1.heap.size) p0 28 rfl rfl bP rfl ob ?_)
 obtain ⟨s, hs⟩ : ∃ s, s = a1 + a2 := ⟨_, rfl⟩
 have HSm := Lib.hid hs
 clear hs
 obtain ⟨o1, ho1, co1⟩ := qp p0 P0 QE.out [a1 % 65536 % 256, a1 % 65536 / 256, a1 / 65536 % 256, a1 / 65536 / 256] 4 rfl (by simp) (bytes4 a1 HW1.out).2
 rw [(bytes4 a1 HW1.out).1] at ho1
 have Ho1 := Lib.hid ho1
 have Co1 := Lib.hid co1
 clear ho1 co1
 obtain ⟨o2, ho2, co2⟩ := qp p0 P0 QE.out [a2 % 65536 % 256, a2 % 65536 / 256, a2 / 65536 % 256, a2 / 65536 / 256] 4 rfl (by simp) (bytes4 a2 HW2.out).2
 rw [(bytes4 a2 HW2.out).1] at ho2
 have Ho2 := Lib.hid ho2
 have Co2 := Lib.hid co2
 clear ho2 co2
 obtain ⟨o3, ho3, co3⟩ := qp p0 P0 QE.out [s % 65536 % 256, s % 65536 / 256, s / 65536 % 65536 % 256, s / 65536 % 65536 / 256, s / 4294967296 % 256, s / 4294967296 / 256] 6 rfl (by simp) (ab5 s (by have := HW1.out; have := HW2.out; have := HSm.out; omega)).2
 rw [(ab5 s (by have := HW1.out; have := HW2.out; have := HSm.out; omega)).1] at ho3
 have Ho3 := Lib.hid ho3
 have WO := Lib.hid co3
 clear ho3 co3
 obtain ⟨l, hl⟩ : ∃ l, l = LO := ⟨_, rfl⟩
 obtain ⟨o4, ho4, co4⟩ := qp vw iZ yD (dw 32 l) 32 (kV 32 l).symm (by rw [kV]; decide) (qj 32 l)
 rw [show bW (dw 32 l) = acB by rw [hl]; exact XY, acz] at ho4
 have Ho4 := Lib.hid ho4
 have LM := Lib.hid co4
 have HOL := Lib.hid hl
 clear ho4 co4 hl
 obtain ⟨oa, hoa, coa⟩ := rY o1 o2 _ _ Ho1.out Ho2.out
 have Hoa : Hid (oa.of (Pt.smul s P0)) := Lib.hid (by rw [HSm.out, smul_add]; exact hoa)
 have Coa := Lib.hid coa
 clear hoa coa
 have ew1 : eX (a1 : Int) = (a1 : Int) := nH a1 (by have := HW1.out; omega)
 have ew2 : eX ((a1 : Int) / 65536) = ((a1 : Int) / 65536) := nH (a1 / 65536) (by have := HW1.out; omega)
 refine aac w [(x1.heap.size, .cells p0.cA 28)] [.is (.int .u32 a1), .is (.int .u64 a1), .is (.int .u64 ((a1 % 65536 : Nat) : Int)), .is (.int .u32 a1), .is (.int .u64 a1), .is (.int .u64 ((a1 / 65536 : Nat) : Int)), .new (fun p => .slice (some ⟨p, 0, none⟩) 2 2) (.cells #[.int .u64 ((a1 % 65536 : Nat) : Int), .int .u64 ((a1 / 65536 : Nat) : Int)] 24), .new (fun p => .slice (some ⟨p, 0, none⟩) 4 4) (.cells (bn [a1 % 65536 % 256, a1 % 65536 / 256, a1 / 65536 % 256, a1 / 65536 / 256]) 5), .is p0.v, .is (.tuple #[o1.v, .int .i64 0]), .is (.tuple #[o1.v, .int .i64 0]), .is o1.v, .is (.int .i64 0), .own 14 (.cells bP 28) (.cells o1.cA 28), .is undef, .is (.int .i64 0)] [some 28, some 29, some 30, some 31, some 32, some 33, some 34, some 35, some 36, some 37, some 27, some 38, some 39, some 9, none, some 10] [(1, .int .u32 a1), (7, .pointer (some ⟨x1.heap.size, 0, none⟩))] 39 (ak (b := x1.heap.size) ob (aO (pl HB1.out))) (fun a0 hc => ⟨abp hc [(1, none)], abp hc [(28, some 0)], abp hc [(29, some 1)], abp hc [(1, none)], abp hc [(31, some 3)], abp hc [(32, some 4)], ac5 hc [(30, some 2), (33, some 5)], adf hc [(34, some 6)] Tryd.func29 (fun ρ w HK HH => TT _ _ (by omega) _ (by have := HW1.out; omega) w HH.1), adg hc 7 (x1.heap.size), ade hc [(35, some 7), (36, some 8)] Tryd.func28 (fun ρ w HK HH => Co1.out _ 4 w (HE.out.next HK.1).c (nS HH.1)), abp hc [(37, some 9)], abp hc [(27, some 10)], abp hc [(27, some 10)], abR hc [], adh hc 9 13 38 11 (eH o1), abp hc [(39, some 12)], trivial⟩) ?_ ⟨rfl, rfl, trivial⟩ (by simp) (by kernel_rfl) rfl rfl rfl rfl rfl (by kernel_rfl)
 intro ρ w' HK HO HN aC HW0
 simp only [ae7, ae8, valOf, Sp.val, List.getElem?_cons_zero, List.getElem?_cons_succ, Act.put, List.setIfInBounds_toArray, List.set_cons_zero, List.set_cons_succ]
 obtain ⟨hg0, ho0⟩ := HO 13 _ _ _ rfl
 clear HO HN
 generalize ρ 13 = g1 at hg0 ho0 ⊢
 generalize ρ 6 = agN
 generalize ρ 7 = ag2
 clear ρ
 have gI : Keeps w [(g1, .cells o1.cA 28), (x1.heap.size, .cells p0.cA 28)] w' := ak ho0 (HK)
 have agh : x1.heap.size < g1 := Nat.lt_of_lt_of_le (aC _ (List.mem_cons_self)) hg0
 obtain ⟨x2, rfl, hk2, hz2, kD, rQ⟩ := gI.iL
 have HB2 : Hid (Below w.heap.size w x2) := hk2.below
 clear HK aC gI hk2 ho0
 have akv : w.heap.size ≤ g1 := Nat.le_trans HW0 hg0
 clear hg0
 clear HW0
 clear ew1 ew2
 go_wp2_with fail
 have ew1 : eX (a2 : Int) = (a2 : Int) := nH a2 (by have := HW2.out; omega)
 have ew2 : eX ((a2 : Int) / 65536) = ((a2 : Int) / 65536) := nH (a2 / 65536) (by have := HW2.out; omega)
 refine aac w [(x1.heap.size, .cells p0.cA 28), (g1, .cells o1.cA 28)] [.is (.int .u32 a2), .is (.int .u64 a2), .is (.int .u64 ((a2 % 65536 : Nat) : Int)), .is (.int .u32 a2), .is (.int .u64 a2), .is (.int .u64 ((a2 / 65536 : Nat) : Int)), .new (fun p => .slice (some ⟨p, 0, none⟩) 2 2) (.cells #[.int .u64 ((a2 % 65536 : Nat) : Int), .int .u64 ((a2 / 65536 : Nat) : Int)] 24), .new (fun p => .slice (some ⟨p, 0, none⟩) 4 4) (.cells (bn [a2 % 65536 % 256, a2 % 65536 / 256, a2 / 65536 % 256, a2 / 65536 / 256]) 5), .is p0.v, .is (.tuple #[o2.v, .int .i64 0]), .is (.tuple #[o2.v, .int .i64 0]), .is o2.v, .is (.int .i64 0), .own 14 (.cells bP 28) (.cells o2.cA 28), .is undef, .is (.int .i64 0)] [some 41, some 42, some 43, some 44, some 45, some 46, some 47, some 48, some 49, some 50, some 40, some 51, some 52, some 11, none, some 12] [(2, .int .u32 a2), (7, .pointer (some ⟨x1.heap.size, 0, none⟩))] 52 (ak (b := x1.heap.size) ob (ak (b := g1) ob (aO (pl HB2.out)))) (fun a0 hc => ⟨abp hc [(2, none)], abp hc [(41, some 0)], abp hc [(42, some 1)], abp hc [(2, none)], abp hc [(44, some 3)], abp hc [(45, some 4)], ac5 hc [(43, some 2), (46, some 5)], adf hc [(47, some 6)] Tryd.func29 (fun ρ w HK HH => TT _ _ (by omega) _ (by have := HW2.out; omega) w HH.1), adg hc 7 (x1.heap.size), ade hc [(48, some 7), (49, some 8)] Tryd.func28 (fun ρ w HK HH => Co2.out _ 4 w (HE.out.next HK.1).c (nS HH.1)), abp hc [(50, some 9)], abp hc [(40, some 10)], abp hc [(40, some 10)], abR hc [], adh hc 11 13 51 11 (eH o2), abp hc [(52, some 12)], trivial⟩) ?_ ⟨rfl, rfl, trivial⟩ (by simp) (by kernel_rfl) rfl rfl rfl rfl rfl (by kernel_rfl)
 intro ρ w' HK HO HN aC HW0
 simp only [ae7, ae8, valOf, Sp.val, List.getElem?_cons_zero, List.getElem?_cons_succ, Act.put, List.setIfInBounds_toArray, List.set_cons_zero, List.set_cons_succ]
 obtain ⟨hg0, ho0⟩ := HO 13 _ _ _ rfl
 clear HO HN
 generalize ρ 13 = g2 at hg0 ho0 ⊢
 generalize ρ 6 = ag3
 generalize ρ 7 = ag4
 clear ρ
 have gI : Keeps w [(g2, .cells o2.cA 28), (x1.heap.size, .cells p0.cA 28), (g1, .cells o1.cA 28)] w' := ak ho0 (HK)
 have agl : x1.heap.size < g2 := Nat.lt_of_lt_of_le (aC _ (List.mem_cons_self)) hg0
 have agm : g1 < g2 := Nat.lt_of_lt_of_le (aC _ (List.mem_cons_of_mem _ (List.mem_cons_self))) hg0
 obtain ⟨x3, rfl, hk3, hz3, nN, uq, zn⟩ := gI.eG
 have HB3 : Hid (Below w.heap.size w x3) := hk3.below
 clear HK aC gI hk3 ho0
 have akw : w.heap.size ≤ g2 := Nat.le_trans HW0 hg0
 clear hg0
 clear HW0
 clear ew1 ew2
 have ew1 : eX (a1 : Int) = (a1 : Int) := nH a1 (by have := HW1.out; omega)
 have ew2 : eX (a2 : Int) = (a2 : Int) := nH a2 (by have := HW2.out; omega)
 have ew3 : eX ((a1 : Int) + (a2 : Int)) = (s : Int) := by have := nH s (by have := HW1.out; have := HW2.out; have := HSm.out; omega); rw [HSm.out] at this ⊢; exact this
 go_wp2_with fail
 clear ew1 ew2 ew3
 have ew1 : eX ((s : Int) / 65536) = ((s : Int) / 65536) := nH (s / 65536) (by have := HW1.out; have := HW2.out; have := HSm.out; omega)
 have ew2 : eX ((s : Int) / 4294967296) = ((s : Int) / 4294967296) := nH (s / 4294967296) (by have := HW1.out; have := HW2.out; have := HSm.out; omega)
 refine aac w [(x1.heap.size, .cells p0.cA 28), (g1, .cells o1.cA 28), (g2, .cells o2.cA 28)] [.is (.int .u64 s), .is (.int .u64 ((s % 65536 : Nat) : Int)), .is (.int .u64 s), .is (.int .u64 ((s / 65536 : Nat) : Int)), .is (.int .u64 ((s / 65536 % 65536 : Nat) : Int)), .is (.int .u64 s), .is (.int .u64 ((s / 4294967296 : Nat) : Int)), .new (fun p => .slice (some ⟨p, 0, none⟩) 3 3) (.cells #[.int .u64 ((s % 65536 : Nat) : Int), .int .u64 ((s / 65536 % 65536 : Nat) : Int), .int .u64 ((s / 4294967296 : Nat) : Int)] 24), .new (fun p => .slice (some ⟨p, 0, none⟩) 6 6) (.cells (bn [s % 65536 % 256, s % 65536 / 256, s / 65536 % 65536 % 256, s / 65536 % 65536 / 256, s / 4294967296 % 256, s / 4294967296 / 256]) 5), .is p0.v, .is (.tuple #[o3.v, .int .i64 0]), .is (.tuple #[o3.v, .int .i64 0]), .is o3.v, .is (.int .i64 0), .own 15 (.cells bP 28) (.cells o3.cA 28), .is undef, .is (.int .i64 0)] [some 59, some 60, some 61, some 62, some 63, some 64, some 65, some 66, some 67, some 68, some 69, some 58, some 70, some 71, some 14, none, some 15] [(7, .pointer (some ⟨x1.heap.size, 0, none⟩)), (13, .int .u64 s)] 71 (ak (b := x1.heap.size) ob (ak (b := g1) ob (ak (b := g2) ob (aO (pl HB3.out))))) (fun a0 hc => ⟨abp hc [(13, none)], abp hc [(59, some 0)], abp hc [(13, none)], abp hc [(61, some 2)], abp hc [(62, some 3)], abp hc [(13, none)], abp hc [(64, some 5)], ac5 hc [(60, some 1), (63, some 4), (65, some 6)], adf hc [(66, some 7)] Tryd.func29 (fun ρ w HK HH => acA _ _ (by omega) _ (by omega) _ (by have := HW1.out; have := HW2.out; have := HSm.out; omega) w HH.1), adg hc 7 (x1.heap.size), ade hc [(67, some 8), (68, some 9)] Tryd.func28 (fun ρ w HK HH => WO.out _ 6 w (HE.out.next HK.1).c (nS HH.1)), abp hc [(69, some 10)], abp hc [(58, some 11)], abp hc [(58, some 11)], abR hc [], adh hc 14 14 70 12 (eH o3), abp hc [(71, some 13)], trivial⟩) ?_ ⟨rfl, rfl, trivial⟩ (by simp) (by kernel_rfl) rfl rfl rfl rfl rfl (by kernel_rfl)
 intro ρ w' HK HO HN aC HW0
 simp only [ae7, ae8, valOf, Sp.val, List.getElem?_cons_zero, List.getElem?_cons_succ, Act.put, List.setIfInBounds_toArray, List.set_cons_zero, List.set_cons_succ]
 obtain ⟨hg0, ho0⟩ := HO 14 _ _ _ rfl
 clear HO HN
 generalize ρ 14 = g3 at hg0 ho0 ⊢
 generalize ρ 7 = ag5
 generalize ρ 8 = ag6
 clear ρ
 have gI : Keeps w [(g3, .cells o3.cA 28), (g1, .cells o1.cA 28), (g2, .cells o2.cA 28)] w' := ak ho0 (⟨HK.1, fun q hq => HK.2 q (by simp only [List.mem_cons, List.not_mem_nil, or_false] at hq ⊢; rcases hq with rfl | rfl <;> simp)⟩)
 have zZ : g1 < g3 := Nat.lt_of_lt_of_le (aC _ (List.mem_cons_of_mem _ (List.mem_cons_self))) hg0
 have Aa : g2 < g3 := Nat.lt_of_lt_of_le (aC _ (List.mem_cons_of_mem _ (List.mem_cons_of_mem _ (List.mem_cons_self)))) hg0
 obtain ⟨x4, rfl, hk4, lT, rU, yL, Dj⟩ := gI.eG
 have HB4 : Hid (Below w.heap.size w x4) := hk4.below
 clear HK aC gI hk4 ho0
 have LU : w.heap.size ≤ g3 := Nat.le_trans HW0 hg0
 clear hg0
 clear HW0
 clear ew1 ew2
 go_wp2_with fail
 refine (afR l HOL.out _).mono ?_
 rintro e y5 ⟨⟨LA, lc, rfl, hld⟩, hb5⟩
 obtain ⟨x5, rfl, hc5, rP, Ae, l51, Gi⟩ := bZ (b0 := g1) (b1 := g2) (b2 := g3) hb5 rfl ob ob ob
 have kR := aZ HB4.out hc5
 clear hb5 hc5
 try simp only [bF] at rP
 have HLD := Lib.hid hld
 clear hld
 go_wp2_with fail
 refine (RD _ LA lc l HOL.out (HLD.out.next (pl (Below.refl _ _)))).mono ?_
 rintro e y6 ⟨⟨gb, acy, rfl, afV⟩, hb6⟩
 replace HLD := Lib.hid (HLD.out.next (bt hb6))
 have gI : Keeps w _ y6 := ak (b := g1) ((hb6.block _ sz).trans ob) (ak (b := g2) ((hb6.block _ sz).trans ob) (ak (b := g3) ((hb6.block _ sz).trans ob) (ak afV (aO (Below.trans (pl kR.out) (hb6.mono sz))))))
 obtain ⟨x6, rfl, hk6, yH, Gj, Jk, Kz, UF⟩ := gI.iO
 have mg : Hid (Below w.heap.size w x6) := hk6.below
 have HG6 : w.heap.size ≤ gb := by have := kR.out.size; (try simp only [bF] at acy); omega
 have ajK : g1 < gb := by (try simp only [bF] at acy); omega
 have aj7 : g2 < gb := by (try simp only [bF] at acy); omega
 have aj8 : g3 < gb := by (try simp only [bF] at acy); omega
 clear gI hk6 hb6 afV acy
 go_wp2_with fail
 refine (yG _ (HE.out.next (pl mg.out)).b).mono ?_
 rintro e y7 ⟨rfl, hb7⟩
 obtain ⟨x7, rfl, Ef, Ac, KA, Pz, QJ, Yg⟩ := Bl (b0 := g1) (b1 := g2) (b2 := g3) (b3 := gb) hb7 rfl ob ob ob ob
 have oW := aZ mg.out Ef
 clear hb7 Ef
 try simp only [bF] at Ac
 go_wp2_with fail
 refine (LM.out _ _ _ (HE.out.next (pl oW.out)).c (nS ob)).mono ?_
 rintro e y8 ⟨rfl, hb8⟩
 obtain ⟨x8, rfl, hc8, Di, PD, QK, UG, ZP⟩ := Bl (b0 := g1) (b1 := g2) (b2 := g3) (b3 := gb) hb8 rfl ob ob ob ob
 have ru := aZ oW.out hc8
 clear hb8 hc8
 try simp only [bF] at Di
 go_wp2_with (refine aI (.tmp 16) (.tmp 77) rfl (by rfl) (x8.heap.size) o4 28 rfl rfl bP rfl ob ?_)
 refine st1 w [] 30 (ak (b := g1) ob (ak (b := g2) ob (ak (b := g3) ob (ak (b := x8.heap.size) ob (aO (pl ru.out)))))) (fun HS => ?_)
 refine tk4 0 (some 79) HS (h := ?_)
 refine tk4 1 (some 80) HS (h := ?_)
 refine tk4 2 (some 81) HS (h := ?_)
 refine tk4 3 (some 82) HS (h := ?_)
 refine tk4 4 (some 83) HS (h := ?_)
 refine tk4 5 (some 84) HS (h := ?_)
 refine tk4 6 (some 85) HS (h := ?_)
 refine tk4 7 (some 86) HS (h := ?_)
 refine tk4 8 (some 87) HS (h := ?_)
 refine tk4 9 (some 88) HS (h := ?_)
 refine tk4 10 (some 89) HS (h := ?_)
 refine tk4 11 (some 90) HS (h := ?_)
 refine tk4 12 (some 91) HS (h := ?_)
 refine tk4 13 (some 92) HS (h := ?_)
 refine tk4 14 (some 93) HS (h := ?_)
 refine tk4 15 (some 94) HS (v := o1.v) (hy := by (intro v hv; obtain ⟨x, rfl, _, _, n0, n1, n2, n3⟩ := hv.iO; exact aG 28 (.tmp 9) rfl (g1) 0 rfl o1.cL o1.cA 28 ob (by kernel_rfl) (by kernel_rfl) (by kernel_rfl))) (h := ?_)
 refine tk4 16 (some 95) HS (v := o2.v) (hy := by (intro v hv; obtain ⟨x, rfl, _, _, n0, n1, n2, n3⟩ := hv.iO; exact aG 28 (.tmp 11) rfl (g2) 0 rfl o2.cL o2.cA 28 ob (by kernel_rfl) (by kernel_rfl) (by kernel_rfl))) (h := ?_)
 refine tk4 18 (some 97) HS (v := o3.v) (hy := by (intro v hv; obtain ⟨x, rfl, _, _, n0, n1, n2, n3⟩ := hv.iO; exact aG 28 (.tmp 14) rfl (g3) 0 rfl o3.cL o3.cA 28 ob (by kernel_rfl) (by kernel_rfl) (by kernel_rfl))) (h := ?_)
 refine dH 17 (some 96) (h := fun K hK => ?_)
 go_simp
 refine (Coa.out _ (HE.out.next HS.1).c).mono ?_
 rintro e y ⟨rfl, hb⟩
 refine hK.out _ _ (HS.step hb rfl) ?_
 clear HS hb
 intro HS
 refine dH 19 (some 98) (h := fun K hK => ?_)
 go_simp
 refine (wC oa o3 _ _ Hoa.out Ho3.out true ⟨fun _ => rfl, fun _ => rfl⟩ _).mono ?_
 rintro e y ⟨rfl, hb⟩
 refine hK.out _ _ (HS.step hb rfl) ?_
 clear HS hb
 intro HS
 refine tk4 20 (some 99) HS (h := ?_)
 refine tk4 21 (some 100) HS (h := ?_)
 refine tk4 22 (some 101) HS (v := o4.v) (hy := by (intro v hv; obtain ⟨x, rfl, _, _, n0, n1, n2, n3⟩ := hv.iO; exact aG 28 (.tmp 16) rfl (x8.heap.size) 0 rfl o4.cL o4.cA 28 ob (by kernel_rfl) (by kernel_rfl) (by kernel_rfl))) (h := ?_)
 refine dH 23 (some 102) (h := fun K hK => ?_)
 go_simp
 refine (qm _).mono ?_
 rintro e y ⟨rfl, hb⟩
 refine hK.out _ _ (HS.step hb rfl) ?_
 clear HS hb
 intro HS
 refine dH 24 (some 103) (h := fun K hK => ?_)
 go_simp
 refine (wC o4 iR _ _ Ho4.out oH true ⟨fun _ => rfl, fun _ => rfl⟩ _).mono ?_
 rintro e y ⟨rfl, hb⟩
 refine hK.out _ _ (HS.step hb rfl) ?_
 clear HS hb
 intro HS
 refine tk4 25 (some 104) HS (h := ?_)
 refine tk4 26 (some 105) HS (h := ?_)
 refine dH 27 (some 106) (h := fun K hK => ?_)
 go_simp
 refine (fJ _ (HE.out.next HS.1)).mono ?_
 rintro e y ⟨rfl, hb⟩
 refine hK.out _ _ (HS.step hb rfl) ?_
 clear HS hb
 intro HS
 refine tk4 28 (some 107) HS (h := ?_)
 refine tk4 29 (some 6) HS (h := ?_)
 obtain ⟨x9, rfl, hk9, Fj, WG, Yi, ZR, l93⟩ := HS.iO
 have pW : Hid (Below w.heap.size w x9) := hk9.below
 clear HS hk9
 refine done_ (by kernel_rfl) ?_
 go_wp2_with fail
 go_ret
 exact ⟨rfl, (pl pW.out)⟩
theorem pq (A0 : Option Addr) (c0 : Nat) (bV : List Nat) (jq : ∀ b ∈ bV, b < 256) (jv : bV.length ≤ c0) (kZ : c0 ≤ maxLen) (a1 : Nat) (w1 : a1 < 4294967296) (a2 : Nat) (w2 : a2 < 4294967296) (w : World) (jA : Rd w .u8 A0 bV) (h5 : uU w) : Calls Tryd.prog 6 #[.slice A0 bV.length c0, .int .u32 a1, .int .u32 a2] w fun e w' => e = .returned (.bool true) ∧ Below w.heap.size w w' := by
 by_cases h1 : 100 < bV.length
 · exact DT A0 c0 bV jq jv kZ a1 w1 a2 w2 h1 w jA h5
 · exact Hz A0 c0 bV jq jv kZ a1 w1 a2 w2 (by omega) w jA h5
set_option maxRecDepth 100000 in
theorem fZ (os : Os) (started : os.Started) (H : Type) (enc : TypeId × Value → H) :
 ReturnsInHanded {} Tryd.checked os 6 .any (fun w args => (Rows.edSharesSpec.pre enc Tryd.prog Tryd.f6 [] false w args ∧ laidMetH Tryd.prog fP w) ∧ sizedMet enc Tryd.prog Tryd.f6 (OpenSpec.ofChange Rows.edSharesSpec) false w args) (Rows.edSharesSpec.post enc Tryd.prog Tryd.f6 false true false false) := by
 refine returnsInHanded_of_change_and (C := Tryd.checked) (X := fun w _ => laidMetH Tryd.prog fP w) (fun _ _ _ hh h => h.of_heap hh) own started (by kernel_rfl) Tryd.func6
  (ChangeSpec.witness_shaped (enc := enc) (C := Tryd.checked) (os := os) (X := fun w _ => laidMetH Tryd.prog fP w) false (World.doorLaid Tryd.prog 49 os) #[.slice none 0 0, .int .u32 0, .int .u32 0] 8 rfl (World.shaped_of_RefB (by kernel_rfl) (by kernel_rfl)) (by kernel_rfl) (by kernel_rfl) (by kernel_rfl) (door_met os _)) ?_
 intro W base args ds gs before hval0 hW _ _ hL _
 have hval : ∀ (j : Nat) t v, Tryd.f6.params[j]? = some t → args[j]? = some v → Value.okWide Tryd.prog W .any base t v := hval0
 have hW' := hW
 obtain ⟨p, q, hA0, hV, rfl, hfz, hnd⟩ := hW
 have hA : DataW.TrodAll enc Tryd.prog W 0 (fun _ => true) true Tryd.f6.params.toList args.toList ds p := hA0
 rw [Tryd.params6] at hA hval
 obtain ⟨v0, vs0, d0, ds0, p0, q0, hargs, rfl, rfl, h0, r0⟩ := trodAll_cons hA
 obtain ⟨v1, vs1, d1, ds1, p1, q1, rfl, rfl, rfl, h1, r1⟩ := trodAll_cons r0
 obtain ⟨v2, vs2, d2, ds2, p2, q2, rfl, rfl, rfl, h2, r2⟩ := trodAll_cons r1
 obtain ⟨rfl, rfl, rfl⟩ := trodAll_nil r2
 obtain rfl : args = #[v0, v1, v2] := by cases args; simp_all
 obtain ⟨rfl, rfl⟩ := trodVars_none hV
 have k0 := h0
 have Yq : ∀ x ∈ p0, x.block < W.heap.size := by obtain ⟨m, hm⟩ := k0; exact DataW.trod_lt m _ _ _ hm
 obtain ⟨A0, c0, bV, rfl, jA, jq, jv, kZ⟩ := open_bytes (hval 0 22 v0 rfl rfl) h0
 have k1 := h1
 have lt1 : ∀ x ∈ p1, x.block < W.heap.size := by obtain ⟨m, hm⟩ := k1; exact DataW.trod_lt m _ _ _ hm
 obtain ⟨a1, rfl, w1⟩ := LD (hval 1 51 v1 rfl rfl) h1
 have k2 := h2
 have lt2 : ∀ x ∈ p2, x.block < W.heap.size := by obtain ⟨m, hm⟩ := k2; exact DataW.trod_lt m _ _ _ hm
 obtain ⟨a2, rfl, w2⟩ := LD (hval 2 51 v2 rfl rfl) h2
 have hO := mP hL
 clear hA0 hval0
 refine (pq A0 c0 bV jq jv kZ a1 w1 a2 w2 W jA hO).mono fun e W' ⟨he, bel⟩ => ?_
 subst he
 exact ⟨_, rfl, _, _, _, [], _, [], hW', trodAll_mk1 (shut_bool Tryd.underlying4 _), (trodAll_cons_mk (Below.trod laidOut (by kernel_rfl) (of_decide_eq_true (by kernel_rfl)) k0 bel Yq) (trodAll_cons_mk (Below.trod laidOut (by kernel_rfl) (of_decide_eq_true (by kernel_rfl)) k1 bel lt1) (trodAll_cons_mk (Below.trod laidOut (by kernel_rfl) (of_decide_eq_true (by kernel_rfl)) k2 bel lt2) trodAll_mk0))), rfl, bel.frame _, fun h => by cases h⟩
theorem pz : Rows.EdSharesSaid :=
 OpenClaim.holds_of_wide 6 Tryd.f6 rfl rfl rfl rfl rfl rfl rfl ⟨rfl, rfl, rfl, rfl, rfl⟩ rfl rfl rfl rfl rfl (by kernel_rfl) Tryd.func6 (by kernel_rfl)
  (of_decide_eq_true (by kernel_rfl)) (by unfold Func.isWrapper; first | (rw [if_pos (by decide +kernel)]; kernel_rfl) | (rw [if_neg (by decide +kernel)]; exact ⟨rfl, rfl⟩))
  (fun os started H enc _ => fZ os started H enc)
theorem ledShares_holds : Rows.EdSharesCardSaid :=
 Claim7.holds_tied_plain_at .later [] [.data, .data, .data, .data, .data, .data, .data] true (true, "0f95a86f4b0bab74ae68208c68a1990d2615e57689ca15e110a62c814f1842c4") false
  pz (fun _ h => by cases h) (by kernel_rfl) (fun _ h => by cases h) edShares_row_tie rfl ⟨rfl, rfl⟩ (by kernel_rfl) rfl
  (fun f fn hf hfn => by
   obtain rfl : f = 6 := Option.some.inj ((show Tryd.prog.funcNamed "imprimatur/imprimaturlaw05.EdShares" = some 6 by kernel_rfl).symm.trans hf) |>.symm
   obtain rfl : fn = Tryd.f6 := (Option.some.inj (Tryd.func6.symm.trans hfn)).symm
   exact ⟨by kernel_rfl, fun j t ht => by
    rw [Tryd.params6] at ht
    have hm : t ∈ [22, 51] := by simpa using Array.mem_of_getElem? ht
    have hall : ([22, 51].all fun u => !Tryd.prog.wantsStandIn u) = true := by kernel_rfl
    exact (show Tryd.prog.wantsStandIn t = false by simpa using List.all_eq_true.1 hall t hm)⟩)
  (by kernel_rfl)
end Go.Proofs.YtbghdkmpjiffeaaDoor