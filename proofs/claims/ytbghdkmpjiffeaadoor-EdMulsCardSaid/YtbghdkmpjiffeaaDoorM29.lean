/-
  Shared, part 29: walks and plain laws; each theorem states its own conditions.
-/
import Derived.Test.YtbghdkmpjiffeaaDoorM8
import Derived.Test.YtbghdkmpjiffeaaDoorM42
import Derived.Lib.Hide
import Derived.StillTailTactics
namespace Go.Proofs.YtbghdkmpjiffeaaDoor
set_option linter.unusedSimpArgs false
set_option linter.unusedVariables false
set_option maxRecDepth 100000
set_option maxHeartbeats 8000000
section
open Go.RowKit Go.Proofs.YtbghdkmpjiffeaaDoorW.PrintLast
theorem OH (gt : TypeId) (gf : Nat × Nat) (p : Pn) (xx yy zz tt xy zt l m r : Fn) (o1 o2 o3 : Bool) (Cx : Hid (∀ w, Calls Tryd.prog 41 #[p.x.v] w fun e w' => e = .returned xx.v ∧ Below w.heap.size w w')) (Cy : Hid (∀ w, Calls Tryd.prog 41 #[p.y.v] w fun e w' => e = .returned yy.v ∧ Below w.heap.size w w')) (Cz : Hid (∀ w, Calls Tryd.prog 41 #[p.z.v] w fun e w' => e = .returned zz.v ∧ Below w.heap.size w w')) (Ct : Hid (∀ w, Calls Tryd.prog 41 #[p.t.v] w fun e w' => e = .returned tt.v ∧ Below w.heap.size w w')) (C1 : Hid (∀ w, Calls Tryd.prog 57 #[p.z.v, (⟨0, 0, 0, 0, 0⟩ : Fn).v] w fun e w' => e = .returned (.bool o1) ∧ Below w.heap.size w w')) (C2 : Hid (∀ w, Calls Tryd.prog 46 #[p.x.v, p.y.v] w fun e w' => e = .returned xy.v ∧ Below w.heap.size w w')) (C3 : Hid (∀ w, Calls Tryd.prog 46 #[p.z.v, p.t.v] w fun e w' => e = .returned zt.v ∧ Below w.heap.size w w')) (C4 : Hid (∀ w, Calls Tryd.prog 57 #[xy.v, zt.v] w fun e w' => e = .returned (.bool o2) ∧ Below w.heap.size w w')) (C5 : Hid (∀ w, Calls Tryd.prog 43 #[yy.v, xx.v] w fun e w' => e = .returned l.v ∧ Below w.heap.size w w')) (C6 : Hid (∀ w, Calls Tryd.prog 46 #[.agg #[.int .u64 929955233495203, .int .u64 466365720129213, .int .u64 1662059464998953, .int .u64 2033849074728123, .int .u64 1442794654840575], tt.v] w fun e w' => e = .returned m.v ∧ Below w.heap.size w w')) (C7 : Hid (∀ w, Calls Tryd.prog 45 #[zz.v, m.v] w fun e w' => e = .returned r.v ∧ Below w.heap.size w w')) (C8 : Hid (∀ w, Calls Tryd.prog 57 #[l.v, r.v] w fun e w' => e = .returned (.bool o3) ∧ Below w.heap.size w w')) (w : World) (hg : 0 < w.heap.size ∧ w.heap[0]? = some (.cells #[.int .u64 929955233495203, .int .u64 466365720129213, .int .u64 1662059464998953, .int .u64 2033849074728123, .int .u64 1442794654840575] gt gf)) :
 Calls Tryd.prog 18 #[p.v] w fun e w' => e = .returned (.bool (!o1 && (o2 && o3))) ∧ Below w.heap.size w w' := by
 have hgl := hg.1
 have HG := Lib.hid hg.2
 clear hg
 go_enter Tryd.func18, Tryd.ntmps18
 go_wp2_with fail
 refine aac w [(w.heap.size, .cells p.cA 28)] [.is (.pointer (some ⟨w.heap.size, 0, none⟩)), .is p.x.v, .is xx.v, .is (.pointer (some ⟨w.heap.size, 5, none⟩)), .is p.y.v, .is yy.v, .is (.pointer (some ⟨w.heap.size, 10, none⟩)), .is p.z.v, .is zz.v, .is (.pointer (some ⟨w.heap.size, 15, none⟩)), .is p.t.v, .is tt.v, .own 16 (.cells #[.int .u64 0, .int .u64 0, .int .u64 0, .int .u64 0, .int .u64 0] 26) (.cells #[.int .u64 xx.a, .int .u64 xx.b, .int .u64 xx.c, .int .u64 xx.d, .int .u64 xx.e] 26), .own 17 (.cells #[.int .u64 0, .int .u64 0, .int .u64 0, .int .u64 0, .int .u64 0] 26) (.cells #[.int .u64 yy.a, .int .u64 yy.b, .int .u64 yy.c, .int .u64 yy.d, .int .u64 yy.e] 26), .own 18 (.cells #[.int .u64 0, .int .u64 0, .int .u64 0, .int .u64 0, .int .u64 0] 26) (.cells #[.int .u64 zz.a, .int .u64 zz.b, .int .u64 zz.c, .int .u64 zz.d, .int .u64 zz.e] 26), .own 19 (.cells #[.int .u64 0, .int .u64 0, .int .u64 0, .int .u64 0, .int .u64 0] 26) (.cells #[.int .u64 tt.a, .int .u64 tt.b, .int .u64 tt.c, .int .u64 tt.d, .int .u64 tt.e] 26), .is undef, .is undef, .is undef, .is undef] [some 7, some 8, some 9, some 10, some 11, some 12, some 13, some 14, some 15, some 16, some 17, some 18, some 3, some 4, some 5, some 6, none, none, none, none] [(1, .pointer (some ⟨w.heap.size, 0, none⟩))] 18 (ak (b := w.heap.size) ob (aO (pl (Below.refl _ _)))) (fun a0 hc => ⟨abp hc [(1, none)], abp hc [(7, some 0)], abP hc [(8, some 1)] Tryd.func41 (fun _ HK => Cx.out _), abp hc [(1, none)], abp hc [(10, some 3)], abP hc [(11, some 4)] Tryd.func41 (fun _ HK => Cy.out _), abp hc [(1, none)], abp hc [(13, some 6)], abP hc [(14, some 7)] Tryd.func41 (fun _ HK => Cz.out _), abp hc [(1, none)], abp hc [(16, some 9)], abP hc [(17, some 10)] Tryd.func41 (fun _ HK => Ct.out _), abR hc [], abR hc [], abR hc [], abR hc [], abX hc 12 [(3, some 12), (9, some 2)], abX hc 13 [(4, some 13), (12, some 5)], abX hc 14 [(5, some 14), (15, some 8)], abX hc 15 [(6, some 15), (18, some 11)], trivial⟩) ?_ ⟨rfl, trivial⟩ (by simp) (by kernel_rfl) rfl rfl rfl rfl rfl (by kernel_rfl)
 intro ρ w' HK HO HN aC HW0
 simp only [ae7, ae8, valOf, Sp.val, List.getElem?_cons_zero, List.getElem?_cons_succ, Act.put, List.setIfInBounds_toArray, List.set_cons_zero, List.set_cons_succ]
 obtain ⟨hg0, ho0⟩ := HO 12 _ _ _ rfl
 obtain ⟨hg1, ho1⟩ := HO 13 _ _ _ rfl
 obtain ⟨hg2, ho2⟩ := HO 14 _ _ _ rfl
 obtain ⟨hg3, ho3⟩ := HO 15 _ _ _ rfl
 have J7 : ρ 13 ≠ ρ 12 := fun h => absurd (HN _ _ _ _ rfl rfl h) (by decide)
 have J8 : ρ 14 ≠ ρ 12 := fun h => absurd (HN _ _ _ _ rfl rfl h) (by decide)
 have J9 : ρ 14 ≠ ρ 13 := fun h => absurd (HN _ _ _ _ rfl rfl h) (by decide)
 have abC : ρ 15 ≠ ρ 12 := fun h => absurd (HN _ _ _ _ rfl rfl h) (by decide)
 have abD : ρ 15 ≠ ρ 13 := fun h => absurd (HN _ _ _ _ rfl rfl h) (by decide)
 have abE : ρ 15 ≠ ρ 14 := fun h => absurd (HN _ _ _ _ rfl rfl h) (by decide)
 clear HO HN
 generalize ρ 12 = gx at hg0 ho0 J7 J8 abC ⊢
 generalize ρ 13 = gy at hg1 ho1 J7 J9 abD ⊢
 generalize ρ 14 = gz at hg2 ho2 J8 J9 abE ⊢
 generalize ρ 15 = gt at hg3 ho3 abC abD abE ⊢
 clear ρ
 have gI : Keeps w [(gx, .cells #[.int .u64 xx.a, .int .u64 xx.b, .int .u64 xx.c, .int .u64 xx.d, .int .u64 xx.e] 26), (gy, .cells #[.int .u64 yy.a, .int .u64 yy.b, .int .u64 yy.c, .int .u64 yy.d, .int .u64 yy.e] 26), (gz, .cells #[.int .u64 zz.a, .int .u64 zz.b, .int .u64 zz.c, .int .u64 zz.d, .int .u64 zz.e] 26), (gt, .cells #[.int .u64 tt.a, .int .u64 tt.b, .int .u64 tt.c, .int .u64 tt.d, .int .u64 tt.e] 26), (w.heap.size, .cells p.cA 28)] w' := ak ho0 (ak ho1 (ak ho2 (ak ho3 (HK))))
 have zY : w.heap.size < gx := Nat.lt_of_lt_of_le (aC _ (List.mem_cons_self)) hg0
 have XW : w.heap.size < gy := Nat.lt_of_lt_of_le (aC _ (List.mem_cons_self)) hg1
 have XZ : w.heap.size < gz := Nat.lt_of_lt_of_le (aC _ (List.mem_cons_self)) hg2
 have agc : w.heap.size < gt := Nat.lt_of_lt_of_le (aC _ (List.mem_cons_self)) hg3
 have abx := Ne.symm J7
 have aby := Ne.symm J8
 have abz := Ne.symm J9
 have aiE := Ne.symm abC
 have aiF := Ne.symm abD
 have aiG := Ne.symm abE
 obtain ⟨x1, rfl, hk1, hz1, l10, nG, l12, l13, l14⟩ := gI.ji
 have HB1 : Hid (Below w.heap.size w x1) := hk1.below
 clear HK aC gI hk1 ho0 ho1 ho2 ho3
 have LQ : w.heap.size ≤ gx := Nat.le_trans HW0 hg0
 clear hg0
 have ac7 : w.heap.size ≤ gy := Nat.le_trans HW0 hg1
 clear hg1
 have ac8 : w.heap.size ≤ gz := Nat.le_trans HW0 hg2
 clear hg2
 have aku : w.heap.size ≤ gt := Nat.le_trans HW0 hg3
 clear hg3
 clear HW0
 have alh : 0 < gx := by omega
 have ali : 0 < gy := by omega
 have alj : 0 < gz := by omega
 have alg : 0 < gt := by omega
 go_wp2_with fail
 cases o1
 · refine st1 w [] 18 (ak (b := w.heap.size) ob (ak (b := gx) ob (ak (b := gy) ob (ak (b := gz) ob (ak (b := gt) ob (aO (pl HB1.out))))))) (fun HS => ?_)
   refine jB 0 (some 19) HS (h := ?_)
   refine jB 1 (some 20) HS (h := ?_)
   refine jB 2 (some 21) HS (h := ?_)
   refine dH 3 (some 22) (h := fun K hK => ?_)
   go_simp
   refine (C1.out _).mono ?_
   rintro e y ⟨rfl, hb⟩
   refine hK.out _ _ (HS.step hb rfl) ?_
   clear HS hb
   intro HS
   refine jB 4 (some 23) HS (v := .bool false) (h := ?_)
   refine jB 5 (some 24) HS (h := ?_)
   refine jB 6 (some 25) HS (h := ?_)
   refine jB 7 (some 26) HS (h := ?_)
   refine jB 8 (some 27) HS (h := ?_)
   refine jB 10 (some 29) HS (h := ?_)
   refine jB 11 (some 30) HS (h := ?_)
   refine jB 12 (some 31) HS (h := ?_)
   refine jB 13 (some 32) HS (h := ?_)
   refine dH 9 (some 28) (h := fun K hK => ?_)
   go_simp
   refine (C2.out _).mono ?_
   rintro e y ⟨rfl, hb⟩
   refine hK.out _ _ (HS.step hb rfl) ?_
   clear HS hb
   intro HS
   refine dH 14 (some 33) (h := fun K hK => ?_)
   go_simp
   refine (C3.out _).mono ?_
   rintro e y ⟨rfl, hb⟩
   refine hK.out _ _ (HS.step hb rfl) ?_
   clear HS hb
   intro HS
   refine dH 15 (some 34) (h := fun K hK => ?_)
   go_simp
   refine (C4.out _).mono ?_
   rintro e y ⟨rfl, hb⟩
   refine hK.out _ _ (HS.step hb rfl) ?_
   clear HS hb
   intro HS
   refine jB 16 (some 35) HS (v := .bool (!o2)) (h := ?_)
   refine jB 17 (some 36) HS (v := .bool (!o2)) (h := ?_)
   obtain ⟨x2, rfl, hk2, hz2, kD, rQ, Gh, UE, l24⟩ := HS.ji
   have HB2 : Hid (Below w.heap.size w x2) := hk2.below
   clear HS hk2
   refine done_ (by kernel_rfl) ?_
   cases o2
   · go_wp2_with fail
     exact bodyPost_ret (v := .bool false) (by simp [results, Tryd.results18, go_sem]) rfl ⟨rfl, (pl HB2.out)⟩
   · go_wp2_with fail
     refine st1 w [] 10 (ak (b := 0) (by (repeat (first | with_reducible exact ((HB2.out.block _ hgl).trans HG.out) | with_reducible apply ng | with_reducible apply jw | with_reducible apply lg)); all_goals (first | omega | (simp only [World.size_alloc, aA, World.size_drew, World.size_setCell] <;> omega))) (ak (b := gx) ob (ak (b := gy) ob (ak (b := gz) ob (ak (b := gt) ob (aO (pl HB2.out))))))) (fun HS => ?_)
     refine jB 0 (some 37) HS (h := ?_)
     refine jB 1 (some 38) HS (h := ?_)
     refine jB 3 (some 40) HS (h := ?_)
     refine jB 4 (some 41) HS (h := ?_)
     refine jB 5 (some 42) HS (h := ?_)
     refine dH 2 (some 39) (h := fun K hK => ?_)
     go_simp
     refine (C5.out _).mono ?_
     rintro e y ⟨rfl, hb⟩
     refine hK.out _ _ (HS.step hb rfl) ?_
     clear HS hb
     intro HS
     refine dH 6 (some 43) (h := fun K hK => ?_)
     go_simp
     refine (C6.out _).mono ?_
     rintro e y ⟨rfl, hb⟩
     refine hK.out _ _ (HS.step hb rfl) ?_
     clear HS hb
     intro HS
     refine dH 7 (some 44) (h := fun K hK => ?_)
     go_simp
     refine (C7.out _).mono ?_
     rintro e y ⟨rfl, hb⟩
     refine hK.out _ _ (HS.step hb rfl) ?_
     clear HS hb
     intro HS
     refine dH 8 (some 45) (h := fun K hK => ?_)
     go_simp
     refine (C8.out _).mono ?_
     rintro e y ⟨rfl, hb⟩
     refine hK.out _ _ (HS.step hb rfl) ?_
     clear HS hb
     intro HS
     refine jB 9 (some 2) HS (h := ?_)
     replace HS := Keeps.tail HS
     obtain ⟨x3, rfl, hk3, hz3, nN, uq, zn, Py⟩ := HS.iO
     have HB3 : Hid (Below w.heap.size w x3) := hk3.below
     clear HS hk3
     refine done_ (by kernel_rfl) ?_
     go_wp2_with fail
     exact bodyPost_ret (v := .bool o3) (by simp [results, Tryd.results18, go_sem]) rfl ⟨rfl, (pl HB3.out)⟩
 · refine st1 w [] 18 (ak (b := w.heap.size) ob (ak (b := gx) ob (ak (b := gy) ob (ak (b := gz) ob (ak (b := gt) ob (aO (pl HB1.out))))))) (fun HS => ?_)
   refine jB 0 (some 19) HS (h := ?_)
   refine jB 1 (some 20) HS (h := ?_)
   refine jB 2 (some 21) HS (h := ?_)
   refine dH 3 (some 22) (h := fun K hK => ?_)
   go_simp
   refine (C1.out _).mono ?_
   rintro e y ⟨rfl, hb⟩
   refine hK.out _ _ (HS.step hb rfl) ?_
   clear HS hb
   intro HS
   refine jB 4 (some 23) HS (v := .bool true) (h := ?_)
   refine uZ 5 (some 24) HS (h := ?_)
   refine uZ 6 (some 25) HS (h := ?_)
   refine uZ 7 (some 26) HS (h := ?_)
   refine uZ 8 (some 27) HS (h := ?_)
   refine uZ 9 (some 28) HS (h := ?_)
   refine uZ 10 (some 29) HS (h := ?_)
   refine uZ 11 (some 30) HS (h := ?_)
   refine uZ 12 (some 31) HS (h := ?_)
   refine uZ 13 (some 32) HS (h := ?_)
   refine uZ 14 (some 33) HS (h := ?_)
   refine uZ 15 (some 34) HS (h := ?_)
   refine uZ 16 (some 35) HS (h := ?_)
   refine jB 17 (some 36) HS (v := .bool true) (h := ?_)
   obtain ⟨x2, rfl, hk2, hz2, kD, rQ, Gh, UE, l24⟩ := HS.ji
   have HB2 : Hid (Below w.heap.size w x2) := hk2.below
   clear HS hk2
   refine done_ (by kernel_rfl) ?_
   go_wp2_with fail
   exact bodyPost_ret (v := .bool false) (by simp [results, Tryd.results18, go_sem]) rfl ⟨rfl, (pl HB2.out)⟩
end
end Go.Proofs.YtbghdkmpjiffeaaDoor
