/-
  Shared, part 31: walks and plain laws; each theorem states its own conditions.
-/
import Derived.Test.YtehfkbaendajbaaGreatDoorB30
namespace Go.Proofs.YtehfkbaendajbaaGreatDoor
set_option linter.unusedSimpArgs false
set_option linter.unusedVariables false
set_option maxRecDepth 100000
set_option maxHeartbeats 8000000
section
open Go.RowKit Go.Proofs.YtehfkbaendajbaaGreatDoorW.PrintLast
theorem KY {n : Nat} (h : n < BB ^ 17) : (aB n).length ≤ 1000000 := Nat.le_trans (dK h) (by decide)
theorem afq {m n : Nat} (h1 : m ≤ Num.p) (h2 : n ≤ Num.p) : m + n < BB ^ 17 := Nat.lt_of_le_of_lt (Nat.add_le_add h1 h2) (by decide)
theorem Rw (A B : Option Addr) (c d X Y : Nat) (hx : X < Num.p) (hy : Y < Num.p) (w : World) (hX : Dn w A c X) (hY : Dn w B d Y) :
 Calls Tryz.prog 106 #[.slice A (aB X).length c, .slice B (aB Y).length d] w fun e w' => (∃ A' c', e = .returned (.slice A' (aB ((X + Y) % Num.p)).length c') ∧ Dn w' A' c' ((X + Y) % Num.p)) ∧ Below w.heap.size w w' := by
 have HX := Lib.hid hX
 have HY := Lib.hid hY
 have HP := Lib.hid (And.intro hx hy)
 clear hX hY hx hy
 go_enter Tryz.func106, Tryz.ntmps106
 go_wp2_with fail
 refine (sum_any A B c d X Y (Ep HP.out.1) (Ep HP.out.2) _ HX.out HY.out).mono ?_
 rintro e x1 ⟨⟨A1, c1, rfl, hd1⟩, hb1⟩
 have HB1 : Hid (Below w.heap.size w x1) := Below.trans (pl (Below.refl _ _)) (hb1.mono sz)
 have hz1 := HB1.out.size
 clear hb1
 have HD1 := Lib.hid hd1
 clear hd1
 go_wp2_with fail
 refine (zS A1 c1 (X + Y) (KY (afq (Nat.le_of_lt HP.out.1) (Nat.le_of_lt HP.out.2))) _ HD1.out).mono ?_
 rintro e x2 ⟨⟨A2, c2, rfl, hd2⟩, hb2⟩
 have HB2 := aZ HB1.out hb2
 have hz2 := HB2.out.size
 clear hb2
 have HD2 := Lib.hid hd2
 clear hd2
 go_wp2_with fail
 go_ret
 exact ⟨⟨A2, c2, rfl, HD2.out⟩, (pl HB2.out)⟩
theorem Gv (A B : Option Addr) (c d X Y : Nat) (hx : X < Num.p) (hy : Y < Num.p) (w : World) (hX : Dn w A c X) (hY : Dn w B d Y) :
 Calls Tryz.prog 74 #[.slice A (aB X).length c, .slice B (aB Y).length d] w fun e w' => (∃ A' c', e = .returned (.slice A' (aB ((X + (Num.p - Y)) % Num.p)).length c') ∧ Dn w' A' c' ((X + (Num.p - Y)) % Num.p)) ∧ Below w.heap.size w w' := by
 have HX := Lib.hid hX
 have HY := Lib.hid hY
 have HP := Lib.hid (And.intro hx hy)
 clear hX hY hx hy
 go_enter Tryz.func74, Tryz.ntmps74
 go_wp2_with fail
 refine (lV _).mono ?_
 rintro e x1 ⟨⟨A0, c0, rfl, hd0⟩, hb1⟩
 have HB1 : Hid (Below w.heap.size w x1) := Below.trans (pl (Below.refl _ _)) (hb1.mono sz)
 have hz1 := HB1.out.size
 clear hb1
 have HD0 := Lib.hid hd0
 clear hd0
 go_wp2_with fail
 refine (yO A0 B c0 d Num.p Y (by rw [uN]; decide) (Nat.le_of_lt HP.out.2) _ HD0.out (HY.out.mono HB1.out (Nat.le_refl _))).mono ?_
 rintro e x2 ⟨⟨A1, c1, rfl, hd1⟩, hb2⟩
 have HB2 := aZ HB1.out hb2
 have hz2 := HB2.out.size
 clear hb2
 have HD1 := Lib.hid hd1
 clear hd1
 go_wp2_with fail
 refine (sum_any A A1 c c1 X (Num.p - Y) (Ep HP.out.1) (KY (Nat.lt_of_le_of_lt (Nat.sub_le _ _) (by decide))) _ (HX.out.mono HB2.out (Nat.le_refl _)) HD1.out).mono ?_
 rintro e x3 ⟨⟨A2, c2, rfl, hd2⟩, hb3⟩
 have HB3 := aZ HB2.out hb3
 have hz3 := HB3.out.size
 clear hb3
 have HD2 := Lib.hid hd2
 clear hd2
 go_wp2_with fail
 refine (zS A2 c2 (X + (Num.p - Y)) (KY (afq (Nat.le_of_lt HP.out.1) (Nat.sub_le _ _))) _ HD2.out).mono ?_
 rintro e x4 ⟨⟨A3, c3, rfl, hd3⟩, hb4⟩
 have HB4 := aZ HB3.out hb4
 have lT := HB4.out.size
 clear hb4
 have HD3 := Lib.hid hd3
 clear hd3
 go_wp2_with fail
 go_ret
 exact ⟨⟨A3, c3, rfl, HD3.out⟩, (pl HB4.out)⟩
theorem EU (w : World) : Dn w none 0 0 := ⟨by rw [dY]; exact Rd.nil _ _ _, by rw [dY]; exact Nat.le_refl _⟩
theorem Rk (B : Option Addr) (d Y : Nat) (hy : Y < Num.p) (w : World) (hY : Dn w B d Y) : Calls Tryz.prog 74 #[.slice none 0 0, .slice B (aB Y).length d] w fun e w' => (∃ A' c', e = .returned (.slice A' (aB ((Num.p - Y) % Num.p)).length c') ∧ Dn w' A' c' ((Num.p - Y) % Num.p)) ∧ Below w.heap.size w w' := by
 have h := Gv none B 0 d 0 Y gJ hy w (EU w) hY
 rw [show (aB 0).length = 0 by rw [dY]; rfl, Nat.zero_add] at h
 exact h
end
section
open Go.RowKit Go.Proofs.YtehfkbaendajbaaGreatDoorW.PrintLast
section
variable {ops : Array Oper} {rest : List Oper} {o : Oper} {a : Act} {w : World} {Q : Exit → Act → World → Prop}
theorem I9 (w : World) : (Instr.alloc 112 true (.tuple #[])).run Tryz.prog w = .ok (.pointer (some ⟨w.heap.size, 0, none⟩)) (w.alloc (.cells (row 32 fun _ => 0) 112)) := by kernel_rfl
theorem CV (hg : o.guard = none) (hop : o.op = .build 112 #[]) (h : wpList Tryz.prog ops Q rest (a.put o.dst (.agg (row 32 fun _ => 0))) w) : wpList Tryz.prog ops Q (o :: rest) a w := by
 refine wpList_plain hg fun K hK => ?_
 have hrun := run_build (P := Tryz.prog) w 112 #[] (row 32 fun _ => 0) (by kernel_rfl)
 unfold Oper.wp execOp
 simp only [hop, Sem.run_bind, Array.map_empty, List.map_toArray, List.map_nil, hrun, Result.andThen_ok]
 exact hK _ _ h
theorem CU (hg : o.guard = none) (hop : o.op = .alloc 112) (h : wpList Tryz.prog ops Q rest (a.put o.dst (.pointer (some ⟨w.heap.size, 0, none⟩))) (w.alloc (.cells (row 32 fun _ => 0) 112))) : wpList Tryz.prog ops Q (o :: rest) a w := by
 refine wpList_plain hg fun K hK => ?_
 unfold Oper.wp execOp
 simp only [hop, Sem.run_bind, I9, Result.andThen_ok]
 exact hK _ _ h
theorem Jb (w : World) : (storeCells ⟨w.heap.size, 0, none⟩ (row 32 fun _ => 0).toList).run Tryz.prog (w.alloc (.cells (row 32 fun _ => 0) 112)) = .ok () (w.alloc (.cells (row 32 fun _ => 0) 112)) := by
 have h := run_storeCells_from (P := Tryz.prog) w.heap.size 112 (row 32 fun _ => 0).toList 0 (row 32 fun _ => 0) (w.alloc (.cells (row 32 fun _ => 0) 112)) (heap_alloc_new w _) (by simp) (fun v hv => by
  rw [row_zero] at hv
  simp at hv
  subst hv
  rfl)
 rw [List.take_zero, List.nil_append, Array.toArray_toList, xK] at h
 exact h
end
theorem abd (o1 o2 : Nat) (h1 : o1 < 68719476736) (h2 : o2 < 68719476736) : eX ((o1 : Int) + eX (38 * (o2 : Int))) = ((o1 + 38 * o2 : Nat) : Int) := by
 unfold eX; simp only [IntKind.wrap_u64]; omega
theorem adu (o1 o2 : Nat) (h1 : o1 < 8796093022208) (h2 : o2 < 268435456) : eX ((o1 : Int) + eX (38 * (o2 : Int))) = ((o1 + 38 * o2 : Nat) : Int) := by
 unfold eX; simp only [IntKind.wrap_u64]; omega
theorem Qw (b n : Nat) (F : Nat → Nat) (w : World) (hw : w.heap[b]? = some (.cells (row n F) 34)) (hf : ∀ j, j < n → F j < BB) (hn : n ≤ 4000000) :
 Calls Tryz.prog 96 #[.slice (some ⟨b, 0, none⟩) n n] w fun e w' => (∃ A' c', e = .returned (.slice A' (aB (fV n F)).length c') ∧ Dn w' A' c' (fV n F)) ∧ Below w.heap.size w w' := by
 have hl : ((List.range n).map F).length = n := by simp
 have h := ant (some ⟨b, 0, none⟩) n ((List.range n).map F) (by intro d hd; obtain ⟨i, hi, rfl⟩ := List.mem_map.mp hd; exact hf i (List.mem_range.mp hi)) (by rw [hl]; exact hn) (by rw [hl]; exact Nat.le_refl _) w (VK hw)
 rw [hl, xY] at h
 exact h
def Rn (w : World) (X Y g N : Nat) (cv : Value) (wr : World) : Prop := ∃ (cr : Nat) (gc : Nat → Nat) (x : World), cv = .int .u64 (cr : Int) ∧ wr = x.pin g (.cells (row 16 gc) 34) ∧ g < x.heap.size ∧ Below w.heap.size w x ∧ fV 16 gc % Num.p = X * Y % Num.p ∧ (∀ j, gc j < 8796093022208) ∧ (cr = 0 → ∀ j, j < 16 → gc j < BB) ∧ N = 2 * fV 16 gc + (if 0 < cr then 1 else 0)
theorem zT (A B : Option Addr) (c d X Y : Nat) (hx : X < Num.p) (hy : Y < Num.p) (w : World) (hX : Dn w A c X) (hY : Dn w B d Y) :
 Calls Tryz.prog 49 #[.slice A (aB X).length c, .slice B (aB Y).length d] w fun e w' => (∃ A' c', e = .returned (.slice A' (aB (X * Y % Num.p)).length c') ∧ Dn w' A' c' (X * Y % Num.p)) ∧ Below w.heap.size w w' := by
 have HX := Lib.hid hX
 have HY := Lib.hid hY
 obtain ⟨N, hN⟩ : ∃ N, N = (aB X).length := ⟨_, rfl⟩
 obtain ⟨M, hM⟩ : ∃ M, M = (aB Y).length := ⟨_, rfl⟩
 have HS := Lib.hid (show N ≤ 16 ∧ M ≤ 16 by rw [hN, hM]; exact ⟨dK (tK hx), dK (tK hy)⟩)
 have aev : ∀ w, (Instr.makeSlice 45 (.int .i64 16) (.int .i64 16)).run Tryz.prog w = .ok (.slice (some ⟨w.heap.size, 0, none⟩) 16 16) (w.alloc (.cells (row 16 fun _ => 0) 34)) := fun w => mW 16 (by decide) w
 have hzs := Jb
 have hz32 : (row 32 fun _ => 0).size = 32 := rfl
 rw [← hN, ← hM]
 have HN := Lib.hid hN
 have HM := Lib.hid hM
 clear hX hY hN hM hx hy
 go_enter Tryz.func49, Tryz.ntmps49
 go_wp2_with (first | (with_reducible refine CV rfl rfl ?_) | (with_reducible refine CU rfl rfl ?_))
 go_loopw [6] (fun iv wr => ∃ (i : Nat) (fc : Nat → Nat) (x : World), iv = .int .i64 (i : Int) ∧ wr = x.pin w.heap.size (.cells (row 32 fc) 112) ∧ w.heap.size < x.heap.size ∧ Hid (Below w.heap.size w x ∧ i ≤ N ∧ Ro X Y i fc)) (fun iv _ => (N - intOf iv).toNat)
 case atStart => exact ⟨0, fun _ => 0, _, rfl, xI ob, sz, (pl (Below.refl _ _)), Nat.zero_le _, PZ X Y⟩
 case round =>
  obtain ⟨i, QI, x0, rfl, rfl, q0, H0⟩ := hrel
  by_cases hi : i < N
  · obtain ⟨b, off, rfl, hbw, hcell⟩ := HX.out.cell (i := i) (by rw [← HN.out]; exact hi)
    obtain ⟨a, ha⟩ : ∃ a, a = dg X i := ⟨_, rfl⟩
    have hc1 : x0.cell? ⟨b, off + i, none⟩ = some (.int .u64 (a : Int)) := by rw [ha]; exact (H0.out.1.cell (p := ⟨b, off + i, none⟩) hbw).trans (hcell i (by rw [← HN.out]; exact hi))
    have HA := Lib.hid ha
    clear hcell ha
    go_wp2
    go_loopw [8] (fun kv wr => ∃ (k : Nat) (fc : Nat → Nat) (x : World), kv = .int .i64 (k : Int) ∧ wr = x.pin w.heap.size (.cells (row 32 fc) 112) ∧ w.heap.size < x.heap.size ∧ Hid (Below w.heap.size w x ∧ k ≤ M ∧ Oa X Y i k fc)) (fun kv _ => (M - intOf kv).toNat)
    case atStart => exact ⟨0, QI, x0, rfl, rfl, q0, H0.out.1, Nat.zero_le _, Yy H0.out.2.2⟩
    case round =>
     clear hc1
     obtain ⟨k, fc, x, rfl, rfl, q1, H⟩ := hrel
     by_cases hk : k < M
     · obtain ⟨b2, off2, rfl, hbw2, hcell2⟩ := HY.out.cell (i := k) (by rw [← HM.out]; exact hk)
       obtain ⟨a2, ha2⟩ : ∃ a, a = dg Y k := ⟨_, rfl⟩
       have hc2 : x.cell? ⟨b2, off2 + k, none⟩ = some (.int .u64 (a2 : Int)) := by rw [ha2]; exact (H.out.1.cell (p := ⟨b2, off2 + k, none⟩) hbw2).trans (hcell2 k (by rw [← HM.out]; exact hk))
       have HA2 := Lib.hid ha2
       clear hcell2 ha2
       have hb0 : fc (i + k) + dg X i * dg Y k < 68719476736 := afl H.out.2.2 (Nat.lt_of_lt_of_le hi HS.out.1)
       obtain ⟨j, hj⟩ : ∃ j, j = i + k := ⟨_, rfl⟩
       have Bf : j < 32 := by have := HS.out; omega
       have hjz : (j : Int) < 32 := by omega
       have e5 : wrap64 ((i : Int) + (k : Int)) = (j : Int) := by rw [kX _ (by have := HS.out; omega)]; omega
       have e6 : IntKind.i64.wrap ((i : Int) + (k : Int)) = (j : Int) := (Dc _).trans e5
       obtain ⟨o, ho⟩ : ∃ o, o = fc j := ⟨_, rfl⟩
       have hg : (row 32 fc)[j]? = some (.int .u64 (o : Int)) := by rw [ho]; exact gV fc Bf
       obtain ⟨m, hm⟩ : ∃ m, m = a * a2 := ⟨_, rfl⟩
       obtain ⟨s, hs⟩ : ∃ s, s = o + m := ⟨_, rfl⟩
       have hb : s < 68719476736 := by rw [hs, ho, hm, hj, HA.out, HA2.out]; exact hb0
       have v1 : eX ((a : Int) * (a2 : Int)) = (m : Int) := by rw [hm, ← Int.natCast_mul]; exact nH _ (by omega)
       have v2 : eX ((o : Int) + (m : Int)) = (s : Int) := by rw [hs, ← Int.natCast_add]; exact nH _ (by omega)
       have ahi := Lib.hid Bf
       have HH := Lib.hid (And.intro hj (And.intro ho (And.intro hm hs)))
       clear hj ho hm hs hb Bf hb0
       go_wp2
       refine wp_region_still_tail 16 (by kernel_rfl) (by kernel_rfl) ?_
       simp only [List.take_succ_cons, List.take_zero, List.drop_succ_cons, List.drop_zero, World.drew_eq]
       (repeat still_step)
       refine wpStill_nil ?_
       go_wp2
       have es : s = fc (i + k) + dg X i * dg Y k := by rw [← HA.out, ← HA2.out, ← HH.out.1, ← HH.out.2.1, ← HH.out.2.2.1]; exact HH.out.2.2.2
       have hst := U3 H.out.2.2 (show i + k < 32 by rw [← HH.out.1]; exact ahi.out)
       rw [← es, ← HH.out.1] at hst
       exact ⟨⟨k + 1, _, x.drew, Jl _ (Nat.lt_of_lt_of_le hk (Nat.le_trans HS.out.2 (by decide))), by rw [iy]; rfl, q1, H.out.1.drew, hk, hst⟩, jd M k hk (Nat.lt_of_lt_of_le hk (Nat.le_trans HS.out.2 (by decide)))⟩
     · have hk' : k = M := by have := H.out.2.1; omega
       subst hk'
       go_wp2
       exact ⟨⟨i + 1, fc, x, Jl _ (by have := HS.out; omega), rfl, q1, H.out.1, by omega, Yx H.out.2.2 (by have := HM.out; omega)⟩, jd N i hi (by have := HS.out; omega)⟩
  · have hi' : i = N := by have := H0.out.2.1; omega
    subst hi'
    have HE := Lib.hid (U1 H0.out.2.2 (by have := HN.out; omega) HS.out.1)
    go_wp2
    go_loopw [10] (fun kv wr => ∃ (k : Nat) (gc : Nat → Nat) (x : World), kv = .int .i64 (k : Int) ∧ wr = (x.pin w.heap.size (.cells (row 32 QI) 112)).pin x0.heap.size (.cells (row (16) gc) 34) ∧ w.heap.size < x.heap.size ∧ x0.heap.size < x.heap.size ∧ Hid (Below w.heap.size w x ∧ k ≤ 16 ∧ Gm QI k gc)) (fun kv _ => (16 - intOf kv).toNat)
    case atStart => exact ⟨0, fun _ => 0, _, rfl, Es ob ob, sz, sz, (pl H0.out.1), Nat.zero_le _, J5 QI⟩
    case round =>
     obtain ⟨k, gc, x, rfl, rfl, q1, q2, H⟩ := hrel
     by_cases hk : k < 16
     · have hg1 := gV QI (show k < 32 by omega)
       have amJ : k < 32 := by omega
       have hkz : (k : Int) < 16 := by omega
       have amL : (k : Int) < 32 := by omega
       have hfb : QI k < 68719476736 ∧ QI (k + 16) < 68719476736 := ⟨HE.out.2 k, HE.out.2 (k + 16)⟩
       obtain ⟨j, hj⟩ : ∃ j, j = k + 16 := ⟨_, rfl⟩
       have hjz : (j : Int) < 32 := by omega
       have hg2 := gV QI (show j < 32 by omega)
       rw [← hj] at hfb
       have HFB := Lib.hid hfb
       have e5 : wrap64 ((k : Int) + 16) = (j : Int) := by rw [kX _ (by omega)]; omega
       have e6 : IntKind.i64.wrap ((k : Int) + 16) = (j : Int) := (Dc _).trans e5
       have HJ := Lib.hid hj
       clear hj hfb
       have hg3 := gV gc hk
       go_wp2
       refine wp_region_still_tail 12 (by kernel_rfl) (by kernel_rfl) ?_
       simp only [List.take_succ_cons, List.take_zero, List.drop_succ_cons, List.drop_zero, World.drew_eq]
       (repeat still_step)
       refine wpStill_nil ?_
       go_wp2
       exact ⟨⟨k + 1, _, x.drew, vi0 k, by rw [abd _ _ HFB.out.1 HFB.out.2, iy]; rfl, q1, q2, H.out.1.drew, hk, by have h := OT H.out.2.2; rw [← HJ.out] at h; exact h⟩, tH 16 k hk⟩
     · have hk' : k = 16 := by have := H.out.2.1; omega
       subst hk'
       have HF := Lib.hid (TB H.out.2.2 HE.out.1 HE.out.2)
       go_wp2
       obtain ⟨wi, hwi⟩ : ∃ z, z = x.pin w.heap.size (.cells (row 32 QI) 112) := ⟨_, rfl⟩
       obtain ⟨g, hg⟩ : ∃ z, z = x0.heap.size := ⟨_, rfl⟩
       have HBi : Hid (Below w.heap.size w wi) := Lib.hid (by rw [hwi]; exact (pl H.out.1))
       have hgw : g < wi.heap.size := by rw [hwi, hg, aA]; exact q2
       have hwg : w.heap.size < g := by rw [hg]; exact q0
       rw [← hwi, ← hg]
       clear hwi hg
       go_loopw [11] (fun cv wr => ∃ N, Rn w X Y g N cv wr) (fun cv wr => pR fun N => Rn w X Y g N cv wr)
       case atStart => exact ⟨_, 1, gc, wi, rfl, rfl, hgw, HBi.out, HF.out.1, HF.out.2, (fun h => by cases h), rfl⟩
       case round =>
        obtain ⟨V, hVe⟩ : ∃ N, N = pR (fun N => Rn w X Y g N u11 wr) := ⟨_, rfl⟩
        have hR : Rn w X Y g V u11 wr := by rw [hVe]; exact (tu hrel).1
        clear hrel
        have HM2 := Lib.hid hVe
        clear hVe
        obtain ⟨cr, gc2, x2, rfl, rfl, q3, hbl, hmod, hbd, hz, hV⟩ := hR
        have HR := Lib.hid (And.intro hbl (And.intro hmod (And.intro hbd (And.intro hz hV))))
        clear hbl hmod hbd hz hV
        by_cases hc : 0 < cr
        · have hcz : (0 : Int) < (cr : Int) := by omega
          have Zo := Lib.hid hc
          clear hc
          go_wp2
          go_loopw [11, 12] (fun cv iv wr => ∃ (i c : Nat) (h : Nat → Nat) (x : World), cv = .int .u64 (c : Int) ∧ iv = .int .i64 (i : Int) ∧ wr = x.pin g (.cells (row (16) h) 34) ∧ g < x.heap.size ∧ Hid (Below w.heap.size w x ∧ i ≤ 16 ∧ NW (fV 16 gc2) i h c)) (fun _ iv _ => (16 - intOf iv).toNat)
          case atStart => exact ⟨0, 0, gc2, x2, rfl, rfl, rfl, q3, HR.out.1, Nat.zero_le _, Oo HR.out.2.2.1⟩
          case round =>
           obtain ⟨i2, c2, h, x3, rfl, rfl, rfl, q4, H3⟩ := hrel
           by_cases hi2 : i2 < 16
           · have hg3 := gV h hi2
             obtain ⟨s, hs⟩ : ∃ s, s = h i2 + c2 := ⟨_, rfl⟩
             have hsb : s < 8796361457664 := by rw [hs]; exact Zw H3.out.2.2
             have v1 : eX ((h i2 : Nat) + (c2 : Nat) : Int) = (s : Int) := by rw [hs, ← Int.natCast_add]; exact nH _ (by omega)
             have HSS := Lib.hid (And.intro hs hsb)
             clear hs hsb
             go_wp2
             exact ⟨⟨i2 + 1, _, _, x3, vql s (Nat.lt_trans HSS.out.2 (by decide)), vi0 i2, by rw [vr1, iy], q4, H3.out.1, hi2, by have hh := Si H3.out.2.2 hi2; rw [← HSS.out.1] at hh; exact hh⟩, tH 16 i2 hi2⟩
           · have hi3 : i2 = 16 := by have := H3.out.2.1; omega
             subst hi3
             have hg0 := gV h (show 0 < 16 by decide)
             have HEE := Lib.hid (Xq H3.out.2.2)
             have hcb : h 0 < 8796093022208 ∧ c2 < 268435456 := ⟨H3.out.2.2.2.2.2 0, H3.out.2.2.2.1⟩
             have HCB := Lib.hid hcb
             clear hcb
             go_wp2
             rw [adu _ _ HCB.out.1 HCB.out.2, iy]
             have hq : Rn w X Y g (2 * fV 16 (upd h 0 (h 0 + 38 * c2)) + (if 0 < c2 then 1 else 0)) (.int .u64 (c2 : Int)) (x3.pin g (.cells (row (16) (upd h 0 (h 0 + 38 * c2))) 34)) := ⟨c2, _, x3, rfl, rfl, q4, H3.out.1, (Xr HEE.out.1).trans HR.out.2.1, HEE.out.2.1, HEE.out.2.2, rfl⟩
             exact ⟨⟨_, hq⟩, yN hq (Nat.lt_of_lt_of_eq (RZ HEE.out.1) ((show 2 * fV 16 gc2 + 1 = V by rw [HR.out.2.2.2.2, if_pos Zo.out]).trans HM2.out))⟩
        · have hc0 : cr = 0 := by omega
          subst hc0
          have HDG := Lib.hid (HR.out.2.2.2.1 rfl)
          go_wp2_with fail
          have HB1 : Hid (Below w.heap.size w x2) := Lib.hid HR.out.1
          refine (Qw g 16 gc2 _ (eY q3) HDG.out (by decide)).mono ?_
          rintro e x2 ⟨⟨A1, c1, rfl, hd1⟩, hb2⟩
          have HB2 := aZ HB1.out hb2
          have hz2 := HB2.out.size
          clear hb2
          have HD1 := Lib.hid hd1
          clear hd1
          go_wp2_with fail
          refine (zS A1 c1 (fV 16 gc2) (Nat.le_trans (dK (k := 16) (NQ (fun i hi => HDG.out i hi))) (by decide)) _ HD1.out).mono ?_
          rintro e x3 ⟨⟨A2, c3, rfl, hd2⟩, hb3⟩
          have HB3 := aZ HB2.out hb3
          have hz3 := HB3.out.size
          clear hb3
          rw [HR.out.2.1] at hd2 ⊢
          have HD2 := Lib.hid hd2
          clear hd2
          go_wp2_with fail
          go_ret
          exact ⟨⟨A2, c3, rfl, HD2.out⟩, (pl HB3.out)⟩
end
section
open Go.RowKit Go.Proofs.YtehfkbaendajbaaGreatDoorW.PrintLast
theorem sQ : aB 1 = [1] := kW [1] (by decide) (by decide)
theorem ET : aB 2 = [2] := kW [2] (by decide) (by decide)
theorem lY {w : World} {g : Nat} (v : Nat) (hv : aB v = [v]) (hg : w.heap[g]? = some (.cells #[.int .u64 (v : Int)] 34)) : Dn w (some ⟨g, 0, none⟩) 1 v := by
  refine ⟨?_, by rw [hv]; exact Nat.le_refl 1⟩
  rw [hv]
  exact jC hg (by intro i hi; have : i = 0 := by simpa using hi
                  subst this; rfl)
theorem Zv (ev q : Nat) (b : Bool) (h : decide (ev / 2 ^ q % 2 = 1) = b) : (((ev : Int) / 2 ^ q).tmod 2 == 1) = b := by
 have e1 : ((ev : Int) / 2 ^ q) = ((ev / 2 ^ q : Nat) : Int) := by rw [Int.natCast_ediv, Int.natCast_pow]; rfl
 rw [e1, ← h]
 generalize ev / 2 ^ q = z
 rw [Bool.eq_iff_iff, beq_iff_eq, decide_eq_true_eq, Int.tmod_eq_emod_of_nonneg (by omega)]
 omega
theorem Ob (A B : Option Addr) (c d X : Nat) (hx : X < Num.p) (es : List Nat) (hl : es.length ≤ 1000) (hby : ∀ b ∈ es, b < 256) (w : World) (hX : Dn w A c X) (hr : Rd w .u8 B es) :
 Calls Tryz.prog 92 #[.slice A (aB X).length c, .slice B es.length d] w fun e w' => (∃ A' c', e = .returned (.slice A' (aB (X ^ bW es % Num.p)).length c') ∧ Dn w' A' c' (X ^ bW es % Num.p)) ∧ Below w.heap.size w w' := by
 have HX := Lib.hid hX
 have HP := Lib.hid hx
 have mJ := Lib.hid hr
 have rV := Lib.hid hby
 clear hX hx hr hby
 go_enter Tryz.func92, Tryz.ntmps92
 go_wp2_with fail
 go_loopw [5, 6] (fun ov iv wr => ∃ (k r : Nat) (A' : Option Addr) (c' : Nat), ov = .slice A' (aB r).length c' ∧ iv = .int .i64 ((k : Int) - 1) ∧ Hid (Below w.heap.size w wr ∧ k ≤ 8 * es.length ∧ r < Num.p ∧ r % Num.p = X ^ (bW es / 2 ^ k) % Num.p ∧ Dn wr A' c' r)) (fun _ iv _ => (intOf iv + 1).toNat)
 case atStart =>
  refine ⟨8 * es.length, 1, some ⟨w.heap.size, 0, none⟩, 1, by rw [sQ]; rfl, by simp, Below.alloc (Below.refl _ _) (Nat.le_refl _) _, Nat.le_refl _, by decide, by rw [Ns es rV.out, Nat.pow_zero], lY 1 sQ (heap_alloc_new w _)⟩
 case round =>
  obtain ⟨k, r, A', c', rfl, rfl, H⟩ := hrel
  rcases k with _ | k
  · go_wp2_with fail
    go_ret
    have he : r = X ^ bW es % Num.p := by have h := H.out.2.2.2.1; rw [Nat.pow_zero, Nat.div_one, Nat.mod_eq_of_lt H.out.2.2.1] at h; exact h
    exact ⟨⟨A', c', by rw [← he]; rfl, by rw [← he]; exact H.out.2.2.2.2⟩, H.out.1⟩
  · rw [show (((k + 1 : Nat) : Int) - 1) = (k : Int) from by omega]
    have hk8 : k / 8 < es.length := by have := H.out.2.1; omega
    obtain ⟨b, off, rfl, hbw, hcell⟩ := mJ.out.place (by omega)
    obtain ⟨ev, hev⟩ : ∃ v, v = es[k / 8] := ⟨_, rfl⟩
    have hc := hcell (k / 8) hk8
    rw [← hev] at hc
    have HC := Lib.hid hc
    have HEV := Lib.hid (show bW es / 2 ^ k % 2 = ev / 2 ^ (k % 8) % 2 by rw [xA es rV.out k hk8, hev])
    clear hc hcell hev
    have hi0 : (0 : Int) ≤ (k : Int) / 8 := by omega
    have hi1 : (k : Int) / 8 < (es.length : Int) := by omega
    have HB1 : Hid (Below w.heap.size w wr) := H.out.1
    have hz1 := HB1.out.size
    obtain ⟨q, hq⟩ : ∃ q, q = k % 8 := ⟨_, rfl⟩
    have b5 : q < 8 := by omega
    have e4 : (k : Int).tmod 8 = (q : Int) := by rw [Int.tmod_eq_emod_of_nonneg (by omega)]; omega
    have e7 : (k : Int) % 8 = (q : Int) := by omega
    have s1 : eX (q : Int) = (q : Int) := nH q (by omega)
    rw [← hq] at HEV
    have HQ := Lib.hid hq
    clear hq
    have EI := Lib.hid hbw
    by_cases hb : ev / 2 ^ q % 2 = 1
    · have hbt := Zv ev q true (decide_eq_true hb)
      have HBT := Lib.hid hb
      clear hb
      go_wp2_with fail
      refine (zT A' A' c' c' r r H.out.2.2.1 H.out.2.2.1 _ H.out.2.2.2.2 H.out.2.2.2.2).mono ?_
      rintro e x2 ⟨⟨A2, c2, rfl, hd2⟩, hb2⟩
      have HB2 := aZ HB1.out hb2
      have hz2 := HB2.out.size
      clear hb2
      have HD2 := Lib.hid hd2
      clear hd2
      have hcc : x2.cell? ⟨b, off + k / 8, none⟩ = some (.int .u8 (ev : Int)) := (HB2.out.cell (p := ⟨b, off + k / 8, none⟩) EI.out).trans HC.out
      go_wp2_with fail
      refine (zT A2 A c2 c (r * r % Num.p) X (Nat.mod_lt _ gJ) HP.out _ HD2.out (HX.out.mono HB2.out (Nat.le_refl _))).mono ?_
      rintro e x3 ⟨⟨A3, c3, rfl, hd3⟩, hb3⟩
      have HB3 := aZ HB2.out hb3
      have hz3 := HB3.out.size
      clear hb3
      have HD3 := Lib.hid hd3
      clear hd3 hcc
      go_wp2_with fail
      have em : r * r % Num.p * X % Num.p = r * r * X % Num.p := by rw [Nat.mul_mod, Nat.mod_mod, ← Nat.mul_mod]
      exact ⟨⟨k, r * r * X % Num.p, A3, c3, rfl, rfl, HB3.out, by have := H.out.2.1; omega, Nat.mod_lt _ gJ, Et (r := r) (s := r * r % Num.p) H.out.2.2.2.1 (Nat.mod_mod _ _) (by rw [Nat.mod_mod, em]) (HEV.out.trans HBT.out), by have h := HD3.out; rw [em] at h; exact h⟩, vK k⟩
    · have hbt := Zv ev q false (decide_eq_false hb)
      have HBT := Lib.hid hb
      clear hb
      go_wp2_with fail
      refine (zT A' A' c' c' r r H.out.2.2.1 H.out.2.2.1 _ H.out.2.2.2.2 H.out.2.2.2.2).mono ?_
      rintro e x2 ⟨⟨A2, c2, rfl, hd2⟩, hb2⟩
      have HB2 := aZ HB1.out hb2
      have hz2 := HB2.out.size
      clear hb2
      have HD2 := Lib.hid hd2
      clear hd2
      have hcc : x2.cell? ⟨b, off + k / 8, none⟩ = some (.int .u8 (ev : Int)) := (HB2.out.cell (p := ⟨b, off + k / 8, none⟩) EI.out).trans HC.out
      go_wp2_with fail
      exact ⟨⟨k, r * r % Num.p, A2, c2, rfl, rfl, HB2.out, by have := H.out.2.1; omega, Nat.mod_lt _ gJ, IU (r := r) H.out.2.2.2.1 (Nat.mod_mod _ _) (by have h1 := HEV.out; have h2 := HBT.out; omega), HD2.out⟩, vK k⟩
end
section
open Go.RowKit Go.Proofs.YtehfkbaendajbaaGreatDoorW.PrintLast
theorem Gy (A : Option Addr) (c X b n E : Nat) (hx : X < Num.p) (es : List Nat) (hn : es.length = n) (hl : n ≤ 1000) (hby : ∀ b ∈ es, b < 256) (hE : bW es = E) (w : World) (hX : Dn w A c X) (hr : Rd w .u8 (some ⟨b, 0, none⟩) es) :
 Calls Tryz.prog 92 #[.slice A (aB X).length c, .slice (some ⟨b, 0, none⟩) n n] w fun e w' => (∃ A' c', e = .returned (.slice A' (aB (X ^ E % Num.p)).length c') ∧ Dn w' A' c' (X ^ E % Num.p)) ∧ Below w.heap.size w w' := by
 subst hn
 subst hE
 exact Ob A (some ⟨b, 0, none⟩) c es.length X hx es hl hby w hX hr
theorem Eh (A : Option Addr) (c X g Y : Nat) (hsx : (aB X).length ≤ 1000000) (hY : aB Y = [Y]) (hle : Y ≤ X) (w : World) (hX : Dn w A c X) (hg : w.heap[g]? = some (.cells #[.int .u64 (Y : Int)] 34)) :
 Calls Tryz.prog 93 #[.slice A (aB X).length c, .slice (some ⟨g, 0, none⟩) 1 1] w fun e w' => (∃ A' c', e = .returned (.slice A' (aB (X - Y)).length c') ∧ Dn w' A' c' (X - Y)) ∧ Below w.heap.size w w' := by
 have h := yO A (some ⟨g, 0, none⟩) c 1 X Y hsx hle w hX (lY Y hY hg)
 rw [show (aB Y).length = 1 by rw [hY]; rfl] at h
 exact h
theorem Y9 (A : Option Addr) (c X g Y : Nat) (hsx : (aB X).length ≤ 1000000) (hY : aB Y = [Y]) (w : World) (hX : Dn w A c X) (hg : w.heap[g]? = some (.cells #[.int .u64 (Y : Int)] 34)) :
 Calls Tryz.prog 98 #[.slice A (aB X).length c, .slice (some ⟨g, 0, none⟩) 1 1] w fun e w' => (∃ A' c', e = .returned (.slice A' (aB (X + Y)).length c') ∧ Dn w' A' c' (X + Y)) ∧ Below w.heap.size w w' := by
 have h := sum_any A (some ⟨g, 0, none⟩) c 1 X Y hsx (by rw [hY]; exact Nat.le_trans (Nat.le_refl 1) (by decide)) w hX (lY Y hY hg)
 rw [show (aB Y).length = 1 by rw [hY]; rfl] at h
 exact h
theorem AA {n : Nat} (h : n < Num.p) : bW (dw 32 n) = n := by rw [yM, Nat.mod_eq_of_lt (YG h)]
theorem Ry (A : Option Addr) (c X : Nat) (hx : X < Num.p) (w : World) (hX : Dn w A c X) :
 Calls Tryz.prog 48 #[.slice A (aB X).length c] w fun e w' => (∃ A' c', e = .returned (.slice A' (aB (X ^ (Num.p - 2) % Num.p)).length c') ∧ Dn w' A' c' (X ^ (Num.p - 2) % Num.p)) ∧ Below w.heap.size w w' := by
 have HX := Lib.hid hX
 have HP := Lib.hid hx
 obtain ⟨q, hq⟩ : ∃ q, q = Num.p - 2 := ⟨_, rfl⟩
 have HQ := Lib.hid (show q < Num.p ∧ q = Num.p - 2 by rw [hq]; exact ⟨by decide, rfl⟩)
 rw [← hq]
 clear hX hx hq
 go_enter Tryz.func48, Tryz.ntmps48
 go_wp2_with fail
 refine (lV _).mono ?_
 rintro e x1 ⟨⟨A0, c0, rfl, hd0⟩, hb1⟩
 have HB1 : Hid (Below w.heap.size w x1) := Below.trans (pl (Below.refl _ _)) (hb1.mono sz)
 have hz1 := HB1.out.size
 clear hb1
 have HD0 := Lib.hid hd0
 clear hd0
 go_wp2_with fail
 refine (Eh A0 c0 Num.p x1.heap.size 2 (by rw [uN]; decide) ET (by decide) _ (HD0.out.next (pl (Below.refl _ _))) (heap_alloc_new _ _)).mono ?_
 rintro e x2 ⟨⟨A1, c1, rfl, hd1⟩, hb2⟩
 have HB2 := aZ HB1.out hb2
 have hz2 := HB2.out.size
 clear hb2
 rw [← HQ.out.2] at hd1 ⊢
 have HD1 := Lib.hid hd1
 clear hd1
 go_wp2_with fail
 refine (iE A1 c1 q (tK HQ.out.1) _ HD1.out).mono ?_
 rintro e x3 ⟨⟨b, rfl, hrd⟩, hb3⟩
 have HB3 := aZ HB2.out hb3
 have hz3 := HB3.out.size
 clear hb3
 have fM := Lib.hid hrd
 clear hrd
 go_wp2_with fail
 refine (Gy A c X b 32 q HP.out (dw 32 q) (kV _ _) (by decide) (qj _ _) (AA HQ.out.1) _ (HX.out.mono HB3.out (Nat.le_refl _)) fM.out).mono ?_
 rintro e x4 ⟨⟨A2, c2, rfl, hd2⟩, hb4⟩
 have HB4 := aZ HB3.out hb4
 have lT := HB4.out.size
 clear hb4
 have HD2 := Lib.hid hd2
 clear hd2
 go_wp2_with fail
 go_ret
 exact ⟨⟨A2, c2, rfl, HD2.out⟩, (pl HB4.out)⟩
end
section
open Go.RowKit Go.Proofs.YtehfkbaendajbaaGreatDoorW.PrintLast
theorem Td {w : World} {base n : Nat} {e : TypeId} {v : Value} (ds : List Nat) (h : w.ownsRow base e 1 v n (ds.map fun (b : Nat) => Value.int .u64 (b : Int))) : ∃ A cap, v = .slice A ds.length cap ∧ ds.length ≤ cap ∧ Rd w .u64 A ds := by
 have hn : n = ds.length := by have := h.1; simp at this; omega
 by_cases h0 : 0 < ds.length
 · obtain ⟨g, cap, hv, hc, _, hr⟩ := IX ds h h0
   exact ⟨_, cap, hv, hc, hr⟩
 · subst hn
   have hz : ds.length = 0 := by omega
   have hd : ds = [] := List.eq_nil_of_length_eq_zero hz
   rcases h.2 with ⟨rfl, _⟩ | ⟨g, cap, cur, rfl, _, _, hc, _⟩
   · exact ⟨none, 0, by rw [hz], by omega, by rw [hd]; exact Rd.nil _ _ _⟩
   · exact ⟨_, cap, rfl, hc, by rw [hd]; exact Rd.nil _ _ _⟩
theorem Nh (X i : Nat) : dg X i / 2 + dg X (i + 1) % 2 * 32768 = dg (X / 2) i := by
 simp only [dg]
 have e1 : X / BB ^ (i + 1) = X / BB ^ i / BB := by rw [Nat.pow_succ (n := BB) (m := i), Nat.div_div_eq_div_mul]
 have e2 : X / 2 / BB ^ i = X / BB ^ i / 2 := by rw [Nat.div_div_eq_div_mul, Nat.div_div_eq_div_mul, Nat.mul_comm]
 rw [e1, e2]
 generalize X / BB ^ i = q
 simp only [BB]
 omega
def sW (X k : Nat) : List Nat := (List.range k).map (dg (X / 2))
theorem Ee (X k : Nat) : (sW X k).length = k := by simp [sW]
theorem Ba (X k v : Nat) (hv : v = dg (X / 2) k) : (sW X k).map (fun (b : Nat) => Value.int .u64 (b : Int)) ++ [Value.int .u64 (v : Int)] = (sW X (k + 1)).map (fun (b : Nat) => Value.int .u64 (b : Int)) := by
 rw [hv]
 simp [sW, List.range_succ]
theorem OU (X k : Nat) (h : (aB X).length ≤ k) : oC (sW X k) = X / 2 := by
 unfold sW
 rw [xY, F9]
 exact Nat.mod_eq_of_lt (Nat.lt_of_le_of_lt (Nat.div_le_self _ _) ((iT X k).mp h))
theorem TF (X k : Nat) : ∀ d ∈ sW X k, d < BB := by
 intro d hd
 obtain ⟨i, _, rfl⟩ := List.mem_map.mp hd
 exact dR _ _
theorem vk (k k1 : Nat) (h : k = k1 + 1) (hk : k ≤ 1000) : Value.int .i64 (wrap64 ((k : Int) - 1)) = Value.int .i64 (k1 : Int) := congrArg (Value.int .i64) (by rw [kX _ (by omega)]; omega)
theorem ace (k k1 : Nat) (h : k = k1 + 1) (hk : k ≤ 1000) : (intOf (.int .i64 (wrap64 ((k : Int) - 1)))).toNat < (intOf (.int .i64 (k : Int))).toNat := by
 rw [kX _ (by omega)]
 show ((k : Int) - 1).toNat < ((k : Int)).toNat
 omega
theorem IC (L i : Nat) (hi : i < L) (h : i < 9223372036854775807) : max ((L : Int) - intOf (.int .i64 (wrap64 ((i : Int) + 1)))) 0 < (L : Int) - intOf (.int .i64 (i : Int)) := by
 rw [kX _ (by omega)]
 show max ((L : Int) - ((i : Int) + 1)) 0 < (L : Int) - (i : Int)
 omega
theorem abl (ai aj : Nat) (h1 : ai < 65536) (h2 : aj < 65536) : eX (eX ((ai : Int) / 2) + eX ((aj : Int) % 2 * 32768)) = ((ai / 2 + aj % 2 * 32768 : Nat) : Int) := by
 unfold eX; simp only [IntKind.wrap_u64]; omega
theorem XT (ai : Nat) (h1 : ai < 65536) : eX ((ai : Int) / 2) = ((ai / 2 + 0 % 2 * 32768 : Nat) : Int) := by
 unfold eX; simp only [IntKind.wrap_u64]; omega
theorem TG (A : Option Addr) (c X n : Nat) (hsz : (aB X).length ≤ 1000000) (hn : n ≤ 1000) (w : World) (hX : Dn w A c X) :
 Calls Tryz.prog 118 #[.slice A (aB X).length c, .int .i64 n] w fun e w' => (∃ A' c', e = .returned (.slice A' (aB (X / 2 ^ n)).length c') ∧ Dn w' A' c' (X / 2 ^ n)) ∧ Below w.heap.size w w' := by
 obtain ⟨i0, hi0⟩ : ∃ i, Tryz.prog.info? 34 = some i := Option.isSome_iff_exists.mp (by kernel_rfl)
 have hi3 : (Tryz.prog.info? 34).map (fun i => (i.zero, i.size, i.bytes)) = some (some (.int .u64 0), 1, 8) := by kernel_rfl
 rw [hi0] at hi3
 simp only [Option.map_some, Option.some.injEq, Prod.mk.injEq] at hi3
 have HI := Lib.hid (And.intro hi0 hi3)
 have HX := Lib.hid hX
 have HS := Lib.hid hsz
 have HN := Lib.hid hn
 clear hi0 hi3 hX hsz hn
 go_enter Tryz.func118, Tryz.ntmps118
 go_wp2_with fail
 go_loopw [0, 1] (fun av nv wr => ∃ (k Y : Nat) (A : Option Addr) (c : Nat), av = .slice A (aB Y).length c ∧ nv = .int .i64 (k : Int) ∧ Hid (Below w.heap.size w wr ∧ k ≤ n ∧ Y = X / 2 ^ (n - k) ∧ Dn wr A c Y)) (fun _ nv _ => (intOf nv).toNat)
 case atStart => exact ⟨n, X, A, c, rfl, rfl, (pl (Below.refl _ _)), Nat.le_refl _, by rw [Nat.sub_self, Nat.pow_zero, Nat.div_one], HX.out⟩
 case round =>
  obtain ⟨k, Y, A, c, rfl, rfl, H⟩ := hrel
  obtain ⟨wo, hwo⟩ : ∃ z, z = wr := ⟨_, rfl⟩
  subst hwo
  have EI : Hid (Below w.heap.size w wo) := H.out.1
  by_cases hk0 : k = 0
  · subst hk0
    go_wp2
    go_ret
    have he : Y = X / 2 ^ n := H.out.2.2.1
    exact ⟨⟨A, c, by rw [← he]; rfl, by rw [← he]; exact H.out.2.2.2⟩, EI.out⟩
  · have hkz : (0 : Int) < (k : Int) := by omega
    obtain ⟨k1, hk1⟩ : ∃ j, k = j + 1 := ⟨k - 1, by omega⟩
    have ek : wrap64 ((k : Int) - 1) = (k1 : Int) := by rw [kX _ (by have := H.out.2.1; have := HN.out; omega)]; omega
    have HK := Lib.hid hk1
    clear hk1 hk0
    obtain ⟨L, hL⟩ : ∃ L, L = (aB Y).length := ⟨_, rfl⟩
    have rD := Lib.hid hL
    have kN := Lib.hid (show L ≤ 1000000 by rw [hL, H.out.2.2.1]; exact Nat.le_trans (sU (Nat.div_le_self _ _)) HS.out)
    rw [← hL]
    clear hL
    have HD : Hid (Dn wo A c Y) := H.out.2.2.2
    have hdk : decide (0 < k) = true := decide_eq_true (by omega)
    go_wp2
    try simp only [hdk]
    go_loopw [5, 6] (fun ov iv wv => ∃ (i q : Nat), iv = .int .i64 (i : Int) ∧ Hid (Below wo.heap.size wo wv ∧ i ≤ L ∧ wv.ownsRow wo.heap.size 34 1 ov q ((sW Y i).map fun (b : Nat) => Value.int .u64 (b : Int)))) (fun _ iv _ => (L - intOf iv).toNat)
    case atStart => exact ⟨0, 0, rfl, Below.refl _ _, Nat.zero_le _, World.ownsRow_nil _ _ _ _⟩
    case round =>
     obtain ⟨i, q, rfl, G⟩ := hrel
     by_cases hi : i < L
     · obtain ⟨b, off, rfl, hbw, hcell⟩ := HD.out.cell (i := i) (by rw [← rD.out]; exact hi)
       have hqi : q = i := by have := G.out.2.2.1; rw [List.length_map, Ee] at this; omega
       obtain ⟨ai, hai⟩ : ∃ a, a = dg Y i := ⟨_, rfl⟩
       have hci : wr.cell? ⟨b, off + i, none⟩ = some (.int .u64 (ai : Int)) := by rw [hai]; exact (G.out.1.cell (p := ⟨b, off + i, none⟩) hbw).trans (hcell i (by rw [← rD.out]; exact hi))
       have LP := Lib.hid (And.intro hai (show ai < 65536 by rw [hai]; exact dR Y i))
       clear hai
       obtain ⟨i1, hi1⟩ : ∃ j, j = i + 1 := ⟨_, rfl⟩
       have ei : wrap64 ((i : Int) + 1) = (i1 : Int) := by rw [kX _ (by have := kN.out; omega)]; omega
       have HI1 := Lib.hid hi1
       have DV := Lib.hid (And.intro hqi hi)
       clear hi1 hqi
       by_cases hj : i1 < L
       · obtain ⟨aj, haj⟩ : ∃ a, a = dg Y i1 := ⟨_, rfl⟩
         have hcj : wr.cell? ⟨b, off + i1, none⟩ = some (.int .u64 (aj : Int)) := by rw [haj]; exact (G.out.1.cell (p := ⟨b, off + i1, none⟩) hbw).trans (hcell i1 (by rw [← rD.out]; exact hj))
         have Zn := Lib.hid (And.intro haj (show aj < 65536 by rw [haj]; exact dR Y i1))
         clear haj hcell
         have hjz : (i1 : Int) < (L : Int) := by omega
         have hv := abl ai aj LP.out.2 Zn.out.2
         obtain ⟨v, hvv⟩ : ∃ v, v = ai / 2 + aj % 2 * 32768 := ⟨_, rfl⟩
         rw [← hvv] at hv
         have HV := Lib.hid (show v = dg (Y / 2) i by rw [hvv, LP.out.1, Zn.out.1, HI1.out]; exact Nh Y i)
         clear hvv
         go_wp2_with (at_builtin; refine wpList_append_own_at _ rfl (.tmp 37) (.tmp 39) 45 rfl wo.heap.size 34 i0 (.int .u64 0) 1 8 Tryz.underlying45 HI.out.1 HI.out.2.1 HI.out.2.2.1 HI.out.2.2.2 rfl (by decide) u5 q _ rfl (G.out.2.2.alloc _) ⟨wr.heap.size, 0, none⟩ 1 1 [.int .u64 (v : Int)] rfl rfl (cell_one_new _ _ _) (by intro u hu; simp at hu; subst hu; rfl) (by have := DV.out; have := kN.out; unfold maxLen; omega) (by have := DV.out; have := kN.out; omega) (by simp only [World.size_alloc]; exact Nat.le_succ_of_le G.out.1.size) ?_; intro v' w1 hown' hgrow hnil hloc; clear ei)
         rw [Ba Y i v HV.out] at hown'
         first
          | exact ⟨⟨i + 1, q + 1, Jl _ (by have := kN.out; have := DV.out; omega), Below.grown (Below.alloc G.out.1 G.out.1.size _) hgrow (by simp only [World.size_alloc]; exact Nat.le_succ_of_le G.out.1.size) (fun z hz => (G.out.2.2.lt z hz).1), DV.out.2, hown'⟩, jd L i DV.out.2 (by have := kN.out; have := DV.out; omega)⟩
          | exact ⟨⟨i + 1, (kX _ (by have := kN.out; have := DV.out; omega)).trans (by omega), q + 1, Below.grown (Below.alloc G.out.1 G.out.1.size _) hgrow (by simp only [World.size_alloc]; exact Nat.le_succ_of_le G.out.1.size) (fun z hz => (G.out.2.2.lt z hz).1), DV.out.2, hown'⟩, IC L i DV.out.2 (by have := kN.out; have := DV.out; omega)⟩
       · have hjz : ¬ (i1 : Int) < (L : Int) := by omega
         have hv := XT ai LP.out.2
         obtain ⟨v, hvv⟩ : ∃ v, v = ai / 2 + 0 % 2 * 32768 := ⟨_, rfl⟩
         rw [← hvv] at hv
         have HV := Lib.hid (show v = dg (Y / 2) i by rw [hvv, LP.out.1, ← Nh Y i, show dg Y (i + 1) = 0 from wI Y (i + 1) (by have := rD.out; have := HI1.out; omega)])
         clear hvv hcell
         go_wp2_with (at_builtin; refine wpList_append_own_at _ rfl (.tmp 37) (.tmp 39) 45 rfl wo.heap.size 34 i0 (.int .u64 0) 1 8 Tryz.underlying45 HI.out.1 HI.out.2.1 HI.out.2.2.1 HI.out.2.2.2 rfl (by decide) u5 q _ rfl (G.out.2.2.alloc _) ⟨wr.heap.size, 0, none⟩ 1 1 [.int .u64 (v : Int)] rfl rfl (cell_one_new _ _ _) (by intro u hu; simp at hu; subst hu; rfl) (by have := DV.out; have := kN.out; unfold maxLen; omega) (by have := DV.out; have := kN.out; omega) (by simp only [World.size_alloc]; exact Nat.le_succ_of_le G.out.1.size) ?_; intro v' w1 hown' hgrow hnil hloc; clear ei)
         rw [Ba Y i v HV.out] at hown'
         first
          | exact ⟨⟨i + 1, q + 1, Jl _ (by have := kN.out; have := DV.out; omega), Below.grown (Below.alloc G.out.1 G.out.1.size _) hgrow (by simp only [World.size_alloc]; exact Nat.le_succ_of_le G.out.1.size) (fun z hz => (G.out.2.2.lt z hz).1), DV.out.2, hown'⟩, jd L i DV.out.2 (by have := kN.out; have := DV.out; omega)⟩
          | exact ⟨⟨i + 1, (kX _ (by have := kN.out; have := DV.out; omega)).trans (by omega), q + 1, Below.grown (Below.alloc G.out.1 G.out.1.size _) hgrow (by simp only [World.size_alloc]; exact Nat.le_succ_of_le G.out.1.size) (fun z hz => (G.out.2.2.lt z hz).1), DV.out.2, hown'⟩, IC L i DV.out.2 (by have := kN.out; have := DV.out; omega)⟩
     · have hiL : i = L := by have := G.out.2.1; omega
       have hown := G.out.2.2
       rw [hiL] at hown
       obtain ⟨A3, c3, hv, hc3, hr3⟩ := Td (sW Y L) hown
       subst hv
       have HR3 := Lib.hid (And.intro hc3 hr3)
       have uh := Lib.hid (OU Y L (by have := rD.out; omega))
       have HB1 : Hid (Below w.heap.size w wr) := Lib.hid (Below.trans EI.out (G.out.1.mono EI.out.size))
       have hz1 := HB1.out.size
       clear hown hc3 hr3
       go_wp2_with fail
       refine (ant A3 c3 (sW Y L) (TF _ _) (by rw [Ee]; exact Nat.le_trans kN.out (by decide)) HR3.out.1 _ HR3.out.2).mono ?_
       rintro e x2 ⟨⟨A4, c4, rfl, hd4⟩, hb2⟩
       have HB2 := aZ HB1.out hb2
       have hz2 := HB2.out.size
       clear hb2
       rw [uh.out] at hd4 ⊢
       have HD4 := Lib.hid hd4
       clear hd4
       go_wp2_with fail
       have hY : Y / 2 = X / 2 ^ (n - k1) := by
        rw [H.out.2.2.1, Nat.div_div_eq_div_mul, show n - k1 = (n - k) + 1 by have := HK.out; have := H.out.2.1; omega, Nat.pow_succ]
       exact ⟨⟨k1, Y / 2, A4, c4, rfl, vk k k1 HK.out (by have := H.out.2.1; have := HN.out; omega), HB2.out, by have := HK.out; have := H.out.2.1; omega, hY, HD4.out⟩, ace k k1 HK.out (by have := H.out.2.1; have := HN.out; omega)⟩
end
end Go.Proofs.YtehfkbaendajbaaGreatDoor
