/-
  Shared, part 25: walks and plain laws; each theorem states its own conditions.
-/
import Derived.Test.YtehfkbaendajbaaGreatDoorB24
namespace Go.Proofs.YtehfkbaendajbaaGreatDoor
set_option linter.unusedSimpArgs false
set_option linter.unusedVariables false
set_option maxRecDepth 100000
set_option maxHeartbeats 8000000
section
open Go.RowKit Go.Proofs.YtehfkbaendajbaaGreatDoorW.PrintLast
def G6 : Nat → Pn → Pn
 | 0, o => o
 | k + 1, o => mO (G6 k o)
def rF (f : Nat → Pn) (d : Nat) (o : Pn) : Pn := if d = 0 then o else jl o (f d)
def UU (n m : Nat) (p q : Pn) : Nat → Pn → Pn
 | 0, o => o
 | k + 1, o => UU n m p q k (rF (bG q 16) (m / 16 ^ k % 16) (rF (bG p 16) (n / 16 ^ k % 16) (G6 4 o)))
def zq (n m k : Nat) (p q : Pn) : Pn := UU n m p q k iR
theorem zW (o : Pn) (h : o.lt) : ∀ k, (G6 k o).lt
 | 0 => h
 | k + 1 => GZ _
theorem afi (p q : Pn) (lp : p.lt) (lq : q.lt) (A B : Option Addr) (c d : Nat) (ns ms : List Nat) (hn : ns.length ≤ 1000) (hm : ms.length ≤ 1000) (hbn : ∀ b ∈ ns, b < 256) (hbm : ∀ b ∈ ms, b < 256) (hc : ns.length < ms.length) (w : World) (hg : kE w) (hrn : Rd w .u8 A ns) (hrm : Rd w .u8 B ms) :
 Calls Tryz.prog 28 #[.slice A ns.length c, p.v, .slice B ms.length d, q.v] w fun e w' => e = .returned (zq (bW ns) (bW ms) (2 * ms.length) p q).v ∧ Below w.heap.size w w' := by
 have hcI : (ns.length : Int) < ms.length := by omega
 have pX := Lib.hid lp
 have Gp := Lib.hid lq
 have kS := Lib.hid hg
 have HRn := Lib.hid hrn
 have EM := Lib.hid hrm
 have HN := Lib.hid (show ns.length ≤ ms.length ∧ ms.length ≤ ms.length by omega)
 have HBN := Lib.hid hbn
 have HBM := Lib.hid hbm
 clear lp lq hg hrn hrm hbn hbm
 go_enter Tryz.func28, Tryz.ntmps28
 go_wp2_with fail
 refine aac w [(w.heap.size, .cells p.cA 38), (w.heap.size + 1, .cells q.cA 38), (w.heap.size + 2, .cells bP 38)] [.is p.v, .is (.agg (flat 16 (bG p 16)).toArray), .is q.v, .is (.agg (flat 16 (bG q 16)).toArray), .is (.agg (flat 32 (both 16 (bG p 16) (bG q 16))).toArray), .own 6 (.cells (flat 32 fun _ => dh).toArray 87) (.cells (flat 32 (both 16 (bG p 16) (bG q 16))).toArray 87), .is undef] [some 15, some 16, some 17, some 18, some 19, some 9, none] [(5, .pointer (some ⟨w.heap.size, 0, none⟩)), (7, .pointer (some ⟨w.heap.size + 1, 0, none⟩))] 19 (ak (b := w.heap.size) ob (ak (b := w.heap.size + 1) ob (ak (b := w.heap.size + 2) ob (aO (pl (Below.refl _ _)))))) (fun a0 hc => ⟨abp hc [(5, none)] (h := by intro ρ a w hr hk; simp only [aaf, aan, valOf, Sp.val, aae, List.getElem?_cons_zero, List.getElem?_cons_succ, Nat.reduceBEq, cond_true, cond_false] at hr; (repeat (obtain ⟨_, hr⟩ := hr)); obtain ⟨x, rfl, _, _, _, _, _⟩ := hk.eG; exact ⟨rfl, aG 38 (.tmp 5) rfl (w.heap.size) 0 (by assumption) p.cL p.cA 38 ob (by kernel_rfl) (by kernel_rfl) (by kernel_rfl)⟩), abP hc [(15, some 0)] Tryz.func61 (fun _ HK => pI _ pX.out _ (kS.out.next HK.1)), abp hc [(7, none)] (h := by intro ρ a w hr hk; simp only [aaf, aan, valOf, Sp.val, aae, List.getElem?_cons_zero, List.getElem?_cons_succ, Nat.reduceBEq, cond_true, cond_false] at hr; (repeat (obtain ⟨_, hr⟩ := hr)); obtain ⟨x, rfl, _, _, _, _, _⟩ := hk.eG; exact ⟨rfl, aG 38 (.tmp 7) rfl (w.heap.size + 1) 0 (by assumption) q.cL q.cA 38 ob (by kernel_rfl) (by kernel_rfl) (by kernel_rfl)⟩), abP hc [(17, some 2)] Tryz.func61 (fun _ HK => pI _ Gp.out _ (kS.out.next HK.1)), abp hc [(16, some 1), (18, some 3)] (h := by intro ρ a w hr hk; simp only [aaf, aan, valOf, Sp.val, aae, List.getElem?_cons_zero, List.getElem?_cons_succ, Nat.reduceBEq, cond_true, cond_false] at hr; (repeat (obtain ⟨_, hr⟩ := hr)); exact ⟨rfl, Ea (.tmp 16) (.tmp 18) _ _ rfl (by assumption) (by assumption)⟩), abR hc [] (h := fun _ _ _ _ => ⟨rfl, zl rfl⟩), aah.fill hc [(9, some 5), (19, some 4)] (fun ρ a w hr hk hz => by simp only [aaf, aan, valOf, Sp.val, aae, List.getElem?_cons_zero, List.getElem?_cons_succ, Nat.reduceBEq, cond_true, cond_false] at hr; (repeat (obtain ⟨_, hr⟩ := hr)); exact ⟨rfl, qV 87 32 (.tmp 9) (.tmp 19) rfl _ _ (fun _ => dh) 87 (by assumption) (by assumption) (by kernel_rfl) hz⟩) rfl rfl rfl rfl rfl rfl rfl, trivial⟩) ?_ ⟨rfl, rfl, trivial⟩ (by simp) (by kernel_rfl) rfl rfl rfl rfl rfl (by kernel_rfl)
 intro ρ w' HK HO HN aC HW0
 simp only [ae7, ae8, valOf, Sp.val, List.getElem?_cons_zero, List.getElem?_cons_succ, Act.put, List.setIfInBounds_toArray, List.set_cons_zero, List.set_cons_succ]
 obtain ⟨hg0, ho0⟩ := HO 5 _ _ _ rfl
 clear HO HN
 generalize ρ 5 = gw at hg0 ho0 ⊢
 clear ρ
 have gI : Keeps w [(gw, .cells (flat 32 (both 16 (bG p 16) (bG q 16))).toArray 87), (w.heap.size, .cells p.cA 38), (w.heap.size + 1, .cells q.cA 38), (w.heap.size + 2, .cells bP 38)] w' := ak ho0 (HK)
 have zY : w.heap.size < gw := Nat.lt_of_lt_of_le (aC _ (List.mem_cons_self)) hg0
 have Fh : w.heap.size + 1 < gw := Nat.lt_of_lt_of_le (aC _ (List.mem_cons_of_mem _ (List.mem_cons_self))) hg0
 have Nk : w.heap.size + 2 < gw := Nat.lt_of_lt_of_le (aC _ (List.mem_cons_of_mem _ (List.mem_cons_of_mem _ (List.mem_cons_self)))) hg0
 obtain ⟨x1, rfl, hk1, hz1, l10, nG, l12, l13⟩ := gI.iO
 have HB1 : Hid (Below w.heap.size w x1) := hk1.below
 clear HK aC gI hk1 ho0
 have LQ : w.heap.size ≤ gw := Nat.le_trans HW0 hg0
 clear hg0
 clear HW0
 go_wp2_with fail
 refine (aao _).mono ?_
 rintro e y2 ⟨rfl, hb2⟩
 obtain ⟨x2, rfl, hc2, hz2, kD, rQ⟩ := fO (b0 := w.heap.size + 2) (b1 := gw) hb2 rfl ob ob
 have HB2 := aZ HB1.out hc2
 clear hb2 hc2
 try simp only [eF] at hz2
 go_wp2_with (refine bf 38 (.tmp 10) (.tmp 20) rfl rfl (x2.heap.size) 0 iR.cA rfl rfl 38 bP iR.cA ob (by kernel_rfl) (by kernel_rfl) (eH iR) (by kernel_rfl) ?_)
 obtain ⟨G, hG⟩ : ∃ G, G = x2.heap.size := ⟨_, rfl⟩
 have hgG : gw < G := by omega
 have hwG : w.heap.size + 2 < G := by omega
 go_loopw [11] (fun iv wr => ∃ (k : Nat) (o : Pn) (x : World), iv = .int .i64 ((k : Int) - 1) ∧ wr = ((x.pin (w.heap.size + 2) (.cells bP 38)).pin gw (.cells (flat 32 (both 16 (bG p 16) (bG q 16))).toArray 87)).pin x2.heap.size (.cells o.cA 38) ∧ w.heap.size + 2 < x.heap.size ∧ gw < x.heap.size ∧ x2.heap.size < x.heap.size ∧ Hid (Below w.heap.size w x ∧ k ≤ 2 * ms.length ∧ o.lt ∧ UU (bW ns) (bW ms) p q k o = zq (bW ns) (bW ms) (2 * ms.length) p q)) (fun iv _ => (intOf iv + 1).toNat)
 case atStart => exact ⟨2 * ms.length, iR, _, by simp; omega, jf ob ob (by refine Eq.trans ob ?_; rfl), sz, sz, sz, pl HB2.out, Nat.le_refl _, uK, rfl⟩
 case round =>
  obtain ⟨k, o, x, rfl, rfl, q0, q1, q2, H⟩ := hrel
  have fB : Hid (Below w.heap.size w x) := Lib.hid H.out.1
  rcases k with _ | k
  · go_wp2_with (first | (refine eu 38 (.tmp 10) rfl rfl (x2.heap.size) 0 rfl o.cL o.cA 38 ob (by kernel_rfl) (by kernel_rfl) (by kernel_rfl) ?_) | (refine bf 38 (.tmp 8) (.tmp 58) rfl rfl (w.heap.size + 1 + 1) 0 o.cA rfl rfl 38 bP o.cA ob (by kernel_rfl) (by kernel_rfl) (eH o) (by kernel_rfl) ?_))
    exact bodyPost_ret (v := o.v) (fA rfl rfl (fD o ob)) rfl ⟨by rw [← H.out.2.2.2]; rfl, pl fB.out⟩
  · rw [show (((k + 1 : Nat) : Int) - 1) = (k : Int) from by omega]
    obtain ⟨o1, ho1⟩ : ∃ z, z = zq (bW ns) (bW ms) (2 * ms.length) p q := ⟨_, rfl⟩
    obtain ⟨dn, hdn⟩ : ∃ z, z = bW ns / 16 ^ k % 16 := ⟨_, rfl⟩
    obtain ⟨dm, hdm⟩ : ∃ z, z = bW ms / 16 ^ k % 16 := ⟨_, rfl⟩
    have HDn : Hid (dn < 16 ∧ dn = bW ns / 16 ^ k % 16) := Lib.hid ⟨by rw [hdn]; exact Nat.mod_lt _ (by decide), hdn⟩
    have HDm : Hid (dm < 16 ∧ dm = bW ms / 16 ^ k % 16) := Lib.hid ⟨by rw [hdm]; exact Nat.mod_lt _ (by decide), hdm⟩
    have HK : Hid (k ≤ 10000) := Lib.hid (by have := H.out.2.1; omega)
    clear hdn hdm ho1 o1
    go_wp2_with fail
    go_loopw [33] (fun iv wr => ∃ (j : Nat) (o2 : Pn) (xx : World), iv = .int .i64 (j : Int) ∧ wr = ((xx.pin (w.heap.size + 2) (.cells bP 38)).pin gw (.cells (flat 32 (both 16 (bG p 16) (bG q 16))).toArray 87)).pin x2.heap.size (.cells o2.cA 38) ∧ w.heap.size + 2 < xx.heap.size ∧ gw < xx.heap.size ∧ x2.heap.size < xx.heap.size ∧ Hid (Below w.heap.size w xx ∧ j ≤ 4 ∧ o2 = G6 j o)) (fun iv _ => (4 - intOf iv).toNat)
    case atStart => exact ⟨0, o, _, rfl, jf ob ob ob, sz, sz, sz, pl fB.out, by decide, rfl⟩
    case round =>
     obtain ⟨j, o2, xx, rfl, rfl, r0, r1, r2, J⟩ := hrel
     have fC : Hid (Below w.heap.size w xx) := Lib.hid J.out.1
     by_cases hj : j < 4
     · go_wp2_with (refine eu 38 (.tmp 10) rfl rfl (x2.heap.size) 0 rfl o2.cL o2.cA 38 ob (by kernel_rfl) (by kernel_rfl) (by kernel_rfl) ?_)
       refine (AU _ (by rw [J.out.2.2]; exact zW _ H.out.2.2.1 _) _).mono ?_
       rintro e QN ⟨rfl, bT⟩
       obtain ⟨x12, rfl, hc12, kF, uS, vI, vJ⟩ := bZ (b0 := w.heap.size + 2) (b1 := gw) (b2 := x2.heap.size) bT rfl ob ob ob
       have fG := aZ fC.out hc12
       clear bT hc12
       try simp only [eF] at kF
       go_wp2_with (refine bf 38 (.tmp 10) (.tmp 36) rfl rfl (x2.heap.size) 0 (mO o2).cA rfl rfl 38 _ (mO o2).cA ob (by kernel_rfl) (by kernel_rfl) (eH (mO o2)) (by kernel_rfl) ?_)
       go_roundw
       case rel => exact ⟨j + 1, mO o2, _, by simp, jf ob ob ob, sz, sz, sz, pl fG.out, by omega, by rw [J.out.2.2]; rfl⟩
       case measure => first | (simp [intOf]; done) | (simp [intOf]; omega)
     · have hjI : ((j : Int) < 4) = False := eq_false (by omega)
       have EK : Hid (o2.lt ∧ o2 = G6 4 o) := Lib.hid ⟨by rw [J.out.2.2]; exact zW _ H.out.2.2.1 _, by rw [J.out.2.2, show j = 4 by have := J.out.2.1; omega]⟩
       go_wp2_with fail
       go_loopw [41] (fun iv wr => ∃ (t : Nat) (o3 : Pn) (xy : World), iv = .int .i64 (t : Int) ∧ wr = ((xy.pin (w.heap.size + 2) (.cells bP 38)).pin gw (.cells (flat 32 (both 16 (bG p 16) (bG q 16))).toArray 87)).pin x2.heap.size (.cells o3.cA 38) ∧ w.heap.size + 2 < xy.heap.size ∧ gw < xy.heap.size ∧ x2.heap.size < xy.heap.size ∧ Hid (Below w.heap.size w xy ∧ o3.lt ∧ (t = 0 ∧ o3 = o2 ∨ t = 1 ∧ o3 = rF (bG p 16) dn o2 ∨ t = 2 ∧ o3 = rF (bG q 16) dm (rF (bG p 16) dn o2)))) (fun iv _ => (2 - intOf iv).toNat)
       case atStart => exact ⟨0, o2, _, rfl, jf ob ob ob, sz, sz, sz, pl fC.out, EK.out.1, .inl ⟨rfl, rfl⟩⟩
       case round =>
        obtain ⟨t, o3, xy, rfl, rfl, s0, s1, s2, T⟩ := hrel
        have fG : Hid (Below w.heap.size w xy) := Lib.hid T.out.1
        have hl3 := T.out.2.1
        rcases T.out.2.2 with ⟨rfl, h3⟩ | ⟨rfl, h3⟩ | ⟨rfl, h3⟩
        · have zF := Lib.hid (And.intro hl3 h3)
          clear hl3 h3
          have hix : ∀ w, (Instr.index 88 (.agg #[.slice A ns.length c, .slice B ms.length d]) (.int .i64 0)).run Tryz.prog w = .ok (.slice A ns.length c) w := fun w => by kernel_rfl
          go_wp2_with fail
          refine (qM A c ns hn HBN.out k HK.out dn HDn.out.2 _ (by exact Rd.mono HRn.out (pl fG.out) (Nat.le_refl _))).mono ?_
          rintro e y13 ⟨rfl, bM⟩
          obtain ⟨DL, rfl, hc13, jJ, tq, xg, xk⟩ := bZ (b0 := w.heap.size + 2) (b1 := gw) (b2 := x2.heap.size) bM rfl ob ob ob
          have iH := aZ fG.out hc13
          clear bM hc13
          try simp only [eF] at jJ
          by_cases hd : dn = 0
          · have hd0 : ((0 : Int) < (dn : Int)) = False := eq_false (by omega)
            go_wp2_with fail
            go_roundw
            case rel => exact ⟨1, o3, _, by simp, jf ob ob ob, sz, sz, sz, pl iH.out, zF.out.1, .inr (.inl ⟨rfl, by rw [zF.out.2]; unfold rF; rw [if_pos hd]⟩)⟩
            case measure => first | (simp [intOf]; done) | (simp [intOf]; omega)
          · have hd0 : ((0 : Int) < (dn : Int)) = True := eq_true (by omega)
            have hd1 : (dn : Int) < 16 := by have := HDn.out.1; omega
            go_wp2_with fail
            refine st1 w [7] 8 (ak (b := w.heap.size + 2) ob (ak (b := gw) ob (ak (b := x2.heap.size) ob (aO (pl iH.out))))) (fun HS => ?_)
            refine tk3 0 (some 50) HS (v := o3.v) (hy := by (intro v hv; obtain ⟨x, rfl, _, _, n0, n1, n2⟩ := hv.eG; exact aG 38 (.tmp 10) rfl (x2.heap.size) 0 rfl o3.cL o3.cA 38 ob (by kernel_rfl) (by kernel_rfl) (by kernel_rfl))) (h := ?_)
            refine tk3 1 (some 51) HS (h := ?_)
            refine tk3 2 (some 52) HS (h := ?_)
            refine tk3 3 (some 53) HS (h := ?_)
            refine tk3 4 (some 54) HS (h := ?_)
            refine tk3 5 (some 55) HS (v := (bG p 16 dn).v) (hy := by (intro v hv; obtain ⟨x, rfl, _, _, n0, n1, n2⟩ := hv.eG; rw [show bG p 16 dn = both 16 (bG p 16) (bG q 16) dn from (if_pos (by omega)).symm]; exact jT (.tmp 54) rfl gw 32 dn _ (both 16 (bG p 16) (bG q 16)) 87 rfl (by omega) ob (by omega))) (h := ?_)
            refine dH 6 (some 56) (h := fun K hK => ?_)
            go_simp
            refine (ql _ _ zF.out.1 (by exact qR _ _ _) _ (kS.out.next HS.1)).mono ?_
            rintro e y ⟨rfl, hb⟩
            refine hK.out _ _ (HS.step hb rfl) ?_
            clear HS hb
            intro HS
            obtain ⟨x14, rfl, Bg, lZ, xq, xu, xw⟩ := HS.eG
            have jo : Hid (Below w.heap.size w x14) := Bg.below
            clear HS Bg
            refine pO 7 none (h := fun K hK => ?_)
            refine (if_pos (by rfl)).mpr ?_
            refine jY 38 (.tmp 10) (.tmp 56) rfl (x2.heap.size) 0 (jl o3 (bG p 16 dn)).cA rfl rfl 38 o3.cA (jl o3 (bG p 16 dn)).cA ob (by kernel_rfl) (by kernel_rfl) (eH (jl o3 (bG p 16 dn))) (by kernel_rfl) ?_
            refine hK.out _ _ ?_
            refine done_ (by kernel_rfl) ?_
            go_wp2_with fail
            go_roundw
            case rel => exact ⟨1, (jl o3 (bG p 16 dn)), _, by simp, jf ob ob ob, sz, sz, sz, pl jo.out, sG _ _, .inr (.inl ⟨rfl, by rw [zF.out.2]; unfold rF; rw [if_neg hd]⟩)⟩
            case measure => first | (simp [intOf]; done) | (simp [intOf]; omega)
        · have zF := Lib.hid (And.intro hl3 h3)
          clear hl3 h3
          have hix : ∀ w, (Instr.index 88 (.agg #[.slice A ns.length c, .slice B ms.length d]) (.int .i64 1)).run Tryz.prog w = .ok (.slice B ms.length d) w := fun w => by kernel_rfl
          go_wp2_with fail
          refine (qM B d ms hm HBM.out k HK.out dm HDm.out.2 _ (by exact Rd.mono EM.out (pl fG.out) (Nat.le_refl _))).mono ?_
          rintro e y13 ⟨rfl, bM⟩
          obtain ⟨DL, rfl, hc13, jJ, tq, xg, xk⟩ := bZ (b0 := w.heap.size + 2) (b1 := gw) (b2 := x2.heap.size) bM rfl ob ob ob
          have iH := aZ fG.out hc13
          clear bM hc13
          try simp only [eF] at jJ
          by_cases hd : dm = 0
          · have hd0 : ((0 : Int) < (dm : Int)) = False := eq_false (by omega)
            go_wp2_with fail
            go_roundw
            case rel => exact ⟨2, o3, _, by simp, jf ob ob ob, sz, sz, sz, pl iH.out, zF.out.1, .inr (.inr ⟨rfl, by rw [← zF.out.2]; unfold rF; rw [if_pos hd]⟩)⟩
            case measure => first | (simp [intOf]; done) | (simp [intOf]; omega)
          · have hd0 : ((0 : Int) < (dm : Int)) = True := eq_true (by omega)
            have hd1 : (dm : Int) < 16 := by have := HDm.out.1; omega
            go_wp2_with fail
            refine st1 w [7] 8 (ak (b := w.heap.size + 2) ob (ak (b := gw) ob (ak (b := x2.heap.size) ob (aO (pl iH.out))))) (fun HS => ?_)
            refine tk3 0 (some 50) HS (v := o3.v) (hy := by (intro v hv; obtain ⟨x, rfl, _, _, n0, n1, n2⟩ := hv.eG; exact aG 38 (.tmp 10) rfl (x2.heap.size) 0 rfl o3.cL o3.cA 38 ob (by kernel_rfl) (by kernel_rfl) (by kernel_rfl))) (h := ?_)
            refine tk3 1 (some 51) HS (h := ?_)
            refine tk3 2 (some 52) HS (h := ?_)
            refine tk3 3 (some 53) HS (h := ?_)
            refine tk3 4 (some 54) HS (h := ?_)
            refine tk3 5 (some 55) HS (v := (bG q 16 dm).v) (hy := by (intro v hv; obtain ⟨x, rfl, _, _, n0, n1, n2⟩ := hv.eG; rw [show bG q 16 dm = both 16 (bG p 16) (bG q 16) (16 + dm) from by unfold both; rw [if_neg (by omega), Nat.add_sub_cancel_left]]; exact jT (.tmp 54) rfl gw 32 (16 + dm) _ (both 16 (bG p 16) (bG q 16)) 87 rfl (by omega) ob (by omega))) (h := ?_)
            refine dH 6 (some 56) (h := fun K hK => ?_)
            go_simp
            refine (ql _ _ zF.out.1 (by exact qR _ _ _) _ (kS.out.next HS.1)).mono ?_
            rintro e y ⟨rfl, hb⟩
            refine hK.out _ _ (HS.step hb rfl) ?_
            clear HS hb
            intro HS
            obtain ⟨x14, rfl, Bg, lZ, xq, xu, xw⟩ := HS.eG
            have jo : Hid (Below w.heap.size w x14) := Bg.below
            clear HS Bg
            refine pO 7 none (h := fun K hK => ?_)
            refine (if_pos (by rfl)).mpr ?_
            refine jY 38 (.tmp 10) (.tmp 56) rfl (x2.heap.size) 0 (jl o3 (bG q 16 dm)).cA rfl rfl 38 o3.cA (jl o3 (bG q 16 dm)).cA ob (by kernel_rfl) (by kernel_rfl) (eH (jl o3 (bG q 16 dm))) (by kernel_rfl) ?_
            refine hK.out _ _ ?_
            refine done_ (by kernel_rfl) ?_
            go_wp2_with fail
            go_roundw
            case rel => exact ⟨2, (jl o3 (bG q 16 dm)), _, by simp, jf ob ob ob, sz, sz, sz, pl jo.out, sG _ _, .inr (.inr ⟨rfl, by rw [← zF.out.2]; unfold rF; rw [if_neg hd]⟩)⟩
            case measure => first | (simp [intOf]; done) | (simp [intOf]; omega)
        · have zF := Lib.hid (And.intro hl3 h3)
          clear hl3 h3
          go_wp2_with fail
          go_roundw
          case rel => exact ⟨k, o3, _, by have := HK.out; simp; unfold wrap64; omega, jf ob ob ob, sz, sz, sz, pl fG.out, by have := H.out.2.1; omega, zF.out.1, by rw [← H.out.2.2.2, zF.out.2, EK.out.2, HDn.out.2, HDm.out.2]; rfl⟩
          case measure => (have := HK.out; simp [intOf]; unfold wrap64; omega)
theorem afj (p q : Pn) (lp : p.lt) (lq : q.lt) (A B : Option Addr) (c d : Nat) (ns ms : List Nat) (hn : ns.length ≤ 1000) (hm : ms.length ≤ 1000) (hbn : ∀ b ∈ ns, b < 256) (hbm : ∀ b ∈ ms, b < 256) (hc : ms.length ≤ ns.length) (w : World) (hg : kE w) (hrn : Rd w .u8 A ns) (hrm : Rd w .u8 B ms) :
 Calls Tryz.prog 28 #[.slice A ns.length c, p.v, .slice B ms.length d, q.v] w fun e w' => e = .returned (zq (bW ns) (bW ms) (2 * ns.length) p q).v ∧ Below w.heap.size w w' := by
 have hcI : ((ns.length : Int) < ms.length) = False := eq_false (by omega)
 have pX := Lib.hid lp
 have Gp := Lib.hid lq
 have kS := Lib.hid hg
 have HRn := Lib.hid hrn
 have EM := Lib.hid hrm
 have HN := Lib.hid (show ns.length ≤ ns.length ∧ ms.length ≤ ns.length by omega)
 have HBN := Lib.hid hbn
 have HBM := Lib.hid hbm
 clear lp lq hg hrn hrm hbn hbm
 go_enter Tryz.func28, Tryz.ntmps28
 go_wp2_with fail
 refine aac w [(w.heap.size, .cells p.cA 38), (w.heap.size + 1, .cells q.cA 38), (w.heap.size + 2, .cells bP 38)] [.is p.v, .is (.agg (flat 16 (bG p 16)).toArray), .is q.v, .is (.agg (flat 16 (bG q 16)).toArray), .is (.agg (flat 32 (both 16 (bG p 16) (bG q 16))).toArray), .own 6 (.cells (flat 32 fun _ => dh).toArray 87) (.cells (flat 32 (both 16 (bG p 16) (bG q 16))).toArray 87), .is undef] [some 15, some 16, some 17, some 18, some 19, some 9, none] [(5, .pointer (some ⟨w.heap.size, 0, none⟩)), (7, .pointer (some ⟨w.heap.size + 1, 0, none⟩))] 19 (ak (b := w.heap.size) ob (ak (b := w.heap.size + 1) ob (ak (b := w.heap.size + 2) ob (aO (pl (Below.refl _ _)))))) (fun a0 hc => ⟨abp hc [(5, none)] (h := by intro ρ a w hr hk; simp only [aaf, aan, valOf, Sp.val, aae, List.getElem?_cons_zero, List.getElem?_cons_succ, Nat.reduceBEq, cond_true, cond_false] at hr; (repeat (obtain ⟨_, hr⟩ := hr)); obtain ⟨x, rfl, _, _, _, _, _⟩ := hk.eG; exact ⟨rfl, aG 38 (.tmp 5) rfl (w.heap.size) 0 (by assumption) p.cL p.cA 38 ob (by kernel_rfl) (by kernel_rfl) (by kernel_rfl)⟩), abP hc [(15, some 0)] Tryz.func61 (fun _ HK => pI _ pX.out _ (kS.out.next HK.1)), abp hc [(7, none)] (h := by intro ρ a w hr hk; simp only [aaf, aan, valOf, Sp.val, aae, List.getElem?_cons_zero, List.getElem?_cons_succ, Nat.reduceBEq, cond_true, cond_false] at hr; (repeat (obtain ⟨_, hr⟩ := hr)); obtain ⟨x, rfl, _, _, _, _, _⟩ := hk.eG; exact ⟨rfl, aG 38 (.tmp 7) rfl (w.heap.size + 1) 0 (by assumption) q.cL q.cA 38 ob (by kernel_rfl) (by kernel_rfl) (by kernel_rfl)⟩), abP hc [(17, some 2)] Tryz.func61 (fun _ HK => pI _ Gp.out _ (kS.out.next HK.1)), abp hc [(16, some 1), (18, some 3)] (h := by intro ρ a w hr hk; simp only [aaf, aan, valOf, Sp.val, aae, List.getElem?_cons_zero, List.getElem?_cons_succ, Nat.reduceBEq, cond_true, cond_false] at hr; (repeat (obtain ⟨_, hr⟩ := hr)); exact ⟨rfl, Ea (.tmp 16) (.tmp 18) _ _ rfl (by assumption) (by assumption)⟩), abR hc [] (h := fun _ _ _ _ => ⟨rfl, zl rfl⟩), aah.fill hc [(9, some 5), (19, some 4)] (fun ρ a w hr hk hz => by simp only [aaf, aan, valOf, Sp.val, aae, List.getElem?_cons_zero, List.getElem?_cons_succ, Nat.reduceBEq, cond_true, cond_false] at hr; (repeat (obtain ⟨_, hr⟩ := hr)); exact ⟨rfl, qV 87 32 (.tmp 9) (.tmp 19) rfl _ _ (fun _ => dh) 87 (by assumption) (by assumption) (by kernel_rfl) hz⟩) rfl rfl rfl rfl rfl rfl rfl, trivial⟩) ?_ ⟨rfl, rfl, trivial⟩ (by simp) (by kernel_rfl) rfl rfl rfl rfl rfl (by kernel_rfl)
 intro ρ w' HK HO HN aC HW0
 simp only [ae7, ae8, valOf, Sp.val, List.getElem?_cons_zero, List.getElem?_cons_succ, Act.put, List.setIfInBounds_toArray, List.set_cons_zero, List.set_cons_succ]
 obtain ⟨hg0, ho0⟩ := HO 5 _ _ _ rfl
 clear HO HN
 generalize ρ 5 = gw at hg0 ho0 ⊢
 clear ρ
 have gI : Keeps w [(gw, .cells (flat 32 (both 16 (bG p 16) (bG q 16))).toArray 87), (w.heap.size, .cells p.cA 38), (w.heap.size + 1, .cells q.cA 38), (w.heap.size + 2, .cells bP 38)] w' := ak ho0 (HK)
 have zY : w.heap.size < gw := Nat.lt_of_lt_of_le (aC _ (List.mem_cons_self)) hg0
 have Fh : w.heap.size + 1 < gw := Nat.lt_of_lt_of_le (aC _ (List.mem_cons_of_mem _ (List.mem_cons_self))) hg0
 have Nk : w.heap.size + 2 < gw := Nat.lt_of_lt_of_le (aC _ (List.mem_cons_of_mem _ (List.mem_cons_of_mem _ (List.mem_cons_self)))) hg0
 obtain ⟨x1, rfl, hk1, hz1, l10, nG, l12, l13⟩ := gI.iO
 have HB1 : Hid (Below w.heap.size w x1) := hk1.below
 clear HK aC gI hk1 ho0
 have LQ : w.heap.size ≤ gw := Nat.le_trans HW0 hg0
 clear hg0
 clear HW0
 go_wp2_with fail
 refine (aao _).mono ?_
 rintro e y2 ⟨rfl, hb2⟩
 obtain ⟨x2, rfl, hc2, hz2, kD, rQ⟩ := fO (b0 := w.heap.size + 2) (b1 := gw) hb2 rfl ob ob
 have HB2 := aZ HB1.out hc2
 clear hb2 hc2
 try simp only [eF] at hz2
 go_wp2_with (refine bf 38 (.tmp 10) (.tmp 20) rfl rfl (x2.heap.size) 0 iR.cA rfl rfl 38 bP iR.cA ob (by kernel_rfl) (by kernel_rfl) (eH iR) (by kernel_rfl) ?_)
 obtain ⟨G, hG⟩ : ∃ G, G = x2.heap.size := ⟨_, rfl⟩
 have hgG : gw < G := by omega
 have hwG : w.heap.size + 2 < G := by omega
 go_loopw [11] (fun iv wr => ∃ (k : Nat) (o : Pn) (x : World), iv = .int .i64 ((k : Int) - 1) ∧ wr = ((x.pin (w.heap.size + 2) (.cells bP 38)).pin gw (.cells (flat 32 (both 16 (bG p 16) (bG q 16))).toArray 87)).pin x2.heap.size (.cells o.cA 38) ∧ w.heap.size + 2 < x.heap.size ∧ gw < x.heap.size ∧ x2.heap.size < x.heap.size ∧ Hid (Below w.heap.size w x ∧ k ≤ 2 * ns.length ∧ o.lt ∧ UU (bW ns) (bW ms) p q k o = zq (bW ns) (bW ms) (2 * ns.length) p q)) (fun iv _ => (intOf iv + 1).toNat)
 case atStart => exact ⟨2 * ns.length, iR, _, by simp; omega, jf ob ob (by refine Eq.trans ob ?_; rfl), sz, sz, sz, pl HB2.out, Nat.le_refl _, uK, rfl⟩
 case round =>
  obtain ⟨k, o, x, rfl, rfl, q0, q1, q2, H⟩ := hrel
  have fB : Hid (Below w.heap.size w x) := Lib.hid H.out.1
  rcases k with _ | k
  · go_wp2_with (first | (refine eu 38 (.tmp 10) rfl rfl (x2.heap.size) 0 rfl o.cL o.cA 38 ob (by kernel_rfl) (by kernel_rfl) (by kernel_rfl) ?_) | (refine bf 38 (.tmp 8) (.tmp 58) rfl rfl (w.heap.size + 1 + 1) 0 o.cA rfl rfl 38 bP o.cA ob (by kernel_rfl) (by kernel_rfl) (eH o) (by kernel_rfl) ?_))
    exact bodyPost_ret (v := o.v) (fA rfl rfl (fD o ob)) rfl ⟨by rw [← H.out.2.2.2]; rfl, pl fB.out⟩
  · rw [show (((k + 1 : Nat) : Int) - 1) = (k : Int) from by omega]
    obtain ⟨o1, ho1⟩ : ∃ z, z = zq (bW ns) (bW ms) (2 * ns.length) p q := ⟨_, rfl⟩
    obtain ⟨dn, hdn⟩ : ∃ z, z = bW ns / 16 ^ k % 16 := ⟨_, rfl⟩
    obtain ⟨dm, hdm⟩ : ∃ z, z = bW ms / 16 ^ k % 16 := ⟨_, rfl⟩
    have HDn : Hid (dn < 16 ∧ dn = bW ns / 16 ^ k % 16) := Lib.hid ⟨by rw [hdn]; exact Nat.mod_lt _ (by decide), hdn⟩
    have HDm : Hid (dm < 16 ∧ dm = bW ms / 16 ^ k % 16) := Lib.hid ⟨by rw [hdm]; exact Nat.mod_lt _ (by decide), hdm⟩
    have HK : Hid (k ≤ 10000) := Lib.hid (by have := H.out.2.1; omega)
    clear hdn hdm ho1 o1
    go_wp2_with fail
    go_loopw [33] (fun iv wr => ∃ (j : Nat) (o2 : Pn) (xx : World), iv = .int .i64 (j : Int) ∧ wr = ((xx.pin (w.heap.size + 2) (.cells bP 38)).pin gw (.cells (flat 32 (both 16 (bG p 16) (bG q 16))).toArray 87)).pin x2.heap.size (.cells o2.cA 38) ∧ w.heap.size + 2 < xx.heap.size ∧ gw < xx.heap.size ∧ x2.heap.size < xx.heap.size ∧ Hid (Below w.heap.size w xx ∧ j ≤ 4 ∧ o2 = G6 j o)) (fun iv _ => (4 - intOf iv).toNat)
    case atStart => exact ⟨0, o, _, rfl, jf ob ob ob, sz, sz, sz, pl fB.out, by decide, rfl⟩
    case round =>
     obtain ⟨j, o2, xx, rfl, rfl, r0, r1, r2, J⟩ := hrel
     have fC : Hid (Below w.heap.size w xx) := Lib.hid J.out.1
     by_cases hj : j < 4
     · go_wp2_with (refine eu 38 (.tmp 10) rfl rfl (x2.heap.size) 0 rfl o2.cL o2.cA 38 ob (by kernel_rfl) (by kernel_rfl) (by kernel_rfl) ?_)
       refine (AU _ (by rw [J.out.2.2]; exact zW _ H.out.2.2.1 _) _).mono ?_
       rintro e QN ⟨rfl, bT⟩
       obtain ⟨x12, rfl, hc12, kF, uS, vI, vJ⟩ := bZ (b0 := w.heap.size + 2) (b1 := gw) (b2 := x2.heap.size) bT rfl ob ob ob
       have fG := aZ fC.out hc12
       clear bT hc12
       try simp only [eF] at kF
       go_wp2_with (refine bf 38 (.tmp 10) (.tmp 36) rfl rfl (x2.heap.size) 0 (mO o2).cA rfl rfl 38 _ (mO o2).cA ob (by kernel_rfl) (by kernel_rfl) (eH (mO o2)) (by kernel_rfl) ?_)
       go_roundw
       case rel => exact ⟨j + 1, mO o2, _, by simp, jf ob ob ob, sz, sz, sz, pl fG.out, by omega, by rw [J.out.2.2]; rfl⟩
       case measure => first | (simp [intOf]; done) | (simp [intOf]; omega)
     · have hjI : ((j : Int) < 4) = False := eq_false (by omega)
       have EK : Hid (o2.lt ∧ o2 = G6 4 o) := Lib.hid ⟨by rw [J.out.2.2]; exact zW _ H.out.2.2.1 _, by rw [J.out.2.2, show j = 4 by have := J.out.2.1; omega]⟩
       go_wp2_with fail
       go_loopw [41] (fun iv wr => ∃ (t : Nat) (o3 : Pn) (xy : World), iv = .int .i64 (t : Int) ∧ wr = ((xy.pin (w.heap.size + 2) (.cells bP 38)).pin gw (.cells (flat 32 (both 16 (bG p 16) (bG q 16))).toArray 87)).pin x2.heap.size (.cells o3.cA 38) ∧ w.heap.size + 2 < xy.heap.size ∧ gw < xy.heap.size ∧ x2.heap.size < xy.heap.size ∧ Hid (Below w.heap.size w xy ∧ o3.lt ∧ (t = 0 ∧ o3 = o2 ∨ t = 1 ∧ o3 = rF (bG p 16) dn o2 ∨ t = 2 ∧ o3 = rF (bG q 16) dm (rF (bG p 16) dn o2)))) (fun iv _ => (2 - intOf iv).toNat)
       case atStart => exact ⟨0, o2, _, rfl, jf ob ob ob, sz, sz, sz, pl fC.out, EK.out.1, .inl ⟨rfl, rfl⟩⟩
       case round =>
        obtain ⟨t, o3, xy, rfl, rfl, s0, s1, s2, T⟩ := hrel
        have fG : Hid (Below w.heap.size w xy) := Lib.hid T.out.1
        have hl3 := T.out.2.1
        rcases T.out.2.2 with ⟨rfl, h3⟩ | ⟨rfl, h3⟩ | ⟨rfl, h3⟩
        · have zF := Lib.hid (And.intro hl3 h3)
          clear hl3 h3
          have hix : ∀ w, (Instr.index 88 (.agg #[.slice A ns.length c, .slice B ms.length d]) (.int .i64 0)).run Tryz.prog w = .ok (.slice A ns.length c) w := fun w => by kernel_rfl
          go_wp2_with fail
          refine (qM A c ns hn HBN.out k HK.out dn HDn.out.2 _ (by exact Rd.mono HRn.out (pl fG.out) (Nat.le_refl _))).mono ?_
          rintro e y13 ⟨rfl, bM⟩
          obtain ⟨DL, rfl, hc13, jJ, tq, xg, xk⟩ := bZ (b0 := w.heap.size + 2) (b1 := gw) (b2 := x2.heap.size) bM rfl ob ob ob
          have iH := aZ fG.out hc13
          clear bM hc13
          try simp only [eF] at jJ
          by_cases hd : dn = 0
          · have hd0 : ((0 : Int) < (dn : Int)) = False := eq_false (by omega)
            go_wp2_with fail
            go_roundw
            case rel => exact ⟨1, o3, _, by simp, jf ob ob ob, sz, sz, sz, pl iH.out, zF.out.1, .inr (.inl ⟨rfl, by rw [zF.out.2]; unfold rF; rw [if_pos hd]⟩)⟩
            case measure => first | (simp [intOf]; done) | (simp [intOf]; omega)
          · have hd0 : ((0 : Int) < (dn : Int)) = True := eq_true (by omega)
            have hd1 : (dn : Int) < 16 := by have := HDn.out.1; omega
            go_wp2_with fail
            refine st1 w [7] 8 (ak (b := w.heap.size + 2) ob (ak (b := gw) ob (ak (b := x2.heap.size) ob (aO (pl iH.out))))) (fun HS => ?_)
            refine tk3 0 (some 50) HS (v := o3.v) (hy := by (intro v hv; obtain ⟨x, rfl, _, _, n0, n1, n2⟩ := hv.eG; exact aG 38 (.tmp 10) rfl (x2.heap.size) 0 rfl o3.cL o3.cA 38 ob (by kernel_rfl) (by kernel_rfl) (by kernel_rfl))) (h := ?_)
            refine tk3 1 (some 51) HS (h := ?_)
            refine tk3 2 (some 52) HS (h := ?_)
            refine tk3 3 (some 53) HS (h := ?_)
            refine tk3 4 (some 54) HS (h := ?_)
            refine tk3 5 (some 55) HS (v := (bG p 16 dn).v) (hy := by (intro v hv; obtain ⟨x, rfl, _, _, n0, n1, n2⟩ := hv.eG; rw [show bG p 16 dn = both 16 (bG p 16) (bG q 16) dn from (if_pos (by omega)).symm]; exact jT (.tmp 54) rfl gw 32 dn _ (both 16 (bG p 16) (bG q 16)) 87 rfl (by omega) ob (by omega))) (h := ?_)
            refine dH 6 (some 56) (h := fun K hK => ?_)
            go_simp
            refine (ql _ _ zF.out.1 (by exact qR _ _ _) _ (kS.out.next HS.1)).mono ?_
            rintro e y ⟨rfl, hb⟩
            refine hK.out _ _ (HS.step hb rfl) ?_
            clear HS hb
            intro HS
            obtain ⟨x14, rfl, Bg, lZ, xq, xu, xw⟩ := HS.eG
            have jo : Hid (Below w.heap.size w x14) := Bg.below
            clear HS Bg
            refine pO 7 none (h := fun K hK => ?_)
            refine (if_pos (by rfl)).mpr ?_
            refine jY 38 (.tmp 10) (.tmp 56) rfl (x2.heap.size) 0 (jl o3 (bG p 16 dn)).cA rfl rfl 38 o3.cA (jl o3 (bG p 16 dn)).cA ob (by kernel_rfl) (by kernel_rfl) (eH (jl o3 (bG p 16 dn))) (by kernel_rfl) ?_
            refine hK.out _ _ ?_
            refine done_ (by kernel_rfl) ?_
            go_wp2_with fail
            go_roundw
            case rel => exact ⟨1, (jl o3 (bG p 16 dn)), _, by simp, jf ob ob ob, sz, sz, sz, pl jo.out, sG _ _, .inr (.inl ⟨rfl, by rw [zF.out.2]; unfold rF; rw [if_neg hd]⟩)⟩
            case measure => first | (simp [intOf]; done) | (simp [intOf]; omega)
        · have zF := Lib.hid (And.intro hl3 h3)
          clear hl3 h3
          have hix : ∀ w, (Instr.index 88 (.agg #[.slice A ns.length c, .slice B ms.length d]) (.int .i64 1)).run Tryz.prog w = .ok (.slice B ms.length d) w := fun w => by kernel_rfl
          go_wp2_with fail
          refine (qM B d ms hm HBM.out k HK.out dm HDm.out.2 _ (by exact Rd.mono EM.out (pl fG.out) (Nat.le_refl _))).mono ?_
          rintro e y13 ⟨rfl, bM⟩
          obtain ⟨DL, rfl, hc13, jJ, tq, xg, xk⟩ := bZ (b0 := w.heap.size + 2) (b1 := gw) (b2 := x2.heap.size) bM rfl ob ob ob
          have iH := aZ fG.out hc13
          clear bM hc13
          try simp only [eF] at jJ
          by_cases hd : dm = 0
          · have hd0 : ((0 : Int) < (dm : Int)) = False := eq_false (by omega)
            go_wp2_with fail
            go_roundw
            case rel => exact ⟨2, o3, _, by simp, jf ob ob ob, sz, sz, sz, pl iH.out, zF.out.1, .inr (.inr ⟨rfl, by rw [← zF.out.2]; unfold rF; rw [if_pos hd]⟩)⟩
            case measure => first | (simp [intOf]; done) | (simp [intOf]; omega)
          · have hd0 : ((0 : Int) < (dm : Int)) = True := eq_true (by omega)
            have hd1 : (dm : Int) < 16 := by have := HDm.out.1; omega
            go_wp2_with fail
            refine st1 w [7] 8 (ak (b := w.heap.size + 2) ob (ak (b := gw) ob (ak (b := x2.heap.size) ob (aO (pl iH.out))))) (fun HS => ?_)
            refine tk3 0 (some 50) HS (v := o3.v) (hy := by (intro v hv; obtain ⟨x, rfl, _, _, n0, n1, n2⟩ := hv.eG; exact aG 38 (.tmp 10) rfl (x2.heap.size) 0 rfl o3.cL o3.cA 38 ob (by kernel_rfl) (by kernel_rfl) (by kernel_rfl))) (h := ?_)
            refine tk3 1 (some 51) HS (h := ?_)
            refine tk3 2 (some 52) HS (h := ?_)
            refine tk3 3 (some 53) HS (h := ?_)
            refine tk3 4 (some 54) HS (h := ?_)
            refine tk3 5 (some 55) HS (v := (bG q 16 dm).v) (hy := by (intro v hv; obtain ⟨x, rfl, _, _, n0, n1, n2⟩ := hv.eG; rw [show bG q 16 dm = both 16 (bG p 16) (bG q 16) (16 + dm) from by unfold both; rw [if_neg (by omega), Nat.add_sub_cancel_left]]; exact jT (.tmp 54) rfl gw 32 (16 + dm) _ (both 16 (bG p 16) (bG q 16)) 87 rfl (by omega) ob (by omega))) (h := ?_)
            refine dH 6 (some 56) (h := fun K hK => ?_)
            go_simp
            refine (ql _ _ zF.out.1 (by exact qR _ _ _) _ (kS.out.next HS.1)).mono ?_
            rintro e y ⟨rfl, hb⟩
            refine hK.out _ _ (HS.step hb rfl) ?_
            clear HS hb
            intro HS
            obtain ⟨x14, rfl, Bg, lZ, xq, xu, xw⟩ := HS.eG
            have jo : Hid (Below w.heap.size w x14) := Bg.below
            clear HS Bg
            refine pO 7 none (h := fun K hK => ?_)
            refine (if_pos (by rfl)).mpr ?_
            refine jY 38 (.tmp 10) (.tmp 56) rfl (x2.heap.size) 0 (jl o3 (bG q 16 dm)).cA rfl rfl 38 o3.cA (jl o3 (bG q 16 dm)).cA ob (by kernel_rfl) (by kernel_rfl) (eH (jl o3 (bG q 16 dm))) (by kernel_rfl) ?_
            refine hK.out _ _ ?_
            refine done_ (by kernel_rfl) ?_
            go_wp2_with fail
            go_roundw
            case rel => exact ⟨2, (jl o3 (bG q 16 dm)), _, by simp, jf ob ob ob, sz, sz, sz, pl jo.out, sG _ _, .inr (.inr ⟨rfl, by rw [← zF.out.2]; unfold rF; rw [if_neg hd]⟩)⟩
            case measure => first | (simp [intOf]; done) | (simp [intOf]; omega)
        · have zF := Lib.hid (And.intro hl3 h3)
          clear hl3 h3
          go_wp2_with fail
          go_roundw
          case rel => exact ⟨k, o3, _, by have := HK.out; simp; unfold wrap64; omega, jf ob ob ob, sz, sz, sz, pl fG.out, by have := H.out.2.1; omega, zF.out.1, by rw [← H.out.2.2.2, zF.out.2, EK.out.2, HDn.out.2, HDm.out.2]; rfl⟩
          case measure => (have := HK.out; simp [intOf]; unfold wrap64; omega)
theorem acg (p q : Pn) (lp : p.lt) (lq : q.lt) (A B : Option Addr) (c d : Nat) (ns ms : List Nat) (hn : ns.length ≤ 1000) (hm : ms.length ≤ 1000) (hbn : ∀ b ∈ ns, b < 256) (hbm : ∀ b ∈ ms, b < 256) (w : World) (hg : kE w) (hrn : Rd w .u8 A ns) (hrm : Rd w .u8 B ms) :
 Calls Tryz.prog 28 #[.slice A ns.length c, p.v, .slice B ms.length d, q.v] w fun e w' => e = .returned (zq (bW ns) (bW ms) (2 * max ns.length ms.length) p q).v ∧ Below w.heap.size w w' := by
 by_cases h : ns.length < ms.length
 · rw [Nat.max_eq_right (Nat.le_of_lt h)]
   exact afi p q lp lq A B c d ns ms hn hm hbn hbm h w hg hrn hrm
 · rw [Nat.max_eq_left (by omega)]
   exact afj p q lp lq A B c d ns ms hn hm hbn hbm (by omega) w hg hrn hrm
theorem oH : iR.of Pt.zero := by
 refine ⟨uK, ?_, ?_, ?_, ?_⟩
 · exact nI.mpr (by decide)
 · show fe 0 = 0 * fe 1
   rw [← jc, ← aS]
 · show fe 1 = 1 * fe 1
   rw [← iK, ← aS]
 · show fe 0 = 0 * 1 * fe 1
   rw [← jc, ← iK, ← aS, ← aS]
theorem yc (p : Pn) (P : EP) (hp : p.of P) : ∀ k j, j < k → (bG p k j).of (Pt.smul j P)
 | 0, j, h => absurd h (Nat.not_lt_zero _)
 | k + 1, j, h => by
  rw [bG]
  by_cases hj : j = k
  · subst hj
    rw [yY]
    by_cases h0 : j = 0
    · rw [if_pos h0, h0]; exact oH
    · rw [if_neg h0]
      by_cases h2 : j % 2 = 0
      · rw [if_pos h2]
        have h3 := G5 _ _ (yc p P hp j (j / 2) (by omega))
        rw [xR, show j / 2 + j / 2 = j by omega] at h3
        exact h3
      · rw [if_neg h2]
        have h3 := Aw _ _ _ _ (yc p P hp j (j - 1) (by omega)) hp
        have e : Pt.smul (j - 1) P + P = Pt.smul j P := by
         obtain ⟨i, rfl⟩ : ∃ i, j = i + 1 := ⟨j - 1, by omega⟩
         rfl
        rw [e] at h3
        exact h3
  · rw [F8 hj]
    exact yc p P hp k j (by omega)
theorem MP (o : Pn) (a : EP) (h : o.of a) : ∀ k, (G6 k o).of (Pt.smul (2 ^ k) a)
 | 0 => by
  show o.of (Pt.smul 1 a)
  rw [tY]; exact h
 | k + 1 => by
  have h1 := G5 _ _ (MP o a h k)
  rw [xR, ← Nat.two_mul, Nat.mul_comm, ← Nat.pow_succ] at h1
  exact h1
theorem Me (f : Nat → Pn) (d : Nat) (P : EP) (hf : (f d).of (Pt.smul d P)) (o : Pn) (a : EP) (h : o.of a) : (rF f d o).of (a + Pt.smul d P) := by
 unfold rF
 by_cases hd : d = 0
 · rw [if_pos hd, hd, smul_zero, Pt.add_zero]; exact h
 · rw [if_neg hd]; exact Aw _ _ _ _ h hf
theorem Qo (n : Nat) (P Q : EP) : Pt.smul n (P + Q) = Pt.smul n P + Pt.smul n Q := by
 induction n with
 | zero => rw [smul_zero, smul_zero, smul_zero, Pt.add_zero]
 | succ n ih =>
  show Pt.smul n (P + Q) + (P + Q) = (Pt.smul n P + P) + (Pt.smul n Q + Q)
  rw [ih, add4]
theorem Nw (n m : Nat) (p q : Pn) (P Q : EP) (hp : p.of P) (hq : q.of Q) : ∀ (k : Nat) (o : Pn), o.of (Pt.smul (n / 16 ^ k) P + Pt.smul (m / 16 ^ k) Q) → (UU n m p q k o).of (Pt.smul n P + Pt.smul m Q)
 | 0, o, h => by
  rw [Nat.pow_zero, Nat.div_one, Nat.div_one] at h
  exact h
 | k + 1, o, h => by
  refine Nw n m p q P Q hp hq k _ ?_
  have d1 : n / 16 ^ k % 16 < 16 := Nat.mod_lt _ (by decide)
  have d2 : m / 16 ^ k % 16 < 16 := Nat.mod_lt _ (by decide)
  have h1 := Me (bG q 16) (m / 16 ^ k % 16) Q (yc q Q hq 16 _ d2) _ _ (Me (bG p 16) (n / 16 ^ k % 16) P (yc p P hp 16 _ d1) _ _ (MP o _ h 4))
  have e : ∀ x : Nat, x / 16 ^ (k + 1) * 2 ^ 4 + x / 16 ^ k % 16 = x / 16 ^ k := fun x => by
   rw [Nat.pow_succ, ← Nat.div_div_eq_div_mul]
   omega
  rw [Qo, ← Cj, ← Cj, Pt.assoc _ (Pt.smul (n / 16 ^ k % 16) P), add4, ← smul_add, ← smul_add, e n, e m] at h1
  exact h1
theorem UR (n m k : Nat) (p q : Pn) (P Q : EP) (hp : p.of P) (hq : q.of Q) (hn : n / 16 ^ k = 0) (hm : m / 16 ^ k = 0) : (zq n m k p q).of (Pt.smul n P + Pt.smul m Q) := by
 refine Nw n m p q P Q hp hq k _ ?_
 rw [hn, hm, smul_zero, smul_zero, Pt.add_zero]
 exact oH
end
end Go.Proofs.YtehfkbaendajbaaGreatDoor
