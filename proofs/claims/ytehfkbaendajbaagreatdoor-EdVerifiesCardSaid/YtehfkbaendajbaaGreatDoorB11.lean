/-
  Shared, part 11: walks and plain laws; each theorem states its own conditions.
-/
import Derived.Test.YtehfkbaendajbaaGreatDoorB10
namespace Go.Proofs.YtehfkbaendajbaaGreatDoor
set_option linter.unusedSimpArgs false
set_option linter.unusedVariables false
set_option maxRecDepth 100000
set_option maxHeartbeats 8000000
section
open Go.RowKit Go.Proofs.YtehfkbaendajbaaGreatDoorW.PrintLast
theorem adv (v e : Nat) (hv : v * 256 < 18446744073709551616) (he : e < 256) : bits .or .u64 (eX ((v : Int) * 256)) (eX (e : Int)) = ((v * 256 + e : Nat) : Int) := by
 unfold eX
 have h1 : IntKind.u64.wrap ((v : Int) * 256) = ((v * 256 : Nat) : Int) := (yh _ (by omega) (by omega)).trans (by omega)
 have h2 : IntKind.u64.wrap (e : Int) = (e : Int) := yh _ (by omega) (by omega)
 rw [h1, h2, afo _ _ hv (by omega)]
 have h3 := Nat.two_pow_add_eq_or_of_lt (i := 8) (b := e) he v
 rw [show 2 ^ 8 * v = v * 256 by omega] at h3
 rw [← h3]
theorem sum64 (a b c d : Nat) : eX (eX (eX ((a : Int) + (b : Int)) + (c : Int)) + (d : Int)) = (((a + b + c + d) % 2 ^ 64 : Nat) : Int) := by
 unfold eX
 simp only [IntKind.wrap_u64]
 omega
theorem Zk (A : Option Addr) (c : Nat) (bs : List Nat) (hl : bs.length = 128) (hc : 128 ≤ c) (hby : ∀ x ∈ bs, x < 256) (w : World) (hr : Rd w .u8 A bs) :
 Calls Tryz.prog 130 #[.agg #[.int .i64 8, .int .i64 64, .int .i64 80, .int .i64 1, .int .i64 8, .int .i64 7, .int .i64 19, .int .i64 61, .int .i64 6, .int .i64 28, .int .i64 34, .int .i64 39, .int .i64 14, .int .i64 18, .int .i64 41], .slice A 128 c] w fun e w' => e = .returned (.agg (rk .u64 80 fun j => if j < 80 then vO aV bs j else 0)) ∧ Below w.heap.size w w' := by
 obtain ⟨gb, off, rfl, hbw, hcell⟩ := hr.place (by omega)
 have ac6 : Hid (∀ j, (hj : j < bs.length) → w.cell? ⟨gb, off + j, none⟩ = some (.int .u8 ((bs[j] : Nat) : Int))) := Lib.hid hcell
 have HL := Lib.hid hl
 have rV := Lib.hid hby
 have EI := Lib.hid hbw
 have HZA : ∀ w, (Instr.alloc 147 true (.tuple #[])).run Tryz.prog w = .ok (.pointer (some ⟨w.heap.size, 0, none⟩)) (w.alloc (.cells (rk .u64 80 fun _ => 0) 147)) := fun w => by kernel_rfl
 have hc8 : (128 : Int) ≤ (c : Int) := by omega
 clear hr hcell hl hby hbw
 go_enter Tryz.func130, Tryz.ntmps130
 go_wp2_with (refine qY 147 rfl rfl (rk .u64 80 fun _ => 0) (HZA _) ?_)
 go_loopw [10] (fun iv wr => ∃ (t : Nat) (F : Nat → Nat) (x : World), iv = .int .i64 (t : Int) ∧ wr = ((x.pin w.heap.size (.cells #[.int .i64 8, .int .i64 64, .int .i64 80, .int .i64 1, .int .i64 8, .int .i64 7, .int .i64 19, .int .i64 61, .int .i64 6, .int .i64 28, .int .i64 34, .int .i64 39, .int .i64 14, .int .i64 18, .int .i64 41] 124)).pin (w.heap.size + 1) (.cells (rk .u64 80 fun _ => 0) 147)).pin (w.heap.size + 2) (.cells (rk .u64 80 F) 147) ∧ w.heap.size < x.heap.size ∧ w.heap.size + 1 < x.heap.size ∧ w.heap.size + 2 < x.heap.size ∧ Hid (Below w.heap.size w x ∧ t ≤ 16 ∧ ∀ j, F j = if j < t then vO aV bs j else 0)) (fun iv _ => (16 - intOf iv).toNat)
 case atStart => exact ⟨0, fun _ => 0, _, rfl, jf ob ob ob, sz, sz, sz, pl (Below.refl _ _), by decide, fun j => rfl⟩
 case round =>
  obtain ⟨t, F, x, rfl, rfl, q0, q1, q2, H⟩ := hrel
  have fB : Hid (Below w.heap.size w x) := Lib.hid H.out.1
  by_cases ht : t < 16
  · have htI : (t : Int) < 16 := by omega
    have e1 : IntKind.i64.wrap ((t : Int) * 8) = ((t * 8 : Nat) : Int) := (IntWalk.i64_in _ (by omega)).trans (by omega)
    have e2 : IntKind.i64.wrap ((t : Int) + 1) = ((t + 1 : Nat) : Int) := (IntWalk.i64_in _ (by omega)).trans (by omega)
    have e3 : IntKind.i64.wrap (((t + 1 : Nat) : Int) * 8) = (((t + 1) * 8 : Nat) : Int) := (IntWalk.i64_in _ (by omega)).trans (by omega)
    have e4 : ((t * 8 : Nat) : Int) ≤ (((t + 1) * 8 : Nat) : Int) := by omega
    have e5 : (((t + 1) * 8 : Nat) : Int) ≤ (c : Int) := by omega
    have e6 : (t + 1) * 8 - t * 8 = 8 := by omega
    go_wp2_with fail
    obtain ⟨bl, hbl⟩ : ∃ z, z = (bs.drop (t * 8)).take 8 := ⟨_, rfl⟩
    have Ji : Hid (bl = (bs.drop (t * 8)).take 8 ∧ bl.length = 8 ∧ ∀ x ∈ bl, x < 256) := Lib.hid ⟨hbl, by rw [hbl]; have := HL.out; simp; omega, fun x hx => rV.out x (by rw [hbl] at hx; exact List.mem_of_mem_drop (List.mem_of_mem_take hx))⟩
    clear hbl
    go_loopw [25] (fun iv wr => ∃ (i : Nat) (G : Nat → Nat) (y : World), iv = .int .i64 (i : Int) ∧ wr = ((y.pin w.heap.size (.cells #[.int .i64 8, .int .i64 64, .int .i64 80, .int .i64 1, .int .i64 8, .int .i64 7, .int .i64 19, .int .i64 61, .int .i64 6, .int .i64 28, .int .i64 34, .int .i64 39, .int .i64 14, .int .i64 18, .int .i64 41] 124)).pin (w.heap.size + 1) (.cells (rk .u64 80 fun _ => 0) 147)).pin (w.heap.size + 2) (.cells (rk .u64 80 G) 147) ∧ w.heap.size < y.heap.size ∧ w.heap.size + 1 < y.heap.size ∧ w.heap.size + 2 < y.heap.size ∧ Hid (Below w.heap.size w y ∧ i ≤ 8 ∧ ∀ j, G j = if j = t then beN (bl.take i) else F j)) (fun iv _ => (8 - intOf iv).toNat)
    case atStart => exact ⟨0, F, _, rfl, jf ob ob ob, sz, sz, sz, pl fB.out, by decide, fun j => by by_cases hj : j = t; rw [if_pos hj, H.out.2.2, if_neg (by omega)]; rfl; rw [if_neg hj]⟩
    case round =>
     obtain ⟨i, G, y, rfl, rfl, r0, r1, r2, J⟩ := hrel
     have fC : Hid (Below w.heap.size w y) := Lib.hid J.out.1
     by_cases hi : i < 8
     · have OW : (i : Int) < 8 := by omega
       have aix := EI.out
       obtain ⟨ev, hev⟩ : ∃ z, z = bs[t * 8 + i]'(by have := HL.out; omega) := ⟨_, rfl⟩
       obtain ⟨v, hv⟩ : ∃ z, z = G t := ⟨_, rfl⟩
       have hcx : y.cell? ⟨gb, off + t * 8 + i, none⟩ = some (.int .u8 (ev : Int)) := by
        rw [Nat.add_assoc, hev]
        exact (fC.out.cell (p := ⟨gb, off + (t * 8 + i), none⟩) aix).trans (ac6.out _ _)
       have hA : (rk .u64 80 G)[t]? = some (.int .u64 (v : Int)) := by rw [anv _ (by omega), hv]
       have aiS : (t : Int) < 80 := by omega
       have HV := Lib.hid (And.intro hev hv)
       clear hev hv
       go_wp2_with fail
       have hbi : bl[i]? = some ev := by
        rw [Ji.out.1, List.getElem?_take, if_pos hi, List.getElem?_drop, HV.out.1, List.getElem?_eq_getElem]
       have hev : ev < 256 := by rw [HV.out.1]; exact rV.out _ (List.getElem_mem _)
       have hvb : v = beN (bl.take i) := by rw [HV.out.2, J.out.2.2, if_pos rfl]
       have hvl : v * 256 < 18446744073709551616 := by
        have h1 := RQ (bl.take i) (fun x hx => Ji.out.2.2 x (List.mem_of_mem_take hx))
        rw [← hvb] at h1
        have h2 : 256 ^ (bl.take i).length ≤ 256 ^ (8 - 1) := Nat.pow_le_pow_right (by decide) (by have := List.length_take_le i bl; omega)
        have h3 : (256 : Nat) ^ (8 - 1) * 256 = 18446744073709551616 := by decide
        omega
       refine ⟨⟨i + 1, upd G t (v * 256 + ev), y, by simp, by rw [adv v ev hvl hev, BK], r0, r1, r2, Lib.hid ⟨J.out.1, by omega, fun j => ?_⟩⟩, by simp [intOf]; omega⟩
       by_cases hj : j = t
       · rw [if_pos hj, hj]
         have h4 : i < bl.length := by rw [Ji.out.2.1]; exact hi
         have h5 : bl[i] = ev := by rw [List.getElem?_eq_getElem h4] at hbi; exact Option.some.inj hbi
         rw [RS bl i h4, h5, ← hvb]
         simp [upd]
       · rw [if_neg hj]
         have := J.out.2.2 j
         rw [if_neg hj] at this
         simp [upd, hj, this]
     · have hi8 : i = 8 := by have := J.out.2.1; omega
       have OW : ((i : Int) < 8) = False := eq_false (by omega)
       go_wp2_with fail
       refine ⟨⟨t + 1, G, y, by simp, rfl, r0, r1, r2, Lib.hid ⟨J.out.1, by omega, fun j => ?_⟩⟩, by simp [intOf]; omega⟩
       rw [J.out.2.2 j]
       by_cases hj : j = t
       · rw [if_pos hj, hj, if_pos (by omega), hi8, Jd aV bs (by omega), show bl.take 8 = bl from List.take_of_length_le (by rw [Ji.out.2.1]; exact Nat.le_refl _), Ji.out.1]
         rfl
       · rw [if_neg hj, H.out.2.2 j]
         by_cases hj2 : j < t
         · rw [if_pos hj2, if_pos (by omega)]
         · rw [if_neg hj2, if_neg (by omega)]
  · have htI : ((t : Int) < 16) = False := eq_false (by omega)
    have HF : Hid (∀ j, F j = if j < 16 then vO aV bs j else 0) := Lib.hid fun j => by rw [H.out.2.2 j, show t = 16 by have := H.out.2.1; omega]
    go_wp2_with fail
    go_loopw [9] (fun iv wr => ∃ (s : Nat) (G : Nat → Nat) (y : World), iv = .int .i64 (s : Int) ∧ wr = ((y.pin w.heap.size (.cells #[.int .i64 8, .int .i64 64, .int .i64 80, .int .i64 1, .int .i64 8, .int .i64 7, .int .i64 19, .int .i64 61, .int .i64 6, .int .i64 28, .int .i64 34, .int .i64 39, .int .i64 14, .int .i64 18, .int .i64 41] 124)).pin (w.heap.size + 1) (.cells (rk .u64 80 fun _ => 0) 147)).pin (w.heap.size + 2) (.cells (rk .u64 80 G) 147) ∧ w.heap.size < y.heap.size ∧ w.heap.size + 1 < y.heap.size ∧ w.heap.size + 2 < y.heap.size ∧ Hid (Below w.heap.size w y ∧ 16 ≤ s ∧ s ≤ 80 ∧ ∀ j, G j = if j < s then vO aV bs j else 0)) (fun iv _ => (80 - intOf iv).toNat)
    case atStart => exact ⟨16, F, _, rfl, jf ob ob ob, sz, sz, sz, pl fB.out, by decide, by decide, HF.out⟩
    case round =>
     obtain ⟨s, G, y, rfl, rfl, r0, r1, r2, J⟩ := hrel
     have fC : Hid (Below w.heap.size w y) := Lib.hid J.out.1
     by_cases hs : s < 80
     · have hsI : (s : Int) < 80 := by omega
       have h16 := J.out.2.1
       obtain ⟨v16, abM⟩ : ∃ z, z = G (s - 16) := ⟨_, rfl⟩
       have amk : IntKind.i64.wrap ((s : Int) - 16) = ((s - 16 : Nat) : Int) := (IntWalk.i64_in _ (by omega)).trans (by omega)
       have amv : (rk .u64 80 G)[s - 16]? = some (.int .u64 (v16 : Int)) := by rw [anv _ (by omega), abM]
       have hb16 : ((s - 16 : Nat) : Int) < 80 := by omega
       obtain ⟨v15, X4⟩ : ∃ z, z = G (s - 15) := ⟨_, rfl⟩
       have amj : IntKind.i64.wrap ((s : Int) - 15) = ((s - 15 : Nat) : Int) := (IntWalk.i64_in _ (by omega)).trans (by omega)
       have amu : (rk .u64 80 G)[s - 15]? = some (.int .u64 (v15 : Int)) := by rw [anv _ (by omega), X4]
       have fH : ((s - 15 : Nat) : Int) < 80 := by omega
       obtain ⟨v7, hv7⟩ : ∃ z, z = G (s - 7) := ⟨_, rfl⟩
       have ew7 : IntKind.i64.wrap ((s : Int) - 7) = ((s - 7 : Nat) : Int) := (IntWalk.i64_in _ (by omega)).trans (by omega)
       have hA7 : (rk .u64 80 G)[s - 7]? = some (.int .u64 (v7 : Int)) := by rw [anv _ (by omega), hv7]
       have hb7 : ((s - 7 : Nat) : Int) < 80 := by omega
       obtain ⟨v2, hv2⟩ : ∃ z, z = G (s - 2) := ⟨_, rfl⟩
       have ew2 : IntKind.i64.wrap ((s : Int) - 2) = ((s - 2 : Nat) : Int) := (IntWalk.i64_in _ (by omega)).trans (by omega)
       have hA2 : (rk .u64 80 G)[s - 2]? = some (.int .u64 (v2 : Int)) := by rw [anv _ (by omega), hv2]
       have hb2 : ((s - 2 : Nat) : Int) < 80 := by omega
       obtain ⟨v0, hv0⟩ : ∃ z, z = G s := ⟨_, rfl⟩
       have hA0 : (rk .u64 80 G)[s]? = some (.int .u64 (v0 : Int)) := by rw [anv _ (by omega), hv0]
       clear hv0
       have amQ : (s : Int) < 80 := by omega
       have HV := Lib.hid (And.intro abM (And.intro X4 (And.intro hv7 hv2)))
       have HWL : Hid (v15 < 18446744073709551616 ∧ v2 < 18446744073709551616) := Lib.hid ⟨by rw [X4, J.out.2.2.2, if_pos (by omega)]; exact NG aV bs rV.out (by decide) (by show _ < 80; omega), by rw [hv2, J.out.2.2.2, if_pos (by omega)]; exact NG aV bs rV.out (by decide) (by show _ < 80; omega)⟩
       clear abM X4 hv7 hv2
       go_wp2_with fail
       refine st1 w [31] 32 (ak (b := w.heap.size) ob (ak (b := w.heap.size + 1) ob (ak (b := w.heap.size + 2) ob (aO (pl fC.out))))) (fun HS => ?_)
       refine tk3 0 (some 46) HS (h := ?_)
       refine tk3 1 (some 47) HS (h := ?_)
       refine tk3 2 (some 48) HS (h := ?_)
       refine tk3 3 (some 49) HS (h := ?_)
       refine tk3 4 (some 50) HS (h := ?_)
       refine tk3 5 (some 51) HS (h := ?_)
       refine tk3 6 (some 52) HS (h := ?_)
       refine tk3 7 (some 53) HS (h := ?_)
       refine tk3 8 (some 54) HS (h := ?_)
       refine tk3 9 (some 55) HS (h := ?_)
       refine tk3 10 (some 56) HS (h := ?_)
       refine tk3 11 (some 57) HS (h := ?_)
       refine tk3 12 (some 58) HS (h := ?_)
       refine tk3 15 (some 61) HS (h := ?_)
       refine tk3 16 (some 62) HS (h := ?_)
       refine tk3 17 (some 63) HS (h := ?_)
       refine tk3 18 (some 64) HS (h := ?_)
       refine tk3 20 (some 66) HS (h := ?_)
       refine tk3 21 (some 67) HS (h := ?_)
       refine tk3 22 (some 68) HS (h := ?_)
       refine tk3 23 (some 69) HS (h := ?_)
       refine tk3 24 (some 70) HS (h := ?_)
       refine tk3 25 (some 71) HS (h := ?_)
       refine tk3 26 (some 72) HS (h := ?_)
       refine tk3 27 (some 73) HS (h := ?_)
       refine dH 13 (some 59) (h := fun K hK => ?_)
       go_simp
       refine (NI v15 1 8 7 HWL.out.1 (by decide) _).mono ?_
       rintro e y ⟨rfl, hb⟩
       refine hK.out _ _ (HS.step hb rfl) ?_
       clear HS hb
       intro HS
       refine tk3 14 (some 60) HS (h := ?_)
       refine tk3 19 (some 65) HS (h := ?_)
       refine dH 28 (some 74) (h := fun K hK => ?_)
       go_simp
       refine (NI v2 19 61 6 HWL.out.2 (by decide) _).mono ?_
       rintro e y ⟨rfl, hb⟩
       refine hK.out _ _ (HS.step hb rfl) ?_
       clear HS hb
       intro HS
       refine tk3 29 (some 75) HS (h := ?_)
       refine tk3 30 (some 76) HS (h := ?_)
       obtain ⟨x12, rfl, hk12, kF, uS, vI, vJ⟩ := HS.eG
       have fG : Hid (Below w.heap.size w x12) := hk12.below
       clear HS hk12
       refine pO 31 none (h := fun K hK => ?_)
       go_simp
       refine hK.out _ _ ?_
       refine done_ (by kernel_rfl) ?_
       go_wp2_with fail
       go_roundw
       case rel =>
        refine ⟨s + 1, upd G s ((v16 + mG 64 v15 (1, 8, 7) + v7 + mG 64 v2 (19, 61, 6)) % 2 ^ 64), x12, by simp, by rw [← BK, ← sum64], sz, sz, sz, fG.out, by omega, by omega, fun j => ?_⟩
        by_cases hj : j = s
        · rw [hj, if_pos (by omega), EF aV bs h16 (by show _ < 80; omega), HV.out.1, HV.out.2.1, HV.out.2.2.1, HV.out.2.2.2, J.out.2.2.2, J.out.2.2.2, J.out.2.2.2, J.out.2.2.2, if_pos (by omega), if_pos (by omega), if_pos (by omega), if_pos (by omega)]
          simp [upd]
          rfl
        · have := J.out.2.2.2 j
          simp only [upd, if_neg hj, this]
          by_cases hj2 : j < s
          · rw [if_pos hj2, if_pos (by omega)]
          · rw [if_neg hj2, if_neg (by omega)]
       case measure => first | (simp [intOf]; done) | (simp [intOf]; omega)
     · have hsR : s = 80 := by have := J.out.2.2.1; omega
       have hsI : ((s : Int) < 80) = False := eq_false (by omega)
       have HG : Hid (rk .u64 80 G = rk .u64 80 fun j => if j < 80 then vO aV bs j else 0) := Lib.hid (FY fun j _ => by rw [J.out.2.2.2 j, hsR])
       go_wp2_with (first | (refine gZ 147 (.tmp 5) rfl rfl (w.heap.size + 1 + 1) (rk .u64 80 G) 147 rfl (by kernel_rfl) (by rw [fK]; kernel_rfl) ob ?_) | (refine iG 147 (.tmp 4) (.tmp 77) rfl rfl (w.heap.size + 1) (rk .u64 80 G) (rk .u64 80 fun _ => 0) 147 rfl rfl (by rw [fK]; kernel_rfl) (by rw [fK, fK]) (BJ _ _ _) ob ?_))
       exact bodyPost_ret (v := .agg (rk .u64 80 G)) (fA rfl rfl (bC 147 (w.heap.size + 1) _ 147 (by kernel_rfl) (by rw [fK]; kernel_rfl) ob)) rfl ⟨by rw [HG.out], pl fC.out⟩
end
end Go.Proofs.YtehfkbaendajbaaGreatDoor
