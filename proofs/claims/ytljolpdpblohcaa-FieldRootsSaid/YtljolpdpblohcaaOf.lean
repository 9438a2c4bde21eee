/-
  Walks: an element's number.
-/
import Derived.Test.YtljolpdpblohcaaMd
import Derived.Test.YtljolpdpblohcaaEnc
import Derived.Test.YtljolpdpblohcaaKn
namespace Go.Proofs.Ytljolpdpblohcaa
open Go.RowKit Go.Proofs.YtljolpdpblohcaaW.PrintLast
set_option linter.unusedSimpArgs false

set_option linter.unusedVariables false
/-- What is reckoned from the top limb down. -/
def topv (a : Fn) (k : Nat) : Nat := if k = 5 then 0 else if k = 4 then a.e else if k = 3 then a.e * 2251799813685248 + a.d else if k = 2 then (a.e * 2251799813685248 + a.d) * 2251799813685248 + a.c
  else if k = 1 then ((a.e * 2251799813685248 + a.d) * 2251799813685248 + a.c) * 2251799813685248 + a.b else a.val
theorem topv_step (a : Fn) (k : Nat) (h : k < 5) : topv a (k + 1) * 2251799813685248 + limbAt a k = topv a k := by
  have : k = 0 ∨ k = 1 ∨ k = 2 ∨ k = 3 ∨ k = 4 := by omega
  rcases this with rfl | rfl | rfl | rfl | rfl <;> simp [topv, limbAt, Fn.val] <;> omega
theorem limb_lt (a : Fn) (ha : a.lt 18446744073709551616) (k : Nat) : limbAt a k < 18446744073709551616 := by
  obtain ⟨h0, h1, h2, h3, h4⟩ := ha
  unfold limbAt
  split <;> assumption
theorem topv_lt (a : Fn) (ha : a.lt 18446744073709551616) (k : Nat) : topv a k < BB ^ 20 := by
  obtain ⟨h0, h1, h2, h3, h4⟩ := ha
  have e : BB ^ 20 = 2135987035920910082395021706169552114602704522356652769947041607822219725780640550022962086936576 := by decide
  rw [e]
  unfold topv Fn.val
  split
  · omega
  split
  · omega
  split
  · omega
  split
  · omega
  split
  · omega
  · omega
theorem dig51 : dig 2251799813685248 = [0, 0, 0, 8] := by
  have h := dig_of [0, 0, 0, 8] (by decide) (by decide)
  have e : leD [0, 0, 0, 8] = 2251799813685248 := by decide
  rw [e] at h
  exact h
theorem times51 (A : Option Addr) (c X g : Nat) (hsx : (dig X).length ≤ 1000000) (w : World) (hX : Dn w A c X) (hg : w.heap[g]? = some (.cells #[.int .u64 0, .int .u64 0, .int .u64 0, .int .u64 8] 23)) :
    Calls Try.prog 44 #[.slice A (dig X).length c, .slice (some ⟨g, 0, none⟩) 4 4] w fun e w' => (∃ A' c', e = .returned (.slice A' (dig (X * 2251799813685248)).length c') ∧ Dn w' A' c' (X * 2251799813685248)) ∧ Below w.heap.size w w' := by
  have hD : Dn w (some ⟨g, 0, none⟩) 4 2251799813685248 := by
    refine ⟨?_, by rw [dig51]; decide⟩
    rw [dig51]
    exact rd_block hg (by intro i hi; have hi' : i < 4 := hi
                          rcases i with _ | _ | _ | _ | i
                          all_goals first | rfl | omega)
  have h := times_any A (some ⟨g, 0, none⟩) c 4 X 2251799813685248 hsx (by rw [dig51]; decide) w hX hD
  rw [show (dig 2251799813685248).length = 4 by rw [dig51]; rfl] at h
  exact h
/-- A slice of a call's own, whose numbers are a number's digits. -/
theorem dn_owned {w : World} {base n l : Nat} {e : TypeId} {v : Value} (h : w.ownsRow base e 1 v n ((dig l).map fun (b : Nat) => Value.int .u64 (b : Int))) : ∃ A cap, v = .slice A (dig l).length cap ∧ Dn w A cap l := by
  have hn : n = (dig l).length := by have := h.1; simp at this; omega
  by_cases h0 : 0 < (dig l).length
  · obtain ⟨g, cap, hv, hc, _, hr⟩ := rd_owned (dig l) h h0
    exact ⟨_, cap, hv, hr, hc⟩
  · subst hn
    have hz : (dig l).length = 0 := by omega
    have hd : dig l = [] := List.eq_nil_of_length_eq_zero hz
    rcases h.2 with ⟨rfl, _⟩ | ⟨g, cap, cur, rfl, _, _, hc, _⟩
    · exact ⟨none, 0, by rw [hz], by rw [hd]; exact Rd.nil _ _ _, by omega⟩
    · exact ⟨_, cap, rfl, by rw [hd]; exact Rd.nil _ _ _, hc⟩
theorem take_next {l k : Nat} (h : k < (dig l).length) : ((dig l).take k).map (fun (b : Nat) => Value.int .u64 (b : Int)) ++ [Value.int .u64 ((l / BB ^ k % BB : Nat) : Int)] = ((dig l).take (k + 1)).map (fun (b : Nat) => Value.int .u64 (b : Int)) := by
  rw [List.take_succ_eq_append_getElem h, List.map_append, dig_getElem]
  rfl
theorem meas_down0 (k : Nat) : (intOf (.int .i64 ((k : Int) - 1)) + 1).toNat < (intOf (.int .i64 (k : Int)) + 1).toNat := by
  show ((k : Int) - 1 + 1).toNat < ((k : Int) + 1).toNat
  omega
theorem vql (l : Nat) (h : l < 18446744073709551616) : Value.int .u64 (w64 ((l : Int) / 65536)) = Value.int .u64 ((l / BB : Nat) : Int) := congrArg (Value.int .u64) (by unfold w64; simp only [IntKind.wrap_u64, BB]; omega)
theorem meas_q (l : Nat) (h : l < 18446744073709551616) (h0 : 0 < l) : (intOf (.int .u64 (w64 ((l : Int) / 65536)))).toNat < (intOf (.int .u64 (l : Int))).toNat := by
  have e : w64 ((l : Int) / 65536) = ((l / BB : Nat) : Int) := by unfold w64; simp only [IntKind.wrap_u64, BB]; omega
  rw [e]
  show ((l / BB : Nat) : Int).toNat < ((l : Nat) : Int).toNat
  simp only [BB]
  omega
theorem pins1e {w : World} {b0 : Nat} {o0 p0 : Obj} (h0 : w.heap[b0]? = some o0) (e0 : o0 = p0) : w = w.pin b0 p0 := by
  subst e0
  exact pins1 h0

set_option maxRecDepth 100000 in
set_option maxHeartbeats 2000000 in
theorem Of_any (a : Fn) (ha : a.lt 18446744073709551616) (w : World)  :
    Calls Try.prog 15 #[a.v] w fun e w' => (∃ A' c', e = .returned (.slice A' (dig (a.val % Num.p)).length c') ∧ Dn w' A' c' (a.val % Num.p)) ∧ Below w.heap.size w w' := by
  obtain ⟨i0, hi0⟩ : ∃ i, Try.prog.info? 23 = some i := Option.isSome_iff_exists.mp (by kernel_rfl)
  have hi3 : (Try.prog.info? 23).map (fun i => (i.zero, i.size, i.bytes)) = some (some (.int .u64 0), 1, 8) := by kernel_rfl
  rw [hi0] at hi3
  simp only [Option.map_some, Option.some.injEq, Prod.mk.injEq] at hi3
  have HI := Lib.hid (And.intro hi0 hi3)
  have HA := Lib.hid ha
  clear hi0 hi3 ha
  go_enter Try.func15, Try.ntmps15
  go_wp2_with fail
  go_loopw [3, 4] (fun ov iv wr => ∃ (k : Nat) (A : Option Addr) (c : Nat) (x1 : World), ov = .slice A (dig (topv a k)).length c ∧ iv = .int .i64 ((k : Int) - 1) ∧ wr = x1.pin w.heap.size (.cells (feA a) 25) ∧ w.heap.size < x1.heap.size ∧ Hid (Below w.heap.size w x1 ∧ k ≤ 5 ∧ Dn (x1.pin w.heap.size (.cells (feA a) 25)) A c (topv a k))) (fun _ iv _ => (intOf iv + 1).toNat)
  case atStart =>
    refine ⟨5, none, 0, _, ?_, by simp, pins1e (o0 := .cells #[.int .u64 a.a, .int .u64 a.b, .int .u64 a.c, .int .u64 a.d, .int .u64 a.e] 25) (by (repeat (first | with_reducible exact pin_at (by assumption) | (with_reducible apply pin_at; (first | omega | (simp only [World.size_alloc, pin_size, World.size_drew, World.size_setCell] <;> omega))) | (with_reducible apply alloc_at; first | rfl | (simp only [World.size_alloc, pin_size, World.size_drew, World.size_setCell] <;> omega)) | with_reducible apply past_pin | with_reducible apply past_alloc | with_reducible apply past_drew)); all_goals (first | omega | (simp only [World.size_alloc, pin_size, World.size_drew, World.size_setCell] <;> omega))) rfl, (by (first | omega | (simp only [World.size_alloc, pin_size, World.size_drew, World.size_setCell] <;> omega))), (by (repeat (first | with_reducible exact (Below.refl _ _) | with_reducible refine below_pin ?_ ?_ | with_reducible refine Below.alloc ?_ ?_ _ | with_reducible refine Below.setCell ?_ ?_ _ | with_reducible refine Below.drew ?_)); all_goals (first | omega | (simp only [World.size_alloc, pin_size, World.size_drew, World.size_setCell] <;> omega))), Nat.le_refl _, ?_, ?_⟩
    · rw [show topv a 5 = 0 from rfl, dig_zero]; rfl
    · rw [show topv a 5 = 0 from rfl, dig_zero]; exact Rd.nil _ _ _
    · rw [show topv a 5 = 0 from rfl, dig_zero]; exact Nat.le_refl _
  case round =>
    obtain ⟨k, A, c, x1, rfl, rfl, rfl, l10, H⟩ := hrel
    have HB1 : Hid (Below w.heap.size w x1) := H.out.1
    rcases k with _ | k
    · have HT := Lib.hid (topv_lt a HA.out 0)
      go_wp2_with fail
      refine (Mod_any A c (topv a 0) (Nat.le_trans (dig_len_le HT.out) (by decide)) _ H.out.2.2).mono ?_
      rintro e y2 ⟨⟨A2, c2, rfl, hd2⟩, hb2⟩
      obtain ⟨x2, rfl, hc2, hz2, l20⟩ := keep1 (b := w.heap.size) hb2 rfl (by (repeat (first | with_reducible exact pin_at (by assumption) | (with_reducible apply pin_at; (first | omega | (simp only [World.size_alloc, pin_size, World.size_drew, World.size_setCell] <;> omega))) | (with_reducible apply alloc_at; first | rfl | (simp only [World.size_alloc, pin_size, World.size_drew, World.size_setCell] <;> omega)) | with_reducible apply past_pin | with_reducible apply past_alloc | with_reducible apply past_drew)); all_goals (first | omega | (simp only [World.size_alloc, pin_size, World.size_drew, World.size_setCell] <;> omega)))
      have HB2 : Hid (Below w.heap.size w x2) := Below.trans (by (repeat (first | with_reducible exact HB1.out | with_reducible refine below_pin ?_ ?_ | with_reducible refine Below.alloc ?_ ?_ _ | with_reducible refine Below.setCell ?_ ?_ _ | with_reducible refine Below.drew ?_)); all_goals (first | omega | (simp only [World.size_alloc, pin_size, World.size_drew, World.size_setCell] <;> omega))) (hc2.mono (by (first | omega | (simp only [World.size_alloc, pin_size, World.size_drew, World.size_setCell] <;> omega))))
      clear hb2 hc2
      try simp only [World.size_alloc, pin_size, World.size_drew, World.size_setCell] at hz2
      have HD2 := Lib.hid hd2
      clear hd2
      go_wp2_with fail
      go_ret
      exact ⟨⟨A2, c2, rfl, HD2.out⟩, (by (repeat (first | with_reducible exact HB2.out | with_reducible refine below_pin ?_ ?_ | with_reducible refine Below.alloc ?_ ?_ _ | with_reducible refine Below.setCell ?_ ?_ _ | with_reducible refine Below.drew ?_)); all_goals (first | omega | (simp only [World.size_alloc, pin_size, World.size_drew, World.size_setCell] <;> omega)))⟩
    · rw [show (((k + 1 : Nat) : Int) - 1) = (k : Int) from by omega]
      have hk5 : (k : Int) < 5 := by have := H.out.2.1; omega
      obtain ⟨lim, hlim⟩ : ∃ l, l = limbAt a k := ⟨_, rfl⟩
      have hL : (feA a)[k]? = some (.int .u64 (lim : Int)) := by rw [feA_get _ _ (by omega), hlim]
      have HLM := Lib.hid (And.intro hlim (show lim < 18446744073709551616 by rw [hlim]; exact limb_lt a HA.out k))
      clear hlim
      have HT := Lib.hid (topv_lt a HA.out (k + 1))
      go_wp2_with fail
      refine (times51 A c (topv a (k + 1)) x1.heap.size (Nat.le_trans (dig_len_le HT.out) (by decide)) _ (H.out.2.2.mono (B := x1.heap.size) (Below.alloc (Below.refl _ _) (by simp only [pin_size]; omega) _) (by simp only [pin_size]; omega)) (by (repeat (first | with_reducible exact pin_at (by assumption) | (with_reducible apply pin_at; (first | omega | (simp only [World.size_alloc, pin_size, World.size_drew, World.size_setCell] <;> omega))) | (with_reducible apply alloc_at; first | rfl | (simp only [World.size_alloc, pin_size, World.size_drew, World.size_setCell] <;> omega)) | with_reducible apply past_pin | with_reducible apply past_alloc | with_reducible apply past_drew)); all_goals (first | omega | (simp only [World.size_alloc, pin_size, World.size_drew, World.size_setCell] <;> omega)))).mono ?_
      rintro e y2 ⟨⟨A2, c2, rfl, hd2⟩, hb2⟩
      obtain ⟨x2, rfl, hc2, hz2, l20⟩ := keep1 (b := w.heap.size) hb2 rfl (by (repeat (first | with_reducible exact pin_at (by assumption) | (with_reducible apply pin_at; (first | omega | (simp only [World.size_alloc, pin_size, World.size_drew, World.size_setCell] <;> omega))) | (with_reducible apply alloc_at; first | rfl | (simp only [World.size_alloc, pin_size, World.size_drew, World.size_setCell] <;> omega)) | with_reducible apply past_pin | with_reducible apply past_alloc | with_reducible apply past_drew)); all_goals (first | omega | (simp only [World.size_alloc, pin_size, World.size_drew, World.size_setCell] <;> omega)))
      have HB2 : Hid (Below w.heap.size w x2) := Below.trans (by (repeat (first | with_reducible exact HB1.out | with_reducible refine below_pin ?_ ?_ | with_reducible refine Below.alloc ?_ ?_ _ | with_reducible refine Below.setCell ?_ ?_ _ | with_reducible refine Below.drew ?_)); all_goals (first | omega | (simp only [World.size_alloc, pin_size, World.size_drew, World.size_setCell] <;> omega))) (hc2.mono (by (first | omega | (simp only [World.size_alloc, pin_size, World.size_drew, World.size_setCell] <;> omega))))
      clear hb2 hc2
      try simp only [World.size_alloc, pin_size, World.size_drew, World.size_setCell] at hz2
      have HD2 := Lib.hid hd2
      clear hd2
      go_wp2_with fail
      obtain ⟨wi, hwi⟩ : ∃ z, z = x2.pin w.heap.size (.cells (feA a) 25) := ⟨_, rfl⟩
      have hblk : wi.heap[w.heap.size]? = some (.cells (feA a) 25) := by rw [hwi]; exact pin_at l20
      have HDi := HD2
      rw [← hwi] at HDi ⊢
      have HBi : Hid (Below w.heap.size w wi) := Lib.hid (by rw [hwi]; exact (by (repeat (first | with_reducible exact HB2.out | with_reducible refine below_pin ?_ ?_ | with_reducible refine Below.alloc ?_ ?_ _ | with_reducible refine Below.setCell ?_ ?_ _ | with_reducible refine Below.drew ?_)); all_goals (first | omega | (simp only [World.size_alloc, pin_size, World.size_drew, World.size_setCell] <;> omega))))
      have hwz : w.heap.size < wi.heap.size := by rw [hwi]; (first | omega | (simp only [World.size_alloc, pin_size, World.size_drew, World.size_setCell] <;> omega))
      clear HD2 hwi HB2 l20 HB1 l10
      go_loopw [5, 6] (fun lv xv wr => ∃ (j n l : Nat), lv = .int .u64 (l : Int) ∧ Hid (l = lim / BB ^ j ∧ Below wi.heap.size wi wr ∧ j ≤ (dig lim).length ∧ wr.ownsRow wi.heap.size 23 1 xv n (((dig lim).take j).map fun (b : Nat) => Value.int .u64 (b : Int)))) (fun lv _ _ => (intOf lv).toNat)
      case atStart => exact ⟨0, 0, lim, rfl, by rw [Nat.pow_zero, Nat.div_one], Below.refl _ _, Nat.zero_le _, World.ownsRow_nil _ _ _ _⟩
      case round =>
        obtain ⟨j, n, l, rfl, G⟩ := hrel
        by_cases hj : j < (dig lim).length
        · have hn : n = j := by have := G.out.2.2.2.1; simp only [List.length_map, List.length_take] at this; omega
          have h4 : (dig lim).length ≤ 4 := dig_len_le (Nat.lt_of_lt_of_le HLM.out.2 (by decide))
          have hpos : (0 : Int) < (l : Int) := by have h1 := (dig_lt_len lim j).mp hj; have h2 := (Nat.one_le_div_iff (Nat.pow_pos (n := j) (show 0 < BB by decide))).mpr h1; rw [← G.out.1] at h2; omega
          have HN4 := Lib.hid (And.intro hn (And.intro h4 hj))
          clear hn h4 hj
          go_wp2_with (at_builtin; refine wpList_append_own_at _ rfl (.tmp 19) (.tmp 22) 29 rfl wi.heap.size 23 i0 (.int .u64 0) 1 8 Try.underlying29 HI.out.1 HI.out.2.1 HI.out.2.2.1 HI.out.2.2.2 rfl (by decide) u6 n _ rfl (G.out.2.2.2.alloc _) ⟨wr.heap.size, 0, none⟩ 1 1 [.int .u64 ((l : Int) % 65536)] rfl rfl (cell_one_new _ _ _) (by intro u hu; simp at hu; subst hu; rfl) (by have := HN4.out; unfold maxLen; omega) (by have := HN4.out; omega) (by simp only [World.size_alloc]; exact Nat.le_succ_of_le G.out.2.1.size) ?_; intro v' w1 hown' hgrow hnil hloc)
          have hl64 : l < 18446744073709551616 := by rw [G.out.1]; exact Nat.lt_of_le_of_lt (Nat.div_le_self _ _) HLM.out.2
          have e := take_next HN4.out.2.2
          rw [← G.out.1] at e
          rw [vr1, e] at hown'
          exact ⟨⟨j + 1, n + 1, l / BB, vql l hl64, by rw [G.out.1, Nat.div_div_eq_div_mul, Nat.pow_succ], Below.grown (Below.alloc G.out.2.1 G.out.2.1.size _) hgrow (by simp only [World.size_alloc]; exact Nat.le_succ_of_le G.out.2.1.size) (fun q hq => (G.out.2.2.2.lt q hq).1), HN4.out.2.2, hown'⟩, meas_q l hl64 (by omega)⟩
        · have hjl : j = (dig lim).length := by have := G.out.2.2.1; omega
          have hl0 : l = 0 := by rw [G.out.1, hjl]; exact Nat.div_eq_of_lt (lt_dig lim)
          subst hl0
          have hown := G.out.2.2.2
          rw [hjl, List.take_length] at hown
          obtain ⟨A3, c3, hv, hd3⟩ := dn_owned hown
          subst hv
          have hd2 := HDi.out.mono G.out.2.1 (Nat.le_refl _)
          obtain ⟨x3, rfl, hc3, hz3, l30⟩ := keep1 (b := w.heap.size) G.out.2.1 rfl hblk
          have HB3 : Hid (Below w.heap.size w x3) := Lib.hid (Below.trans HBi.out (hc3.mono HBi.out.size))
          have HD2 := Lib.hid hd2
          have HD3 := Lib.hid hd3
          have HTS := Lib.hid (topv_step a k (by have := hk5; omega))
          have HTK := Lib.hid (topv_lt a HA.out k)
          clear G hown hd2 hd3 hc3 hz3 hjl hj
          go_wp2_with fail
          refine (sum_any A2 A3 c2 c3 (topv a (k + 1) * 2251799813685248) lim (Nat.le_trans (dig_len_le (k := 20) (by have := HTS.out; have := HTK.out; omega)) (by decide)) (Nat.le_trans (dig_len_le (Nat.lt_of_lt_of_le HLM.out.2 (by decide : 18446744073709551616 ≤ BB ^ 4))) (by decide)) _ HD2.out HD3.out).mono ?_
          rintro e y4 ⟨⟨A4, c4, rfl, hd4⟩, hb4⟩
          obtain ⟨x4, rfl, hc4, hz4, l40⟩ := keep1 (b := w.heap.size) hb4 rfl (by (repeat (first | with_reducible exact pin_at (by assumption) | (with_reducible apply pin_at; (first | omega | (simp only [World.size_alloc, pin_size, World.size_drew, World.size_setCell] <;> omega))) | (with_reducible apply alloc_at; first | rfl | (simp only [World.size_alloc, pin_size, World.size_drew, World.size_setCell] <;> omega)) | with_reducible apply past_pin | with_reducible apply past_alloc | with_reducible apply past_drew)); all_goals (first | omega | (simp only [World.size_alloc, pin_size, World.size_drew, World.size_setCell] <;> omega)))
          have HB4 : Hid (Below w.heap.size w x4) := Below.trans (by (repeat (first | with_reducible exact HB3.out | with_reducible refine below_pin ?_ ?_ | with_reducible refine Below.alloc ?_ ?_ _ | with_reducible refine Below.setCell ?_ ?_ _ | with_reducible refine Below.drew ?_)); all_goals (first | omega | (simp only [World.size_alloc, pin_size, World.size_drew, World.size_setCell] <;> omega))) (hc4.mono (by (first | omega | (simp only [World.size_alloc, pin_size, World.size_drew, World.size_setCell] <;> omega))))
          clear hb4 hc4
          try simp only [World.size_alloc, pin_size, World.size_drew, World.size_setCell] at hz4
          have HD4 := Lib.hid hd4
          clear hd4
          go_wp2_with fail
          have et : topv a (k + 1) * 2251799813685248 + lim = topv a k := by rw [HLM.out.1]; exact HTS.out
          rw [et]
          exact ⟨⟨k, A4, c4, x4, rfl, rfl, rfl, l40, HB4.out, by omega, by rw [← et]; exact HD4.out⟩, meas_down0 k⟩


end Go.Proofs.Ytljolpdpblohcaa
