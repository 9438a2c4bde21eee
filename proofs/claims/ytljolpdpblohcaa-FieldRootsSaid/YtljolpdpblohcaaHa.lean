/-
  Walks: a number's half, so many times.
-/
import Derived.Test.YtljolpdpblohcaaIn
namespace Go.Proofs.Ytljolpdpblohcaa
open Go.RowKit Go.Proofs.YtljolpdpblohcaaW.PrintLast
set_option linter.unusedSimpArgs false

set_option linter.unusedVariables false
/-- A slice of a call's own that is read. -/
theorem ds_owned {w : World} {base n : Nat} {e : TypeId} {v : Value} (ds : List Nat) (h : w.ownsRow base e 1 v n (ds.map fun (b : Nat) => Value.int .u64 (b : Int))) : ∃ A cap, v = .slice A ds.length cap ∧ ds.length ≤ cap ∧ Rd w .u64 A ds := by
  have hn : n = ds.length := by have := h.1; simp at this; omega
  by_cases h0 : 0 < ds.length
  · obtain ⟨g, cap, hv, hc, _, hr⟩ := rd_owned ds h h0
    exact ⟨_, cap, hv, hc, hr⟩
  · subst hn
    have hz : ds.length = 0 := by omega
    have hd : ds = [] := List.eq_nil_of_length_eq_zero hz
    rcases h.2 with ⟨rfl, _⟩ | ⟨g, cap, cur, rfl, _, _, hc, _⟩
    · exact ⟨none, 0, by rw [hz], by omega, by rw [hd]; exact Rd.nil _ _ _⟩
    · exact ⟨_, cap, rfl, hc, by rw [hd]; exact Rd.nil _ _ _⟩
theorem half_dg (X i : Nat) : dg X i / 2 + dg X (i + 1) % 2 * 32768 = dg (X / 2) i := by
  simp only [dg]
  have e1 : X / BB ^ (i + 1) = X / BB ^ i / BB := by rw [Nat.pow_succ (n := BB) (m := i), Nat.div_div_eq_div_mul]
  have e2 : X / 2 / BB ^ i = X / BB ^ i / 2 := by rw [Nat.div_div_eq_div_mul, Nat.div_div_eq_div_mul, Nat.mul_comm]
  rw [e1, e2]
  generalize X / BB ^ i = q
  simp only [BB]
  omega
/-- The half's digits, so many. -/
def halfL (X k : Nat) : List Nat := (List.range k).map (dg (X / 2))
theorem halfL_len (X k : Nat) : (halfL X k).length = k := by simp [halfL]
theorem halfL_next (X k v : Nat) (hv : v = dg (X / 2) k) : (halfL X k).map (fun (b : Nat) => Value.int .u64 (b : Int)) ++ [Value.int .u64 (v : Int)] = (halfL X (k + 1)).map (fun (b : Nat) => Value.int .u64 (b : Int)) := by
  rw [hv]
  simp [halfL, List.range_succ]
theorem halfL_val (X k : Nat) (h : (dig X).length ≤ k) : leD (halfL X k) = X / 2 := by
  unfold halfL
  rw [valF_row, valF_dg]
  exact Nat.mod_eq_of_lt (Nat.lt_of_le_of_lt (Nat.div_le_self _ _) ((dig_len_iff X k).mp h))
theorem halfL_lt (X k : Nat) : ∀ d ∈ halfL X k, d < BB := by
  intro d hd
  obtain ⟨i, _, rfl⟩ := List.mem_map.mp hd
  exact digit_lt _ _
theorem vk (k k1 : Nat) (h : k = k1 + 1) (hk : k ≤ 1000) : Value.int .i64 (wrap64 ((k : Int) - 1)) = Value.int .i64 (k1 : Int) := congrArg (Value.int .i64) (by rw [wr64 _ (by omega)]; omega)
theorem meas_k (k k1 : Nat) (h : k = k1 + 1) (hk : k ≤ 1000) : (intOf (.int .i64 (wrap64 ((k : Int) - 1)))).toNat < (intOf (.int .i64 (k : Int))).toNat := by
  rw [wr64 _ (by omega)]
  show ((k : Int) - 1).toNat < ((k : Int)).toNat
  omega
theorem meas_max (L i : Nat) (hi : i < L) (h : i < 9223372036854775807) : max ((L : Int) - intOf (.int .i64 (wrap64 ((i : Int) + 1)))) 0 < (L : Int) - intOf (.int .i64 (i : Int)) := by
  rw [wr64 _ (by omega)]
  show max ((L : Int) - ((i : Int) + 1)) 0 < (L : Int) - (i : Int)
  omega
theorem half_w (ai aj : Nat) (h1 : ai < 65536) (h2 : aj < 65536) : w64 (w64 ((ai : Int) / 2) + w64 ((aj : Int) % 2 * 32768)) = ((ai / 2 + aj % 2 * 32768 : Nat) : Int) := by
  unfold w64; simp only [IntKind.wrap_u64]; omega
theorem half_w0 (ai : Nat) (h1 : ai < 65536) : w64 ((ai : Int) / 2) = ((ai / 2 + 0 % 2 * 32768 : Nat) : Int) := by
  unfold w64; simp only [IntKind.wrap_u64]; omega
set_option maxRecDepth 100000 in
set_option maxHeartbeats 2000000 in
theorem half_any (A : Option Addr) (c X n : Nat) (hsz : (dig X).length ≤ 1000000) (hn : n ≤ 1000) (w : World) (hX : Dn w A c X) :
    Calls Try.prog 51 #[.slice A (dig X).length c, .int .i64 n] w fun e w' => (∃ A' c', e = .returned (.slice A' (dig (X / 2 ^ n)).length c') ∧ Dn w' A' c' (X / 2 ^ n)) ∧ Below w.heap.size w w' := by
  obtain ⟨i0, hi0⟩ : ∃ i, Try.prog.info? 23 = some i := Option.isSome_iff_exists.mp (by kernel_rfl)
  have hi3 : (Try.prog.info? 23).map (fun i => (i.zero, i.size, i.bytes)) = some (some (.int .u64 0), 1, 8) := by kernel_rfl
  rw [hi0] at hi3
  simp only [Option.map_some, Option.some.injEq, Prod.mk.injEq] at hi3
  have HI := Lib.hid (And.intro hi0 hi3)
  have HX := Lib.hid hX
  have HS := Lib.hid hsz
  have HN := Lib.hid hn
  clear hi0 hi3 hX hsz hn
  go_enter Try.func51, Try.ntmps51
  go_wp2_with fail
  go_loopw [0, 1] (fun av nv wr => ∃ (k Y : Nat) (A : Option Addr) (c : Nat), av = .slice A (dig Y).length c ∧ nv = .int .i64 (k : Int) ∧ Hid (Below w.heap.size w wr ∧ k ≤ n ∧ Y = X / 2 ^ (n - k) ∧ Dn wr A c Y)) (fun _ nv _ => (intOf nv).toNat)
  case atStart => exact ⟨n, X, A, c, rfl, rfl, (by (repeat (first | with_reducible exact (Below.refl _ _) | with_reducible refine below_pin ?_ ?_ | with_reducible refine Below.alloc ?_ ?_ _ | with_reducible refine Below.setCell ?_ ?_ _ | with_reducible refine Below.drew ?_)); all_goals (first | omega | (simp only [World.size_alloc, pin_size, World.size_drew, World.size_setCell] <;> omega))), Nat.le_refl _, by rw [Nat.sub_self, Nat.pow_zero, Nat.div_one], HX.out⟩
  case round =>
    obtain ⟨k, Y, A, c, rfl, rfl, H⟩ := hrel
    obtain ⟨wo, hwo⟩ : ∃ z, z = wr := ⟨_, rfl⟩
    subst hwo
    have HBW : Hid (Below w.heap.size w wo) := H.out.1
    by_cases hk0 : k = 0
    · subst hk0
      go_wp2
      go_ret
      have he : Y = X / 2 ^ n := H.out.2.2.1
      exact ⟨⟨A, c, by rw [← he]; rfl, by rw [← he]; exact H.out.2.2.2⟩, HBW.out⟩
    · have hkz : (0 : Int) < (k : Int) := by omega
      obtain ⟨k1, hk1⟩ : ∃ j, k = j + 1 := ⟨k - 1, by omega⟩
      have ek : wrap64 ((k : Int) - 1) = (k1 : Int) := by rw [wr64 _ (by have := H.out.2.1; have := HN.out; omega)]; omega
      have HK := Lib.hid hk1
      clear hk1 hk0
      obtain ⟨L, hL⟩ : ∃ L, L = (dig Y).length := ⟨_, rfl⟩
      have HLN := Lib.hid hL
      have HLS := Lib.hid (show L ≤ 1000000 by rw [hL, H.out.2.2.1]; exact Nat.le_trans (dig_mono (Nat.div_le_self _ _)) HS.out)
      rw [← hL]
      clear hL
      have HD : Hid (Dn wo A c Y) := H.out.2.2.2
      have hdk : decide (0 < k) = true := decide_eq_true (by omega)
      go_wp2
      try simp only [hdk]
      go_loopw [5, 6] (fun ov iv wv => ∃ (i q : Nat), iv = .int .i64 (i : Int) ∧ Hid (Below wo.heap.size wo wv ∧ i ≤ L ∧ wv.ownsRow wo.heap.size 23 1 ov q ((halfL Y i).map fun (b : Nat) => Value.int .u64 (b : Int)))) (fun _ iv _ => (L - intOf iv).toNat)
      case atStart => exact ⟨0, 0, rfl, Below.refl _ _, Nat.zero_le _, World.ownsRow_nil _ _ _ _⟩
      case round =>
        obtain ⟨i, q, rfl, G⟩ := hrel
        by_cases hi : i < L
        · obtain ⟨b, off, rfl, hbw, hcell⟩ := HD.out.cell (i := i) (by rw [← HLN.out]; exact hi)
          have hqi : q = i := by have := G.out.2.2.1; rw [List.length_map, halfL_len] at this; omega
          obtain ⟨ai, hai⟩ : ∃ a, a = dg Y i := ⟨_, rfl⟩
          have hci : wr.cell? ⟨b, off + i, none⟩ = some (.int .u64 (ai : Int)) := by rw [hai]; exact (G.out.1.cell (p := ⟨b, off + i, none⟩) hbw).trans (hcell i (by rw [← HLN.out]; exact hi))
          have HAI := Lib.hid (And.intro hai (show ai < 65536 by rw [hai]; exact digit_lt Y i))
          clear hai
          obtain ⟨i1, hi1⟩ : ∃ j, j = i + 1 := ⟨_, rfl⟩
          have ei : wrap64 ((i : Int) + 1) = (i1 : Int) := by rw [wr64 _ (by have := HLS.out; omega)]; omega
          have HI1 := Lib.hid hi1
          have HQI := Lib.hid (And.intro hqi hi)
          clear hi1 hqi
          by_cases hj : i1 < L
          · obtain ⟨aj, haj⟩ : ∃ a, a = dg Y i1 := ⟨_, rfl⟩
            have hcj : wr.cell? ⟨b, off + i1, none⟩ = some (.int .u64 (aj : Int)) := by rw [haj]; exact (G.out.1.cell (p := ⟨b, off + i1, none⟩) hbw).trans (hcell i1 (by rw [← HLN.out]; exact hj))
            have HAJ := Lib.hid (And.intro haj (show aj < 65536 by rw [haj]; exact digit_lt Y i1))
            clear haj hcell
            have hjz : (i1 : Int) < (L : Int) := by omega
            have hv := half_w ai aj HAI.out.2 HAJ.out.2
            obtain ⟨v, hvv⟩ : ∃ v, v = ai / 2 + aj % 2 * 32768 := ⟨_, rfl⟩
            rw [← hvv] at hv
            have HV := Lib.hid (show v = dg (Y / 2) i by rw [hvv, HAI.out.1, HAJ.out.1, HI1.out]; exact half_dg Y i)
            clear hvv
            go_wp2_with (at_builtin; refine wpList_append_own_at _ rfl (.tmp 37) (.tmp 39) 29 rfl wo.heap.size 23 i0 (.int .u64 0) 1 8 Try.underlying29 HI.out.1 HI.out.2.1 HI.out.2.2.1 HI.out.2.2.2 rfl (by decide) u5 q _ rfl (G.out.2.2.alloc _) ⟨wr.heap.size, 0, none⟩ 1 1 [.int .u64 (v : Int)] rfl rfl (cell_one_new _ _ _) (by intro u hu; simp at hu; subst hu; rfl) (by have := HQI.out; have := HLS.out; unfold maxLen; omega) (by have := HQI.out; have := HLS.out; omega) (by simp only [World.size_alloc]; exact Nat.le_succ_of_le G.out.1.size) ?_; intro v' w1 hown' hgrow hnil hloc; clear ei)
            rw [halfL_next Y i v HV.out] at hown'
            first
              | exact ⟨⟨i + 1, q + 1, vi1 _ (by have := HLS.out; have := HQI.out; omega), Below.grown (Below.alloc G.out.1 G.out.1.size _) hgrow (by simp only [World.size_alloc]; exact Nat.le_succ_of_le G.out.1.size) (fun z hz => (G.out.2.2.lt z hz).1), HQI.out.2, hown'⟩, meas_up L i HQI.out.2 (by have := HLS.out; have := HQI.out; omega)⟩
              | exact ⟨⟨i + 1, (wr64 _ (by have := HLS.out; have := HQI.out; omega)).trans (by omega), q + 1, Below.grown (Below.alloc G.out.1 G.out.1.size _) hgrow (by simp only [World.size_alloc]; exact Nat.le_succ_of_le G.out.1.size) (fun z hz => (G.out.2.2.lt z hz).1), HQI.out.2, hown'⟩, meas_max L i HQI.out.2 (by have := HLS.out; have := HQI.out; omega)⟩
          · have hjz : ¬ (i1 : Int) < (L : Int) := by omega
            have hv := half_w0 ai HAI.out.2
            obtain ⟨v, hvv⟩ : ∃ v, v = ai / 2 + 0 % 2 * 32768 := ⟨_, rfl⟩
            rw [← hvv] at hv
            have HV := Lib.hid (show v = dg (Y / 2) i by rw [hvv, HAI.out.1, ← half_dg Y i, show dg Y (i + 1) = 0 from dig_off Y (i + 1) (by have := HLN.out; have := HI1.out; omega)])
            clear hvv hcell
            go_wp2_with (at_builtin; refine wpList_append_own_at _ rfl (.tmp 37) (.tmp 39) 29 rfl wo.heap.size 23 i0 (.int .u64 0) 1 8 Try.underlying29 HI.out.1 HI.out.2.1 HI.out.2.2.1 HI.out.2.2.2 rfl (by decide) u5 q _ rfl (G.out.2.2.alloc _) ⟨wr.heap.size, 0, none⟩ 1 1 [.int .u64 (v : Int)] rfl rfl (cell_one_new _ _ _) (by intro u hu; simp at hu; subst hu; rfl) (by have := HQI.out; have := HLS.out; unfold maxLen; omega) (by have := HQI.out; have := HLS.out; omega) (by simp only [World.size_alloc]; exact Nat.le_succ_of_le G.out.1.size) ?_; intro v' w1 hown' hgrow hnil hloc; clear ei)
            rw [halfL_next Y i v HV.out] at hown'
            first
              | exact ⟨⟨i + 1, q + 1, vi1 _ (by have := HLS.out; have := HQI.out; omega), Below.grown (Below.alloc G.out.1 G.out.1.size _) hgrow (by simp only [World.size_alloc]; exact Nat.le_succ_of_le G.out.1.size) (fun z hz => (G.out.2.2.lt z hz).1), HQI.out.2, hown'⟩, meas_up L i HQI.out.2 (by have := HLS.out; have := HQI.out; omega)⟩
              | exact ⟨⟨i + 1, (wr64 _ (by have := HLS.out; have := HQI.out; omega)).trans (by omega), q + 1, Below.grown (Below.alloc G.out.1 G.out.1.size _) hgrow (by simp only [World.size_alloc]; exact Nat.le_succ_of_le G.out.1.size) (fun z hz => (G.out.2.2.lt z hz).1), HQI.out.2, hown'⟩, meas_max L i HQI.out.2 (by have := HLS.out; have := HQI.out; omega)⟩
        · have hiL : i = L := by have := G.out.2.1; omega
          have hown := G.out.2.2
          rw [hiL] at hown
          obtain ⟨A3, c3, hv, hc3, hr3⟩ := ds_owned (halfL Y L) hown
          subst hv
          have HR3 := Lib.hid (And.intro hc3 hr3)
          have HV3 := Lib.hid (halfL_val Y L (by have := HLN.out; omega))
          have HB1 : Hid (Below w.heap.size w wr) := Lib.hid (Below.trans HBW.out (G.out.1.mono HBW.out.size))
          have hz1 := HB1.out.size
          clear hown hc3 hr3
          go_wp2_with fail
          refine (trim_any A3 c3 (halfL Y L) (halfL_lt _ _) (by rw [halfL_len]; exact Nat.le_trans HLS.out (by decide)) HR3.out.1 _ HR3.out.2).mono ?_
          rintro e x2 ⟨⟨A4, c4, rfl, hd4⟩, hb2⟩
          have HB2 : Hid (Below w.heap.size w x2) := Below.trans (by (repeat (first | with_reducible exact HB1.out | with_reducible refine below_pin ?_ ?_ | with_reducible refine Below.alloc ?_ ?_ _ | with_reducible refine Below.setCell ?_ ?_ _ | with_reducible refine Below.drew ?_)); all_goals (first | omega | (simp only [World.size_alloc, pin_size, World.size_drew, World.size_setCell] <;> omega))) (hb2.mono (by (first | omega | (simp only [World.size_alloc, pin_size, World.size_drew, World.size_setCell] <;> omega))))
          have hz2 := HB2.out.size
          clear hb2
          rw [HV3.out] at hd4 ⊢
          have HD4 := Lib.hid hd4
          clear hd4
          go_wp2_with fail
          have hY : Y / 2 = X / 2 ^ (n - k1) := by
            rw [H.out.2.2.1, Nat.div_div_eq_div_mul, show n - k1 = (n - k) + 1 by have := HK.out; have := H.out.2.1; omega, Nat.pow_succ]
          exact ⟨⟨k1, Y / 2, A4, c4, rfl, vk k k1 HK.out (by have := H.out.2.1; have := HN.out; omega), HB2.out, by have := HK.out; have := H.out.2.1; omega, hY, HD4.out⟩, meas_k k k1 HK.out (by have := H.out.2.1; have := HN.out; omega)⟩


end Go.Proofs.Ytljolpdpblohcaa
