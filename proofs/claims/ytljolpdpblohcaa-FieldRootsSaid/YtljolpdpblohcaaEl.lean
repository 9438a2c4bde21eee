/-
  Walks: a number's small element; bytes; comparisons.
-/
import Derived.Test.YtljolpdpblohcaaOf
import Derived.Test.YtljolpdpblohcaaDec
import Derived.Test.YtljolpdpblohcaaEn
namespace Go.Proofs.Ytljolpdpblohcaa
open Go.RowKit Go.Proofs.YtljolpdpblohcaaW.PrintLast
set_option linter.unusedSimpArgs false

set_option linter.unusedVariables false
theorem below_pin_same {B b : Nat} {a w : World} {o : Obj} (h : Below B a w) (hb : a.heap[b]? = some o) (hlt : b < w.heap.size) : Below B a (w.pin b o) :=
  h.trans ⟨rfl, rfl, rfl, by simp [World.pin], fun k hk => by
    by_cases e : k = b
    · subst e; rw [pin_at hlt, h.block k hk, hb]
    · rw [pin_past e]⟩

theorem byt_bit (n i bv : Nat) (hb : bv = byt n (i / 8)) : n / 2 ^ i % 2 = bv / 2 ^ (i % 8) % 2 := by
  rw [hb, byt, show (256 : Nat) = 2 ^ 8 from rfl, bit_mod _ _ _ (Nat.mod_lt _ (by decide)), Nat.div_div_eq_div_mul, ← Nat.pow_mul, ← Nat.pow_add, Nat.div_add_mod]
theorem elem_step (n i bv : Nat) (h : i < 255) (hbit : n / 2 ^ i % 2 = bv / 2 ^ (i % 8) % 2) :
    (feA (cut51 (n % 2 ^ i))).setIfInBounds (i / 51) (.int .u64 (w64 ((limbAt (cut51 (n % 2 ^ i)) (i / 51) : Int) + w64 (((bv : Int) / 2 ^ (i % 8)).tmod 2 * 2 ^ (i % 51))))) = feA (cut51 (n % 2 ^ (i + 1))) := by
  have e1 : ((bv : Int) / 2 ^ (i % 8)) = ((bv / 2 ^ (i % 8) : Nat) : Int) := by rw [Int.natCast_ediv, Int.natCast_pow]; rfl
  have e2 : (((bv / 2 ^ (i % 8) : Nat) : Int)).tmod 2 = ((n / 2 ^ i % 2 : Nat) : Int) := by
    rw [hbit]
    generalize bv / 2 ^ (i % 8) = z
    rw [Int.tmod_eq_emod_of_nonneg (by omega)]; omega
  have hb2 : n / 2 ^ i % 2 < 2 := Nat.mod_lt _ (by decide)
  have hr : i % 51 < 51 := Nat.mod_lt _ (by decide)
  have hq : 2 ^ (i % 51) ≤ 2 ^ 50 := Nat.pow_le_pow_right (by decide) (by omega)
  have hm : n / 2 ^ i % 2 * 2 ^ (i % 51) ≤ 2 ^ 50 := by
    have : n / 2 ^ i % 2 = 0 ∨ n / 2 ^ i % 2 = 1 := by omega
    rcases this with e | e <;> rw [e] <;> omega
  have e3 : w64 (((n / 2 ^ i % 2 : Nat) : Int) * 2 ^ (i % 51)) = ((n / 2 ^ i % 2 * 2 ^ (i % 51) : Nat) : Int) := by
    have e4 : ((2 : Int) ^ (i % 51)) = ((2 ^ (i % 51) : Nat) : Int) := by rw [Int.natCast_pow]; rfl
    rw [e4, ← Int.natCast_mul, w64_of _ (by omega)]
  have hx : limbAt (cut51 (n % 2 ^ i)) (i / 51) < 2 ^ (i % 51) := by
    rw [limb_pow _ _ (by omega)]
    exact Nat.lt_of_le_of_lt (Nat.mod_le _ _) (d_lt 51 n i)
  have hnew : limbAt (cut51 (n % 2 ^ i)) (i / 51) + n / 2 ^ i % 2 * 2 ^ (i % 51) = limbAt (cut51 (n % 2 ^ (i + 1))) (i / 51) := by
    rw [limb_pow _ _ (by omega), limb_pow _ _ (by omega), d_same 51 n i (by decide)]
  rw [e1, e2, e3, ← Int.natCast_add, w64_of _ (by omega), hnew]
  apply Array.ext_getElem?
  intro k
  by_cases hk : k < 5
  · rw [feA_get _ k hk]
    by_cases hk2 : i / 51 = k
    · subst hk2
      rw [Array.getElem?_setIfInBounds_self_of_lt (by simp [feA]; omega)]
    · rw [Array.getElem?_setIfInBounds_ne hk2, feA_get _ k hk]
      rw [limb_pow _ _ hk, limb_pow _ _ hk, d_other 51 n i k (by decide) (Ne.symm hk2)]
  · rw [Array.getElem?_eq_none (by simp [feA]; omega), Array.getElem?_eq_none (by simp [feA]; omega)]

set_option maxRecDepth 100000 in
set_option maxHeartbeats 2000000 in
theorem Elem_any (A : Option Addr) (c n : Nat) (hn : n < BB ^ 16) (w : World) (hX : Dn w A c n) :
    Calls Try.prog 28 #[.slice A (dig n).length c] w fun e w' => e = .returned (cut51 (n % 2 ^ 255)).v ∧ Below w.heap.size w w' := by
  have HX := Lib.hid hX
  have HN := Lib.hid hn
  clear hX hn
  go_enter Try.func28, Try.ntmps28
  go_wp2_with fail
  refine (Bytes_any A c n HN.out _ (HX.out.next (Below.alloc (Below.refl _ _) (Nat.le_refl _) _))).mono ?_
  rintro e y1 ⟨⟨b, rfl, hrd⟩, hb1⟩
  obtain ⟨x1, rfl, hc1, hz1, l10⟩ := keep1 (b := w.heap.size) hb1 rfl (by (repeat (first | with_reducible exact pin_at (by assumption) | (with_reducible apply pin_at; (first | omega | (simp only [World.size_alloc, pin_size, World.size_drew, World.size_setCell] <;> omega))) | (with_reducible apply alloc_at; first | rfl | (simp only [World.size_alloc, pin_size, World.size_drew, World.size_setCell] <;> omega)) | with_reducible apply past_pin | with_reducible apply past_alloc | with_reducible apply past_drew)); all_goals (first | omega | (simp only [World.size_alloc, pin_size, World.size_drew, World.size_setCell] <;> omega)))
  have HB1 : Hid (Below w.heap.size w x1) := Below.trans (by (repeat (first | with_reducible exact (Below.refl _ _) | with_reducible refine below_pin ?_ ?_ | with_reducible refine Below.alloc ?_ ?_ _ | with_reducible refine Below.setCell ?_ ?_ _ | with_reducible refine Below.drew ?_)); all_goals (first | omega | (simp only [World.size_alloc, pin_size, World.size_drew, World.size_setCell] <;> omega))) (hc1.mono (by (first | omega | (simp only [World.size_alloc, pin_size, World.size_drew, World.size_setCell] <;> omega))))
  clear hb1 hc1
  try simp only [World.size_alloc, pin_size, World.size_drew, World.size_setCell] at hz1
  have HRD := Lib.hid hrd
  clear hrd
  obtain ⟨hbw, hcell⟩ : b < (x1.pin w.heap.size (.cells #[.int .u64 0, .int .u64 0, .int .u64 0, .int .u64 0, .int .u64 0] 25)).heap.size ∧ ∀ i, (hi : i < (bytesN 32 n).length) → (x1.pin w.heap.size (.cells #[.int .u64 0, .int .u64 0, .int .u64 0, .int .u64 0, .int .u64 0] 25)).cell? ⟨b, 0 + i, none⟩ = some (.int .u8 (((bytesN 32 n)[i]'hi : Nat) : Int)) := by
    obtain ⟨b', off, he, hb, hc⟩ := HRD.out.place (by rw [bytesN_len]; decide)
    simp only [Option.some.injEq, Addr.mk.injEq] at he
    obtain ⟨rfl, rfl, _⟩ := he
    exact ⟨hb, hc⟩
  have HC := Lib.hid hcell
  clear hcell
  go_wp2_with fail
  obtain ⟨wi, hwi⟩ : ∃ z, z = x1.pin w.heap.size (.cells #[.int .u64 0, .int .u64 0, .int .u64 0, .int .u64 0, .int .u64 0] 25) := ⟨_, rfl⟩
  have HBi : Hid (Below w.heap.size w wi) := Lib.hid (by rw [hwi]; exact (by (repeat (first | with_reducible exact HB1.out | with_reducible refine below_pin ?_ ?_ | with_reducible refine Below.alloc ?_ ?_ _ | with_reducible refine Below.setCell ?_ ?_ _ | with_reducible refine Below.drew ?_)); all_goals (first | omega | (simp only [World.size_alloc, pin_size, World.size_drew, World.size_setCell] <;> omega))))
  have hwz : w.heap.size < wi.heap.size := by rw [hwi]; (first | omega | (simp only [World.size_alloc, pin_size, World.size_drew, World.size_setCell] <;> omega))
  have hblk : wi.heap[w.heap.size]? = some (.cells #[.int .u64 0, .int .u64 0, .int .u64 0, .int .u64 0, .int .u64 0] 25) := by rw [hwi]; exact pin_at l10
  have hsz : x1.heap.size = wi.heap.size := by rw [hwi, pin_size]
  rw [← hwi] at HC hbw HRD ⊢
  try rw [hsz]
  clear hwi HB1 hsz
  go_loopw [5] (fun iv wr => ∃ (i : Nat) (x : World), iv = .int .i64 (i : Int) ∧ wr = (x.pin w.heap.size (.cells #[.int .u64 0, .int .u64 0, .int .u64 0, .int .u64 0, .int .u64 0] 25)).pin wi.heap.size (.cells (feA (cut51 (n % 2 ^ i))) 25) ∧ w.heap.size < x.heap.size ∧ wi.heap.size < x.heap.size ∧ Hid (Below wi.heap.size wi x ∧ i ≤ 255)) (fun iv _ => (255 - intOf iv).toNat)
  case atStart => exact ⟨0, _, rfl, pins2e (past_alloc hblk hwz) (alloc_at rfl) rfl (by rw [Nat.pow_zero, Nat.mod_one]; rfl), (by (first | omega | (simp only [World.size_alloc, pin_size, World.size_drew, World.size_setCell] <;> omega))), (by (first | omega | (simp only [World.size_alloc, pin_size, World.size_drew, World.size_setCell] <;> omega))), Below.alloc (Below.refl _ _) (Nat.le_refl _) _, by omega⟩
  case round =>
    obtain ⟨i, x, rfl, rfl, q0, q1, H⟩ := hrel
    by_cases hlt : i < 255
    · obtain ⟨j, hj⟩ : ∃ j, j = i / 8 := ⟨_, rfl⟩
      obtain ⟨m, hm⟩ : ∃ m, m = i / 51 := ⟨_, rfl⟩
      obtain ⟨r, hr⟩ : ∃ r, r = i % 51 := ⟨_, rfl⟩
      obtain ⟨q, hq⟩ : ∃ q, q = i % 8 := ⟨_, rfl⟩
      have hj32 : j < (bytesN 32 n).length := by rw [bytesN_len]; omega
      obtain ⟨bv, hbv⟩ : ∃ b, b = (bytesN 32 n)[j] := ⟨_, rfl⟩
      obtain ⟨lim, hlim⟩ : ∃ l, l = limbAt (cut51 (n % 2 ^ i)) m := ⟨_, rfl⟩
      have hA : ((x.pin w.heap.size (.cells #[.int .u64 0, .int .u64 0, .int .u64 0, .int .u64 0, .int .u64 0] 25)).pin wi.heap.size (.cells (feA (cut51 (n % 2 ^ i))) 25)).cell? ⟨b, j, none⟩ = some (.int .u8 bv) := by
        have h1 := HC.out j hj32
        rw [Nat.zero_add] at h1
        rw [hbv]
        exact ((below_pin (below_pin_same H.out.1 hblk q0) (Nat.le_refl _)).cell (p := ⟨b, j, none⟩) hbw).trans h1
      have hL : (feA (cut51 (n % 2 ^ i)))[m]? = some (.int .u64 lim) := by rw [feA_get _ _ (by omega), hlim]
      have b1 : (j : Int) < 32 := by omega
      have b3 : (m : Int) < 5 := by omega
      have b4 : r < 64 := by omega
      have b5 : q < 8 := by omega
      have e1 : IntKind.i64.wrap ((i : Int) / 8) = (j : Int) := (IntWalk.i64_in _ (by omega)).trans (by omega)
      have e2 : IntKind.i64.wrap ((i : Int) / 51) = (m : Int) := (IntWalk.i64_in _ (by omega)).trans (by omega)
      have e3 : (i : Int).tmod 51 = (r : Int) := by rw [Int.tmod_eq_emod_of_nonneg (by omega)]; omega
      have e4 : (i : Int).tmod 8 = (q : Int) := by rw [Int.tmod_eq_emod_of_nonneg (by omega)]; omega
      have hb256 : bv < 256 := by rw [hbv]; exact bytesN_lt _ _ _ (List.getElem_mem _)
      have s1 : w64 (q : Int) = (q : Int) := w64_of q (by omega)
      have s2 : w64 (r : Int) = (r : Int) := w64_of r (by omega)
      have s3 : w64 (bv : Int) = (bv : Int) := w64_of bv (by omega)
      have HB256 := Lib.hid hb256
      clear hb256
      have HV := Lib.hid (And.intro hj (And.intro hm (And.intro hr (And.intro hq (And.intro hbv hlim)))))
      clear hj hm hr hq hbv hlim
      go_wp2
      have hst : (feA (cut51 (n % 2 ^ i))).setIfInBounds m (.int .u64 (w64 ((lim : Int) + w64 (((bv : Int) / 2 ^ q).tmod 2 * 2 ^ r)))) = feA (cut51 (n % 2 ^ (i + 1))) := by
        obtain ⟨h1, h2, h3, h4, h5, h6⟩ := HV.out
        have hbit := byt_bit n i bv (by rw [h5]; simp only [bytesN, List.getElem_map, List.getElem_range, h1])
        have h0 := elem_step n i bv hlt hbit
        rw [h6, h2, h3, h4]
        exact h0
      exact ⟨⟨i + 1, x, vi0 i, by rw [hst], q0, q1, H.out.1, by omega⟩, meas_up0 255 i hlt⟩
    · have hi : i = 255 := by have := H.out.2; omega
      subst hi
      obtain ⟨s, hs⟩ : ∃ s, s = cut51 (n % 2 ^ 255) := ⟨_, rfl⟩
      rw [← hs, show feA s = #[.int .u64 s.a, .int .u64 s.b, .int .u64 s.c, .int .u64 s.d, .int .u64 s.e] from rfl]
      have HSs := Lib.hid hs
      clear hs
      go_wp2
      refine bodyPost_ret (v := s.v) ?_ rfl ⟨by rw [HSs.out], ?_⟩
      · simp [results, Try.results28, go_sem, q0, q1, hwz]
      · exact (by (repeat (first | with_reducible exact (Below.trans HBi.out (H.out.1.mono HBi.out.size)) | with_reducible refine below_pin ?_ ?_ | with_reducible refine Below.alloc ?_ ?_ _ | with_reducible refine Below.setCell ?_ ?_ _ | with_reducible refine Below.drew ?_)); all_goals (first | omega | (simp only [World.size_alloc, pin_size, World.size_drew, World.size_setCell] <;> omega)))


end Go.Proofs.Ytljolpdpblohcaa
