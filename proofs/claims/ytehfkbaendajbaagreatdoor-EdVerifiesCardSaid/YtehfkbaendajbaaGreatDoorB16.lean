/-
  Shared, part 16: walks and plain laws; each theorem states its own conditions.
-/
import Derived.Test.YtehfkbaendajbaaGreatDoorProg
import Derived.Test.YtehfkbaendajbaaGreatDoorB9
import Derived.Deep.OwnRows
import Derived.IntWalk
import Derived.Lib.Hide
import Derived.StillTailTactics
namespace Go.Proofs.YtehfkbaendajbaaGreatDoor
set_option linter.unusedSimpArgs false
set_option linter.unusedVariables false
set_option maxRecDepth 100000
set_option maxHeartbeats 8000000
section
open Go.RowKit Go.Proofs.YtehfkbaendajbaaGreatDoorW.PrintLast
theorem ant (A : Option Addr) (c : Nat) (ds : List Nat) (hd : ∀ d ∈ ds, d < BB) (hl : ds.length ≤ 4000000) (hcap : ds.length ≤ c) (w : World) (hA : Rd w .u64 A ds) :
 Calls Tryz.prog 96 #[.slice A ds.length c] w fun e w' => (∃ A' c', e = .returned (.slice A' (aB (oC ds)).length c') ∧ Dn w' A' c' (oC ds)) ∧ Below w.heap.size w w' := by
 have HA := Lib.hid hA
 have HD := Lib.hid hd
 have HL := Lib.hid hl
 clear hA hd hl
 go_enter Tryz.func96, Tryz.ntmps96
 go_wp2_with fail
 go_loop [0] (fun v => ∃ (A' : Option Addr) (c' k : Nat), v = .slice A' k c' ∧ k ≤ c' ∧ Hid (k ≤ ds.length ∧ oC (ds.take k) = oC ds ∧ Rd w .u64 A' (ds.take k))) (fun v => match v with | .slice _ n _ => n | _ => 0)
 case atStart => exact ⟨A, c, ds.length, rfl, hcap, Lib.hid ⟨Nat.le_refl _, by rw [List.take_length], by rw [List.take_length]; exact HA.out⟩⟩
 case round =>
  obtain ⟨A', c', k, rfl, hkc, H⟩ := hrel
  rcases k with _ | n
  · go_wp2
    go_ret
    exact ⟨⟨A', c', by rw [yX H.out.2.1]; rfl, by rw [yX H.out.2.1]; exact Rd.nil _ _ _, by rw [yX H.out.2.1]; exact Nat.zero_le _⟩, Below.refl _ _⟩
  · have hn : n < (ds.take (n + 1)).length := by have := H.out.1; rw [List.length_take]; omega
    obtain ⟨b, off, rfl, hbw, hcell⟩ := H.out.2.2.place (by omega)
    have hc := hcell n hn
    obtain ⟨d, hdd⟩ : ∃ d, d = (ds.take (n + 1))[n] := ⟨_, rfl⟩
    rw [← hdd] at hc
    have Zp := Lib.hid hdd
    clear hdd hcell
    have e1 : wrap64 (n : Int) = (n : Int) := kX _ (by have := HL.out; have := H.out.1; omega)
    go_wp2
    · rename_i hz
      have hz' : d = 0 := by simpa using hz
      refine ⟨?_, ?_⟩
      · exact ⟨some ⟨b, off, none⟩, c', n, rfl, by omega, Lib.hid ⟨by have := H.out.1; omega, by rw [Qq hn (by rw [← Zp.out]; exact hz')]; exact H.out.2.1, by have := YQ H.out.2.2 n; rw [List.take_take] at this; rwa [show min n (n + 1) = n by omega] at this⟩⟩
      · exact Nat.lt_succ_self n
    · have hz : ((d : Int) == 0) = false := by assumption
      have hz' : d ≠ 0 := by simpa using hz
      go_ret
      have ht := VZ HD.out hn H.out.2.1 (by rw [← Zp.out]; exact hz')
      exact ⟨⟨some ⟨b, off, none⟩, c', by rw [ht.2]; rfl, by rw [ht.1]; exact H.out.2.2, by rw [ht.2]; exact hkc⟩, Below.refl _ _⟩
end
section
open Go.RowKit Go.Proofs.YtehfkbaendajbaaGreatDoorW.PrintLast
theorem UM (n : Nat) : madeCells #[.int .u64 0] n = row n (fun _ => 0) := by
 apply Array.ext_getElem?
 intro i
 by_cases h : i < n
 · rw [gV _ h]; simp [madeCells, h, Nat.mod_one]
 · simp [madeCells, row, h]
theorem mW (n : Nat) (h : n ≤ 4000000) (w : World) : (Instr.makeSlice 45 (.int .i64 (n : Int)) (.int .i64 (n : Int))).run Tryz.prog w = .ok (.slice (some ⟨w.heap.size, 0, none⟩) n n) (w.alloc (.cells (row n fun _ => 0) 34)) := by
 have h1 := run_make_row' (P := Tryz.prog) 45 34 (.int .u64 0) 8 (by kernel_rfl) (by kernel_rfl) rfl .i64 .i64 n (by omega) (by omega) w
 rw [h1, UM]
theorem ni (b n : Nat) (F : Nat → Nat) (w : World) (hw : w.heap[b]? = some (.cells (row n F) 34)) (hf : ∀ j, F j < BB) (hn : n ≤ 4000000) :
 Calls Tryz.prog 96 #[.slice (some ⟨b, 0, none⟩) n n] w fun e w' => (∃ A' c', e = .returned (.slice A' (aB (fV n F)).length c') ∧ Dn w' A' c' (fV n F)) ∧ Below w.heap.size w w' := by
 have hl : ((List.range n).map F).length = n := by simp
 have h := ant (some ⟨b, 0, none⟩) n ((List.range n).map F) (by intro d hd; obtain ⟨i, _, rfl⟩ := List.mem_map.mp hd; exact hf i) (by rw [hl]; exact hn) (by rw [hl]; exact Nat.le_refl _) w (VK hw)
 rw [hl, xY] at h
 exact h
theorem VY (A B : Option Addr) (c d X Y : Nat) (hsz : (aB X).length ≤ 1000000) (hle : (aB Y).length ≤ (aB X).length) (w : World) (hX : Dn w A c X) (hY : Dn w B d Y) :
 Calls Tryz.prog 98 #[.slice A (aB X).length c, .slice B (aB Y).length d] w fun e w' => (∃ A' c', e = .returned (.slice A' (aB (X + Y)).length c') ∧ Dn w' A' c' (X + Y)) ∧ Below w.heap.size w w' := by
 have HX := Lib.hid hX
 have HY := Lib.hid hY
 have HLY := Lib.hid hle
 obtain ⟨L, hL⟩ : ∃ L, L = (aB X).length := ⟨_, rfl⟩
 obtain ⟨M, hM⟩ : ∃ M, M = (aB Y).length := ⟨_, rfl⟩
 have hmk : ∀ w, (Instr.makeSlice 45 (.int .i64 ((L : Int) + 1)) (.int .i64 ((L : Int) + 1))).run Tryz.prog w = .ok (.slice (some ⟨w.heap.size, 0, none⟩) (L + 1) (L + 1)) (w.alloc (.cells (row (L + 1) fun _ => 0) 34)) := fun w => mW (L + 1) (by omega) w
 rw [← hL, ← hM]
 have hML : ¬ (L : Int) < (M : Int) := by omega
 have e0 : wrap64 ((L : Int) + 1) = (L : Int) + 1 := kX _ (by omega)
 have HL := Lib.hid hL
 have HM := Lib.hid hM
 have HS := Lib.hid hsz
 clear hX hY hle hL hM hsz
 go_enter Tryz.func98, Tryz.ntmps98
 go_wp2_with fail
 go_loopw [6, 7] (fun cv iv wr => ∃ (i cr : Nat) (fc : Nat → Nat) (x : World), cv = .int .u64 (cr : Int) ∧ iv = .int .i64 (i : Int) ∧ wr = x.pin w.heap.size (.cells (row (L + 1) fc) 34) ∧ w.heap.size < x.heap.size ∧ Hid (Below w.heap.size w x ∧ i ≤ L ∧ Og X Y (L + 1) i fc cr)) (fun _ iv _ => (L - intOf iv).toNat)
 case atStart => exact ⟨0, 0, fun _ => 0, _, rfl, rfl, xI ob, sz, (pl (Below.refl _ _)), Nat.zero_le _, Qp X Y _⟩
 case round =>
  obtain ⟨i, cr, fc, x, rfl, rfl, rfl, q0, H⟩ := hrel
  by_cases hi : i < L
  · obtain ⟨b, off, rfl, hbw, hcell⟩ := HX.out.cell (i := i) (by rw [← HL.out]; exact hi)
    obtain ⟨a, ha⟩ : ∃ a, a = dg X i := ⟨_, rfl⟩
    have hc : x.cell? ⟨b, off + i, none⟩ = some (.int .u64 (a : Int)) := by rw [ha]; exact (H.out.1.cell (p := ⟨b, off + i, none⟩) hbw).trans (hcell i (by rw [← HL.out]; exact hi))
    have HA := Lib.hid ha
    clear hcell ha
    by_cases hj : i < M
    · obtain ⟨b2, off2, rfl, hbw2, hcell2⟩ := HY.out.cell (i := i) (by rw [← HM.out]; exact hj)
      obtain ⟨a2, ha2⟩ : ∃ a, a = dg Y i := ⟨_, rfl⟩
      have hc2 : x.cell? ⟨b2, off2 + i, none⟩ = some (.int .u64 (a2 : Int)) := by rw [ha2]; exact (H.out.1.cell (p := ⟨b2, off2 + i, none⟩) hbw2).trans (hcell2 i (by rw [← HM.out]; exact hj))
      have HA2 := Lib.hid ha2
      clear hcell2 ha2
      have hb1 : a + cr + a2 < 131074 := by rw [HA.out, HA2.out]; exact Z8 H.out.2.2
      have v1 : IntKind.u64.wrap ((a : Int) + (cr : Int)) = ((a + cr : Nat) : Int) := F7 _ _ (by omega)
      have v2 : IntKind.u64.wrap (((a + cr : Nat) : Int) + (a2 : Int)) = ((a + cr + a2 : Nat) : Int) := F7 _ _ (by omega)
      have V3 := Lib.hid (aeY i (by have := HS.out; have := HL.out; omega))
      have hg := gV fc (show i < L + 1 by omega)
      go_wp2
      refine ⟨⟨i + 1, _, _, x, vq3 _ _ _, Jl _ (by have := HS.out; have := HL.out; omega), by rw [vr3, iy], q0, H.out.1, by omega, by rw [HA.out, HA2.out]; exact Jf H.out.2.2 (by omega)⟩, jd L i hi (by have := HS.out; have := HL.out; omega)⟩
    · have hb1 : a + cr < 131074 := by have := Z8 H.out.2.2; rw [← HA.out] at this; omega
      have v1 : IntKind.u64.wrap ((a : Int) + (cr : Int)) = ((a + cr : Nat) : Int) := F7 _ _ (by omega)
      have V3 := Lib.hid (aeY i (by have := HS.out; have := HL.out; omega))
      have hg := gV fc (show i < L + 1 by omega)
      go_wp2
      have hst := Jf H.out.2.2 (show i < L + 1 by omega)
      rw [show dg Y i = 0 from wI Y i (by have := HM.out; omega), ← HA.out] at hst
      simp only [Nat.add_zero] at hst
      refine ⟨⟨i + 1, _, _, x, vq2 _ _, Jl _ (by have := HS.out; have := HL.out; omega), by rw [vr2, iy], q0, H.out.1, by omega, hst⟩, jd L i hi (by have := HS.out; have := HL.out; omega)⟩
  · have hi' : i = L := by have := H.out.2.1; omega
    subst hi'
    have hg := gV fc (show i < i + 1 by omega)
    have HE := Lib.hid (Y8 H.out.2.2 (by have := HL.out; omega) (by have := HM.out; omega))
    go_wp2_with fail
    rw [iy]
    refine (ni w.heap.size (i + 1) (upd fc i cr) _ ob (HE.out).2 (by have := HS.out; have := HL.out; omega)).mono ?_
    rintro e y ⟨⟨A', c', rfl, hd⟩, hb⟩
    rw [(HE.out).1] at hd ⊢
    have pW := Lib.hid hb
    have EJ := Lib.hid hd
    clear hb hd
    go_wp2_with fail
    go_ret
    exact ⟨⟨A', c', rfl, EJ.out⟩, Below.trans (pl H.out.1) (pW.out.mono sz)⟩
theorem sum_any (A B : Option Addr) (c d X Y : Nat) (hsx : (aB X).length ≤ 1000000) (hsy : (aB Y).length ≤ 1000000) (w : World) (hX : Dn w A c X) (hY : Dn w B d Y) :
 Calls Tryz.prog 98 #[.slice A (aB X).length c, .slice B (aB Y).length d] w fun e w' => (∃ A' c', e = .returned (.slice A' (aB (X + Y)).length c') ∧ Dn w' A' c' (X + Y)) ∧ Below w.heap.size w w' := by
 by_cases hle : (aB Y).length ≤ (aB X).length
 · exact VY A B c d X Y hsx hle w hX hY
 · have hlt : ((aB X).length : Int) < ((aB Y).length : Int) := by omega
   have HX := Lib.hid hX
   have HY := Lib.hid hY
   clear hX hY
   go_enter Tryz.func98, Tryz.ntmps98
   go_wp2_with fail
   refine (VY B A d c Y X hsy (by omega) _ HY.out HX.out).mono ?_
   rintro e y ⟨⟨A', c', rfl, hd⟩, hb⟩
   have HB := Lib.hid hb
   have HD := Lib.hid hd
   clear hb hd
   go_wp2_with fail
   go_ret
   exact ⟨⟨A', c', by rw [Nat.add_comm X Y]; rfl, by rw [Nat.add_comm X Y]; exact HD.out⟩, HB.out⟩
theorem yO (A B : Option Addr) (c d X Y : Nat) (hsz : (aB X).length ≤ 1000000) (hle : Y ≤ X) (w : World) (hX : Dn w A c X) (hY : Dn w B d Y) :
 Calls Tryz.prog 93 #[.slice A (aB X).length c, .slice B (aB Y).length d] w fun e w' => (∃ A' c', e = .returned (.slice A' (aB (X - Y)).length c') ∧ Dn w' A' c' (X - Y)) ∧ Below w.heap.size w w' := by
 have HX := Lib.hid hX
 have HY := Lib.hid hY
 have WY := Lib.hid hle
 obtain ⟨L, hL⟩ : ∃ L, L = (aB X).length := ⟨_, rfl⟩
 obtain ⟨M, hM⟩ : ∃ M, M = (aB Y).length := ⟨_, rfl⟩
 have hmk : ∀ w, (Instr.makeSlice 45 (.int .i64 (L : Int)) (.int .i64 (L : Int))).run Tryz.prog w = .ok (.slice (some ⟨w.heap.size, 0, none⟩) L L) (w.alloc (.cells (row L fun _ => 0) 34)) := fun w => mW L (by omega) w
 rw [← hL, ← hM]
 have HL := Lib.hid hL
 have HM := Lib.hid hM
 have HS := Lib.hid hsz
 clear hX hY hle hL hM hsz
 go_enter Tryz.func93, Tryz.ntmps93
 go_wp2_with fail
 go_loopw [6, 7] (fun cv iv wr => ∃ (i cr : Nat) (fc : Nat → Nat) (x : World), cv = .int .u64 (cr : Int) ∧ iv = .int .i64 (i : Int) ∧ wr = x.pin w.heap.size (.cells (row (L) fc) 34) ∧ w.heap.size < x.heap.size ∧ Hid (Below w.heap.size w x ∧ i ≤ L ∧ Rl X Y L i fc cr)) (fun _ iv _ => (L - intOf iv).toNat)
 case atStart => exact ⟨0, 0, fun _ => 0, _, rfl, rfl, xI ob, sz, (pl (Below.refl _ _)), Nat.zero_le _, PX X Y _⟩
 case round =>
  obtain ⟨i, cr, fc, x, rfl, rfl, rfl, q0, H⟩ := hrel
  by_cases hi : i < L
  · obtain ⟨b, off, rfl, hbw, hcell⟩ := HX.out.cell (i := i) (by rw [← HL.out]; exact hi)
    obtain ⟨a, ha⟩ : ∃ a, a = dg X i := ⟨_, rfl⟩
    have hc : x.cell? ⟨b, off + i, none⟩ = some (.int .u64 (a : Int)) := by rw [ha]; exact (H.out.1.cell (p := ⟨b, off + i, none⟩) hbw).trans (hcell i (by rw [← HL.out]; exact hi))
    have HA := Lib.hid ha
    clear hcell ha
    have hcr : cr ≤ 1 := H.out.2.2.2.1
    have ha1 : a < 65536 := by rw [HA.out]; exact dR X i
    obtain ⟨t, ht⟩ : ∃ t, t + cr = 65536 + a := ⟨65536 + a - cr, by omega⟩
    have v1 : IntKind.u64.wrap (65536 + (a : Int)) = 65536 + (a : Int) := by have := Qy (65536 + a) (by omega); rw [Int.natCast_add] at this; exact this
    have v2 : IntKind.u64.wrap (65536 + (a : Int) - (cr : Int)) = (t : Int) := by rw [show 65536 + (a : Int) - (cr : Int) = (t : Int) from by omega]; exact Qy t (by omega)
    have hg := gV fc hi
    have Zo := Lib.hid (And.intro hcr (And.intro ha1 ht))
    clear hcr ha1 ht
    by_cases hj : i < M
    · obtain ⟨b2, off2, rfl, hbw2, hcell2⟩ := HY.out.cell (i := i) (by rw [← HM.out]; exact hj)
      obtain ⟨a2, ha2⟩ : ∃ a, a = dg Y i := ⟨_, rfl⟩
      have hc2 : x.cell? ⟨b2, off2 + i, none⟩ = some (.int .u64 (a2 : Int)) := by rw [ha2]; exact (H.out.1.cell (p := ⟨b2, off2 + i, none⟩) hbw2).trans (hcell2 i (by rw [← HM.out]; exact hj))
      have h2 : a2 < 65536 := by rw [ha2]; exact dR Y i
      have HA2 := Lib.hid ha2
      clear hcell2 ha2
      obtain ⟨s, hs⟩ : ∃ s, s + a2 = t := ⟨t - a2, by have := Zo.out; omega⟩
      have v3 : IntKind.u64.wrap ((t : Int) - (a2 : Int)) = (s : Int) := by rw [show (t : Int) - (a2 : Int) = (s : Int) from by omega]; exact Qy s (by have := Zo.out; omega)
      have HS2 := Lib.hid (And.intro h2 hs)
      clear h2 hs
      go_wp2
      have es : s = BB + dg X i - cr - dg Y i := by
       rw [← HA.out, ← HA2.out]
       show s = 65536 + a - cr - a2
       have := Zo.out; have := HS2.out; omega
      have hst := IE H.out.2.2 hi
      rw [← es] at hst
      exact ⟨⟨i + 1, _, _, x, vbo s (by have := Zo.out; have := HS2.out; omega), Jl _ (by have := HS.out; have := HL.out; omega), by rw [vr1, iy], q0, H.out.1, by omega, hst⟩, jd L i hi (by have := HS.out; have := HL.out; omega)⟩
    · go_wp2
      have es : t = BB + dg X i - cr - dg Y i := by
       rw [← HA.out, show dg Y i = 0 from wI Y i (by have := HM.out; omega)]
       show t = 65536 + a - cr - 0
       have := Zo.out; omega
      have hst := IE H.out.2.2 hi
      rw [← es] at hst
      exact ⟨⟨i + 1, _, _, x, vbo t (by have := Zo.out; omega), Jl _ (by have := HS.out; have := HL.out; omega), by rw [vr1, iy], q0, H.out.1, by omega, hst⟩, jd L i hi (by have := HS.out; have := HL.out; omega)⟩
  · have hi' : i = L := by have := H.out.2.1; omega
    subst hi'
    have HE := Lib.hid (Yu H.out.2.2 (by have := HL.out; omega) WY.out)
    go_wp2_with fail
    refine (ni w.heap.size (i) (fc) _ ob (HE.out).2 (by have := HS.out; have := HL.out; omega)).mono ?_
    rintro e y ⟨⟨A', c', rfl, hd⟩, hb⟩
    rw [(HE.out).1] at hd ⊢
    have pW := Lib.hid hb
    have EJ := Lib.hid hd
    clear hb hd
    go_wp2_with fail
    go_ret
    exact ⟨⟨A', c', rfl, EJ.out⟩, Below.trans (pl H.out.1) (pW.out.mono sz)⟩
end
section
open Go.RowKit Go.Proofs.YtehfkbaendajbaaGreatDoorW.PrintLast
theorem times_any (A B : Option Addr) (c d X Y : Nat) (hsx : (aB X).length ≤ 1000000) (hsy : (aB Y).length ≤ 1000000) (w : World) (hX : Dn w A c X) (hY : Dn w B d Y) :
 Calls Tryz.prog 99 #[.slice A (aB X).length c, .slice B (aB Y).length d] w fun e w' => (∃ A' c', e = .returned (.slice A' (aB (X * Y)).length c') ∧ Dn w' A' c' (X * Y)) ∧ Below w.heap.size w w' := by
 have HX := Lib.hid hX
 have HY := Lib.hid hY
 obtain ⟨N, hN⟩ : ∃ N, N = (aB X).length := ⟨_, rfl⟩
 obtain ⟨M, hM⟩ : ∃ M, M = (aB Y).length := ⟨_, rfl⟩
 obtain ⟨L, hL⟩ : ∃ L, L = N + M + 1 := ⟨_, rfl⟩
 rw [← hN] at hsx
 rw [← hM] at hsy
 have hmk : ∀ w, (Instr.makeSlice 45 (.int .i64 (L : Int)) (.int .i64 (L : Int))).run Tryz.prog w = .ok (.slice (some ⟨w.heap.size, 0, none⟩) L L) (w.alloc (.cells (row L fun _ => 0) 34)) := fun w => mW L (by omega) w
 rw [← hN, ← hM]
 have e0 : wrap64 ((N : Int) + (M : Int)) = (N : Int) + (M : Int) := kX _ (by omega)
 have e1 : wrap64 ((N : Int) + (M : Int) + 1) = (L : Int) := by rw [kX _ (by omega)]; omega
 have HN := Lib.hid hN
 have HM := Lib.hid hM
 have HL := Lib.hid hL
 have HS := Lib.hid (And.intro hsx hsy)
 clear hX hY hN hM hL hsx hsy
 go_enter Tryz.func99, Tryz.ntmps99
 go_wp2_with fail
 simp only [e0, e1]
 go_loopw [6] (fun iv wr => ∃ (i : Nat) (fc : Nat → Nat) (x : World), iv = .int .i64 (i : Int) ∧ wr = x.pin w.heap.size (.cells (row (L) fc) 34) ∧ w.heap.size < x.heap.size ∧ Hid (Below w.heap.size w x ∧ i ≤ N ∧ RG X Y L M i fc)) (fun iv _ => (N - intOf iv).toNat)
 case atStart => exact ⟨0, fun _ => 0, _, rfl, xI ob, sz, (pl (Below.refl _ _)), Nat.zero_le _, Qs X Y _ _⟩
 case round =>
  obtain ⟨i, QI, x0, rfl, rfl, q0, H0⟩ := hrel
  by_cases hi : i < N
  · obtain ⟨b, off, rfl, hbw, hcell⟩ := HX.out.cell (i := i) (by rw [← HN.out]; exact hi)
    obtain ⟨a, ha⟩ : ∃ a, a = dg X i := ⟨_, rfl⟩
    have HA := Lib.hid ha
    have WU : Hid (w.cell? ⟨b, off + i, none⟩ = some (.int .u64 (a : Int))) := by rw [ha]; exact Lib.hid (hcell i (by rw [← HN.out]; exact hi))
    clear hcell ha
    go_wp2
    go_loopw [7, 8] (fun cv kv wr => ∃ (k cr : Nat) (fc : Nat → Nat) (x : World), cv = .int .u64 (cr : Int) ∧ kv = .int .i64 (k : Int) ∧ wr = x.pin w.heap.size (.cells (row (L) fc) 34) ∧ w.heap.size < x.heap.size ∧ Hid (Below w.heap.size w x ∧ k ≤ M ∧ Oh X Y L M i k fc cr)) (fun _ kv _ => (M - intOf kv).toNat)
    case atStart => exact ⟨0, 0, QI, x0, rfl, rfl, rfl, q0, H0.out.1, Nat.zero_le _, Zc H0.out.2.2⟩
    case round =>
     obtain ⟨k, cr, fc, x, rfl, rfl, rfl, q1, H⟩ := hrel
     by_cases hk : k < M
     · obtain ⟨b2, off2, rfl, hbw2, hcell2⟩ := HY.out.cell (i := k) (by rw [← HM.out]; exact hk)
       obtain ⟨a2, ha2⟩ : ∃ a, a = dg Y k := ⟨_, rfl⟩
       have hc2 : x.cell? ⟨b2, off2 + k, none⟩ = some (.int .u64 (a2 : Int)) := by rw [ha2]; exact (H.out.1.cell (p := ⟨b2, off2 + k, none⟩) hbw2).trans (hcell2 k (by rw [← HM.out]; exact hk))
       have hc1 : x.cell? ⟨b, off + i, none⟩ = some (.int .u64 (a : Int)) := (H.out.1.cell (p := ⟨b, off + i, none⟩) hbw).trans WU.out
       have HA2 := Lib.hid ha2
       clear hcell2 ha2
       obtain ⟨j, hj⟩ : ∃ j, j = i + k := ⟨_, rfl⟩
       have hjL : j < L := by have := HL.out; omega
       have e5 : wrap64 ((i : Int) + (k : Int)) = (j : Int) := by rw [kX _ (by have := HS.out; omega)]; omega
       have e6 : IntKind.i64.wrap ((i : Int) + (k : Int)) = (j : Int) := (Dc _).trans e5
       obtain ⟨o, ho⟩ : ∃ o, o = fc j := ⟨_, rfl⟩
       have hg : (row L fc)[j]? = some (.int .u64 (o : Int)) := by rw [ho]; exact gV fc hjL
       obtain ⟨m, hm⟩ : ∃ m, m = a * a2 := ⟨_, rfl⟩
       obtain ⟨s, hs⟩ : ∃ s, s = o + m + cr := ⟨_, rfl⟩
       have hb : s < 4294967296 := by rw [hs, ho, hm, hj, HA.out, HA2.out]; exact afC H.out.2.2
       have v1 : IntKind.u64.wrap ((a : Int) * (a2 : Int)) = (m : Int) := by rw [hm]; exact Zi a a2 (by omega)
       have v2 : IntKind.u64.wrap ((o : Int) + (m : Int)) = (o : Int) + (m : Int) := by have := Qy (o + m) (by omega); rw [Int.natCast_add] at this; exact this
       have v3 : IntKind.u64.wrap ((o : Int) + (m : Int) + (cr : Int)) = (s : Int) := by rw [show (o : Int) + (m : Int) + (cr : Int) = (s : Int) from by omega]; exact Qy s (by omega)
       have HH := Lib.hid (And.intro hj (And.intro ho (And.intro hm (And.intro hs hb))))
       clear hj ho hm hs hb
       go_wp2
       refine wp_region_still_tail 18 (by kernel_rfl) (by kernel_rfl) ?_
       simp only [List.take_succ_cons, List.take_zero, List.drop_succ_cons, List.drop_zero, World.drew_eq]
       (repeat still_step)
       refine wpStill_nil ?_
       go_wp2
       have es : s = fc (i + k) + dg X i * dg Y k + cr := by
        rw [← HA.out, ← HA2.out, ← HH.out.1, ← HH.out.2.1, ← HH.out.2.2.1]
        exact HH.out.2.2.2.1
       have hst := V5 H.out.2.2 hk (by have := HL.out; omega)
       rw [← es, ← HH.out.1] at hst
       exact ⟨⟨k + 1, _, _, x.drew, vq1 s HH.out.2.2.2.2, Jl _ (by have := HS.out; omega), by rw [vr1, iy]; rfl, q1, H.out.1.drew, by omega, hst⟩, jd M k hk (by have := HS.out; omega)⟩
     · have hk' : k = M := by have := H.out.2.1; omega
       subst hk'
       obtain ⟨j, hj⟩ : ∃ j, j = i + k := ⟨_, rfl⟩
       have hjL : j < L := by have := HL.out; omega
       have e5 : wrap64 ((i : Int) + (k : Int)) = (j : Int) := by rw [kX _ (by have := HS.out; omega)]; omega
       have hg := gV fc hjL
       have HJ := Lib.hid hj
       clear hj
       go_wp2
       have hst := Zb H.out.2.2 (by have := HM.out; omega) (by have := HL.out; omega)
       rw [← HJ.out] at hst
       exact ⟨⟨i + 1, _, x, Jl _ (by have := HS.out; omega), by rw [iy], q1, H.out.1, by omega, hst⟩, jd N i hi (by have := HS.out; omega)⟩
  · have hi' : i = N := by have := H0.out.2.1; omega
    subst hi'
    have HE := Lib.hid (V4 H0.out.2.2 (by have := HN.out; omega))
    go_wp2_with fail
    refine (ni w.heap.size (L) (QI) _ ob (HE.out).2 (by have := HS.out; have := HL.out; omega)).mono ?_
    rintro e y ⟨⟨A', c', rfl, hd⟩, hb⟩
    rw [(HE.out).1] at hd ⊢
    have pW := Lib.hid hb
    have EJ := Lib.hid hd
    clear hb hd
    go_wp2_with fail
    go_ret
    exact ⟨⟨A', c', rfl, EJ.out⟩, Below.trans (pl H0.out.1) (pW.out.mono sz)⟩
end
section
open Go.RowKit Go.Proofs.YtehfkbaendajbaaGreatDoorW.PrintLast
theorem jU (A B : Option Addr) (c d X Y : Nat) (hsx : (aB X).length ≤ 1000000) (w : World) (hX : Dn w A c X) (hY : Dn w B d Y) :
 Calls Tryz.prog 68 #[.slice A (aB X).length c, .slice B (aB Y).length d] w fun e w' => e = .returned (.bool (decide (X < Y))) ∧ Below w.heap.size w w' := by
 have HX := Lib.hid hX
 have HY := Lib.hid hY
 obtain ⟨N, hN⟩ : ∃ N, N = (aB X).length := ⟨_, rfl⟩
 obtain ⟨M, hM⟩ : ∃ M, M = (aB Y).length := ⟨_, rfl⟩
 rw [← hN] at hsx
 rw [← hN, ← hM]
 have HN := Lib.hid hN
 have HM := Lib.hid hM
 have HS := Lib.hid hsx
 clear hX hY hN hM hsx
 by_cases hne : N = M
 rotate_left
 · have hd : ((N : Int) == (M : Int)) = false := by rw [beq_eq_false_iff_ne]; omega
   go_enter Tryz.func68, Tryz.ntmps68
   go_wp2_with fail
   go_ret
   exact ⟨congrArg (fun z => Ending.returned (.bool z)) (by have h1 := UJ (X := X) (Y := Y) (by rw [← HN.out, ← HM.out]; exact hne); rw [← HN.out, ← HM.out] at h1; rw [← h1, decide_eq_decide] <;> omega), Below.refl _ _⟩
 subst hne
 have e0 : wrap64 ((N : Int) - 1) = (N : Int) - 1 := kX _ (by have := HS.out; omega)
 go_enter Tryz.func68, Tryz.ntmps68
 go_wp2_with fail
 try simp only [e0]
 go_loopw [5] (fun iv wr => ∃ (k : Nat), iv = .int .i64 ((k : Int) - 1) ∧ Hid (Below w.heap.size w wr ∧ k ≤ N ∧ X / BB ^ k = Y / BB ^ k)) (fun iv _ => (intOf iv + 1).toNat)
 case atStart => exact ⟨N, rfl, Below.refl _ _, Nat.le_refl _, by have h1 := V6 X; have h2 := V6 Y; rw [← HN.out] at h1; rw [← HM.out] at h2; rw [h1, h2]⟩
 case round =>
  obtain ⟨k, rfl, H⟩ := hrel
  rcases k with _ | k
  · go_wp2_with fail
    go_ret
    exact ⟨congrArg (fun z => Ending.returned (.bool z)) (by have := H.out.2.2; simp only [Nat.pow_zero, Nat.div_one] at this; rw [this, decide_eq_false (Nat.lt_irrefl _)]), H.out.1⟩
  · rw [show (((k + 1 : Nat) : Int) - 1) = (k : Int) from by omega]
    obtain ⟨b, off, rfl, hbw, hcell⟩ := HX.out.cell (i := k) (by have := H.out.2.1; have := HN.out; omega)
    obtain ⟨b2, off2, rfl, hbw2, hcell2⟩ := HY.out.cell (i := k) (by have := H.out.2.1; have := HM.out; omega)
    obtain ⟨a, ha⟩ : ∃ a, a = dg X k := ⟨_, rfl⟩
    obtain ⟨a2, ha2⟩ : ∃ a, a = dg Y k := ⟨_, rfl⟩
    have hc : wr.cell? ⟨b, off + k, none⟩ = some (.int .u64 (a : Int)) := by rw [ha]; exact (H.out.1.cell (p := ⟨b, off + k, none⟩) hbw).trans (hcell k (by have := H.out.2.1; have := HN.out; omega))
    have hc2 : wr.cell? ⟨b2, off2 + k, none⟩ = some (.int .u64 (a2 : Int)) := by rw [ha2]; exact (H.out.1.cell (p := ⟨b2, off2 + k, none⟩) hbw2).trans (hcell2 k (by have := H.out.2.1; have := HM.out; omega))
    have hkN : k < N := by have := H.out.2.1; omega
    have HA := Lib.hid ha
    have HA2 := Lib.hid ha2
    clear hcell hcell2 ha ha2
    go_wp2
    refine wp_region_still_tail 8 (by kernel_rfl) (by kernel_rfl) ?_
    simp only [List.take_succ_cons, List.take_zero, List.drop_succ_cons, List.drop_zero, World.drew_eq]
    (repeat still_step)
    refine wpStill_nil ?_
    go_wp2
    · have hz : ((a : Int) != (a2 : Int)) = true := by assumption
      have hz' : a ≠ a2 := by intro h; subst h; simp at hz
      refine wp_region_still_tail 9 (by kernel_rfl) (by kernel_rfl) ?_
      simp only [List.take_succ_cons, List.take_zero, List.drop_succ_cons, List.drop_zero, World.drew_eq]
      (repeat still_step)
      refine wpStill_nil ?_
      go_wp2_with fail
      go_ret
      have hk' := Ym H.out.2.2 (by rw [← HA.out, ← HA2.out]; exact hz')
      rw [← HA.out, ← HA2.out] at hk'
      exact ⟨congrArg (fun z => Ending.returned (.bool z)) (by rw [← hk', decide_eq_decide] <;> omega), H.out.1.drew.drew⟩
    · have hz : ((a : Int) != (a2 : Int)) = false := by assumption
      have hz1 : (a : Int) = (a2 : Int) := by simpa using hz
      have hz' : a = a2 := by omega
      have hk' := adQ H.out.2.2 (by rw [← HA.out, ← HA2.out]; exact hz')
      exact ⟨⟨k, vim k (by have := HS.out; omega), H.out.1.drew, by omega, hk'⟩, PW k (by have := HS.out; omega)⟩
end
section
open Go.RowKit Go.Proofs.YtehfkbaendajbaaGreatDoorW.PrintLast
theorem UO (w : World) : (Instr.makeSlice 22 (.int .i64 32) (.int .i64 32)).run Tryz.prog w = .ok (.slice (some ⟨w.heap.size, 0, none⟩) 32 32) (w.alloc (.cells (tV 32 fun _ => 0) 5)) := by kernel_rfl
theorem iE (A : Option Addr) (c X : Nat) (hx : X < BB ^ 16) (w : World) (hX : Dn w A c X) :
 Calls Tryz.prog 50 #[.slice A (aB X).length c, .int .i64 32] w fun e w' => (∃ b, e = .returned (.slice (some ⟨b, 0, none⟩) 32 32) ∧ Rd w' .u8 (some ⟨b, 0, none⟩) (dw 32 X)) ∧ Below w.heap.size w w' := by
 have HX := Lib.hid hX
 obtain ⟨L, hL⟩ : ∃ L, L = (aB X).length := ⟨_, rfl⟩
 have hmk := UO
 have h16 : L ≤ 16 := by rw [hL]; exact dK hx
 rw [← hL]
 have HL := Lib.hid hL
 clear hX hL hx
 go_enter Tryz.func50, Tryz.ntmps50
 go_wp2_with fail
 go_loopw [6] (fun iv wr => ∃ (i : Nat) (fc : Nat → Nat) (x : World), iv = .int .i64 (i : Int) ∧ wr = x.pin w.heap.size (.cells (tV (32) fc) 5) ∧ w.heap.size < x.heap.size ∧ Hid (Below w.heap.size w x ∧ i ≤ L ∧ NU X i fc)) (fun iv _ => (L - intOf iv).toNat)
 case atStart => exact ⟨0, fun _ => 0, _, rfl, xI ob, sz, (pl (Below.refl _ _)), Nat.zero_le _, DY X⟩
 case round =>
  obtain ⟨i, fc, x, rfl, rfl, q0, H⟩ := hrel
  by_cases hi : i < L
  · obtain ⟨b, off, rfl, hbw, hcell⟩ := HX.out.cell (i := i) (by rw [← HL.out]; exact hi)
    obtain ⟨a, ha⟩ : ∃ a, a = dg X i := ⟨_, rfl⟩
    have hc : x.cell? ⟨b, off + i, none⟩ = some (.int .u64 (a : Int)) := by rw [ha]; exact (H.out.1.cell (p := ⟨b, off + i, none⟩) hbw).trans (hcell i (by rw [← HL.out]; exact hi))
    have HA := Lib.hid ha
    clear hcell ha
    have g1 := qB fc (show 2 * i < 32 by omega)
    have g2 := qB fc (show 2 * i + 1 < 32 by omega)
    have aC := Lib.hid (show a < 65536 by rw [HA.out]; exact dR X i)
    go_wp2
    · have hst := GI H.out.2.2
      rw [← HA.out] at hst
      exact ⟨⟨i + 1, _, x, vi0 i, by rw [v8r, ZT a aC.out, xJ, xJ], q0, H.out.1, by omega, hst⟩, tH L i hi⟩
    all_goals (exfalso; omega)
  · have hi' : i = L := by have := H.out.2.1; omega
    subst hi'
    go_wp2
    go_ret
    refine ⟨⟨w.heap.size, rfl, ?_⟩, (pl H.out.1)⟩
    have h := YS (eY (w := x) (b := w.heap.size) (o := .cells (tV (32) fc) 5) q0)
    rw [MF H.out.2.2 (by have := HL.out; omega)] at h
    exact h
end
section
open Go.RowKit
structure kY (B g : Nat) (w v : World) : Prop where
 os : v.os = w.os
 tape : v.tape = w.tape
 output : v.output = w.output
 size : w.heap.size ≤ v.heap.size
 block : ∀ k, k < B → k ≠ g → v.heap[k]? = w.heap[k]?
section
variable {B C g b : Nat} {w v y : World} {o : Obj}
theorem kY.refl (B g : Nat) (w : World) : kY B g w w := ⟨rfl, rfl, rfl, Nat.le_refl _, fun _ _ _ => rfl⟩
theorem kY.below (h : kY B g w v) (k : Below C v y) (hC : B ≤ C) : kY B g w y :=
 ⟨k.os.trans h.os, k.tape.trans h.tape, k.output.trans h.output, Nat.le_trans h.size k.size, fun i hi hg => (k.block i (Nat.lt_of_lt_of_le hi hC)).trans (h.block i hi hg)⟩
theorem kY.akc (h : kY B g w v) : kY B g w (v.pin g o) := ⟨h.os, h.tape, h.output, by rw [aA]; exact h.size, fun k hk hg => by rw [je hg]; exact h.block k hk hg⟩
theorem kY.pin (h : kY B g w v) (hb : B ≤ b) : kY B g w (v.pin b o) := ⟨h.os, h.tape, h.output, by rw [aA]; exact h.size, fun k hk hg => by rw [je (by omega)]; exact h.block k hk hg⟩
theorem kY.alloc (h : kY B g w v) (hB : B ≤ v.heap.size) : kY B g w (v.alloc o) := h.below (Below.alloc (Below.refl B v) hB o) (Nat.le_refl _)
theorem kY.drew (h : kY B g w v) : kY B g w v.drew := h.below (Below.drew (Below.refl B v)) (Nat.le_refl _)
theorem kY.Wp (hb : B = w.heap.size) : kY B g (w.pin g o) w := ⟨rfl, rfl, rfl, by rw [aA]; exact Nat.le_refl _, fun k _ hg => by rw [je hg]⟩
theorem kY.done (h : kY B g w v) (ho : v.heap[g]? = some o) (hg : g < w.heap.size) : Below B (w.pin g o) v := by
 refine ⟨h.os, h.tape, h.output, by rw [aA]; exact h.size, fun k hk => ?_⟩
 by_cases e : k = g
 · subst e; rw [eY hg, ho]
 · rw [je e]; exact h.block k hk e
theorem uP {B g : Nat} {w y w' : World} (h0 : kY B g w y) (h : kY B g w y → kY B g w w' := by (intro hb0; (repeat (first | with_reducible exact hb0 | with_reducible refine kY.akc ?_ | with_reducible refine kY.pin ?_ ?_ | with_reducible refine kY.alloc ?_ ?_ | with_reducible refine kY.drew ?_)); all_goals (first | omega | (simp only [World.size_alloc, aA, World.size_drew, World.size_setCell] <;> omega)))) : kY B g w w' := h h0
theorem Keeps.base {w v : World} {L : List (Nat × Obj)} (h : Keeps w L v) : Below w.heap.size w v := h.1
end
end
section
open Go.RowKit
noncomputable def pR (p : Nat → Prop) : Nat := by
 classical exact if h : ∃ n, p n ∧ ∀ m, p m → n ≤ m then Classical.choose h else 0
theorem tu {p : Nat → Prop} (h : ∃ n, p n) : p (pR p) ∧ ∀ m, p m → pR p ≤ m := by
 have h2 : ∃ n, p n ∧ ∀ m, p m → n ≤ m := by
  obtain ⟨n, hn⟩ := h
  induction n using Nat.strongRecOn with
  | ind n ih =>
   by_cases hm : ∃ m, m < n ∧ p m
   · obtain ⟨m, hlt, hp⟩ := hm
     exact ih m hlt hp
   · exact ⟨n, hn, fun m hp => Nat.le_of_not_lt fun hlt => hm ⟨m, hlt, hp⟩⟩
 unfold pR
 rw [dif_pos h2]
 exact Classical.choose_spec h2
theorem yN {p q : Nat → Prop} {m : Nat} (hq : q m) (hm : m < pR p) : pR q < pR p := Nat.lt_of_le_of_lt ((tu ⟨m, hq⟩).2 m hq) hm
theorem F9 (n N : Nat) : fV n (dg N) = N % BB ^ n := by
 induction n with
 | zero => simp [fV, Nat.mod_one]
 | succ n ih => rw [fV, ih, lD]
abbrev iP : Nat := 57896044618658097711785492504343953926634992332820282019728792003956564819968
theorem zU : iP = BB ^ 15 * 32768 := by decide
theorem Nz (N : Nat) : fV 16 (upd (dg N) 15 (dg N 15 % 32768)) = N % iP := by
 rw [fV, eU, qQ (f := upd (dg N) 15 (dg N 15 % 32768)) (g := dg N) (fun i hi => upd_ne _ _ (by omega)), F9, zU, Nat.mod_mul]
 have : dg N 15 % 32768 = N / BB ^ 15 % 32768 := by simp only [dg]; generalize N / BB ^ 15 = q; simp only [BB]; omega
 rw [this, Nat.mul_comm]
theorem UZ (N i j : Nat) (hj : i = j + 15) : dg N i / 32768 + dg N (i + 1) % 32768 * 2 = dg (N / iP) j := by
 subst hj
 simp only [dg]
 have e1 : N / BB ^ (j + 15 + 1) = N / BB ^ (j + 15) / BB := by rw [Nat.pow_succ (n := BB) (m := j + 15), Nat.div_div_eq_div_mul]
 have e2 : N / iP / BB ^ j = N / BB ^ (j + 15) / 32768 := by
  have e3 : ∀ x y z : Nat, x * y * z = z * x * y := fun x y z => by rw [Nat.mul_comm (x * y), Nat.mul_assoc]
  rw [zU, Nat.div_div_eq_div_mul, Nat.div_div_eq_div_mul, Nat.pow_add, e3]
 rw [e1, e2]
 generalize N / BB ^ (j + 15) = q
 simp only [BB]
 omega
def HiI (N k : Nat) (f : Nat → Nat) : Prop := ∀ j, f j = if j < k then dg (N / iP) j else 0
theorem Ic (N : Nat) : HiI N 0 (fun _ => 0) := fun j => by simp
theorem zX {N k v : Nat} {f : Nat → Nat} (h : HiI N k f) (hv : v = dg (N / iP) k) : HiI N (k + 1) (upd f k v) := by
 intro j
 by_cases h1 : j = k
 · subst h1; rw [eU, if_pos (by omega), hv]
 · rw [upd_ne _ _ h1, h j]
   by_cases h3 : j < k
   · rw [if_pos h3, if_pos (by omega)]
   · rw [if_neg h3, if_neg (by omega)]
theorem TM {N M : Nat} {f : Nat → Nat} (h : HiI N M f) (hM : (aB N).length ≤ M + 15) : fV M f = N / iP ∧ ∀ j, f j < BB := by
 constructor
 · rw [qQ (g := dg (N / iP)) (fun i hi => by rw [h i, if_pos hi]), F9]
   refine Nat.mod_eq_of_lt ?_
   have h1 := (iT N (M + 15)).mp hM
   refine Nat.div_lt_of_lt_mul ?_
   rw [zU]
   rw [Nat.pow_add, Nat.mul_comm] at h1
   refine Nat.lt_of_lt_of_le h1 ?_
   exact Nat.mul_le_mul_right _ (by decide)
 · intro j
   rw [h j]
   split
   · exact dR _ _
   · decide
theorem mY {N : Nat} (h : iP ≤ N) : N % iP + N / iP * 19 < N ∧ (N % iP + N / iP * 19) % Num.p = N % Num.p := by
 have h1 := Nat.div_add_mod N iP
 have h2 : 1 ≤ N / iP := (Nat.one_le_div_iff (by decide)).mpr h
 constructor
 · simp only [iP] at *; omega
 · have e : N = Num.p * (N / iP) + (N % iP + N / iP * 19) := by simp only [iP, Num.p] at *; omega
   conv => rhs; rw [e]
   rw [Nat.mul_add_mod]
theorem aa1 {N : Nat} (h : 16 < (aB N).length) : iP ≤ N := Nat.le_trans (by decide) ((qL N 16).mp h)
theorem SX {N : Nat} (h : 32767 < dg N 15) : iP ≤ N := by
 simp only [dg] at h
 have h2 : 32768 ≤ N / BB ^ 15 := by
  have := Nat.mod_le (N / BB ^ 15) BB
  omega
 have h3 := (Nat.le_div_iff_mul_le (by decide)).mp h2
 rw [Nat.mul_comm, ← zU] at h3
 exact h3
theorem XB {N : Nat} (h : (aB N).length < 16) : N < Num.p := Nat.lt_of_lt_of_le ((iT N 15).mp (by omega)) (by decide)
theorem D9 {N k : Nat} (h : (aB N).length ≤ 16) (hk : dg N 15 < k) : N < k * BB ^ 15 := by
 have h1 := (iT N 16).mp h
 simp only [dg] at hk
 have h2 : N / BB ^ 15 < BB := Nat.div_lt_of_lt_mul h1
 rw [Nat.mod_eq_of_lt h2] at hk
 have := (Nat.div_lt_iff_lt_mul (by decide)).mp hk
 exact this
theorem afe {N : Nat} (h : N < 32767 * BB ^ 15) : N < Num.p := Nat.lt_of_lt_of_le h (by decide)
theorem Yp {N : Nat} (h : N < 32768 * BB ^ 15) : N < iP := Nat.lt_of_lt_of_le h (by decide)
theorem Yv {N : Nat} (h : N < iP) (hp : ¬ N < Num.p) : N - Num.p = N % Num.p := by
 simp only [iP, Num.p] at *
 omega
theorem sU {m n : Nat} (h : m ≤ n) : (aB m).length ≤ (aB n).length := dK (Nat.lt_of_le_of_lt h (tC n))
theorem UL (N : Nat) : ∀ j, upd (dg N) 15 (dg N 15 % 32768) j < BB := by
 intro j
 by_cases h : j = 15
 · subst h; rw [eU]; exact Nat.lt_of_lt_of_le (Nat.mod_lt _ (by decide)) (by decide)
 · rw [upd_ne _ _ h]; exact dR N j
theorem MV : aB 19 = [19] := kW [19] (by decide) (by decide)
theorem XV {N k ai aj : Nat} (h1 : ai = dg N (k + 15)) (h2 : aj = dg N (k + 15 + 1)) : ai / 32768 + aj % 32768 * 2 = dg (N / iP) k := by
 rw [h1, h2]; exact UZ N (k + 15) k rfl
end
section
open Go.RowKit
abbrev MM : Nat := 4294836225
def Ro (X Y i : Nat) (f : Nat → Nat) : Prop := fV 32 f = X % BB ^ i * Y ∧ ∀ j, f j ≤ i * MM
def Oa (X Y i k : Nat) (f : Nat → Nat) : Prop := fV 32 f = X % BB ^ i * Y + dg X i * BB ^ i * (Y % BB ^ k) ∧ (∀ j, f j ≤ (i + 1) * MM) ∧ ∀ j, i + k ≤ j → f j ≤ i * MM
theorem PZ (X Y : Nat) : Ro X Y 0 (fun _ => 0) := ⟨by simp [qF, Nat.mod_one], fun _ => Nat.zero_le _⟩
theorem Yy {X Y i : Nat} {f : Nat → Nat} (h : Ro X Y i f) : Oa X Y i 0 f := ⟨by rw [h.1]; simp [Nat.mod_one], fun j => Nat.le_trans (h.2 j) (by rw [Nat.add_mul]; omega), fun j _ => h.2 j⟩
theorem U0 (X Y i k : Nat) : dg X i * dg Y k ≤ MM := by
 have hx := dR X i
 have hy := dR Y k
 have h : dg X i * dg Y k ≤ 65535 * 65535 := Nat.mul_le_mul (by simp only [dg, BB] at *; omega) (by simp only [dg, BB] at *; omega)
 simp only [MM]
 omega
theorem U3 {X Y i k : Nat} {f : Nat → Nat} (h : Oa X Y i k f) (hi : i + k < 32) : Oa X Y i (k + 1) (upd f (i + k) (f (i + k) + dg X i * dg Y k)) := by
 obtain ⟨h1, h2, h3⟩ := h
 have hd := U0 X Y i k
 refine ⟨?_, fun j => ?_, fun j hj => ?_⟩
 · have hv := kL (n := 32) (f := f) (j := i + k) (v := f (i + k) + dg X i * dg Y k) hi
   rw [lD Y k, Nat.mul_add]
   have e1 : dg X i * dg Y k * BB ^ (i + k) = dg X i * BB ^ i * (dg Y k * BB ^ k) := by
    rw [Nat.pow_add, Nat.mul_assoc, Nat.mul_assoc, Nat.mul_left_comm (dg Y k)]
   rw [Nat.add_mul, e1] at hv
   simp only [dg] at *
   omega
 · by_cases hj : j = i + k
   · subst hj; rw [eU, Nat.add_mul, Nat.one_mul]; exact Nat.add_le_add (h3 _ (Nat.le_refl _)) hd
   · rw [upd_ne _ _ hj]; exact h2 j
 · rw [upd_ne _ _ (by omega)]; exact h3 j (by omega)
theorem Yx {X Y i lb : Nat} {f : Nat → Nat} (h : Oa X Y i lb f) (hY : (aB Y).length ≤ lb) : Ro X Y (i + 1) f :=
 ⟨by rw [h.1, uy Y lb hY, lD X i, Nat.add_mul], h.2.1⟩
theorem afl {X Y i k : Nat} {f : Nat → Nat} (h : Oa X Y i k f) (hi : i < 16) : f (i + k) + dg X i * dg Y k < 68719476736 := by
 have h1 := h.2.2 (i + k) (Nat.le_refl _)
 have h2 := U0 X Y i k
 have h3 : i * MM ≤ 15 * MM := Nat.mul_le_mul_right _ (by omega)
 simp only [MM] at *
 omega
theorem U1 {X Y la : Nat} {f : Nat → Nat} (h : Ro X Y la f) (hX : (aB X).length ≤ la) (hla : la ≤ 16) : fV 32 f = X * Y ∧ ∀ j, f j < 68719476736 := by
 refine ⟨by rw [h.1, uy X la hX], fun j => ?_⟩
 have h1 := h.2 j
 have h3 : la * MM ≤ 16 * MM := Nat.mul_le_mul_right _ hla
 simp only [MM] at *
 omega
def Gm (f : Nat → Nat) (i : Nat) (g : Nat → Nat) : Prop := ∀ j, g j = if j < i then f j + 38 * f (j + 16) else 0
theorem J5 (f : Nat → Nat) : Gm f 0 (fun _ => 0) := fun j => by simp
theorem OT {f g : Nat → Nat} {i : Nat} (h : Gm f i g) : Gm f (i + 1) (upd g i (f i + 38 * f (i + 16))) := by
 intro j
 by_cases h1 : j = i
 · subst h1; rw [eU, if_pos (by omega)]
 · rw [upd_ne _ _ h1, h j]
   by_cases h3 : j < i
   · rw [if_pos h3, if_pos (by omega)]
   · rw [if_neg h3, if_neg (by omega)]
theorem LJ (n m : Nat) (f : Nat → Nat) : fV (n + m) f = fV n f + BB ^ n * fV m (fun j => f (j + n)) := by
 induction m with
 | zero => simp [fV]
 | succ m ih => rw [← Nat.add_assoc, fV, ih, fV, Nat.mul_add, Nat.add_comm n m, Nat.pow_add, Nat.mul_comm (BB ^ m), Nat.mul_left_comm (f (m + n))]; omega
theorem Wq (n : Nat) (f g : Nat → Nat) : fV n (fun j => f j + 38 * g j) = fV n f + 38 * fV n g := by
 induction n with
 | zero => rfl
 | succ n ih => simp only [fV, ih, Nat.add_mul, Nat.mul_add, Nat.mul_assoc]; omega
def KK : Nat := 115792089237316195423570985008687907853269984665640564039457584007913129639898
theorem Zt : BB ^ 16 = KK + 38 := by decide +kernel
theorem adr : KK = Num.p * 2 := by decide +kernel
theorem TB {f g : Nat → Nat} {N : Nat} (h : Gm f 16 g) (hv : fV 32 f = N) (hb : ∀ j, f j < 68719476736) : fV 16 g % Num.p = N % Num.p ∧ ∀ j, g j < 8796093022208 := by
 constructor
 · rw [← hv, show (32 : Nat) = 16 + 16 from rfl, LJ, qQ (g := fun j => f j + 38 * f (j + 16)) (fun i hi => by rw [h i, if_pos hi]), Wq]
   rw [Zt, adr, Nat.add_mul, ← Nat.add_assoc, Nat.add_right_comm, Nat.mul_assoc, Nat.add_mul_mod_self_left]
 · intro j
   rw [h j]
   have h1 := hb j
   have h2 := hb (j + 16)
   split <;> omega
def NW (V i : Nat) (h : Nat → Nat) (c : Nat) : Prop := fV 16 h + c * BB ^ i = V ∧ c < 268435456 ∧ (∀ j, j < i → h j < BB) ∧ ∀ j, h j < 8796093022208
theorem Oo {g : Nat → Nat} (hb : ∀ j, g j < 8796093022208) : NW (fV 16 g) 0 g 0 := ⟨by rw [Nat.zero_mul, Nat.add_zero], Nat.zero_lt_succ _, fun j hj => absurd hj (Nat.not_lt_zero j), hb⟩
theorem Zw {V i c : Nat} {h : Nat → Nat} (H : NW V i h c) : h i + c < 8796361457664 := by
 have h1 := H.2.1
 have h2 := H.2.2.2 i
 omega
theorem Si {V i c : Nat} {h : Nat → Nat} (H : NW V i h c) (hi : i < 16) : NW V (i + 1) (upd h i ((h i + c) % BB)) ((h i + c) / BB) := by
 have hb := Zw H
 obtain ⟨h1, h2, h3, h4⟩ := H
 refine ⟨?_, by simp only [BB]; omega, fun j hj => ?_, fun j => ?_⟩
 · have hv := kL (n := 16) (f := h) (v := (h i + c) % BB) hi
   have hc := wE (h i + c) (BB ^ i)
   rw [Nat.pow_succ]
   rw [Nat.add_mul] at hc
   omega
 · by_cases he : j = i
   · subst he; rw [eU]; exact Nat.mod_lt _ (by decide)
   · rw [upd_ne _ _ he]; exact h3 j (by omega)
 · by_cases he : j = i
   · subst he; rw [eU]; exact Nat.lt_trans (Nat.mod_lt _ (by decide)) (by decide)
   · rw [upd_ne _ _ he]; exact h4 j
theorem Xq {V c : Nat} {h : Nat → Nat} (H : NW V 16 h c) : fV 16 (upd h 0 (h 0 + 38 * c)) + c * KK = V ∧ (∀ j, upd h 0 (h 0 + 38 * c) j < 8796093022208) ∧ (c = 0 → ∀ j, j < 16 → upd h 0 (h 0 + 38 * c) j < BB) := by
 obtain ⟨h1, h2, h3, h4⟩ := H
 have h0 := h3 0 (by decide)
 refine ⟨?_, fun j => ?_, fun hc j hj => ?_⟩
 · have hv := kL (n := 16) (f := h) (j := 0) (v := h 0 + 38 * c) (by decide)
   have e : c * BB ^ 16 = c * KK + c * 38 := by rw [Zt, Nat.mul_add]
   simp only [Nat.pow_zero, Nat.mul_one] at hv
   omega
 · by_cases he : j = 0
   · subst he; rw [eU]; simp only [BB] at h0; omega
   · rw [upd_ne _ _ he]; exact h4 j
 · by_cases he : j = 0
   · subst he; rw [eU, hc]; exact h0
   · rw [upd_ne _ _ he]; exact h3 j hj
theorem Xr {V W c : Nat} (h : W + c * KK = V) : W % Num.p = V % Num.p := by
 rw [← h, adr, ← Nat.mul_assoc, Nat.mul_comm c, Nat.mul_assoc, Nat.add_mul_mod_self_left]
theorem RZ {V W c : Nat} (h : W + c * KK = V) : 2 * W + (if 0 < c then 1 else 0) < 2 * V + 1 := by
 by_cases hc : 0 < c
 · rw [if_pos hc]
   have : 1 * 1 ≤ c * KK := Nat.mul_le_mul hc (by decide +kernel)
   omega
 · rw [if_neg hc]; omega
end
section
open Go.RowKit
abbrev WW : Nat := 18446744073709551616
def lim (n j : Nat) : Nat := n / WW ^ j % WW
theorem amn (n j : Nat) : lim n j < WW := Nat.mod_lt _ (by decide)
abbrev Lv (n : Nat) : Value := .agg #[.int .u64 ((lim n 0 : Nat) : Int), .int .u64 ((lim n 1 : Nat) : Int), .int .u64 ((lim n 2 : Nat) : Int), .int .u64 ((lim n 3 : Nat) : Int), .int .u64 ((lim n 4 : Nat) : Int), .int .u64 ((lim n 5 : Nat) : Int), .int .u64 ((lim n 6 : Nat) : Int), .int .u64 ((lim n 7 : Nat) : Int), .int .u64 ((lim n 8 : Nat) : Int)]
theorem alS (n : Nat) : row 9 (lim n) = #[.int .u64 ((lim n 0 : Nat) : Int), .int .u64 ((lim n 1 : Nat) : Int), .int .u64 ((lim n 2 : Nat) : Int), .int .u64 ((lim n 3 : Nat) : Int), .int .u64 ((lim n 4 : Nat) : Int), .int .u64 ((lim n 5 : Nat) : Int), .int .u64 ((lim n 6 : Nat) : Int), .int .u64 ((lim n 7 : Nat) : Int), .int .u64 ((lim n 8 : Nat) : Int)] := rfl
theorem amf (i : Nat) : 0 < WW ^ i := Nat.pow_pos (by decide)
theorem apy (n i : Nat) : n % WW ^ (i + 1) = n % WW ^ i + lim n i * WW ^ i := by
 rw [Nat.pow_succ, Nat.mod_mul, lim, Nat.mul_comm (WW ^ i)]
theorem afG (j : Nat) : lim 0 j = 0 := by simp [lim]
theorem ah9 {n i : Nat} (h : n < WW ^ i) : lim n i = 0 := by unfold lim; rw [Nat.div_eq_of_lt h]; decide
def bor (x y i : Nat) : Nat := if x % WW ^ i < y % WW ^ i then 1 else 0
theorem afZ (x y i : Nat) : bor x y i ≤ 1 := by unfold bor; split <;> omega
theorem ae3 (x y : Nat) : bor x y 0 = 0 := by simp [bor, Nat.mod_one]
theorem akr {x y : Nat} (hx : x < WW ^ 9) (hy : y < WW ^ 9) : bor x y 9 = if x < y then 1 else 0 := by unfold bor; rw [Nat.mod_eq_of_lt hx, Nat.mod_eq_of_lt hy]
theorem lex_lt {a b A B P : Nat} (hA : A < P) (hB : B < P) : A + a * P < B + b * P ↔ (a < b ∨ a = b ∧ A < B) := by
 constructor
 · intro h
   rcases Nat.lt_trichotomy a b with h1 | h1 | h1
   · exact .inl h1
   · subst h1; exact .inr ⟨rfl, by omega⟩
   · exfalso
     have h2 : (b + 1) * P ≤ a * P := Nat.mul_le_mul_right P h1
     rw [Nat.add_mul, Nat.one_mul] at h2
     omega
 · rintro (h1 | ⟨rfl, h1⟩)
   · have h2 : (a + 1) * P ≤ b * P := Nat.mul_le_mul_right P h1
     rw [Nat.add_mul, Nat.one_mul] at h2
     omega
   · omega
theorem ae0 (x y i : Nat) : bor x y (i + 1) = if lim x i < lim y i + bor x y i then 1 else 0 := by
 have hA : x % WW ^ i < WW ^ i := Nat.mod_lt _ (amf i)
 have hB : y % WW ^ i < WW ^ i := Nat.mod_lt _ (amf i)
 unfold bor
 rw [apy, apy]
 have h := lex_lt (a := lim x i) (b := lim y i) hA hB
 by_cases h1 : x % WW ^ i < y % WW ^ i
 · rw [if_pos h1]
   by_cases h2 : lim x i < lim y i + 1
   · rw [if_pos h2, if_pos (h.mpr (by omega))]
   · rw [if_neg h2, if_neg (fun h3 => by have := h.mp h3; omega)]
 · rw [if_neg h1]
   by_cases h2 : lim x i < lim y i + 0
   · rw [if_pos h2, if_pos (h.mpr (by omega))]
   · rw [if_neg h2, if_neg (fun h3 => by have := h.mp h3; omega)]
theorem akT {x y P : Nat} (hP : 0 < P) (h : y ≤ x) : (x - y) / P = x / P - y / P - (if x % P < y % P then 1 else 0) ∧ y / P + (if x % P < y % P then 1 else 0) ≤ x / P := by
 have ex := Nat.div_add_mod x P
 have ey := Nat.div_add_mod y P
 have hx := Nat.mod_lt x hP
 have hy := Nat.mod_lt y hP
 have hle : y / P ≤ x / P := Nat.div_le_div_right h
 by_cases h1 : x % P < y % P
 · rw [if_pos h1]
   have hlt : y / P < x / P := by
    rcases Nat.lt_or_ge (y / P) (x / P) with h2 | h2
    · exact h2
    · exfalso
      have h3 : x / P = y / P := by omega
      rw [h3] at ex
      omega
   refine ⟨?_, hlt⟩
   obtain ⟨k, hk⟩ : ∃ k, x / P = y / P + 1 + k := ⟨x / P - y / P - 1, by omega⟩
   have e : x - y = P * k + (P + x % P - y % P) := by
    have : P * (x / P) = P * (y / P) + P + P * k := by rw [hk, Nat.mul_add, Nat.mul_add, Nat.mul_one]
    omega
   rw [e, Nat.mul_add_div hP, Nat.div_eq_of_lt (by omega : P + x % P - y % P < P)]
   omega
 · rw [if_neg h1]
   refine ⟨?_, by omega⟩
   obtain ⟨k, hk⟩ : ∃ k, x / P = y / P + k := ⟨x / P - y / P, by omega⟩
   have e : x - y = P * k + (x % P - y % P) := by
    have : P * (x / P) = P * (y / P) + P * k := by rw [hk, Nat.mul_add]
    omega
   rw [e, Nat.mul_add_div hP, Nat.div_eq_of_lt (by omega : x % P - y % P < P)]
   omega
theorem akK {x y : Nat} (h : y ≤ x) (i : Nat) : (lim x i + WW - lim y i - bor x y i) % WW = lim (x - y) i := by
 have h1 := akT (P := WW ^ i) (amf i) h
 unfold lim bor
 rw [h1.1]
 have h2 := h1.2
 have hb := afZ x y i
 unfold bor at hb
 generalize (if x % WW ^ i < y % WW ^ i then 1 else 0) = b at *
 generalize x / WW ^ i = X at *
 generalize y / WW ^ i = Y at *
 clear h1 h
 simp only [WW] at *
 omega
theorem afx (x i : Nat) : lim x i / 2 + lim x (i + 1) % 2 * 9223372036854775808 = lim (x / 2) i := by
 unfold lim
 have e1 : x / WW ^ (i + 1) = x / WW ^ i / WW := by rw [Nat.pow_succ, Nat.div_div_eq_div_mul]
 have e2 : x / 2 / WW ^ i = x / WW ^ i / 2 := by rw [Nat.div_div_eq_div_mul, Nat.div_div_eq_div_mul, Nat.mul_comm]
 rw [e1, e2]
 generalize x / WW ^ i = q
 simp only [WW]
 omega
theorem aow {n : Nat} {f g : Nat → Nat} (h : ∀ j, j < n → f j = g j) : row n f = row n g := by
 unfold row
 congr 1
 exact List.map_congr_left (fun j hj => by rw [h j (List.mem_range.mp hj)])
theorem agB (j : Nat) : WW ^ j = 256 ^ (8 * j) := by rw [show WW = 256 ^ 8 by decide, ← Nat.pow_mul]
theorem aga {N b i j : Nat} (hN : N < 256 ^ i) (hb : b < 256) (h : j ≠ i / 8) : lim (N + b * 256 ^ i) j = lim N j := by
 unfold lim
 rw [agB]
 rcases Nat.lt_or_ge j (i / 8) with h1 | h1
 · obtain ⟨d, hd⟩ : ∃ d, i = 8 * j + 8 + d := ⟨i - 8 * j - 8, by omega⟩
   have e : b * 256 ^ i = b * 256 ^ d * WW * 256 ^ (8 * j) := by rw [hd, Nat.pow_add, Nat.pow_add, show WW = 256 ^ 8 by decide]; simp only [Nat.mul_assoc, Nat.mul_comm, Nat.mul_left_comm]
   rw [e, Nat.add_mul_div_right _ _ (Nat.pow_pos (by decide)), Nat.add_mul_mod_self_right]
 · have hp : 256 ^ (i + 1) ≤ 256 ^ (8 * j) := Nat.pow_le_pow_right (by decide) (by omega)
   have hs : N + b * 256 ^ i < 256 ^ (i + 1) := by
    have := Nat.mul_le_mul_right (256 ^ i) (show b + 1 ≤ 256 from hb)
    rw [Nat.add_mul, Nat.one_mul] at this
    rw [Nat.pow_succ, Nat.mul_comm (256 ^ i) 256]
    omega
   have hs2 : N < 256 ^ (8 * j) := by omega
   rw [Nat.div_eq_of_lt (Nat.lt_of_lt_of_le hs hp), Nat.div_eq_of_lt hs2]
theorem agF {N b i : Nat} (hN : N < 256 ^ i) (hb : b < 256) : lim N (i / 8) < 256 ^ (i % 8) ∧ lim (N + b * 256 ^ i) (i / 8) = lim N (i / 8) + b * 256 ^ (i % 8) := by
 obtain ⟨q, hq⟩ : ∃ q, q = i / 8 := ⟨_, rfl⟩
 obtain ⟨r, hr⟩ : ∃ r, r = i % 8 := ⟨_, rfl⟩
 have hi : i = 8 * q + r := by omega
 have ZE : r < 8 := by omega
 rw [← hq, ← hr]
 have e : 256 ^ i = 256 ^ r * 256 ^ (8 * q) := by rw [hi, Nat.pow_add, Nat.mul_comm]
 have hlow : N / 256 ^ (8 * q) < 256 ^ r := by
  refine Nat.div_lt_of_lt_mul ?_
  rw [Nat.mul_comm, ← e]
  exact hN
 have hpr : 256 ^ (r + 1) ≤ 256 ^ 8 := Nat.pow_le_pow_right (by decide) (by omega)
 have hW : (256 : Nat) ^ 8 = WW := by decide
 have hrp : 256 ^ r ≤ 256 ^ (r + 1) := Nat.pow_le_pow_right (by decide) (by omega)
 have hl : lim N q = N / 256 ^ (8 * q) := by
  unfold lim
  rw [agB, Nat.mod_eq_of_lt (by omega)]
 refine ⟨by rw [hl]; exact hlow, ?_⟩
 rw [hl]
 unfold lim
 rw [agB, e, ← Nat.mul_assoc, Nat.add_mul_div_right _ _ (Nat.pow_pos (by decide))]
 refine Nat.mod_eq_of_lt ?_
 have := Nat.mul_le_mul_right (256 ^ r) (show b + 1 ≤ 256 from hb)
 rw [Nat.add_mul, Nat.one_mul] at this
 rw [Nat.pow_succ, Nat.mul_comm (256 ^ r) 256] at hpr
 omega
theorem aiz {N b i v : Nat} (hN : N < 256 ^ i) (hb : b < 256) (hv : v = lim N (i / 8) + b * 256 ^ (i % 8)) : row 9 (upd (lim N) (i / 8) v) = row 9 (lim (N + b * 256 ^ i)) := by
 refine aow (fun j hj => ?_)
 by_cases h : j = i / 8
 · rw [h, eU, hv, (agF hN hb).2]
 · rw [upd_ne _ _ h, aga hN hb h]
theorem aoB : ∀ (bs : List Nat) (i : Nat) (h : i < bs.length), bW (bs.take (i + 1)) = bW (bs.take i) + bs[i] * 256 ^ i
 | [], i, h => by simp at h
 | b :: l, 0, _ => by simp [bW]
 | b :: l, i + 1, h => by
  have h' : i < l.length := by simpa using h
  have := aoB l i h'
  simp only [List.take_succ_cons, bW, List.getElem_cons_succ, this, Nat.pow_succ]
  rw [Nat.mul_add, ← Nat.add_assoc]
  congr 1
  simp only [Nat.mul_assoc, Nat.mul_comm, Nat.mul_left_comm]
theorem ae4 (bs : List Nat) (h : ∀ b ∈ bs, b < 256) (i : Nat) (hi : i ≤ bs.length) : bW (bs.take i) < 256 ^ i := by
 have := oD (bs.take i) (fun b hb => h b (List.mem_of_mem_take hb))
 rwa [List.length_take, Nat.min_eq_left hi] at this
theorem ah8 (n i : Nat) : lim n (i / 8) / 2 ^ (8 * (i % 8)) % 256 = n / 256 ^ i % 256 := by
 unfold lim
 have e : 256 ^ i = WW ^ (i / 8) * 2 ^ (8 * (i % 8)) := by
  rw [agB, show (2 : Nat) ^ (8 * (i % 8)) = 256 ^ (i % 8) by rw [show (256 : Nat) = 2 ^ 8 by decide, ← Nat.pow_mul], ← Nat.pow_add, Nat.div_add_mod]
 rw [e, ← Nat.div_div_eq_div_mul]
 have hm : i % 8 < 8 := Nat.mod_lt _ (by decide)
 generalize n / WW ^ (i / 8) = q
 have : i % 8 = 0 ∨ i % 8 = 1 ∨ i % 8 = 2 ∨ i % 8 = 3 ∨ i % 8 = 4 ∨ i % 8 = 5 ∨ i % 8 = 6 ∨ i % 8 = 7 := by omega
 rcases this with h1 | h1 | h1 | h1 | h1 | h1 | h1 | h1 <;> rw [h1] <;> simp only [WW, Nat.reducePow, Nat.reduceMul] <;> omega
end
end Go.Proofs.YtehfkbaendajbaaGreatDoor
