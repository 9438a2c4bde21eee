/-
  Shared, part 54: walks and plain laws; each theorem states its own conditions.
-/
import Derived.Test.YtehfkbaendajbaaGreatDoorB35
import Derived.Test.YtehfkbaendajbaaGreatDoorB45
import Derived.Test.YtehfkbaendajbaaGreatDoorB53
import Derived.IntWalk
import Derived.Lib.Hide
import Derived.StillTailTactics
namespace Go.Proofs.YtehfkbaendajbaaGreatDoor
set_option linter.unusedSimpArgs false
set_option linter.unusedVariables false
set_option maxRecDepth 100000
set_option maxHeartbeats 8000000
section
open Go.RowKit Go.Proofs.YtehfkbaendajbaaGreatDoorW.PrintLast
theorem aqz (A0 A1 A2 : Option Addr) (c0 c1 c2 n : Nat) (b0 b1 b2 M : List Nat) (hM : M = b0 ++ (b1 ++ b2)) (hn : n = M.length) (hl : b0.length + (b1.length + b2.length) ≤ 2000000) (w : World) (hr0 : Rd w .u8 A0 b0) (hr1 : Rd w .u8 A1 b1) (hr2 : Rd w .u8 A2 b2) :
 Calls Tryz.prog 33 #[.slice A0 b0.length c0, .slice A1 b1.length c1, .slice A2 b2.length c2] w fun e w' => (∃ A c, e = .returned (.slice A n c) ∧ Rd w' .u8 A M) ∧ Below w.heap.size w w' := by
 have HR0 := Lib.hid hr0
 have HR1 := Lib.hid hr1
 have HR2 := Lib.hid hr2
 have HM := Lib.hid (And.intro hM (And.intro hn hl))
 clear hr0 hr1 hr2 hM hn hl
 go_enter Tryz.func33, Tryz.ntmps33
 go_wp2_with (at_builtin; refine bH (.tmp 8) (.tmp 9) rfl rfl w.heap.size (.slice none 0 0) [] b0 A0 b0.length c0 rfl rfl rfl (gu.nil _ _) HR0.out (by have := HM.out.2.2; simp; omega) (Nat.le_refl _) ?_)
 intro v1 w1 hrow1 hgrow1 lI
 have H1 : Hid (Below w.heap.size w w1 ∧ gu w1 w.heap.size v1 b0) := Lib.hid ⟨Below.grown (Below.refl _ _) hgrow1 (Nat.le_refl _) (fun k h => by simp [Value.ownBlock] at h), hrow1⟩
 clear hrow1 hgrow1 lI
 go_wp2_with (at_builtin; refine bH (.tmp 10) (.tmp 11) rfl rfl w.heap.size v1 b0 b1 A1 b1.length c1 rfl rfl rfl H1.out.2 (Rd.mono HR1.out H1.out.1 (Nat.le_refl _)) (by have := HM.out.2.2; omega) H1.out.1.size ?_)
 intro v2 w2 hrow2 hgrow2 wR
 have H2 : Hid (Below w.heap.size w w2 ∧ gu w2 w.heap.size v2 (b0 ++ b1)) := Lib.hid ⟨Below.grown H1.out.1 hgrow2 H1.out.1.size (fun k h => (H1.out.2.amm k h).1), hrow2⟩
 clear hrow2 hgrow2 wR H1
 go_wp2_with (at_builtin; refine bH (.tmp 12) (.tmp 13) rfl rfl w.heap.size v2 (b0 ++ b1) b2 A2 b2.length c2 rfl rfl rfl H2.out.2 (Rd.mono HR2.out H2.out.1 (Nat.le_refl _)) (by have := HM.out.2.2; rw [List.length_append]; omega) H2.out.1.size ?_)
 intro v3 w3 hrow3 hgrow3 alL
 have HE : Hid ((∃ A c, v3 = .slice A n c ∧ Rd w3 .u8 A M) ∧ Below w.heap.size w w3) := Lib.hid (by
  refine ⟨?_, Below.grown H2.out.1 hgrow3 H2.out.1.size (fun k h => (H2.out.2.amm k h).1)⟩
  obtain ⟨A, c, rfl, _⟩ := hrow3.form
  have hm : b0 ++ (b1 ++ b2) = M := HM.out.1.symm
  rw [hm] at hrow3 ⊢
  rw [← HM.out.2.1] at hrow3 ⊢
  exact ⟨A, c, rfl, hrow3.rdA⟩)
 clear hrow3 hgrow3 alL H2
 go_wp2_with fail
 obtain ⟨⟨A, c, rfl, hrd⟩, hbel⟩ := HE.out
 exact bodyPost_ret (v := .slice A n c) (by simp [results, Tryz.results33, go_sem]) rfl ⟨⟨A, c, rfl, hrd⟩, hbel⟩
theorem apc (A : Option Addr) (c : Nat) (H R : List Nat) (hl : H.length = 64) (hby : ∀ z ∈ H, z < 256) (hR : R = dw 32 (bW H % LO)) (w : World) (hr : Rd w .u8 A H) : Calls Tryz.prog 70 #[.slice A 64 c] w fun e w' => (∃ b, e = .returned (.tuple #[.slice (some ⟨b, 0, none⟩) 32 32, .int .i64 0]) ∧ Rd w' .u8 (some ⟨b, 0, none⟩) R) ∧ Below w.heap.size w w' := by
 subst hR
 have h := aoa A c H hby (by omega) w hr
 rw [hl] at h
 exact h
theorem aoU (A : Option Addr) (c n : Nat) (M R : List Nat) (hn : n = M.length) (hl : M.length ≤ 1048576) (hby : ∀ z ∈ M, z < 256) (hR : R = dw 32 (ab3 M)) (w : World) (hr : Rd w .u8 A M) :
 Calls Tryz.prog 32 #[.slice A n c] w fun e w' => (∃ b, e = .returned (.slice (some ⟨b, 0, none⟩) 32 32) ∧ Rd w' .u8 (some ⟨b, 0, none⟩) R) ∧ Below w.heap.size w w' := by
 subst hn
 obtain ⟨H, hH⟩ : ∃ z, z = Ai aV M := ⟨_, rfl⟩
 have HH : Hid (H = Ai aV M ∧ H.length = 64 ∧ (∀ z ∈ H, z < 256) ∧ R = dw 32 (bW H % LO)) := Lib.hid ⟨hH, by rw [hH]; exact Ce _, by rw [hH]; exact NH _, by rw [hR, hH]; rfl⟩
 have HR := Lib.hid hr
 have HL := Lib.hid (And.intro hl hby)
 clear hr hl hby hH hR
 go_enter Tryz.func32, Tryz.ntmps32
 go_wp2_with fail
 refine (alc A c M HL.out.1 HL.out.2 _ HR.out).mono ?_
 rintro e x1 ⟨⟨hv, rfl, hrow⟩, hb1⟩
 have HB1 : Hid (Below w.heap.size w x1) := Below.trans (pl (Below.refl _ _)) (hb1.mono sz)
 have hz1 := HB1.out.size
 clear hb1
 rw [← HH.out.1] at hrow
 obtain ⟨qh, ch, rfl, _, _, _, hrd⟩ := hrow.am6 (n := 64) HH.out.2.1 (by decide)
 have HRH := Lib.hid hrd
 clear hrd hrow
 go_wp2_with fail
 refine (apc (some ⟨qh, 0, none⟩) ch H R HH.out.2.1 HH.out.2.2.1 HH.out.2.2.2 _ HRH.out).mono ?_
 rintro e x2 ⟨⟨qb, rfl, hrb⟩, hb2⟩
 have HB2 := aZ HB1.out hb2
 have hz2 := HB2.out.size
 clear hb2
 have HRB := Lib.hid hrb
 clear hrb
 go_wp2_with fail
 exact bodyPost_ret (v := .slice (some ⟨qb, 0, none⟩) 32 32) (by simp [results, Tryz.results32, go_sem]) rfl ⟨⟨qb, rfl, HRB.out⟩, pl HB2.out⟩
end
section
open Go.RowKit Go.Proofs.YtehfkbaendajbaaGreatDoorW.PrintLast
theorem ao2 (p : Dp) (P : EP) (F : List Nat) (hp : p.of P) (hF : F = iM P) (w : World) (kp : p.ok w) : Calls Tryz.prog 21 #[p.v] w fun e w' => (∃ b, w.heap.size ≤ b ∧ e = .returned (.slice (some ⟨b, 0, none⟩) 32 32) ∧ w'.heap[b]? = some (.cells (bF F) 5)) ∧ Below w.heap.size w w' := by
 subst hF
 exact MK p P hp w kp
theorem am0 (A0 A1 A2 : Option Addr) (c0 c1 c2 k0 k1 k2 n : Nat) (b0 b1 b2 M : List Nat) (h0 : b0.length = k0) (h1 : b1.length = k1) (h2 : b2.length = k2) (hM : M = b0 ++ (b1 ++ b2)) (hn : M.length = n) (hl : k0 + (k1 + k2) ≤ 2000000) (w : World) (hr0 : Rd w .u8 A0 b0) (hr1 : Rd w .u8 A1 b1) (hr2 : Rd w .u8 A2 b2) :
 Calls Tryz.prog 33 #[.slice A0 k0 c0, .slice A1 k1 c1, .slice A2 k2 c2] w fun e w' => (∃ A c, e = .returned (.slice A n c) ∧ Rd w' .u8 A M) ∧ Below w.heap.size w w' := by
 subst h0 h1 h2 hn
 exact aqz A0 A1 A2 c0 c1 c2 _ b0 b1 b2 M hM rfl hl w hr0 hr1 hr2
theorem anK (A : Option Addr) (c n : Nat) (M R : List Nat) (hn : M.length = n) (hl : n ≤ 1048576) (hby : ∀ z ∈ M, z < 256) (hR : R = dw 32 (ab3 M)) (w : World) (hr : Rd w .u8 A M) :
 Calls Tryz.prog 32 #[.slice A n c] w fun e w' => (∃ b, e = .returned (.slice (some ⟨b, 0, none⟩) 32 32) ∧ Rd w' .u8 (some ⟨b, 0, none⟩) R) ∧ Below w.heap.size w w' := by
 subst hn
 exact aoU A c _ M R rfl hl hby hR w hr
end
end Go.Proofs.YtehfkbaendajbaaGreatDoor
