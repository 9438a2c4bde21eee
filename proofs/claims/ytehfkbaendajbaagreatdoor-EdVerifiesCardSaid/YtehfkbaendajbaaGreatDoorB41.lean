/-
  Shared, part 41: walks and plain laws; each theorem states its own conditions.
-/
import Derived.Test.YtehfkbaendajbaaGreatDoorB33
namespace Go.Proofs.YtehfkbaendajbaaGreatDoor
set_option linter.unusedSimpArgs false
set_option linter.unusedVariables false
set_option maxRecDepth 100000
set_option maxHeartbeats 8000000
section
open Go.RowKit Go.Proofs.YtehfkbaendajbaaGreatDoorW.PrintLast
theorem afX {n : Nat} {bs : List Nat} (h : ∀ b ∈ bs, b < 256) (hl : bs.length ≤ n) : bW bs < 256 ^ n := Nat.lt_of_lt_of_le (oD bs h) (Nat.pow_le_pow_right (by decide) hl)
theorem akz {bs : List Nat} (h : ∀ b ∈ bs, b < 256) (hl : bs.length ≤ 64) : bW bs < LO * 2 ^ 321 := Nat.lt_trans (afX h hl) (by decide +kernel)
theorem akV (x N : Nat) (hx : x < LO * 2 ^ 321) (hN : N = x % LO) (w : World) (ho : DW w) : Calls Tryz.prog 46 #[Lv x] w fun e w' => e = .returned (Lv N) ∧ Below w.heap.size w w' := by
 subst hN
 exact aiA x hx w ho
theorem ado (A : Option Addr) (c L N : Nat) (bs : List Nat) (hby : ∀ b ∈ bs, b < 256) (hl : bs.length ≤ 64) (hL : L = bs.length) (hN : N = bW bs) (w : World) (hr : Rd w .u8 A bs) : Calls Tryz.prog 43 #[.slice A L c] w fun e w' => e = .returned (Lv N) ∧ Below w.heap.size w w' := by
 subst hN
 subst hL
 exact aiv A c bs hby hl w hr
theorem akh (A : Option Addr) (c : Nat) (bs : List Nat) (hby : ∀ b ∈ bs, b < 256) (hl : bs.length ≤ 64) (w : World) (hr : Rd w .u8 A bs) (ho : DW w) :
 Calls Tryz.prog 41 #[.slice A bs.length c] w fun e w' => (∃ b, w.heap.size ≤ b ∧ e = .returned (.tuple #[.slice (some ⟨b, 0, none⟩) 32 32, .int .i64 0]) ∧ w'.heap[b]? = some (.cells (bF (dw 32 (bW bs % LO))) 5)) ∧ Below w.heap.size w w' := by
 have HR := Lib.hid hr
 have HO := Lib.hid ho
 have rV := Lib.hid hby
 have HL := Lib.hid hl
 obtain ⟨L, hL⟩ : ∃ L, L = bs.length := ⟨_, rfl⟩
 obtain ⟨N, hN⟩ : ∃ N, N = bW bs := ⟨_, rfl⟩
 obtain ⟨M, hM⟩ : ∃ M, M = N % LO := ⟨_, rfl⟩
 have HN := Lib.hid (show L = bs.length ∧ N = bW bs ∧ M = N % LO ∧ N < LO * 2 ^ 321 by rw [hM, hN, hL]; exact ⟨rfl, rfl, rfl, akz hby hl⟩)
 have hlz : (L : Int) ≤ 64 := by omega
 have al5 : ¬ (64 : Int) < (L : Int) := by omega
 have hd : decide ((64 : Int) < (L : Int)) = false := decide_eq_false al5
 have hd2 : decide (64 < L) = false := decide_eq_false (by omega)
 rw [← hL, ← hN, ← hM]
 clear hr ho hby hl hL hN hM hlz
 go_enter Tryz.func41, Tryz.ntmps41
 go_wp2_with fail
 refine (ado A c L N bs rV.out HL.out HN.out.1 HN.out.2.1 _ (HR.out.mono (pl (Below.refl _ _)) (Nat.le_refl _))).mono ?_
 rintro e x1 ⟨rfl, hb1⟩
 have HB1 : Hid (Below w.heap.size w x1) := Below.trans (pl (Below.refl _ _)) (hb1.mono sz)
 have hz1 := HB1.out.size
 replace HO := Lib.hid (HO.out.next (bt hb1))
 clear hb1
 go_wp2_with fail
 refine (akV N M HN.out.2.2.2 HN.out.2.2.1 _ (HO.out.next (pl (Below.refl _ _)))).mono ?_
 rintro e x2 ⟨rfl, hb2⟩
 have HB2 := aZ HB1.out hb2
 have hz2 := HB2.out.size
 clear hb2
 go_wp2_with fail
 refine (acN M _).mono ?_
 rintro e x3 ⟨⟨b, hge, rfl, hrd⟩, hb3⟩
 have HGE := Lib.hid (Nat.le_trans HB2.out.size (show x2.heap.size ≤ b by (try simp only [eF] at hge); omega))
 clear hge
 have HB3 := aZ HB2.out hb3
 have hz3 := HB3.out.size
 clear hb3
 have fM := Lib.hid hrd
 clear hrd
 go_wp2_with fail
 refine bodyPost_ret (v := .tuple #[.slice (some ⟨b, 0, none⟩) 32 32, .int .i64 0]) ?_ rfl ⟨⟨b, HGE.out, rfl, fM.out⟩, (pl HB3.out)⟩
 · simp [results, Tryz.results41, go_sem]
theorem agK (A : Option Addr) (c : Nat) (bs : List Nat) (hby : ∀ b ∈ bs, b < 256) (hl : bs.length = 32) (w : World) (hr : Rd w .u8 A bs) (ho : DW w) :
 Calls Tryz.prog 26 #[.slice A bs.length c] w fun e w' => e = .returned (.int .i64 (if bW bs < LO then 0 else 31)) ∧ Below w.heap.size w w' := by
 have HR := Lib.hid hr
 have HO := Lib.hid ho
 have rV := Lib.hid hby
 have HL := Lib.hid hl
 obtain ⟨N, hN⟩ : ∃ N, N = bW bs := ⟨_, rfl⟩
 have HN := Lib.hid (show N = bW bs ∧ N < WW ^ 9 by rw [hN]; exact ⟨rfl, Nat.lt_trans (afX hby (Nat.le_of_eq hl)) (by decide +kernel)⟩)
 have HLO := Lib.hid (show LO < WW ^ 9 by decide +kernel)
 have HLL := Lib.hid (show bs.length ≤ 64 by omega)
 obtain ⟨o, hoo⟩ : ∃ o, o = LO := ⟨_, rfl⟩
 obtain ⟨er, her⟩ : ∃ er : Int, er = if bW bs < LO then 0 else 31 := ⟨_, rfl⟩
 rw [← her]
 have HER := Lib.hid her
 rw [hl]
 clear hr ho hby hl hN her
 go_enter Tryz.func26, Tryz.ntmps26
 go_wp2_with fail
 obtain ⟨v, hv⟩ : ∃ v, v = w.alloc (.cells #[.int .u64 0, .int .u64 0, .int .u64 0, .int .u64 0, .int .u64 0, .int .u64 0, .int .u64 0, .int .u64 0, .int .u64 0] 66) := ⟨_, rfl⟩
 have hv2 : v.heap[w.heap.size]? = some (.cells #[.int .u64 0, .int .u64 0, .int .u64 0, .int .u64 0, .int .u64 0, .int .u64 0, .int .u64 0, .int .u64 0, .int .u64 0] 66) := by rw [hv]; exact ob
 have HVO : DW v := by rw [hv]; exact HO.out.next (pl (Below.refl _ _))
 rw [← hv]
 have hcp := fun ty => agD v.drew w.heap.size 0 9 9 (by decide) (.inr rfl) hv2 (fun j hj => HVO j hj) ty
 rw [anP, ← hoo, alS o] at hcp
 have HVV := Lib.hid (And.intro hv hoo)
 clear HVO hv2 hv hoo
 refine wp_region_still_tail 2 (by kernel_rfl) (by kernel_rfl) ?_
 simp only [List.take_succ_cons, List.take_zero, List.drop_succ_cons, List.drop_zero, World.drew_eq]
 (repeat still_step)
 refine wpStill_nil ?_
 go_wp2_with fail
 have hv := HVV.out.1
 subst hv
 clear hcp
 by_cases hlt : N < o
 · have HBe := Lib.hid (ad1 N o true HN.out.2 (by rw [HVV.out.2]; exact HLO.out) (decide_eq_true hlt))
   have aC := Lib.hid (show bW bs < LO by rw [← HN.out.1, ← HVV.out.2]; exact hlt)
   clear hlt
   refine st1 w [] 5 (ak (b := w.heap.size) ob (aO (pl (Below.refl _ _)))) (fun HS => ?_)
   refine tk1 0 (some 10) HS (h := ?_)
   refine tk1 2 (some 12) HS (h := ?_)
   refine dH 1 (some 11) (h := fun K hK => ?_)
   go_simp
   refine (ado A c 32 N bs rV.out HLL.out HL.out.symm HN.out.1 _ (HR.out.mono HS.1 (Nat.le_refl _))).mono ?_
   rintro e y ⟨rfl, hb⟩
   refine hK.out _ _ (HS.step hb rfl) ?_
   clear HS hb
   intro HS
   refine dH 3 (some 13) (h := fun K hK => ?_)
   go_simp
   refine (HBe.out _).mono ?_
   rintro e y ⟨rfl, hb⟩
   refine hK.out _ _ (HS.step hb rfl) ?_
   clear HS hb
   intro HS
   refine tk1 4 (some 14) HS (h := ?_)
   obtain ⟨x1, rfl, hk1, hz1, l10⟩ := HS.jE
   have HB1 : Hid (Below w.heap.size w x1) := hk1.below
   clear HS hk1
   refine done_ (by kernel_rfl) ?_
   go_wp2_with fail
   have her : er = 0 := by rw [HER.out, if_pos aC.out]
   subst her
   go_ret
   exact ⟨rfl, (pl HB1.out)⟩
 · have HBe := Lib.hid (ad1 N o false HN.out.2 (by rw [HVV.out.2]; exact HLO.out) (decide_eq_false hlt))
   have aC := Lib.hid (show ¬ bW bs < LO by rw [← HN.out.1, ← HVV.out.2]; exact hlt)
   clear hlt
   refine st1 w [] 5 (ak (b := w.heap.size) ob (aO (pl (Below.refl _ _)))) (fun HS => ?_)
   refine tk1 0 (some 10) HS (h := ?_)
   refine tk1 2 (some 12) HS (h := ?_)
   refine dH 1 (some 11) (h := fun K hK => ?_)
   go_simp
   refine (ado A c 32 N bs rV.out HLL.out HL.out.symm HN.out.1 _ (HR.out.mono HS.1 (Nat.le_refl _))).mono ?_
   rintro e y ⟨rfl, hb⟩
   refine hK.out _ _ (HS.step hb rfl) ?_
   clear HS hb
   intro HS
   refine dH 3 (some 13) (h := fun K hK => ?_)
   go_simp
   refine (HBe.out _).mono ?_
   rintro e y ⟨rfl, hb⟩
   refine hK.out _ _ (HS.step hb rfl) ?_
   clear HS hb
   intro HS
   refine tk1 4 (some 14) HS (h := ?_)
   obtain ⟨x1, rfl, hk1, hz1, l10⟩ := HS.jE
   have HB1 : Hid (Below w.heap.size w x1) := hk1.below
   clear HS hk1
   refine done_ (by kernel_rfl) ?_
   go_wp2_with fail
   have her : er = 31 := by rw [HER.out, if_neg aC.out]
   subst her
   go_ret
   exact ⟨rfl, (pl HB1.out)⟩
end
section
open Go.RowKit Go.Proofs.YtehfkbaendajbaaGreatDoorW.PrintLast
theorem aoE (A : Option Addr) (c L N : Nat) (bs : List Nat) (hby : ∀ b ∈ bs, b < 256) (hl : bs.length ≤ 64) (hL : L = bs.length) (hN : N = bW bs) (w : World) (hr : Rd w .u8 A bs) : Calls Tryz.prog 67 #[.slice A L c] w fun e w' => (∃ A' c', e = .returned (.slice A' (aB (N)).length c') ∧ Dn w' A' c' (N)) ∧ Below w.heap.size w w' := by
 subst hN
 subst hL
 exact qH A c bs hby (Nat.le_trans hl (by decide)) w hr
theorem ao3 (A : Option Addr) (c X Z : Nat) (hsz : (aB X).length ≤ 1000000) (hz : Z = X % LO) (w : World) (hX : Dn w A c X) : Calls Tryz.prog 97 #[.slice A (aB X).length c] w fun e w' => (∃ A' c', e = .returned (.slice A' (aB (Z)).length c') ∧ Dn w' A' c' (Z)) ∧ Below w.heap.size w w' := by
 subst hz
 exact aob A c X hsz w hX
theorem am1 {n : Nat} (h : n < 256 ^ 64) : (aB n).length ≤ 1000000 := Nat.le_trans (dK (k := 32) (by rw [show BB ^ 32 = 256 ^ 64 by decide +kernel]; exact h)) (by decide)
theorem apa {n : Nat} (h : n < LO) : n < BB ^ 16 := Nat.lt_trans h (by decide)
theorem aoa (A : Option Addr) (c : Nat) (bs : List Nat) (hby : ∀ b ∈ bs, b < 256) (hl : bs.length ≤ 64) (w : World) (hr : Rd w .u8 A bs) :
 Calls Tryz.prog 70 #[.slice A bs.length c] w fun e w' => (∃ b, e = .returned (.tuple #[.slice (some ⟨b, 0, none⟩) 32 32, .int .i64 0]) ∧ Rd w' .u8 (some ⟨b, 0, none⟩) (dw 32 (bW bs % LO))) ∧ Below w.heap.size w w' := by
 have HR := Lib.hid hr
 have rV := Lib.hid hby
 have HL := Lib.hid hl
 obtain ⟨L, hL⟩ : ∃ L, L = bs.length := ⟨_, rfl⟩
 obtain ⟨N, hN⟩ : ∃ N, N = bW bs := ⟨_, rfl⟩
 obtain ⟨M, hM⟩ : ∃ M, M = N % LO := ⟨_, rfl⟩
 have HN := Lib.hid (show L = bs.length ∧ N = bW bs ∧ M = N % LO ∧ (aB N).length ≤ 1000000 ∧ M < BB ^ 16 by rw [hM, hN, hL]; exact ⟨rfl, rfl, rfl, am1 (afX hby hl), apa (Nat.mod_lt _ (by decide))⟩)
 have al5 : ¬ (64 : Int) < (L : Int) := by omega
 have hd2 : decide (64 < L) = false := decide_eq_false (by omega)
 rw [← hL, ← hN, ← hM]
 clear hr hby hl hL hN hM
 go_enter Tryz.func70, Tryz.ntmps70
 go_wp2_with fail
 refine (aoE A c L N bs rV.out HL.out HN.out.1 HN.out.2.1 _ (HR.out.mono (pl (Below.refl _ _)) (Nat.le_refl _))).mono ?_
 rintro e x1 ⟨⟨A1, c1, rfl, hd1⟩, hb1⟩
 have HB1 : Hid (Below w.heap.size w x1) := Below.trans (pl (Below.refl _ _)) (hb1.mono sz)
 have hz1 := HB1.out.size
 clear hb1
 have HD1 := Lib.hid hd1
 clear hd1
 go_wp2_with fail
 refine (ao3 A1 c1 N M HN.out.2.2.2.1 HN.out.2.2.1 _ (HD1.out.next (pl (Below.refl _ _)))).mono ?_
 rintro e x2 ⟨⟨A2, c2, rfl, aoi⟩, hb2⟩
 have HB2 := aZ HB1.out hb2
 have hz2 := HB2.out.size
 clear hb2
 have HD2 := Lib.hid aoi
 clear aoi
 go_wp2_with fail
 refine (iE A2 c2 M HN.out.2.2.2.2 _ (HD2.out.next (pl (Below.refl _ _)))).mono ?_
 rintro e x3 ⟨⟨b, rfl, hrd⟩, hb3⟩
 have HB3 := aZ HB2.out hb3
 have hz3 := HB3.out.size
 clear hb3
 have fM := Lib.hid hrd
 clear hrd
 go_wp2_with fail
 refine bodyPost_ret (v := .tuple #[.slice (some ⟨b, 0, none⟩) 32 32, .int .i64 0]) ?_ rfl ⟨⟨b, rfl, fM.out⟩, (pl HB3.out)⟩
 · simp [results, Tryz.results70, go_sem]
theorem apD (A : Option Addr) (c : Nat) (bs : List Nat) (hby : ∀ b ∈ bs, b < 256) (hl : bs.length = 32) (w : World) (hr : Rd w .u8 A bs) :
 Calls Tryz.prog 31 #[.slice A bs.length c] w fun e w' => e = .returned (.int .i64 (if bW bs < LO then 0 else 31)) ∧ Below w.heap.size w w' := by
 have HR := Lib.hid hr
 have rV := Lib.hid hby
 have HL := Lib.hid hl
 obtain ⟨N, hN⟩ : ∃ N, N = bW bs := ⟨_, rfl⟩
 have HN := Lib.hid (show N = bW bs ∧ (aB N).length ≤ 1000000 by rw [hN]; exact ⟨rfl, am1 (afX hby (by omega))⟩)
 have HLL := Lib.hid (show bs.length ≤ 64 by omega)
 obtain ⟨l, hl'⟩ : ∃ l, l = LO := ⟨_, rfl⟩
 have HLO := Lib.hid hl'
 obtain ⟨er, her⟩ : ∃ er : Int, er = if bW bs < LO then 0 else 31 := ⟨_, rfl⟩
 rw [← her]
 have HER := Lib.hid her
 rw [hl]
 clear hr hby hl hN her hl'
 by_cases hlt : N < l
 · have aC := Lib.hid hlt
   have her : er = 0 := by rw [HER.out, if_pos (by rw [← HN.out.1, ← HLO.out]; exact hlt)]
   subst her
   clear hlt
   go_enter Tryz.func31, Tryz.ntmps31
   go_wp2_with fail
   refine (aoE A c 32 N bs rV.out HLL.out HL.out.symm HN.out.1 _ (HR.out.mono (pl (Below.refl _ _)) (Nat.le_refl _))).mono ?_
   rintro e x1 ⟨⟨A1, c1, rfl, hd1⟩, hb1⟩
   have HB1 : Hid (Below w.heap.size w x1) := Below.trans (pl (Below.refl _ _)) (hb1.mono sz)
   have hz1 := HB1.out.size
   clear hb1
   have HD1 := Lib.hid hd1
   clear hd1
   go_wp2_with fail
   refine (afR l HLO.out _).mono ?_
   rintro e x2 ⟨⟨A2, c2, rfl, aoi⟩, hb2⟩
   have HB2 := aZ HB1.out hb2
   have hz2 := HB2.out.size
   replace HD1 := Lib.hid (HD1.out.next (bt hb2))
   clear hb2
   have HD2 := Lib.hid aoi
   clear aoi
   go_wp2_with fail
   refine (am2 A1 A2 c1 c2 N l true HN.out.2 (decide_eq_true aC.out) _ (HD1.out.next (pl (Below.refl _ _))) (HD2.out.next (pl (Below.refl _ _)))).mono ?_
   rintro e x3 ⟨rfl, hb3⟩
   have HB3 := aZ HB2.out hb3
   have hz3 := HB3.out.size
   clear hb3
   go_wp2_with fail
   go_ret
   exact ⟨rfl, (pl HB3.out)⟩
 · have aC := Lib.hid hlt
   have her : er = 31 := by rw [HER.out, if_neg (by rw [← HN.out.1, ← HLO.out]; exact hlt)]
   subst her
   clear hlt
   go_enter Tryz.func31, Tryz.ntmps31
   go_wp2_with fail
   refine (aoE A c 32 N bs rV.out HLL.out HL.out.symm HN.out.1 _ (HR.out.mono (pl (Below.refl _ _)) (Nat.le_refl _))).mono ?_
   rintro e x1 ⟨⟨A1, c1, rfl, hd1⟩, hb1⟩
   have HB1 : Hid (Below w.heap.size w x1) := Below.trans (pl (Below.refl _ _)) (hb1.mono sz)
   have hz1 := HB1.out.size
   clear hb1
   have HD1 := Lib.hid hd1
   clear hd1
   go_wp2_with fail
   refine (afR l HLO.out _).mono ?_
   rintro e x2 ⟨⟨A2, c2, rfl, aoi⟩, hb2⟩
   have HB2 := aZ HB1.out hb2
   have hz2 := HB2.out.size
   replace HD1 := Lib.hid (HD1.out.next (bt hb2))
   clear hb2
   have HD2 := Lib.hid aoi
   clear aoi
   go_wp2_with fail
   refine (am2 A1 A2 c1 c2 N l false HN.out.2 (decide_eq_false aC.out) _ (HD1.out.next (pl (Below.refl _ _))) (HD2.out.next (pl (Below.refl _ _)))).mono ?_
   rintro e x3 ⟨rfl, hb3⟩
   have HB3 := aZ HB2.out hb3
   have hz3 := HB3.out.size
   clear hb3
   go_wp2_with fail
   go_ret
   exact ⟨rfl, (pl HB3.out)⟩
end
end Go.Proofs.YtehfkbaendajbaaGreatDoor
