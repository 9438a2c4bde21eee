/-
  Shared, part 54: walks and plain laws; each theorem states its own conditions.
-/
import Derived.Test.YtehfkbaendajbaaGreatDoorA35
import Derived.Test.YtehfkbaendajbaaGreatDoorA45
import Derived.Test.YtehfkbaendajbaaGreatDoorA53
import Derived.IntWalk
import Derived.Lib.Hide
import Derived.StillTailTactics
namespace Go.Proofs.YtehfkbaendajbaaGreatDoor
set_option linter.unusedSimpArgs false
set_option linter.unusedVariables false
set_option maxRecDepth 100000
set_option maxHeartbeats 8000000
section
open Go.RowKit Go.Proofs.YtehfkbaendajbaaGreatDoorW.PrintLast
theorem aqz (A0 A1 A2 : Option Addr) (c0 c1 c2 n : Nat) (b0 b1 b2 M : List Nat) (hM : M = b0 ++ (b1 ++ b2)) (hn : n = M.length) (hl : b0.length + (b1.length + b2.length) ≤ 2000000) (w : World) (hr0 : Rd w .u8 A0 b0) (hr1 : Rd w .u8 A1 b1) (hr2 : Rd w .u8 A2 b2) :
 Calls Tryz.prog 33 #[.slice A0 b0.length c0, .slice A1 b1.length c1, .slice A2 b2.length c2] w fun e w' => (∃ A c, e = .returned (.slice A n c) ∧ Rd w' .u8 A M) ∧ Below w.heap.size w w' := by
 have HR0 := Lib.hid hr0
 have HR1 := Lib.hid hr1
 have HR2 := Lib.hid hr2
 have HM := Lib.hid (And.intro hM (And.intro hn hl))
 clear hr0 hr1 hr2 hM hn hl
 go_enter Tryz.func33, Tryz.ntmps33
 go_wp2_with (at_builtin; refine bH (.tmp 8) (.tmp 9) rfl rfl w.heap.size (.slice none 0 0) [] b0 A0 b0.length c0 rfl rfl rfl (gu.nil _ _) HR0.out (by have := HM.out.2.2; simp; omega) (Nat.le_refl _) ?_)
 intro v1 w1 hrow1 hgrow1 lI
 have H1 : Hid (Below w.heap.size w w1 ∧ gu w1 w.heap.size v1 b0) := Lib.hid ⟨Below.grown (Below.refl _ _) hgrow1 (Nat.le_refl _) (fun k h => by simp [Value.ownBlock] at h), hrow1⟩
 clear hrow1 hgrow1 lI
 go_wp2_with (at_builtin; refine bH (.tmp 10) (.tmp 11) rfl rfl w.heap.size v1 b0 b1 A1 b1.length c1 rfl rfl rfl H1.out.2 (Rd.mono HR1.out H1.out.1 (Nat.le_refl _)) (by have := HM.out.2.2; omega) H1.out.1.size ?_)
 intro v2 w2 hrow2 hgrow2 wR
 have H2 : Hid (Below w.heap.size w w2 ∧ gu w2 w.heap.size v2 (b0 ++ b1)) := Lib.hid ⟨Below.grown H1.out.1 hgrow2 H1.out.1.size (fun k h => (H1.out.2.amm k h).1), hrow2⟩
 clear hrow2 hgrow2 wR H1
 go_wp2_with (at_builtin; refine bH (.tmp 12) (.tmp 13) rfl rfl w.heap.size v2 (b0 ++ b1) b2 A2 b2.length c2 rfl rfl rfl H2.out.2 (Rd.mono HR2.out H2.out.1 (Nat.le_refl _)) (by have := HM.out.2.2; rw [List.length_append]; omega) H2.out.1.size ?_)
 intro v3 w3 hrow3 hgrow3 alL
 have HE : Hid ((∃ A c, v3 = .slice A n c ∧ Rd w3 .u8 A M) ∧ Below w.heap.size w w3) := Lib.hid (by
  refine ⟨?_, Below.grown H2.out.1 hgrow3 H2.out.1.size (fun k h => (H2.out.2.amm k h).1)⟩
  obtain ⟨A, c, rfl, _⟩ := hrow3.form
  have hm : b0 ++ (b1 ++ b2) = M := HM.out.1.symm
  rw [hm] at hrow3 ⊢
  rw [← HM.out.2.1] at hrow3 ⊢
  exact ⟨A, c, rfl, hrow3.rdA⟩)
 clear hrow3 hgrow3 alL H2
 go_wp2_with fail
 obtain ⟨⟨A, c, rfl, hrd⟩, hbel⟩ := HE.out
 exact bodyPost_ret (v := .slice A n c) (by simp [results, Tryz.results33, go_sem]) rfl ⟨⟨A, c, rfl, hrd⟩, hbel⟩
theorem apc (A : Option Addr) (c : Nat) (H R : List Nat) (hl : H.length = 64) (hby : ∀ z ∈ H, z < 256) (hR : R = dw 32 (bW H % LO)) (w : World) (hr : Rd w .u8 A H) : Calls Tryz.prog 70 #[.slice A 64 c] w fun e w' => (∃ b, e = .returned (.tuple #[.slice (some ⟨b, 0, none⟩) 32 32, .int .i64 0]) ∧ Rd w' .u8 (some ⟨b, 0, none⟩) R) ∧ Below w.heap.size w w' := by
 subst hR
 have h := aoa A c H hby (by omega) w hr
 rw [hl] at h
 exact h
theorem aoU (A : Option Addr) (c n : Nat) (M R : List Nat) (hn : n = M.length) (hl : M.length ≤ 1048576) (hby : ∀ z ∈ M, z < 256) (hR : R = dw 32 (ab3 M)) (w : World) (hr : Rd w .u8 A M) :
 Calls Tryz.prog 32 #[.slice A n c] w fun e w' => (∃ b, e = .returned (.slice (some ⟨b, 0, none⟩) 32 32) ∧ Rd w' .u8 (some ⟨b, 0, none⟩) R) ∧ Below w.heap.size w w' := by
 subst hn
 obtain ⟨H, hH⟩ : ∃ z, z = Ai aV M := ⟨_, rfl⟩
 have HH : Hid (H = Ai aV M ∧ H.length = 64 ∧ (∀ z ∈ H, z < 256) ∧ R = dw 32 (bW H % LO)) := Lib.hid ⟨hH, by rw [hH]; exact Ce _, by rw [hH]; exact NH _, by rw [hR, hH]; rfl⟩
 have HR := Lib.hid hr
 have HL := Lib.hid (And.intro hl hby)
 clear hr hl hby hH hR
 go_enter Tryz.func32, Tryz.ntmps32
 go_wp2_with fail
 refine (alc A c M HL.out.1 HL.out.2 _ HR.out).mono ?_
 rintro e x1 ⟨⟨hv, rfl, hrow⟩, hb1⟩
 have HB1 : Hid (Below w.heap.size w x1) := Below.trans (pl (Below.refl _ _)) (hb1.mono sz)
 have hz1 := HB1.out.size
 clear hb1
 rw [← HH.out.1] at hrow
 obtain ⟨qh, ch, rfl, _, _, _, hrd⟩ := hrow.am6 (n := 64) HH.out.2.1 (by decide)
 have HRH := Lib.hid hrd
 clear hrd hrow
 go_wp2_with fail
 refine (apc (some ⟨qh, 0, none⟩) ch H R HH.out.2.1 HH.out.2.2.1 HH.out.2.2.2 _ HRH.out).mono ?_
 rintro e x2 ⟨⟨qb, rfl, hrb⟩, hb2⟩
 have HB2 := aZ HB1.out hb2
 have hz2 := HB2.out.size
 clear hb2
 have HRB := Lib.hid hrb
 clear hrb
 go_wp2_with fail
 exact bodyPost_ret (v := .slice (some ⟨qb, 0, none⟩) 32 32) (by simp [results, Tryz.results32, go_sem]) rfl ⟨⟨qb, rfl, HRB.out⟩, pl HB2.out⟩
theorem ani {H : List Nat} {i : Nat} (h : ∀ z ∈ H, z < 256) (hi : i < H.length) : H.getD i 0 < 256 := by
 rw [List.getD_eq_getElem?_getD, List.getElem?_eq_getElem hi]
 exact h _ (List.getElem_mem _)
theorem aof {cur : Array Value} {H : List Nat} {i : Nat} (hcur : ∀ i, (hi : i < H.length) → cur[i]? = some (.int .u8 ((H[i] : Nat) : Int))) (hi : i < H.length) : cur[i]? = some (.int .u8 ((H.getD i 0 : Nat) : Int)) := by
 rw [hcur i hi, List.getD_eq_getElem?_getD, List.getElem?_eq_getElem hi]
 rfl
theorem aoV (cur : Array Value) (H : List Nat) (hl : H.length = 64) (hcur : ∀ i, (hi : i < H.length) → cur[i]? = some (.int .u8 ((H[i] : Nat) : Int))) (a0 a31 : Nat) (h0 : a0 = H.getD 0 0) (h31 : a31 = H.getD 31 0) :
 (∀ i, (hi : i < (kC H).length) → ((cur.setIfInBounds 0 (.int .u8 ((a0 / 8 * 8 : Nat) : Int))).setIfInBounds 31 (.int .u8 ((a31 % 64 + 64 : Nat) : Int)))[i]? = some (.int .u8 (((kC H)[i] : Nat) : Int))) ∧
 (∀ i, (hi : i < (H.drop 32).length) → ((cur.setIfInBounds 0 (.int .u8 ((a0 / 8 * 8 : Nat) : Int))).setIfInBounds 31 (.int .u8 ((a31 % 64 + 64 : Nat) : Int)))[32 + i]? = some (.int .u8 (((H.drop 32)[i] : Nat) : Int))) := by
 have hcl : (kC H).length = 32 := AB _ hl
 have hsz : 31 < cur.size := (Array.getElem?_eq_some_iff.mp (hcur 31 (by omega))).1
 constructor
 · intro i hi
   rw [hcl] at hi
   by_cases h1 : i = 31
   · subst h1
     rw [Array.getElem?_setIfInBounds_self_of_lt (by rw [Array.size_setIfInBounds]; exact hsz)]
     subst h31
     simp only [kC, List.getElem_set_self]
   · rw [Array.getElem?_setIfInBounds_ne (Ne.symm h1)]
     by_cases h2 : i = 0
     · subst h2
       rw [Array.getElem?_setIfInBounds_self_of_lt (by omega)]
       subst h0
       simp [kC]
     · rw [Array.getElem?_setIfInBounds_ne (Ne.symm h2), hcur i (by omega)]
       simp only [kC]
       rw [List.getElem_set_ne (Ne.symm h1), List.getElem_set_ne (Ne.symm h2), List.getElem_take]
 · intro i hi
   rw [List.length_drop] at hi
   rw [Array.getElem?_setIfInBounds_ne (by omega), Array.getElem?_setIfInBounds_ne (by omega), hcur (32 + i) (by omega), List.getElem_drop]
theorem sum32 (A : Option Addr) (c : Nat) (sd H : List Nat) (hl : sd.length = 32) (hby : ∀ z ∈ sd, z < 256) (hH : H = Ai aV sd) (w : World) (hr : Rd w .u8 A sd) : Calls Tryz.prog 47 #[.slice A 32 c, .int .i64 512] w fun e w' => (∃ q cap cur, e = .returned (.tuple #[.slice (some ⟨q, 0, none⟩) 64 cap, .int .i64 0]) ∧ w.heap.size ≤ q ∧ 64 ≤ cap ∧ w'.heap[q]? = some (.cells cur 5) ∧ ∀ i, (hi : i < H.length) → cur[i]? = some (.int .u8 ((H[i] : Nat) : Int))) ∧ Below w.heap.size w w' := by
 subst hH
 have h := alc A c sd (by omega) hby w hr
 rw [hl] at h
 refine h.mono ?_
 rintro e w' ⟨⟨v, rfl, hrow⟩, hb⟩
 have h64 := Ce sd
 obtain ⟨q, cap, cur, rfl, hq, hob, hcur⟩ := gu.own hrow (by omega)
 rw [h64] at hrow
 refine ⟨⟨q, cap, cur, by rw [h64], hq, ?_, hob, hcur⟩, hb⟩
 obtain ⟨A', c', e1, e2, _⟩ := hrow.form
 cases e1
 omega
theorem anV (A : Option Addr) (c : Nat) (sd n1 n2 : List Nat) (hl : sd.length = 32) (hby : ∀ z ∈ sd, z < 256) (h1 : n1 = kC (Ai aV sd)) (h2 : n2 = (Ai aV sd).drop 32) (w : World) (hr : Rd w .u8 A sd) :
 Calls Tryz.prog 20 #[.slice A 32 c] w fun e w' => (∃ q d1 d2, e = .returned (.tuple #[.slice (some ⟨q, 0, none⟩) 32 d1, .slice (some ⟨q, 32, none⟩) 32 d2]) ∧ Rd w' .u8 (some ⟨q, 0, none⟩) n1 ∧ Rd w' .u8 (some ⟨q, 32, none⟩) n2) ∧ Below w.heap.size w w' := by
 obtain ⟨H, hH⟩ : ∃ z, z = Ai aV sd := ⟨_, rfl⟩
 have HH : Hid (H = Ai aV sd ∧ H.length = 64 ∧ (∀ z ∈ H, z < 256) ∧ n1 = kC H ∧ n2 = H.drop 32) := Lib.hid ⟨hH, by rw [hH]; exact Ce _, by rw [hH]; exact NH _, by rw [h1, hH], by rw [h2, hH]⟩
 have HR := Lib.hid hr
 have HL := Lib.hid (And.intro hl hby)
 clear hr hl hby hH h1 h2
 go_enter Tryz.func20, Tryz.ntmps20
 go_wp2_with fail
 refine (sum32 A c sd H HL.out.1 HL.out.2 HH.out.1 _ HR.out).mono ?_
 rintro e x1 ⟨⟨q, cap, cur, rfl, hq, hcap, hob, hcur⟩, hb1⟩
 have HB1 : Hid (Below w.heap.size w x1) := Below.trans (pl (Below.refl _ _)) (hb1.mono sz)
 have hz1 := HB1.out.size
 clear hb1
 obtain ⟨a0, ha0⟩ : ∃ z, z = H.getD 0 0 := ⟨_, rfl⟩
 obtain ⟨a31, aoM⟩ : ∃ z, z = H.getD 31 0 := ⟨_, rfl⟩
 have hb0 : a0 < 256 := by rw [ha0]; exact ani HH.out.2.2.1 (by have := HH.out.2.1; omega)
 have aeg : a31 < 256 := by rw [aoM]; exact ani HH.out.2.2.1 (by have := HH.out.2.1; omega)
 have hc0 : cur[0]? = some (.int .u8 (a0 : Int)) := by rw [ha0]; exact aof hcur (by have := HH.out.2.1; omega)
 have hc31 : ∀ v, (cur.setIfInBounds 0 v)[31]? = some (.int .u8 (a31 : Int)) := fun v => by rw [Array.getElem?_setIfInBounds_ne (by decide), aoM]; exact aof hcur (by have := HH.out.2.1; omega)
 have HAR := Lib.hid (aoV cur H HH.out.2.1 hcur a0 a31 ha0 aoM)
 obtain ⟨x0, rfl⟩ : ∃ x : World, x1 = x.pin q (.cells cur 5) := ⟨x1, (aN hob).symm⟩
 have hqx : q < x0.heap.size := by have := (Array.getElem?_eq_some_iff.mp hob).1; rw [aA] at this; exact this
 have HQ := Lib.hid (And.intro hq hcap)
 have auJ : (32 : Int) ≤ (cap : Int) := by omega
 have auL : ¬ cap = 32 := by omega
 clear ha0 aoM hcur hob hq hcap
 go_wp2_with fail
 have ec0 : (a0 : Int) / 8 * 8 = ((a0 / 8 * 8 : Nat) : Int) := by omega
 have ec31 : (a31 : Int) % 64 + 64 = ((a31 % 64 + 64 : Nat) : Int) := by omega
 obtain ⟨o2, ho2⟩ : ∃ z, z = Obj.cells ((cur.setIfInBounds 0 (Value.int IntKind.u8 ((a0 : Int) / 8 * 8))).setIfInBounds 31 (Value.int IntKind.u8 ((a31 : Int) % 64 + 64))) 5 := ⟨_, rfl⟩
 rw [← ho2]
 have HO : Hid (Below w.heap.size w (x0.pin q o2) ∧ ∀ x : World, q < x.heap.size → Rd (x.pin q o2) .u8 (some ⟨q, 0, none⟩) n1 ∧ Rd (x.pin q o2) .u8 (some ⟨q, 32, none⟩) n2) := Lib.hid (by
  refine ⟨Below.trans HB1.out (Jt HQ.out.1), fun x hqx => ?_⟩
  have hob : (x.pin q o2).heap[q]? = some (Obj.cells ((cur.setIfInBounds 0 (Value.int IntKind.u8 ((a0 : Int) / 8 * 8))).setIfInBounds 31 (Value.int IntKind.u8 ((a31 : Int) % 64 + 64))) 5) := (eY hqx).trans (congrArg some ho2)
  constructor
  · rw [HH.out.2.2.2.1]
    intro i hi
    refine ⟨q, 0, rfl, ?_⟩
    simp only [World.cell?, hob, ec0, ec31, Nat.zero_add]
    exact HAR.out.1 i hi
  · rw [HH.out.2.2.2.2]
    intro i hi
    refine ⟨q, 32, rfl, ?_⟩
    simp only [World.cell?, hob, ec0, ec31]
    exact HAR.out.2 i hi)
 clear ho2 ec0 ec31 hc0 hc31 HAR hb0 aeg
 have HB2 : Hid (Below w.heap.size w (x0.pin q o2)) := Lib.hid HO.out.1
 refine aac w [(q, o2)] [.is (.slice (some ⟨q, 0, none⟩) 64 cap), .is (.slice (some ⟨q, 0, none⟩) 32 cap), .is (.slice (some ⟨q, 0, none⟩) 64 cap), .is (.slice (some ⟨q, 32, none⟩) 32 (cap - 32)), .is (.slice (some ⟨q, 0, none⟩) 32 cap), .is (.slice (some ⟨q, 32, none⟩) 32 (cap - 32))] [some 25, some 26, some 27, some 28, some 2, some 3] [(4, .slice (some ⟨q, 0, none⟩) 64 cap)] 28 (ak (b := q) (eY hqx) (aO (pl HB2.out))) (fun a0 hc => ⟨abp hc [(4, none)], abp hc [(25, some 0)], abp hc [(4, none)], abp hc [(27, some 2)], abp hc [(26, some 1)], abp hc [(28, some 3)], trivial⟩) ?_ ⟨rfl, trivial⟩ (by simp) (by kernel_rfl) rfl rfl rfl rfl rfl (by kernel_rfl)
 intro ρ w' HK HO HN aC HW0
 simp only [ae7, ae8, valOf, Sp.val, List.getElem?_cons_zero, List.getElem?_cons_succ, Act.put, List.setIfInBounds_toArray, List.set_cons_zero, List.set_cons_succ]
 clear HO HN
 clear ρ
 have gI : Keeps w [(q, o2)] w' := HK
 obtain ⟨x3, rfl, hk3, hz3, nN⟩ := gI.jE
 have HB3 : Hid (Below w.heap.size w x3) := hk3.below
 clear HK aC gI hk3
 clear HW0
 go_wp2_with fail
 exact bodyPost_ret (v := .tuple #[.slice (some ⟨q, 0, none⟩) 32 cap, .slice (some ⟨q, 32, none⟩) 32 (cap - 32)]) (by simp [results, Tryz.results20, go_sem]) rfl ⟨⟨q, cap, cap - 32, rfl, HO.out.2 _ nN⟩, jS HB3.out HQ.out.1⟩
end
section
open Go.RowKit Go.Proofs.YtehfkbaendajbaaGreatDoorW.PrintLast
theorem anL (p : Dp) (P : EP) (hp : p.of P) (A : Option Addr) (c : Nat) (ns : List Nat) (hn : ns.length = 32) (hbn : ∀ b ∈ ns, b < 256) (w : World) (kp : p.ok w) (hrn : Rd w .u8 A ns) :
 Calls Tryz.prog 22 #[.slice A 32 c, p.v] w fun e w' => (∃ o : Dp, e = .returned o.v ∧ o.ok w' ∧ o.of (Pt.smul (bW ns) P)) ∧ Below w.heap.size w w' := by
 have h := D8 p P hp A c ns (by omega) hbn w kp hrn
 rw [hn] at h
 exact h
theorem ao2 (p : Dp) (P : EP) (F : List Nat) (hp : p.of P) (hF : F = iM P) (w : World) (kp : p.ok w) : Calls Tryz.prog 21 #[p.v] w fun e w' => (∃ b, w.heap.size ≤ b ∧ e = .returned (.slice (some ⟨b, 0, none⟩) 32 32) ∧ w'.heap[b]? = some (.cells (bF F) 5)) ∧ Below w.heap.size w w' := by
 subst hF
 exact MK p P hp w kp
theorem aqA (A0 : Option Addr) (c0 : Nat) (sd KB : List Nat) (hl : sd.length = 32) (hby : ∀ z ∈ sd, z < 256) (hKB : KB = Yb sd) (w : World) (hr : Rd w .u8 A0 sd) :
 Calls Tryz.prog 9 #[.slice A0 32 c0] w fun e w' => (∃ b, w.heap.size ≤ b ∧ e = .returned (.slice (some ⟨b, 0, none⟩) 32 32) ∧ w'.heap[b]? = some (.cells (bF KB) 5)) ∧ Below w.heap.size w w' := by
 obtain ⟨n1, hn1⟩ : ∃ z, z = kC (Ai aV sd) := ⟨_, rfl⟩
 obtain ⟨n2, hn2⟩ : ∃ z, z = (Ai aV sd).drop 32 := ⟨_, rfl⟩
 have HF := Lib.hid (And.intro hn1 hn2)
 have HK : Hid (KB = iM (Pt.smul (bW n1) iZ)) := Lib.hid (by rw [hKB, hn1]; rfl)
 have HSd := Lib.hid (And.intro hl hby)
 have HR0 := Lib.hid hr
 clear hl hby hr hn1 hn2 hKB
 go_enter Tryz.func9, Tryz.ntmps9
 go_wp2_with fail
 refine (anV A0 c0 sd n1 n2 HSd.out.1 HSd.out.2 HF.out.1 HF.out.2 _ HR0.out).mono ?_
 rintro e x1 ⟨⟨q, d1, d2, rfl, hn1, hn2⟩, hb1⟩
 have HB1 : Hid (Below w.heap.size w x1) := Below.trans (pl (Below.refl _ _)) (hb1.mono sz)
 have hz1 := HB1.out.size
 clear hb1
 have HN1 := Lib.hid hn1
 have HN2 := Lib.hid hn2
 clear hn1 hn2
 go_wp2_with fail
 refine (GU _).mono ?_
 rintro e x2 ⟨⟨ob1, rfl, hok, hof⟩, hb2⟩
 have HB2 := aZ HB1.out hb2
 have hz2 := HB2.out.size
 replace HN1 := Lib.hid (HN1.out.next (bt hb2))
 clear hb2
 have aph := Lib.hid hok
 have apg := Lib.hid hof
 clear hok hof
 go_wp2_with fail
 refine (anL ob1 _ apg.out (some ⟨q, 0, none⟩) d1 n1 (by rw [HF.out.1]; exact AB _ (Ce sd)) (by rw [HF.out.1]; exact Oq _ (NH sd)) _ aph.out HN1.out).mono ?_
 rintro e x3 ⟨⟨ot1, rfl, hok, hof⟩, hb3⟩
 have HB3 := aZ HB2.out hb3
 have hz3 := HB3.out.size
 replace HN1 := Lib.hid (HN1.out.next (bt hb3))
 clear hb3
 have apn := Lib.hid hok
 have apm := Lib.hid hof
 clear hok hof
 go_wp2_with fail
 refine (ao2 ot1 _ KB apm.out HK.out _ apn.out).mono ?_
 rintro e y4 ⟨⟨gk, hge4, rfl, Ig⟩, hb4⟩
 replace HN1 := Lib.hid (HN1.out.next (bt hb4))
 have gI : Keeps w _ y4 := ak Ig (aO (Below.trans (pl HB3.out) (hb4.mono sz)))
 obtain ⟨x4, rfl, hk4, lT, rU⟩ := gI.jE
 have HB4 : Hid (Below w.heap.size w x4) := hk4.below
 have HG4 : w.heap.size ≤ gk := by have := HB3.out.size; (try simp only [dU] at hge4); omega
 clear gI hk4 hb4 Ig hge4
 go_wp2_with fail
 exact bodyPost_ret (v := .slice (some ⟨gk, 0, none⟩) 32 32) (by simp [results, Tryz.results9, go_sem]) rfl ⟨⟨gk, HG4, rfl, ob⟩, pl HB4.out⟩
theorem am0 (A0 A1 A2 : Option Addr) (c0 c1 c2 k0 k1 k2 n : Nat) (b0 b1 b2 M : List Nat) (h0 : b0.length = k0) (h1 : b1.length = k1) (h2 : b2.length = k2) (hM : M = b0 ++ (b1 ++ b2)) (hn : M.length = n) (hl : k0 + (k1 + k2) ≤ 2000000) (w : World) (hr0 : Rd w .u8 A0 b0) (hr1 : Rd w .u8 A1 b1) (hr2 : Rd w .u8 A2 b2) :
 Calls Tryz.prog 33 #[.slice A0 k0 c0, .slice A1 k1 c1, .slice A2 k2 c2] w fun e w' => (∃ A c, e = .returned (.slice A n c) ∧ Rd w' .u8 A M) ∧ Below w.heap.size w w' := by
 subst h0 h1 h2 hn
 exact aqz A0 A1 A2 c0 c1 c2 _ b0 b1 b2 M hM rfl hl w hr0 hr1 hr2
theorem anK (A : Option Addr) (c n : Nat) (M R : List Nat) (hn : M.length = n) (hl : n ≤ 1048576) (hby : ∀ z ∈ M, z < 256) (hR : R = dw 32 (ab3 M)) (w : World) (hr : Rd w .u8 A M) :
 Calls Tryz.prog 32 #[.slice A n c] w fun e w' => (∃ b, e = .returned (.slice (some ⟨b, 0, none⟩) 32 32) ∧ Rd w' .u8 (some ⟨b, 0, none⟩) R) ∧ Below w.heap.size w w' := by
 subst hn
 exact aoU A c _ M R rfl hl hby hR w hr
theorem anZ (A0 A1 A2 : Option Addr) (c0 c1 c2 : Nat) (b0 b1 b2 B : List Nat) (l0 : b0.length = 32) (l1 : b1.length = 32) (l2 : b2.length = 32) (jq : ∀ b ∈ b0, b < 256) (jH : ∀ b ∈ b1, b < 256) (oQ : ∀ b ∈ b2, b < 256) (hB : B = dw 32 ((bW b0 * bW b1 + bW b2) % LO)) (w : World) (r0 : Rd w .u8 A0 b0) (r1 : Rd w .u8 A1 b1) (r2 : Rd w .u8 A2 b2) :
 Calls Tryz.prog 52 #[.slice A0 32 c0, .slice A1 32 c1, .slice A2 32 c2] w fun e w' => (∃ b, e = .returned (.tuple #[.slice (some ⟨b, 0, none⟩) 32 32, .int .i64 0]) ∧ Rd w' .u8 (some ⟨b, 0, none⟩) B) ∧ Below w.heap.size w w' := by
 subst hB
 have h := anY A0 c0 b0 jq (by omega) A1 c1 b1 jH (by omega) A2 c2 b2 oQ (by omega) w r0 r1 r2
 rw [l0, l1, l2] at h
 exact h
theorem aoX (A0 A1 A2 : Option Addr) (c0 c1 c2 : Nat) (sd m KB : List Nat) (hsd : sd.length = 32) (hm : m.length ≤ 65536) (akB : ∀ z ∈ sd, z < 256) (akD : ∀ z ∈ m, z < 256) (hKB : KB = Yb sd) (w : World) (hr0 : Rd w .u8 A0 sd) (hr1 : Rd w .u8 A1 KB) (hr2 : Rd w .u8 A2 m) :
 Calls Tryz.prog 24 #[.slice A0 32 c0, .slice A1 32 c1, .slice A2 m.length c2] w fun e w' => (∃ A c, e = .returned (.slice A 64 c) ∧ Rd w' .u8 A (ajk sd m)) ∧ Below w.heap.size w w' := by
 obtain ⟨n1, n2, R, F, K1, KK, S, hF⟩ := aiR sd m
 obtain ⟨lm, hlm⟩ : ∃ z, z = m.length := ⟨_, rfl⟩
 obtain ⟨M1, hM1⟩ : ∃ z, z = n2 ++ m := ⟨_, rfl⟩
 obtain ⟨M2, hM2⟩ : ∃ z, z = F ++ (K1 ++ m) := ⟨_, rfl⟩
 have hsig := hF.sig
 have hK : KB = K1 := by rw [hKB, hF.eK1, hF.en1]; rfl
 subst hK
 have HF := Lib.hid hF
 have HMS := Lib.hid (And.intro hM1 (And.intro hM2 (And.intro hlm.symm hsig)))
 have hls : lm ≤ 65536 := by omega
 have HSd := Lib.hid (And.intro hsd akB)
 have HM := Lib.hid (And.intro hm akD)
 have HR0 := Lib.hid hr0
 have HR1 := Lib.hid hr1
 have HR2 := Lib.hid hr2
 rw [← hlm]
 clear hF hsd akB hm akD hr0 hr1 hr2 hM1 hM2 hlm hsig
 go_enter Tryz.func24, Tryz.ntmps24
 go_wp2_with fail
 refine (anV A0 c0 sd n1 n2 HSd.out.1 HSd.out.2 HF.out.en1 HF.out.en2 _ HR0.out).mono ?_
 rintro e x1 ⟨⟨q, d1, d2, rfl, hn1, hn2⟩, hb1⟩
 have HB1 : Hid (Below w.heap.size w x1) := Below.trans (pl (Below.refl _ _)) (hb1.mono sz)
 have hz1 := HB1.out.size
 replace HR1 := Lib.hid (HR1.out.next (bt hb1))
 replace HR2 := Lib.hid (HR2.out.next (bt hb1))
 clear hb1
 have HN1 := Lib.hid hn1
 have HN2 := Lib.hid hn2
 clear hn1 hn2
 go_wp2_with fail
 refine (am0 (some ⟨q, 32, none⟩) A2 none d2 c2 0 32 lm 0 (32 + lm) n2 m [] M1 HF.out.l2 HMS.out.2.2.1 rfl (by rw [List.append_nil]; exact HMS.out.1) (by rw [HMS.out.1, List.length_append, HF.out.l2, HMS.out.2.2.1]) (by omega) _ HN2.out HR2.out (Rd.nil _ _ _)).mono ?_
 rintro e x2 ⟨⟨Aj1, cj1, rfl, hj⟩, hb2⟩
 have HB2 := aZ HB1.out hb2
 have hz2 := HB2.out.size
 replace HR1 := Lib.hid (HR1.out.next (bt hb2))
 replace HR2 := Lib.hid (HR2.out.next (bt hb2))
 replace HN1 := Lib.hid (HN1.out.next (bt hb2))
 replace HN2 := Lib.hid (HN2.out.next (bt hb2))
 clear hb2
 have HJ1 := Lib.hid hj
 clear hj
 go_wp2_with fail
 refine (anK Aj1 cj1 (32 + lm) M1 R (by rw [HMS.out.1, List.length_append, HF.out.l2, HMS.out.2.2.1]) (by omega) (by rw [HMS.out.1]; exact (fun z hz => (List.mem_append.mp hz).elim (fun h => HF.out.b2 z h) (fun h => HM.out.2 z h))) (by rw [HMS.out.1]; exact HF.out.eR) _ HJ1.out).mono ?_
 rintro e x3 ⟨⟨qs1, rfl, hj⟩, hb3⟩
 have HB3 := aZ HB2.out hb3
 have hz3 := HB3.out.size
 replace HR1 := Lib.hid (HR1.out.next (bt hb3))
 replace HR2 := Lib.hid (HR2.out.next (bt hb3))
 replace HN1 := Lib.hid (HN1.out.next (bt hb3))
 replace HN2 := Lib.hid (HN2.out.next (bt hb3))
 clear hb3
 have amo := Lib.hid hj
 clear hj HJ1
 go_wp2_with fail
 refine (GU _).mono ?_
 rintro e x4 ⟨⟨ob1, rfl, hok, hof⟩, hb4⟩
 have HB4 := aZ HB3.out hb4
 have lT := HB4.out.size
 replace HR1 := Lib.hid (HR1.out.next (bt hb4))
 replace HR2 := Lib.hid (HR2.out.next (bt hb4))
 replace HN1 := Lib.hid (HN1.out.next (bt hb4))
 replace amo := Lib.hid (amo.out.next (bt hb4))
 clear hb4
 have aph := Lib.hid hok
 have apg := Lib.hid hof
 clear hok hof
 go_wp2_with fail
 refine (anL ob1 _ apg.out (some ⟨qs1, 0, none⟩) 32 R (lS HF.out.eR).1 (lS HF.out.eR).2 _ aph.out amo.out).mono ?_
 rintro e x5 ⟨⟨ot1, rfl, hok, hof⟩, hb5⟩
 have kR := aZ HB4.out hb5
 have rP := kR.out.size
 replace HR1 := Lib.hid (HR1.out.next (bt hb5))
 replace HR2 := Lib.hid (HR2.out.next (bt hb5))
 replace HN1 := Lib.hid (HN1.out.next (bt hb5))
 replace amo := Lib.hid (amo.out.next (bt hb5))
 clear hb5
 have apn := Lib.hid hok
 have apm := Lib.hid hof
 clear hok hof
 go_wp2_with fail
 refine (ao2 ot1 _ F apm.out HF.out.eF _ apn.out).mono ?_
 rintro e y6 ⟨⟨gf, acy, rfl, afV⟩, hb6⟩
 replace HR1 := Lib.hid (HR1.out.next (bt hb6))
 replace HR2 := Lib.hid (HR2.out.next (bt hb6))
 replace HN1 := Lib.hid (HN1.out.next (bt hb6))
 replace amo := Lib.hid (amo.out.next (bt hb6))
 have gI : Keeps w _ y6 := ak afV (aO (Below.trans (pl kR.out) (hb6.mono sz)))
 obtain ⟨x6, rfl, hk6, yH, Gj⟩ := gI.jE
 have mg : Hid (Below w.heap.size w x6) := hk6.below
 have HG6 : w.heap.size ≤ gf := by have := kR.out.size; (try simp only [dU] at acy); omega
 clear gI hk6 hb6 afV acy
 go_wp2_with fail
 refine (am0 (some ⟨gf, 0, none⟩) A1 A2 32 c1 c2 32 32 lm (64 + lm) F KB m M2 (lF HF.out.eF).1 (lF HF.out.eK1).1 HMS.out.2.2.1 HMS.out.2.1 (by rw [HMS.out.2.1, List.length_append, List.length_append, (lF HF.out.eF).1, (lF HF.out.eK1).1, HMS.out.2.2.1]; omega) (by omega) _ (nS ob) HR1.out HR2.out).mono ?_
 rintro e y7 ⟨⟨Aj2, cj2, rfl, hj⟩, hb7⟩
 replace HR1 := Lib.hid (HR1.out.next (bt hb7))
 replace HR2 := Lib.hid (HR2.out.next (bt hb7))
 replace HN1 := Lib.hid (HN1.out.next (bt hb7))
 replace amo := Lib.hid (amo.out.next (bt hb7))
 obtain ⟨x7, rfl, Ef, Ac, KA⟩ := bQ (b := gf) hb7 rfl ob
 have oW := aZ mg.out Ef
 clear hb7 Ef
 try simp only [dU] at Ac
 have HJ2 := Lib.hid hj
 clear hj
 go_wp2_with fail
 refine (anK Aj2 cj2 (64 + lm) M2 KK (by rw [HMS.out.2.1, List.length_append, List.length_append, (lF HF.out.eF).1, (lF HF.out.eK1).1, HMS.out.2.2.1]; omega) (by omega) (by rw [HMS.out.2.1]; exact (fun z hz => (List.mem_append.mp hz).elim (fun h => (lF HF.out.eF).2 z h) (fun h => (fun z hz => (List.mem_append.mp hz).elim (fun h => (lF HF.out.eK1).2 z h) (fun h => HM.out.2 z h)) z h))) (by rw [HMS.out.2.1]; exact HF.out.eKK) _ HJ2.out).mono ?_
 rintro e y8 ⟨⟨qs2, rfl, hj⟩, hb8⟩
 replace HR1 := Lib.hid (HR1.out.next (bt hb8))
 replace HR2 := Lib.hid (HR2.out.next (bt hb8))
 replace HN1 := Lib.hid (HN1.out.next (bt hb8))
 replace amo := Lib.hid (amo.out.next (bt hb8))
 obtain ⟨x8, rfl, hc8, Di, PD⟩ := bQ (b := gf) hb8 rfl ob
 have ru := aZ oW.out hc8
 clear hb8 hc8
 try simp only [dU] at Di
 have arE := Lib.hid hj
 clear hj HJ2
 go_wp2_with fail
 refine (anZ (some ⟨qs2, 0, none⟩) (some ⟨q, 0, none⟩) (some ⟨qs1, 0, none⟩) 32 d1 32 KK n1 R S (lS HF.out.eKK).1 HF.out.l1 (lS HF.out.eR).1 (lS HF.out.eKK).2 HF.out.b1 (lS HF.out.eR).2 HF.out.eS _ arE.out HN1.out amo.out).mono ?_
 rintro e y9 ⟨⟨qt, rfl, hj⟩, kP⟩
 replace HR1 := Lib.hid (HR1.out.next (bt kP))
 replace HR2 := Lib.hid (HR2.out.next (bt kP))
 replace HN1 := Lib.hid (HN1.out.next (bt kP))
 replace amo := Lib.hid (amo.out.next (bt kP))
 obtain ⟨x9, rfl, Ib, Fj, WG⟩ := bQ (b := gf) kP rfl ob
 have pW := aZ ru.out Ib
 clear kP Ib
 try simp only [dU] at Fj
 have HT := Lib.hid hj
 clear hj
 go_wp2_with fail
 refine (am0 (some ⟨gf, 0, none⟩) (some ⟨qt, 0, none⟩) none 32 32 0 32 32 0 64 F S [] (ajk sd m) (lF HF.out.eF).1 (lS HF.out.eS).1 rfl (by rw [List.append_nil]; exact HMS.out.2.2.2.symm) (by rw [← HMS.out.2.2.2, List.length_append, (lF HF.out.eF).1, (lS HF.out.eS).1]) (by omega) _ (nS ob) HT.out (Rd.nil _ _ _)).mono ?_
 rintro e y10 ⟨⟨Aj3, cj3, rfl, hj⟩, dP⟩
 obtain ⟨x10, rfl, wQ, uQ, Kq⟩ := bQ (b := gf) dP rfl ob
 have fB := aZ pW.out wQ
 clear dP wQ
 try simp only [dU] at uQ
 have HJ3 := Lib.hid hj
 clear hj
 go_wp2_with fail
 exact bodyPost_ret (v := .slice Aj3 64 cj3) (by simp [results, Tryz.results24, go_sem]) rfl ⟨⟨Aj3, cj3, rfl, HJ3.out⟩, pl fB.out⟩
theorem aqI (A0 A2 : Option Addr) (c0 c2 : Nat) (sd m : List Nat) (hsd : sd.length = 32) (hm : m.length ≤ 65536) (akB : ∀ z ∈ sd, z < 256) (akD : ∀ z ∈ m, z < 256) (w : World) (hr0 : Rd w .u8 A0 sd) (hr2 : Rd w .u8 A2 m) :
 Calls Tryz.prog 10 #[.slice A0 32 c0, .slice A2 m.length c2] w fun e w' => (∃ A c, e = .returned (.slice A 64 c) ∧ Rd w' .u8 A (ajk sd m)) ∧ Below w.heap.size w w' := by
 obtain ⟨KB, hKB⟩ : ∃ z, z = Yb sd := ⟨_, rfl⟩
 have HK := Lib.hid hKB
 have HSd := Lib.hid (And.intro hsd akB)
 have HM := Lib.hid (And.intro hm akD)
 have HR0 := Lib.hid hr0
 have HR2 := Lib.hid hr2
 clear hsd akB hm akD hr0 hr2 hKB
 go_enter Tryz.func10, Tryz.ntmps10
 go_wp2_with fail
 refine (aqA A0 c0 sd KB HSd.out.1 HSd.out.2 HK.out _ HR0.out).mono ?_
 rintro e y1 ⟨⟨gk, TK, rfl, alR⟩, hb1⟩
 replace HR0 := Lib.hid (HR0.out.next (bt hb1))
 replace HR2 := Lib.hid (HR2.out.next (bt hb1))
 have gI : Keeps w _ y1 := ak alR (aO (Below.trans (pl (Below.refl _ _)) (hb1.mono sz)))
 obtain ⟨x1, rfl, hk1, hz1, l10⟩ := gI.jE
 have HB1 : Hid (Below w.heap.size w x1) := hk1.below
 have HG1 : w.heap.size ≤ gk := by (try simp only [dU] at TK); omega
 clear gI hk1 hb1 alR TK
 go_wp2_with fail
 refine (aoX A0 (some ⟨gk, 0, none⟩) A2 c0 32 c2 sd m KB HSd.out.1 HM.out.1 HSd.out.2 HM.out.2 HK.out _ HR0.out (nS ob) HR2.out).mono ?_
 rintro e x2 ⟨⟨Aj, cj, rfl, hj⟩, hb2⟩
 have HB2 := aZ HB1.out hb2
 have hz2 := HB2.out.size
 clear hb2
 have HJ := Lib.hid hj
 clear hj
 go_wp2_with fail
 exact bodyPost_ret (v := .slice Aj 64 cj) (by simp [results, Tryz.results10, go_sem]) rfl ⟨⟨Aj, cj, rfl, HJ.out⟩, pl HB2.out⟩
end
end Go.Proofs.YtehfkbaendajbaaGreatDoor
