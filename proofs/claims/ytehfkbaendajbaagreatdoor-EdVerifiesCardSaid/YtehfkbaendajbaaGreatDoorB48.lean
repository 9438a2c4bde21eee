/-
  Shared, part 48: walks and plain laws; each theorem states its own conditions.
-/
import Derived.Test.YtehfkbaendajbaaGreatDoorB28
import Derived.Test.YtehfkbaendajbaaGreatDoorB43
import Derived.Test.YtehfkbaendajbaaGreatDoorB45
import Derived.Laws.BytesArg
namespace Go.Proofs.YtehfkbaendajbaaGreatDoor
set_option linter.unusedSimpArgs false
set_option linter.unusedVariables false
set_option maxRecDepth 100000
set_option maxHeartbeats 8000000
section
open Go.RowKit Go.Proofs.YtehfkbaendajbaaGreatDoorW.PrintLast
theorem afK {w : World} {k : IntKind} {b off : Nat} {xs ys : List Nat} (h : Rd w k (some ⟨b, off, none⟩) (xs ++ ys)) : Rd w k (some ⟨b, off, none⟩) xs ∧ Rd w k (some ⟨b, off + xs.length, none⟩) ys := by
 have hg : ∀ i, (hi : i < (xs ++ ys).length) → w.cell? ⟨b, off + i, none⟩ = some (.int k (((xs ++ ys)[i] : Nat) : Int)) := fun i hi => by
  obtain ⟨b', off', e, hc⟩ := h i hi
  simp only [Option.some.injEq, Addr.mk.injEq] at e
  obtain ⟨rfl, rfl, _⟩ := e
  exact hc
 constructor
 · intro i hi
   refine ⟨b, off, rfl, ?_⟩
   have := hg i (by rw [List.length_append]; omega)
   rwa [List.getElem_append_left hi] at this
 · intro i hi
   refine ⟨b, off + xs.length, rfl, ?_⟩
   have := hg (xs.length + i) (by rw [List.length_append]; omega)
   rw [List.getElem_append_right (by omega)] at this
   simpa [Nat.add_assoc] using this
theorem agI (A B : Option Addr) (c d : Nat) (xs ys : List Nat) (hx : ∀ b ∈ xs, b < 256) (hy : ∀ b ∈ ys, b < 256) (w : World) (hA : Rd w .u8 A xs) (hB : Rd w .u8 B ys) :
 Calls Tryz.prog 27 #[.slice A xs.length c, .slice B ys.length d] w fun e w' => e = .returned (.bool (decide (xs = ys))) ∧ Below w.heap.size w w' := by
 have h1 := MI hA c
 have h2 := MI hB d
 have h3 : ((DC xs).toList == (DC ys).toList) = decide (xs = ys) := by
  have hi : (DC xs).toList = (DC ys).toList ↔ xs = ys := by
   rw [ByteArray.toList_eq, ByteArray.toList_eq, ← Y4 hx hy]
   exact ⟨fun h => by cases hs : DC xs; cases ht : DC ys; rw [hs, ht] at h; simp only [Array.toList_inj] at h; rw [h], fun h => by rw [h]⟩
  by_cases h : xs = ys
  · rw [decide_eq_true h, hi.mpr h]; simp
  · rw [decide_eq_false h, beq_eq_false_iff_ne]; exact fun h4 => h (hi.mp h4)
 go_enter Tryz.func27, Tryz.ntmps27
 go_wp2_with fail
 go_ret
 exact ⟨rfl, Below.refl _ _⟩
theorem ahB (A B : Option Addr) (c d : Nat) (xs ys : List Nat) (hx : xs.length = 32) (hy : ys.length = 32) (bx : ∀ z ∈ xs, z < 256) (by_ : ∀ z ∈ ys, z < 256) (b : Bool) (hb : b = true ↔ xs = ys) (w : World) (rx : Rd w .u8 A xs) (ry : Rd w .u8 B ys) : Calls Tryz.prog 27 #[.slice A 32 c, .slice B 32 d] w fun e w' => e = .returned (.bool b) ∧ Below w.heap.size w w' := by
 have h := agI A B c d xs ys bx by_ w rx ry
 rw [hx, hy, show decide (xs = ys) = b by rw [Bool.eq_iff_iff, hb]; simp] at h
 exact h
theorem alq (p q : Pn) (P Q : EP) (hp : p.of P) (hq : q.of Q) (ns ms : List Nat) (hn : ns.length = 32) (hm : ms.length = 32) (hbn : ∀ b ∈ ns, b < 256) (hbm : ∀ b ∈ ms, b < 256) : ∃ o : Pn, o.of (Pt.smul (bW ns) P + Pt.smul (bW ms) Q) ∧ ∀ (A B : Option Addr) (c d : Nat) (w : World), kE w → Rd w .u8 A ns → Rd w .u8 B ms →
 Calls Tryz.prog 28 #[.slice A 32 c, p.v, .slice B 32 d, q.v] w fun e w' => e = .returned o.v ∧ Below w.heap.size w w' :=
 ⟨_, UR (bW ns) (bW ms) (2 * max ns.length ms.length) p q P Q hp hq (Nr ns hbn _ (by omega)) (Nr ms hbm _ (by omega)), fun A B c d w hg hrn hrm => by
  have h := acg p q hp.1 hq.1 A B c d ns ms (by omega) (by omega) hbn hbm w hg hrn hrm
  rw [hn, hm] at h ⊢
  exact h⟩
theorem agL (A : Option Addr) (c : Nat) (bs : List Nat) (N : Int) (hby : ∀ b ∈ bs, b < 256) (hl : bs.length = 32) (hN : N = if bW bs < LO then 0 else 31) (w : World) (hr : Rd w .u8 A bs) (ho : DW w) : Calls Tryz.prog 26 #[.slice A 32 c] w fun e w' => e = .returned (.int .i64 N) ∧ Below w.heap.size w w' := by
 have h := agK A c bs hby hl w hr ho
 rw [hl] at h
 rw [hN]
 exact h
theorem ak9 (o : Pn) (P : EP) (L : List Nat) (hL : L = iM P) (ho : o.of P) (w : World) : Calls Tryz.prog 13 #[o.v] w fun e w' => (∃ b, w.heap.size ≤ b ∧ e = .returned (.slice (some ⟨b, 0, none⟩) 32 32) ∧ w'.heap[b]? = some (.cells (bF L) 5)) ∧ Below w.heap.size w w' := by
 subst hL
 exact wJ o P ho w
end
section
open Go.RowKit Go.Proofs.YtehfkbaendajbaaGreatDoorW.PrintLast
theorem asw (A0 A1 A2 : Option Addr) (c0 c1 c2 : Nat) (k0 k1 k2 : Nat) (h : ¬ k0 = 32) (w : World) :
 Calls Tryz.prog 11 #[.slice A0 k0 c0, .slice A1 k1 c1, .slice A2 k2 c2] w fun e w' => e = .returned (.int .i64 1) ∧ Below w.heap.size w w' := by
 have hI : ((k0 : Int) = 32) = False := eq_false (by omega)
 have hJ : ((k0 : Int) == 32) = false := beq_eq_false_iff_ne.mpr (by omega)
 have hK : ((k0 : Int) != 32) = true := by simp only [bne, hJ]; rfl
 go_enter Tryz.func11, Tryz.ntmps11
 go_wp2_with fail
 go_ret
 exact ⟨rfl, pl (Below.refl _ _)⟩
theorem asu (A0 A1 A2 : Option Addr) (c0 c1 c2 : Nat) (k1 k2 : Nat) (h : ¬ k2 = 64) (w : World) :
 Calls Tryz.prog 11 #[.slice A0 32 c0, .slice A1 k1 c1, .slice A2 k2 c2] w fun e w' => e = .returned (.int .i64 1) ∧ Below w.heap.size w w' := by
 have hI : ((k2 : Int) = 64) = False := eq_false (by omega)
 have hJ : ((k2 : Int) == 64) = false := beq_eq_false_iff_ne.mpr (by omega)
 have hK : ((k2 : Int) != 64) = true := by simp only [bne, hJ]; rfl
 go_enter Tryz.func11, Tryz.ntmps11
 go_wp2_with fail
 go_ret
 exact ⟨rfl, pl (Below.refl _ _)⟩
theorem asv (A0 A1 A2 : Option Addr) (c0 c1 c2 : Nat) (K m R S : List Nat) (lk : K.length = 32) (bk : ∀ z ∈ K, z < 256) (hm : m.length ≤ 65536) (bm : ∀ z ∈ m, z < 256) (lr : R.length = 32) (ls : S.length = 32) (br : ∀ z ∈ R, z < 256) (bs_ : ∀ z ∈ S, z < 256) (hc2 : 64 ≤ c2) (CD : ∀ w, kT w → Rd w .u8 A0 K → Calls Tryz.prog 25 #[.slice A0 32 c0] w fun e w' => e = .returned (.tuple #[dh.v, .int .i64 40]) ∧ Below w.heap.size w w') (w : World) (hg : Sg5 w) (ho : kT w) (hr0 : Rd w .u8 A0 K) (hr1 : Rd w .u8 A1 m) (hr2 : Rd w .u8 A2 (R ++ S)) :
 Calls Tryz.prog 11 #[.slice A0 32 c0, .slice A1 m.length c1, .slice A2 64 c2] w fun e w' => e = .returned (.int .i64 41) ∧ Below w.heap.size w w' := by
 have hI : ((65536 : Int) < (m.length : Int)) = False := eq_false (by omega)
 have hJ : decide (65536 < m.length) = false := decide_eq_false (by omega)
 obtain ⟨gb, off, rfl, hgb, _⟩ := hr2.place (by rw [List.length_append]; omega)
 have HK := Lib.hid (And.intro lk bk)
 have HM := Lib.hid (And.intro hm bm)
 have HRS := Lib.hid (And.intro (And.intro lr ls) (And.intro br bs_))
 have HG := Lib.hid (And.intro hg ho)
 have HR0 := Lib.hid hr0
 have HR1 := Lib.hid hr1
 have HR2 := Lib.hid (And.intro (afK hr2).1 (show Rd w .u8 (some ⟨gb, off + 32, none⟩) S by have h := (afK hr2).2; rw [lr] at h; exact h))
 have hc1 : (32 : Int) ≤ (c2 : Int) := by omega
 have hc2' : (64 : Int) ≤ (c2 : Int) := by omega
 have hc3 : (c2 = 32) = False := eq_false (by omega)
 have hc4 : ¬ c2 = 32 := by omega
 have HCD := Lib.hid CD
 clear lk bk hm bm lr ls br bs_ hg ho hr0 hr1 hr2 hgb CD
 go_enter Tryz.func11, Tryz.ntmps11
 go_wp2_with fail
 refine (HCD.out _ (HG.out.2.next (pl (Below.refl _ _))) (HR0.out.next (pl (Below.refl _ _)))).mono ?_
 rintro e x1 ⟨rfl, hb1⟩
 have HB1 : Hid (Below w.heap.size w x1) := Below.trans (pl (Below.refl _ _)) (hb1.mono sz)
 have hz1 := HB1.out.size
 clear hb1
 go_wp2_with (refine bf 38 (.tmp 7) (.tmp 27) rfl rfl (x1.heap.size) 0 dh.cA rfl rfl 38 bP dh.cA ob (by kernel_rfl) (by kernel_rfl) (eH dh) (by kernel_rfl) ?_)
 exact bodyPost_ret (v := .int .i64 41) (by simp [results, Tryz.results11, go_sem]) rfl ⟨rfl, pl HB1.out⟩
theorem amg (A0 A1 A2 : Option Addr) (c0 c1 c2 : Nat) (K m R S : List Nat) (lk : K.length = 32) (bk : ∀ z ∈ K, z < 256) (hm : m.length ≤ 65536) (bm : ∀ z ∈ m, z < 256) (lr : R.length = 32) (ls : S.length = 32) (br : ∀ z ∈ R, z < 256) (bs_ : ∀ z ∈ S, z < 256) (hc2 : 64 ≤ c2) (p : Pn) (P : EP) (hp : p.of P) (CD : ∀ w, kT w → Rd w .u8 A0 K → Calls Tryz.prog 25 #[.slice A0 32 c0] w fun e w' => e = .returned (.tuple #[p.v, .int .i64 0]) ∧ Below w.heap.size w w') (hsl : LO ≤ bW S) (w : World) (hg : Sg5 w) (ho : kT w) (hr0 : Rd w .u8 A0 K) (hr1 : Rd w .u8 A1 m) (hr2 : Rd w .u8 A2 (R ++ S)) :
 Calls Tryz.prog 11 #[.slice A0 32 c0, .slice A1 m.length c1, .slice A2 64 c2] w fun e w' => e = .returned (.int .i64 42) ∧ Below w.heap.size w w' := by
 have hI : ((65536 : Int) < (m.length : Int)) = False := eq_false (by omega)
 have hJ : decide (65536 < m.length) = false := decide_eq_false (by omega)
 obtain ⟨gb, off, rfl, hgb, _⟩ := hr2.place (by rw [List.length_append]; omega)
 have qg := Lib.hid (And.intro lk bk)
 have HM := Lib.hid (And.intro hm bm)
 have HRS := Lib.hid (And.intro (And.intro lr ls) (And.intro br bs_))
 have HG := Lib.hid (And.intro hg ho)
 have HR0 := Lib.hid hr0
 have HR1 := Lib.hid hr1
 have HR2 := Lib.hid (And.intro (afK hr2).1 (show Rd w .u8 (some ⟨gb, off + 32, none⟩) S by have h := (afK hr2).2; rw [lr] at h; exact h))
 have hc1 : (32 : Int) ≤ (c2 : Int) := by omega
 have hc2' : (64 : Int) ≤ (c2 : Int) := by omega
 have hc3 : (c2 = 32) = False := eq_false (by omega)
 have hc4 : ¬ c2 = 32 := by omega
 have HCD := Lib.hid CD
 clear lk bk hm bm lr ls br bs_ hg ho hr0 hr1 hr2 hgb CD
 obtain ⟨on, hon, con⟩ := Rt p P hp
 have HP := Lib.hid hp
 have HOn := Lib.hid hon
 have COn := Lib.hid con
 clear hp hon con
 have HSl := Lib.hid hsl
 clear hsl
 go_enter Tryz.func11, Tryz.ntmps11
 go_wp2_with fail
 refine (HCD.out _ (HG.out.2.next (pl (Below.refl _ _))) (HR0.out.next (pl (Below.refl _ _)))).mono ?_
 rintro e x1 ⟨rfl, hb1⟩
 have HB1 : Hid (Below w.heap.size w x1) := Below.trans (pl (Below.refl _ _)) (hb1.mono sz)
 have hz1 := HB1.out.size
 clear hb1
 go_wp2_with (refine bf 38 (.tmp 7) (.tmp 27) rfl rfl (x1.heap.size) 0 p.cA rfl rfl 38 bP p.cA ob (by kernel_rfl) (by kernel_rfl) (eH p) (by kernel_rfl) ?_)
 refine st1 w [] 6 (ak (b := x1.heap.size) ob (aO (pl HB1.out))) (fun HS => ?_)
 refine tk1 0 (some 31) HS (h := ?_)
 refine tk1 1 (some 32) HS (h := ?_)
 refine tk1 2 (some 33) HS (h := ?_)
 refine tk1 3 (some 34) HS (h := ?_)
 refine tk1 4 (some 9) HS (h := ?_)
 refine tk1 5 (some 10) HS (h := ?_)
 clear HS
 refine done_ (by kernel_rfl) ?_
 go_wp2_with fail
 refine aac w [(x1.heap.size, .cells p.cA 38)] [.is (.slice (some ⟨gb, off + 32, none⟩) 32 (c2 - 32)), .is (.int .i64 31), .is (.bool true), .is (.bool true), .is undef, .is undef, .is undef, .is undef, .is undef, .is undef, .is undef, .is undef, .is undef, .is undef, .is undef, .is undef, .is undef, .is undef, .is (.bool true)] [some 35, some 36, some 37, some 38, some 39, some 40, some 41, some 42, some 43, some 44, some 45, some 46, some 47, some 48, some 49, some 50, some 51, some 52, some 53] [(0, .slice A0 32 c0), (1, .slice A1 m.length c1), (7, .pointer (some ⟨x1.heap.size, 0, none⟩)), (9, .slice (some ⟨gb, off, none⟩) 32 c2), (10, .slice (some ⟨gb, off + 32, none⟩) 32 (c2 - 32))] 53 (ak (b := x1.heap.size) ob (aO (pl HB1.out))) (fun a0 hc => ⟨abp hc [(10, none)], abP hc [(35, some 0)] Tryz.func26 (fun _ HK => agL (some ⟨gb, off + 32, none⟩) (c2 - 32) S 31 HRS.out.2.2 HRS.out.1.2 (by rw [if_neg (by have := HSl.out; omega)]) _ (HR2.out.2.next HK.1) ((HG.out.1.next HK.1)).r), abp hc [(36, some 1)], abp hc [(37, some 2)], akE hc [(9, none), (38, some 3)], akE hc [(0, none), (38, some 3)], akE hc [(1, none), (38, some 3)], akE hc [(39, some 4), (40, some 5), (41, some 6), (38, some 3)], akE hc [(42, some 7), (38, some 3)], akE hc [(7, none), (38, some 3)], akE hc [(44, some 9), (38, some 3)], akE hc [(10, none), (38, some 3)], akE hc [(38, some 3)], akE hc [(43, some 8), (45, some 10), (46, some 11), (47, some 12), (38, some 3)], akE hc [(48, some 13), (38, some 3)], akE hc [(9, none), (38, some 3)], akE hc [(49, some 14), (50, some 15), (38, some 3)], akE hc [(51, some 16), (38, some 3)], abp hc [(38, some 3), (52, some 17)], trivial⟩) ?_ ⟨rfl, rfl, rfl, rfl, rfl, trivial⟩ (by simp) (by kernel_rfl) rfl rfl rfl rfl rfl (by kernel_rfl)
 intro ρ w' HK HO HN aC HW0
 simp only [ae7, ae8, valOf, Sp.val, List.getElem?_cons_zero, List.getElem?_cons_succ, Act.put, List.setIfInBounds_toArray, List.set_cons_zero, List.set_cons_succ]
 clear HO HN
 clear ρ
 have gI : Keeps w [(x1.heap.size, .cells p.cA 38)] w' := HK
 obtain ⟨x2, rfl, hk2, hz2, kD⟩ := gI.jE
 have HB2 : Hid (Below w.heap.size w x2) := hk2.below
 clear HK aC gI hk2
 clear HW0
 go_wp2_with fail
 exact bodyPost_ret (v := .int .i64 42) (by simp [results, Tryz.results11, go_sem]) rfl ⟨rfl, pl HB2.out⟩
theorem akW (A0 A1 A2 : Option Addr) (c0 c1 c2 : Nat) (K m R S : List Nat) (lk : K.length = 32) (bk : ∀ z ∈ K, z < 256) (hm : m.length ≤ 65536) (bm : ∀ z ∈ m, z < 256) (lr : R.length = 32) (ls : S.length = 32) (br : ∀ z ∈ R, z < 256) (bs_ : ∀ z ∈ S, z < 256) (hc2 : 64 ≤ c2) (p : Pn) (P : EP) (hp : p.of P) (CD : ∀ w, kT w → Rd w .u8 A0 K → Calls Tryz.prog 25 #[.slice A0 32 c0] w fun e w' => e = .returned (.tuple #[p.v, .int .i64 0]) ∧ Below w.heap.size w w') (hsl : bW S < LO) (hb : iM (Pt.smul (ab3 (R ++ (K ++ m))) (-P) + Pt.smul (bW S) iZ) = R) (w : World) (hg : Sg5 w) (ho : kT w) (hr0 : Rd w .u8 A0 K) (hr1 : Rd w .u8 A1 m) (hr2 : Rd w .u8 A2 (R ++ S)) :
 Calls Tryz.prog 11 #[.slice A0 32 c0, .slice A1 m.length c1, .slice A2 64 c2] w fun e w' => e = .returned (.int .i64 0) ∧ Below w.heap.size w w' := by
 have hI : ((65536 : Int) < (m.length : Int)) = False := eq_false (by omega)
 have hJ : decide (65536 < m.length) = false := decide_eq_false (by omega)
 obtain ⟨gb, off, rfl, hgb, _⟩ := hr2.place (by rw [List.length_append]; omega)
 have qg := Lib.hid (And.intro lk bk)
 have HM := Lib.hid (And.intro hm bm)
 have HRS := Lib.hid (And.intro (And.intro lr ls) (And.intro br bs_))
 have HG := Lib.hid (And.intro hg ho)
 have HR0 := Lib.hid hr0
 have HR1 := Lib.hid hr1
 have HR2 := Lib.hid (And.intro (afK hr2).1 (show Rd w .u8 (some ⟨gb, off + 32, none⟩) S by have h := (afK hr2).2; rw [lr] at h; exact h))
 have hc1 : (32 : Int) ≤ (c2 : Int) := by omega
 have hc2' : (64 : Int) ≤ (c2 : Int) := by omega
 have hc3 : (c2 = 32) = False := eq_false (by omega)
 have hc4 : ¬ c2 = 32 := by omega
 have HCD := Lib.hid CD
 have amY := Lib.hid hsl
 clear hsl lk bk hm bm lr ls br bs_ hg ho hr0 hr1 hr2 hgb CD
 obtain ⟨on, hon, con⟩ := Rt p P hp
 have HP := Lib.hid hp
 have HOn := Lib.hid hon
 have COn := Lib.hid con
 clear hp hon con
 obtain ⟨KS, hKS⟩ : ∃ z, z = dw 32 (ab3 (R ++ (K ++ m))) := ⟨_, rfl⟩
 have HKS : Hid (KS = dw 32 (ab3 (R ++ (K ++ m))) ∧ KS.length = 32 ∧ ∀ z ∈ KS, z < 256) := Lib.hid ⟨hKS, (amV hKS).1, (amV hKS).2⟩
 obtain ⟨o, hof, hco⟩ := alq on vw (-P) iZ HOn.out yD KS S HKS.out.2.1 HRS.out.1.2 HKS.out.2.2 HRS.out.2.2
 obtain ⟨E, hE⟩ : ∃ z, z = iM (Pt.smul (bW KS) (-P) + Pt.smul (bW S) iZ) := ⟨_, rfl⟩
 have HEq : Hid (E = R) := Lib.hid (by rw [hE, hKS, acL _ (agG _)]; exact hb)
 have HE : Hid (E = iM (Pt.smul (bW KS) (-P) + Pt.smul (bW S) iZ) ∧ E.length = 32 ∧ ∀ z ∈ E, z < 256) := Lib.hid ⟨hE, (lF hE).1, (lF hE).2⟩
 have HOf := Lib.hid hof
 have CO := Lib.hid hco
 clear hKS hof hco hE hb
 go_enter Tryz.func11, Tryz.ntmps11
 go_wp2_with fail
 refine (HCD.out _ (HG.out.2.next (pl (Below.refl _ _))) (HR0.out.next (pl (Below.refl _ _)))).mono ?_
 rintro e x1 ⟨rfl, hb1⟩
 have HB1 : Hid (Below w.heap.size w x1) := Below.trans (pl (Below.refl _ _)) (hb1.mono sz)
 have hz1 := HB1.out.size
 clear hb1
 go_wp2_with (refine bf 38 (.tmp 7) (.tmp 27) rfl rfl (x1.heap.size) 0 p.cA rfl rfl 38 bP p.cA ob (by kernel_rfl) (by kernel_rfl) (eH p) (by kernel_rfl) ?_)
 refine st1 w [] 6 (ak (b := x1.heap.size) ob (aO (pl HB1.out))) (fun HS => ?_)
 refine tk1 0 (some 31) HS (h := ?_)
 refine tk1 1 (some 32) HS (h := ?_)
 refine tk1 2 (some 33) HS (h := ?_)
 refine tk1 3 (some 34) HS (h := ?_)
 refine tk1 4 (some 9) HS (h := ?_)
 refine tk1 5 (some 10) HS (h := ?_)
 clear HS
 refine done_ (by kernel_rfl) ?_
 go_wp2_with fail
 refine aac w [(x1.heap.size, .cells p.cA 38)] [.is (.slice (some ⟨gb, off + 32, none⟩) 32 (c2 - 32)), .is (.int .i64 0), .is (.bool false), .is (.bool false), .is (.slice (some ⟨gb, off, none⟩) 32 c2), .is (.slice A0 32 c0), .is (.slice A1 m.length c1), .new (fun p => .slice (some ⟨p, 0, none⟩) 3 3) (.cells #[.slice (some ⟨gb, off, none⟩) 32 c2, .slice A0 32 c0, .slice A1 m.length c1] 22), .new (fun p => .slice (some ⟨p, 0, none⟩) 32 32) (.cells (bF KS) 5), .is p.v, .is on.v, .is (.slice (some ⟨gb, off + 32, none⟩) 32 (c2 - 32)), .is vw.v, .is o.v, .new (fun p => .slice (some ⟨p, 0, none⟩) 32 32) (.cells (bF E) 5), .is (.slice (some ⟨gb, off, none⟩) 32 c2), .is (.bool true), .is (.bool false), .is (.bool false)] [some 35, some 36, some 37, some 38, some 39, some 40, some 41, some 42, some 43, some 44, some 45, some 46, some 47, some 48, some 49, some 50, some 51, some 52, some 53] [(0, .slice A0 32 c0), (1, .slice A1 m.length c1), (7, .pointer (some ⟨x1.heap.size, 0, none⟩)), (9, .slice (some ⟨gb, off, none⟩) 32 c2), (10, .slice (some ⟨gb, off + 32, none⟩) 32 (c2 - 32))] 53 (ak (b := x1.heap.size) ob (aO (pl HB1.out))) (fun a0 hc => ⟨abp hc [(10, none)], abP hc [(35, some 0)] Tryz.func26 (fun _ HK => agL (some ⟨gb, off + 32, none⟩) (c2 - 32) S 0 HRS.out.2.2 HRS.out.1.2 (by rw [if_pos amY.out]) _ (HR2.out.2.next HK.1) ((HG.out.1.next HK.1)).r), abp hc [(36, some 1)], abp hc [(37, some 2)], abp hc [(9, none), (38, some 3)], abp hc [(0, none), (38, some 3)], abp hc [(1, none), (38, some 3)], ac5 hc [(39, some 4), (40, some 5), (41, some 6), (38, some 3)], adf hc [(42, some 7), (38, some 3)] Tryz.func18 (fun ρ w HK HH => afM ⟨some ⟨gb, off, none⟩, c2, R⟩ ⟨A0, c0, K⟩ ⟨A1, c1, m⟩ KS _ 3 (by have := HRS.out.1.1; have := qg.out.1; have := HM.out.1; simp only; omega) HKS.out.1 w (HG.out.1.next HK.1) (acZ HH.1 (by rw [QH.v, HRS.out.1.1]) (by rw [QH.v, qg.out.1]) rfl (acQ (A := some ⟨gb, off, none⟩) (c := c2) (bs := R) (HR2.out.1.next HK.1) HRS.out.2.1) (acQ (A := A0) (c := c0) (bs := K) (HR0.out.next HK.1) qg.out.2) (acQ (A := A1) (c := c1) (bs := m) (HR1.out.next HK.1) HM.out.2))), anj hc 7 (x1.heap.size) [(7, none), (38, some 3)] (fun ρ a hr => by simp only [aaf, aan, valOf, Sp.val, aae, List.getElem?_cons_zero, List.getElem?_cons_succ, Nat.reduceBEq, cond_true, cond_false] at hr; (repeat (obtain ⟨_, hr⟩ := hr)); exact aat rfl rfl (by assumption)), abP hc [(44, some 9), (38, some 3)] Tryz.func29 (fun _ HK => COn.out _), abp hc [(10, none), (38, some 3)], abP hc [(38, some 3)] Tryz.func14 (fun _ HK => yG _ (HG.out.1.next HK.1).b), ade hc [(43, some 8), (45, some 10), (46, some 11), (47, some 12), (38, some 3)] Tryz.func28 (fun ρ w HK HH => CO.out _ _ 32 (c2 - 32) w (HG.out.1.next HK.1).c (nS HH.1) (HR2.out.2.next HK.1)), adf hc [(48, some 13), (38, some 3)] Tryz.func13 (fun ρ w HK HH => ak9 o _ E HE.out.1 HOf.out w), abp hc [(9, none), (38, some 3)], ade hc [(49, some 14), (50, some 15), (38, some 3)] Tryz.func27 (fun ρ w HK HH => ahB _ _ 32 c2 E R HE.out.2.1 HRS.out.1.1 HE.out.2.2 HRS.out.2.1 true (⟨fun _ => HEq.out, fun _ => rfl⟩) w (nS HH.1) (HR2.out.1.next HK.1)), abp hc [(51, some 16), (38, some 3)], abp hc [(38, some 3), (52, some 17)], trivial⟩) ?_ ⟨rfl, rfl, rfl, rfl, rfl, trivial⟩ (by simp) (by kernel_rfl) rfl rfl rfl rfl rfl (by kernel_rfl)
 intro ρ w' HK HO HN aC HW0
 simp only [ae7, ae8, valOf, Sp.val, List.getElem?_cons_zero, List.getElem?_cons_succ, Act.put, List.setIfInBounds_toArray, List.set_cons_zero, List.set_cons_succ]
 clear HO HN
 generalize ρ 7 = ag2
 generalize ρ 8 = amq
 generalize ρ 14 = al3
 clear ρ
 have gI : Keeps w [(x1.heap.size, .cells p.cA 38)] w' := HK
 obtain ⟨x2, rfl, hk2, hz2, kD⟩ := gI.jE
 have HB2 : Hid (Below w.heap.size w x2) := hk2.below
 clear HK aC gI hk2
 clear HW0
 go_wp2_with fail
 exact bodyPost_ret (v := .int .i64 0) (by simp [results, Tryz.results11, go_sem]) rfl ⟨rfl, pl HB2.out⟩
theorem anS (A0 A1 A2 : Option Addr) (c0 c1 c2 : Nat) (K m R S : List Nat) (lk : K.length = 32) (bk : ∀ z ∈ K, z < 256) (hm : m.length ≤ 65536) (bm : ∀ z ∈ m, z < 256) (lr : R.length = 32) (ls : S.length = 32) (br : ∀ z ∈ R, z < 256) (bs_ : ∀ z ∈ S, z < 256) (hc2 : 64 ≤ c2) (p : Pn) (P : EP) (hp : p.of P) (CD : ∀ w, kT w → Rd w .u8 A0 K → Calls Tryz.prog 25 #[.slice A0 32 c0] w fun e w' => e = .returned (.tuple #[p.v, .int .i64 0]) ∧ Below w.heap.size w w') (hsl : bW S < LO) (hb : ¬ iM (Pt.smul (ab3 (R ++ (K ++ m))) (-P) + Pt.smul (bW S) iZ) = R) (w : World) (hg : Sg5 w) (ho : kT w) (hr0 : Rd w .u8 A0 K) (hr1 : Rd w .u8 A1 m) (hr2 : Rd w .u8 A2 (R ++ S)) :
 Calls Tryz.prog 11 #[.slice A0 32 c0, .slice A1 m.length c1, .slice A2 64 c2] w fun e w' => e = .returned (.int .i64 42) ∧ Below w.heap.size w w' := by
 have hI : ((65536 : Int) < (m.length : Int)) = False := eq_false (by omega)
 have hJ : decide (65536 < m.length) = false := decide_eq_false (by omega)
 obtain ⟨gb, off, rfl, hgb, _⟩ := hr2.place (by rw [List.length_append]; omega)
 have qg := Lib.hid (And.intro lk bk)
 have HM := Lib.hid (And.intro hm bm)
 have HRS := Lib.hid (And.intro (And.intro lr ls) (And.intro br bs_))
 have HG := Lib.hid (And.intro hg ho)
 have HR0 := Lib.hid hr0
 have HR1 := Lib.hid hr1
 have HR2 := Lib.hid (And.intro (afK hr2).1 (show Rd w .u8 (some ⟨gb, off + 32, none⟩) S by have h := (afK hr2).2; rw [lr] at h; exact h))
 have hc1 : (32 : Int) ≤ (c2 : Int) := by omega
 have hc2' : (64 : Int) ≤ (c2 : Int) := by omega
 have hc3 : (c2 = 32) = False := eq_false (by omega)
 have hc4 : ¬ c2 = 32 := by omega
 have HCD := Lib.hid CD
 have amY := Lib.hid hsl
 clear hsl lk bk hm bm lr ls br bs_ hg ho hr0 hr1 hr2 hgb CD
 obtain ⟨on, hon, con⟩ := Rt p P hp
 have HP := Lib.hid hp
 have HOn := Lib.hid hon
 have COn := Lib.hid con
 clear hp hon con
 obtain ⟨KS, hKS⟩ : ∃ z, z = dw 32 (ab3 (R ++ (K ++ m))) := ⟨_, rfl⟩
 have HKS : Hid (KS = dw 32 (ab3 (R ++ (K ++ m))) ∧ KS.length = 32 ∧ ∀ z ∈ KS, z < 256) := Lib.hid ⟨hKS, (amV hKS).1, (amV hKS).2⟩
 obtain ⟨o, hof, hco⟩ := alq on vw (-P) iZ HOn.out yD KS S HKS.out.2.1 HRS.out.1.2 HKS.out.2.2 HRS.out.2.2
 obtain ⟨E, hE⟩ : ∃ z, z = iM (Pt.smul (bW KS) (-P) + Pt.smul (bW S) iZ) := ⟨_, rfl⟩
 have HEq : Hid (¬ E = R) := Lib.hid (by rw [hE, hKS, acL _ (agG _)]; exact hb)
 have HE : Hid (E = iM (Pt.smul (bW KS) (-P) + Pt.smul (bW S) iZ) ∧ E.length = 32 ∧ ∀ z ∈ E, z < 256) := Lib.hid ⟨hE, (lF hE).1, (lF hE).2⟩
 have HOf := Lib.hid hof
 have CO := Lib.hid hco
 clear hKS hof hco hE hb
 go_enter Tryz.func11, Tryz.ntmps11
 go_wp2_with fail
 refine (HCD.out _ (HG.out.2.next (pl (Below.refl _ _))) (HR0.out.next (pl (Below.refl _ _)))).mono ?_
 rintro e x1 ⟨rfl, hb1⟩
 have HB1 : Hid (Below w.heap.size w x1) := Below.trans (pl (Below.refl _ _)) (hb1.mono sz)
 have hz1 := HB1.out.size
 clear hb1
 go_wp2_with (refine bf 38 (.tmp 7) (.tmp 27) rfl rfl (x1.heap.size) 0 p.cA rfl rfl 38 bP p.cA ob (by kernel_rfl) (by kernel_rfl) (eH p) (by kernel_rfl) ?_)
 refine st1 w [] 6 (ak (b := x1.heap.size) ob (aO (pl HB1.out))) (fun HS => ?_)
 refine tk1 0 (some 31) HS (h := ?_)
 refine tk1 1 (some 32) HS (h := ?_)
 refine tk1 2 (some 33) HS (h := ?_)
 refine tk1 3 (some 34) HS (h := ?_)
 refine tk1 4 (some 9) HS (h := ?_)
 refine tk1 5 (some 10) HS (h := ?_)
 clear HS
 refine done_ (by kernel_rfl) ?_
 go_wp2_with fail
 refine aac w [(x1.heap.size, .cells p.cA 38)] [.is (.slice (some ⟨gb, off + 32, none⟩) 32 (c2 - 32)), .is (.int .i64 0), .is (.bool false), .is (.bool false), .is (.slice (some ⟨gb, off, none⟩) 32 c2), .is (.slice A0 32 c0), .is (.slice A1 m.length c1), .new (fun p => .slice (some ⟨p, 0, none⟩) 3 3) (.cells #[.slice (some ⟨gb, off, none⟩) 32 c2, .slice A0 32 c0, .slice A1 m.length c1] 22), .new (fun p => .slice (some ⟨p, 0, none⟩) 32 32) (.cells (bF KS) 5), .is p.v, .is on.v, .is (.slice (some ⟨gb, off + 32, none⟩) 32 (c2 - 32)), .is vw.v, .is o.v, .new (fun p => .slice (some ⟨p, 0, none⟩) 32 32) (.cells (bF E) 5), .is (.slice (some ⟨gb, off, none⟩) 32 c2), .is (.bool false), .is (.bool true), .is (.bool true)] [some 35, some 36, some 37, some 38, some 39, some 40, some 41, some 42, some 43, some 44, some 45, some 46, some 47, some 48, some 49, some 50, some 51, some 52, some 53] [(0, .slice A0 32 c0), (1, .slice A1 m.length c1), (7, .pointer (some ⟨x1.heap.size, 0, none⟩)), (9, .slice (some ⟨gb, off, none⟩) 32 c2), (10, .slice (some ⟨gb, off + 32, none⟩) 32 (c2 - 32))] 53 (ak (b := x1.heap.size) ob (aO (pl HB1.out))) (fun a0 hc => ⟨abp hc [(10, none)], abP hc [(35, some 0)] Tryz.func26 (fun _ HK => agL (some ⟨gb, off + 32, none⟩) (c2 - 32) S 0 HRS.out.2.2 HRS.out.1.2 (by rw [if_pos amY.out]) _ (HR2.out.2.next HK.1) ((HG.out.1.next HK.1)).r), abp hc [(36, some 1)], abp hc [(37, some 2)], abp hc [(9, none), (38, some 3)], abp hc [(0, none), (38, some 3)], abp hc [(1, none), (38, some 3)], ac5 hc [(39, some 4), (40, some 5), (41, some 6), (38, some 3)], adf hc [(42, some 7), (38, some 3)] Tryz.func18 (fun ρ w HK HH => afM ⟨some ⟨gb, off, none⟩, c2, R⟩ ⟨A0, c0, K⟩ ⟨A1, c1, m⟩ KS _ 3 (by have := HRS.out.1.1; have := qg.out.1; have := HM.out.1; simp only; omega) HKS.out.1 w (HG.out.1.next HK.1) (acZ HH.1 (by rw [QH.v, HRS.out.1.1]) (by rw [QH.v, qg.out.1]) rfl (acQ (A := some ⟨gb, off, none⟩) (c := c2) (bs := R) (HR2.out.1.next HK.1) HRS.out.2.1) (acQ (A := A0) (c := c0) (bs := K) (HR0.out.next HK.1) qg.out.2) (acQ (A := A1) (c := c1) (bs := m) (HR1.out.next HK.1) HM.out.2))), anj hc 7 (x1.heap.size) [(7, none), (38, some 3)] (fun ρ a hr => by simp only [aaf, aan, valOf, Sp.val, aae, List.getElem?_cons_zero, List.getElem?_cons_succ, Nat.reduceBEq, cond_true, cond_false] at hr; (repeat (obtain ⟨_, hr⟩ := hr)); exact aat rfl rfl (by assumption)), abP hc [(44, some 9), (38, some 3)] Tryz.func29 (fun _ HK => COn.out _), abp hc [(10, none), (38, some 3)], abP hc [(38, some 3)] Tryz.func14 (fun _ HK => yG _ (HG.out.1.next HK.1).b), ade hc [(43, some 8), (45, some 10), (46, some 11), (47, some 12), (38, some 3)] Tryz.func28 (fun ρ w HK HH => CO.out _ _ 32 (c2 - 32) w (HG.out.1.next HK.1).c (nS HH.1) (HR2.out.2.next HK.1)), adf hc [(48, some 13), (38, some 3)] Tryz.func13 (fun ρ w HK HH => ak9 o _ E HE.out.1 HOf.out w), abp hc [(9, none), (38, some 3)], ade hc [(49, some 14), (50, some 15), (38, some 3)] Tryz.func27 (fun ρ w HK HH => ahB _ _ 32 c2 E R HE.out.2.1 HRS.out.1.1 HE.out.2.2 HRS.out.2.1 false (⟨fun h => (by cases h), fun h => absurd h HEq.out⟩) w (nS HH.1) (HR2.out.1.next HK.1)), abp hc [(51, some 16), (38, some 3)], abp hc [(38, some 3), (52, some 17)], trivial⟩) ?_ ⟨rfl, rfl, rfl, rfl, rfl, trivial⟩ (by simp) (by kernel_rfl) rfl rfl rfl rfl rfl (by kernel_rfl)
 intro ρ w' HK HO HN aC HW0
 simp only [ae7, ae8, valOf, Sp.val, List.getElem?_cons_zero, List.getElem?_cons_succ, Act.put, List.setIfInBounds_toArray, List.set_cons_zero, List.set_cons_succ]
 clear HO HN
 generalize ρ 7 = ag2
 generalize ρ 8 = amq
 generalize ρ 14 = al3
 clear ρ
 have gI : Keeps w [(x1.heap.size, .cells p.cA 38)] w' := HK
 obtain ⟨x2, rfl, hk2, hz2, kD⟩ := gI.jE
 have HB2 : Hid (Below w.heap.size w x2) := hk2.below
 clear HK aC gI hk2
 clear HW0
 go_wp2_with fail
 exact bodyPost_ret (v := .int .i64 42) (by simp [results, Tryz.results11, go_sem]) rfl ⟨rfl, pl HB2.out⟩
end
end Go.Proofs.YtehfkbaendajbaaGreatDoor
