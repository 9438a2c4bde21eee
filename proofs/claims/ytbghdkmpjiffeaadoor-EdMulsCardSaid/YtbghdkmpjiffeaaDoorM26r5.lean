/-
  Shared, part 26r5: walks and plain laws; each theorem states its own conditions.
-/
import Derived.Test.YtbghdkmpjiffeaaDoorM26
namespace Go.Proofs.YtbghdkmpjiffeaaDoor
set_option linter.unusedSimpArgs false
set_option linter.unusedVariables false
set_option maxRecDepth 100000
set_option maxHeartbeats 8000000
section
open Go.RowKit Go.Proofs.YtbghdkmpjiffeaaDoorW.PrintLast
theorem U5 (p o : Pn) (A : Option Addr) (c : Nat) (ns : List Nat) (hn : ns.length ≤ 32) (QU : Hid (∀ w, kE w → Rd w .u8 A ns → Calls Tryd.prog 62 #[.slice A ns.length c, p.v, .slice none 0 0, iR.v] w fun e w' => e = .returned o.v ∧ Below w.heap.size w w')) (w : World) (hg : kE w) (hr : Rd w .u8 A ns) :
 Calls Tryd.prog 28 #[.slice A ns.length c, p.v] w fun e w' => e = .returned (.tuple #[o.v, .int .i64 0]) ∧ Below w.heap.size w w' := by
 have kS := Lib.hid hg
 have mJ := Lib.hid hr
 have hnI : ((32 : Int) < (ns.length : Int)) = False := eq_false (by omega)
 have HN := Lib.hid hn
 clear hg hr hn
 go_enter Tryd.func28, Tryd.ntmps28
 go_wp2_with fail
 refine st1 w [4, 5] 6 (ak (b := w.heap.size) ob (ak (b := w.heap.size + 1) ob (aO (pl (Below.refl _ _))))) (fun HS => ?_)
 refine tk2 0 (some 10) HS (h := ?_)
 refine tk2 1 (some 11) HS (v := p.v) (hy := by (intro v hv; obtain ⟨x, rfl, _, _, n0, n1⟩ := hv.iL; exact aG 28 (.tmp 3) rfl (w.heap.size) 0 rfl p.cL p.cA 28 ob (by kernel_rfl) (by kernel_rfl) (by kernel_rfl))) (h := ?_)
 refine dH 2 (some 12) (h := fun K hK => ?_)
 go_simp
 refine (qm _).mono ?_
 rintro e y ⟨rfl, hb⟩
 refine hK.out _ _ (HS.step hb rfl) ?_
 clear HS hb
 intro HS
 refine dH 3 (some 13) (h := fun K hK => ?_)
 go_simp
 refine (QU.out _ (kS.out.next HS.1) (mJ.out.next HS.1)).mono ?_
 rintro e y ⟨rfl, hb⟩
 refine hK.out _ _ (HS.step hb rfl) ?_
 clear HS hb
 intro HS
 obtain ⟨x1, rfl, hk1, hz1, l10, nG⟩ := HS.iL
 have HB1 : Hid (Below w.heap.size w x1) := hk1.below
 clear HS hk1
 refine pO 4 none (h := fun K hK => ?_)
 refine (if_pos (by rfl)).mpr ?_
 refine gB 28 _ _ rfl (w.heap.size + 1) (o.cA) rfl rfl 28 (bP) ob (by kernel_rfl) rfl (eH o) ?_
 refine hK.out _ _ ?_
 refine pO 5 (some 5) (h := fun K hK => ?_)
 go_simp
 refine hK.out _ _ ?_
 refine done_ (by kernel_rfl) ?_
 go_wp2_with fail
 exact bodyPost_ret (v := .tuple #[o.v, .int .i64 0]) (cu rfl rfl (fD o ob) rfl) rfl ⟨rfl, pl HB1.out⟩
theorem PY (p o : Pn) (A B : Option Addr) (c d : Nat) (ns ms : List Nat) (hn : ns.length ≤ 32) (hm : ms.length ≤ 32) (QU : Hid (∀ w, kE w → Rd w .u8 A ns → Rd w .u8 B ms → Calls Tryd.prog 62 #[.slice A ns.length c, p.v, .slice B ms.length d, vw.v] w fun e w' => e = .returned o.v ∧ Below w.heap.size w w')) (w : World) (hg : kE w) (hb : nU w) (hr : Rd w .u8 A ns) (hs : Rd w .u8 B ms) :
 Calls Tryd.prog 33 #[.slice A ns.length c, p.v, .slice B ms.length d] w fun e w' => e = .returned (.tuple #[o.v, .int .i64 0]) ∧ Below w.heap.size w w' := by
 have kS := Lib.hid hg
 have rZ := Lib.hid hb
 have mJ := Lib.hid hr
 have HRs := Lib.hid hs
 have hnI : ((32 : Int) < (ns.length : Int)) = False := eq_false (by omega)
 have hmI : ((32 : Int) < (ms.length : Int)) = False := eq_false (by omega)
 have HN := Lib.hid (And.intro hn hm)
 clear hg hr hn hm hb hs
 go_enter Tryd.func33, Tryd.ntmps33
 go_wp2_with fail
 refine st1 w [5, 6] 7 (ak (b := w.heap.size) ob (ak (b := w.heap.size + 1) ob (aO (pl (Below.refl _ _))))) (fun HS => ?_)
 refine tk2 0 (some 17) HS (h := ?_)
 refine tk2 1 (some 18) HS (v := p.v) (hy := by (intro v hv; obtain ⟨x, rfl, _, _, n0, n1⟩ := hv.iL; exact aG 28 (.tmp 4) rfl (w.heap.size) 0 rfl p.cL p.cA 28 ob (by kernel_rfl) (by kernel_rfl) (by kernel_rfl))) (h := ?_)
 refine tk2 2 (some 19) HS (h := ?_)
 refine dH 3 (some 20) (h := fun K hK => ?_)
 go_simp
 refine (yG _ (rZ.out.next HS.1)).mono ?_
 rintro e y ⟨rfl, hb⟩
 refine hK.out _ _ (HS.step hb rfl) ?_
 clear HS hb
 intro HS
 refine dH 4 (some 21) (h := fun K hK => ?_)
 go_simp
 refine (QU.out _ (kS.out.next HS.1) (mJ.out.next HS.1) (HRs.out.next HS.1)).mono ?_
 rintro e y ⟨rfl, hb⟩
 refine hK.out _ _ (HS.step hb rfl) ?_
 clear HS hb
 intro HS
 obtain ⟨x1, rfl, hk1, hz1, l10, nG⟩ := HS.iL
 have HB1 : Hid (Below w.heap.size w x1) := hk1.below
 clear HS hk1
 refine pO 5 none (h := fun K hK => ?_)
 refine (if_pos (by rfl)).mpr ?_
 refine gB 28 _ _ rfl (w.heap.size + 1) (o.cA) rfl rfl 28 (bP) ob (by kernel_rfl) rfl (eH o) ?_
 refine hK.out _ _ ?_
 refine pO 6 (some 7) (h := fun K hK => ?_)
 go_simp
 refine hK.out _ _ ?_
 refine done_ (by kernel_rfl) ?_
 go_wp2_with fail
 exact bodyPost_ret (v := .tuple #[o.v, .int .i64 0]) (cu rfl rfl (fD o ob) rfl) rfl ⟨rfl, pl HB1.out⟩
theorem Yw (p : Pn) (A : Option Addr) (c : Nat) (ns : List Nat) (hn : 32 < ns.length) (w : World) :
 Calls Tryd.prog 28 #[.slice A ns.length c, p.v] w fun e w' => e = .returned (.tuple #[.agg bP, .int .i64 1]) ∧ Below w.heap.size w w' := by
 have hnI : (32 : Int) < (ns.length : Int) := by omega
 go_enter Tryd.func28, Tryd.ntmps28
 go_wp2_with (refine bf 28 (.tmp 4) (.tmp 9) rfl rfl (w.heap.size + 1) 0 dh.cA rfl rfl 28 bP dh.cA ob (by kernel_rfl) (by kernel_rfl) (eH dh) (by kernel_rfl) ?_)
 exact bodyPost_ret (v := .tuple #[.agg bP, .int .i64 1]) (cu rfl rfl (fD (b := w.heap.size + 1) dh (eY (by simp only [World.size_alloc]; omega))) rfl) rfl ⟨rfl, pl (Below.refl _ _)⟩
theorem UW (p : Pn) (A B : Option Addr) (c d : Nat) (ns ms : List Nat) (hn : 32 < ns.length) (w : World) :
 Calls Tryd.prog 33 #[.slice A ns.length c, p.v, .slice B ms.length d] w fun e w' => e = .returned (.tuple #[.agg bP, .int .i64 1]) ∧ Below w.heap.size w w' := by
 have hnI : (32 : Int) < (ns.length : Int) := by omega
 go_enter Tryd.func33, Tryd.ntmps33
 go_wp2_with (refine bf 28 (.tmp 6) (.tmp 16) rfl rfl (w.heap.size + 1) 0 dh.cA rfl rfl 28 bP dh.cA ob (by kernel_rfl) (by kernel_rfl) (eH dh) (by kernel_rfl) ?_)
 exact bodyPost_ret (v := .tuple #[.agg bP, .int .i64 1]) (cu rfl rfl (fD (b := w.heap.size + 1) dh (eY (by simp only [World.size_alloc]; omega))) rfl) rfl ⟨rfl, pl (Below.refl _ _)⟩
theorem UY (p : Pn) (A B : Option Addr) (c d : Nat) (ns ms : List Nat) (hn : ns.length ≤ 32) (hm : 32 < ms.length) (w : World) :
 Calls Tryd.prog 33 #[.slice A ns.length c, p.v, .slice B ms.length d] w fun e w' => e = .returned (.tuple #[.agg bP, .int .i64 1]) ∧ Below w.heap.size w w' := by
 have hmI : (32 : Int) < (ms.length : Int) := by omega
 have hnI : ((32 : Int) < (ns.length : Int)) = False := eq_false (by omega)
 go_enter Tryd.func33, Tryd.ntmps33
 go_wp2_with (refine bf 28 (.tmp 6) (.tmp 16) rfl rfl (w.heap.size + 1) 0 dh.cA rfl rfl 28 bP dh.cA ob (by kernel_rfl) (by kernel_rfl) (eH dh) (by kernel_rfl) ?_)
 exact bodyPost_ret (v := .tuple #[.agg bP, .int .i64 1]) (cu rfl rfl (fD (b := w.heap.size + 1) dh (eY (by simp only [World.size_alloc]; omega))) rfl) rfl ⟨rfl, pl (Below.refl _ _)⟩
theorem Lu (P : EP) (n : Nat) : Pt.smul n P + Pt.smul (bW []) Pt.zero = Pt.smul n P := by rw [show bW [] = 0 from rfl, smul_zero, Pt.add_zero]
theorem Rq (p : Pn) (P : EP) (hp : p.of P) (A : Option Addr) (c : Nat) (ns : List Nat) (hn : ns.length ≤ 32) (hbn : ∀ b ∈ ns, b < 256) : ∃ o : Pn, o.of (Pt.smul (bW ns) P) ∧ ∀ w : World, kE w → Rd w .u8 A ns →
 Calls Tryd.prog 28 #[.slice A ns.length c, p.v] w fun e w' => e = .returned (.tuple #[o.v, .int .i64 0]) ∧ Below w.heap.size w w' := by
 obtain ⟨o, ho, Pg⟩ := KT p iR P Pt.zero hp oH A none c 0 ns [] (by omega) (Nat.zero_le _) hbn (fun _ h => nomatch h)
 rw [Lu] at ho
 exact ⟨o, ho, fun w hg hr => U5 p o A c ns hn (Lib.hid fun w hg hr => Pg w hg hr (Rd.nil _ _ _)) w hg hr⟩
theorem aaJ (p : Pn) (P : EP) (hp : p.of P) (A B : Option Addr) (c d : Nat) (ns ms : List Nat) (hn : ns.length ≤ 32) (hm : ms.length ≤ 32) (hbn : ∀ b ∈ ns, b < 256) (hbm : ∀ b ∈ ms, b < 256) : ∃ o : Pn, o.of (Pt.smul (bW ns) P + Pt.smul (bW ms) iZ) ∧ ∀ w : World, kE w → nU w → Rd w .u8 A ns → Rd w .u8 B ms →
 Calls Tryd.prog 33 #[.slice A ns.length c, p.v, .slice B ms.length d] w fun e w' => e = .returned (.tuple #[o.v, .int .i64 0]) ∧ Below w.heap.size w w' := by
 obtain ⟨o, ho, Pg⟩ := KT p vw P iZ hp yD A B c d ns ms (by omega) (by omega) hbn hbm
 exact ⟨o, ho, fun w hg hb hr hs => PY p o A B c d ns ms hn hm (Lib.hid Pg) w hg hb hr hs⟩
end
end Go.Proofs.YtbghdkmpjiffeaaDoor
