/-
  Shared, part 56: walks and plain laws; each theorem states its own conditions.
-/
import Derived.Test.YtehfkbaendajbaaGreatDoorB40
import Derived.Test.YtehfkbaendajbaaGreatDoorB54
import Derived.Laws.BytesArg
namespace Go.Proofs.YtehfkbaendajbaaGreatDoor
set_option linter.unusedSimpArgs false
set_option linter.unusedVariables false
set_option maxRecDepth 100000
set_option maxHeartbeats 8000000
section
open Go.RowKit Go.Proofs.YtehfkbaendajbaaGreatDoorW.PrintLast
def aoy (bs : List Nat) : ByteArray := strOfNums (bs.map fun n => ((n : Nat) : Int))
theorem aqn {xs ys : List Nat} (hx : ∀ z ∈ xs, z < 256) (hy : ∀ z ∈ ys, z < 256) (h : (aoy xs).data = (aoy ys).data) : xs = ys := by
 have h1 : (aoy xs).data.toList = (aoy ys).data.toList := by rw [h]
 simp only [aoy, strOfNums_data, List.map_map] at h1
 have key : ∀ xs ys : List Nat, (∀ z ∈ xs, z < 256) → (∀ z ∈ ys, z < 256) → List.map ((fun n : Int => UInt8.ofNat n.toNat) ∘ fun n : Nat => (n : Int)) xs = List.map ((fun n : Int => UInt8.ofNat n.toNat) ∘ fun n : Nat => (n : Int)) ys → xs = ys := by
  intro xs
  induction xs with
  | nil =>
   intro ys _ _ h
   cases ys with
   | nil => rfl
   | cons y ys => exact absurd h (by simp)
  | cons x xs ih =>
   intro ys hx hy h
   cases ys with
   | nil => exact absurd h (by simp)
   | cons y ys =>
    rw [List.map_cons, List.map_cons, List.cons.injEq] at h
    have h2 := congrArg UInt8.toNat h.1
    have h3 := hx x List.mem_cons_self
    have h4 := hy y List.mem_cons_self
    simp only [Function.comp_apply, Int.toNat_natCast, UInt8.toNat_ofNat'] at h2
    rw [ih ys (fun z hz => hx z (List.mem_cons_of_mem _ hz)) (fun z hz => hy z (List.mem_cons_of_mem _ hz)) h.2]
    congr 1
    omega
 exact key xs ys hx hy h1
theorem apz {xs ys : List Nat} (hx : ∀ z ∈ xs, z < 256) (hy : ∀ z ∈ ys, z < 256) : ((aoy xs).toList == (aoy ys).toList) = decide (xs = ys) := by
 rw [ByteArray.toList_eq, ByteArray.toList_eq]
 by_cases h : xs = ys
 · subst h; simp
 · rw [decide_eq_false h]
   exact beq_eq_false_iff_ne.mpr fun e => h (aqn hx hy (Array.toList_inj.mp e))
theorem apK (a : Addr) (c : Nat) (w : World) : (convert 22 9 (.slice (some a) 0 c)).run Tryz.prog w = .ok (.string ByteArray.empty) w := by
 have h1 : Tryz.prog.underlying 22 = some (.slice 5) := by kernel_rfl
 have h2 : Tryz.prog.underlying 5 = some (.int .u8) := by kernel_rfl
 have h3 : Tryz.prog.underlying 9 = some .string := by kernel_rfl
 simp [convert, underlying, h1, h2, h3, Conv.bytesToString, loadCells, loadCellsFrom]
theorem aqE {w : World} {A : Option Addr} {n c : Nat} {bs : List Nat} (hn : bs.length = n) (hr : Rd w .u8 A bs) : (convert 22 9 (.slice A n c)).run Tryz.prog w = .ok (.string (aoy bs)) w := by
 subst hn
 cases bs with
 | nil =>
  cases A with
  | none => exact run_convert_bytes_nil (P := Tryz.prog) (w := w) _ 5 (by kernel_rfl) (by kernel_rfl) 0 c 9 (by kernel_rfl)
  | some a =>
   have e : aoy [] = ByteArray.empty := rfl
   rw [e]
   exact apK a c w
 | cons z l =>
  obtain ⟨b, off, rfl, _, hc⟩ := hr.place (by simp)
  exact run_convert_bytes_arg (P := Tryz.prog) (w := w) _ 5 (by kernel_rfl) (by kernel_rfl) b off _ c ((z :: l).map fun n => ((n : Nat) : Int)) (by simp) (fun i hi => by rw [hc i hi, List.getD_eq_getElem?_getD, List.getElem?_map, List.getElem?_eq_getElem hi]; rfl) 9 (by kernel_rfl)
theorem aoK {o : Oper} {a : Act} {w : World} {A : Option Addr} {n c : Nat} (x : Operand) (bs : List Nat) (ho : o.op = .convert 22 9 x) (hx : a.eval x = .slice A n c) (hn : bs.length = n) (hr : Rd w .u8 A bs) : (execOp a.eval o).run Tryz.prog w = .ok (.value (.string (aoy bs))) w := by
 unfold execOp
 simp only [ho, Sem.run_bind, Sem.run_pure, Result.andThen_ok, hx, aqE hn hr]
theorem apu {o : Oper} {a : Act} {w : World} (x y : Operand) {s t : ByteArray} (b : Bool) (ho : o.op = .binOp .neq 9 x y 9) (hx : a.eval x = .string s) (hy : a.eval y = .string t) (hb : (s.toList == t.toList) = b) : (execOp a.eval o).run Tryz.prog w = .ok (.value (.bool (!b))) w := by
 subst hb
 unfold execOp
 simp only [ho, Sem.run_bind, Sem.run_pure, Result.andThen_ok, hx, hy, binOp, Op.stringOp]
 rfl
section
variable {md : Region.Mode} {ops : Array Oper} {Q : Exit → Act → World → Prop} {S : World → Prop} {ds : List Nat}
theorem ape {i : Nat} {oi : Oper} {fuel : Nat} {l : Array Bool} {a : Act} {w : World} {v : Value} (l' : Array Bool) (N : Option Tmp) (hi : ops[i]? = some oi) (hN : oi.dst = N) (hc : readyB md ops l l' i = true) (hd : i ∉ ds) (hg : oi.guard = none) (hS : S w) (hrun : (execOp a.eval oi).run Tryz.prog w = .ok (.value v) w)
 (h : wpAnyLast Tryz.prog md ops Q S ds fuel l' (a.put N v) w) : wpAnyLast Tryz.prog md ops Q S ds (fuel + 1) l a w :=
 one_ l' hi hN hc hd (fun K hK => value_ (by unfold Region.wanted; rw [hg]) hN hrun (hK.out _ _ hS (fun _ => h)))
end
theorem aq4 (A0 A1 A2 : Option Addr) (c0 c1 c2 k0 k1 k2 : Nat) (h : ¬ k0 = 32) (w : World) :
 Calls Tryz.prog 12 #[.slice A0 k0 c0, .slice A1 k1 c1, .slice A2 k2 c2] w fun e w' => e = .returned (.int .i64 1) ∧ Below w.heap.size w w' := by
 have hI0 : ((k0 : Int) = 32) = False := eq_false (by omega)
 have hJ0 : ((k0 : Int) == 32) = false := beq_eq_false_iff_ne.mpr (by omega)
 have hK0 : ((k0 : Int) != 32) = true := by simp only [bne, hJ0]; rfl
 go_enter Tryz.func12, Tryz.ntmps12
 go_wp2_with fail
 exact bodyPost_ret (v := .int .i64 1) (by simp [results, Tryz.results12, go_sem]) rfl ⟨rfl, pl (Below.refl _ _)⟩
theorem aq2 (A0 A1 A2 : Option Addr) (c0 c1 c2 k1 k2 : Nat) (h : ¬ k2 = 64) (w : World) :
 Calls Tryz.prog 12 #[.slice A0 32 c0, .slice A1 k1 c1, .slice A2 k2 c2] w fun e w' => e = .returned (.int .i64 1) ∧ Below w.heap.size w w' := by
 have hI0 : ((k2 : Int) = 64) = False := eq_false (by omega)
 have hJ0 : ((k2 : Int) == 64) = false := beq_eq_false_iff_ne.mpr (by omega)
 have hK0 : ((k2 : Int) != 64) = true := by simp only [bne, hJ0]; rfl
 go_enter Tryz.func12, Tryz.ntmps12
 go_wp2_with fail
 exact bodyPost_ret (v := .int .i64 1) (by simp [results, Tryz.results12, go_sem]) rfl ⟨rfl, pl (Below.refl _ _)⟩
theorem ao4 (p q : Dp) (P Q : EP) (hp : p.of P) (hq : q.of Q) (A B : Option Addr) (c d : Nat) (ns ms : List Nat) (W : EP) (hW : W = Pt.smul (bW ns) P + Pt.smul (bW ms) Q) (hn : ns.length = 32) (hm : ms.length = 32) (hbn : ∀ b ∈ ns, b < 256) (hbm : ∀ b ∈ ms, b < 256) (w : World) (kp : p.ok w) (kq : q.ok w) (hrn : Rd w .u8 A ns) (hrm : Rd w .u8 B ms) :
 Calls Tryz.prog 34 #[.slice A 32 c, p.v, .slice B 32 d, q.v] w fun e w' => (∃ o : Dp, e = .returned o.v ∧ o.ok w' ∧ o.of W) ∧ Below w.heap.size w w' := by
 subst hW
 have h := ML p q P Q hp hq A B c d ns ms (by omega) (by omega) hbn hbm w kp kq hrn hrm
 rw [hn, hm] at h
 exact h
theorem apq (A : Option Addr) (c k : Nat) (bs : List Nat) (hby : ∀ b ∈ bs, b < 256) (hl : bs.length = 32) (hk : (if bW bs < LO then 0 else 31) = k) (w : World) (hr : Rd w .u8 A bs) : Calls Tryz.prog 31 #[.slice A 32 c] w fun e w' => e = .returned (.int .i64 (k : Int)) ∧ Below w.heap.size w w' := by
 have h := apD A c bs hby hl w hr
 rw [hl] at h
 refine h.mono ?_
 rintro e w' ⟨rfl, hb⟩
 refine ⟨?_, hb⟩
 subst hk
 split <;> rfl
theorem aq3 (A0 A1 : Option Addr) (g off c0 c1 c2 : Nat) (K m R S : List Nat) (lk : K.length = 32) (bk : ∀ z ∈ K, z < 256) (hc0 : 32 ≤ c0) (hm : m.length ≤ 65536) (bm : ∀ z ∈ m, z < 256) (lr : R.length = 32) (ls : S.length = 32) (br : ∀ z ∈ R, z < 256) (bs_ : ∀ z ∈ S, z < 256) (hc2 : 64 ≤ c2) (hgd : ¬ qW K) (w : World) (hr0 : Rd w .u8 A0 K) (hr1 : Rd w .u8 A1 m) (hr2 : Rd w .u8 (some ⟨g, off, none⟩) R) (hr3 : Rd w .u8 (some ⟨g, off + 32, none⟩) S) :
 Calls Tryz.prog 12 #[.slice A0 32 c0, .slice A1 m.length c1, .slice (some ⟨g, off, none⟩) 64 c2] w fun e w' => e = .returned (.int .i64 41) ∧ Below w.heap.size w w' := by
 have HK := Lib.hid (And.intro lk (And.intro bk hc0))
 have HM := Lib.hid (And.intro hm bm)
 have HRS := Lib.hid (And.intro lr (And.intro ls (And.intro br bs_)))
 have HR0 := Lib.hid hr0
 have HR1 := Lib.hid hr1
 have HR2 := Lib.hid hr2
 have HR3 := Lib.hid hr3
 obtain ⟨lm, hlm⟩ : ∃ z, z = m.length := ⟨_, rfl⟩
 have LV := Lib.hid hlm.symm
 have hls : lm ≤ 65536 := by omega
 have hlI : ((65536 : Int) < (lm : Int)) = False := eq_false (by omega)
 have hlJ : decide (65536 < lm) = false := decide_eq_false (by omega)
 have auJ : (32 : Int) ≤ (c2 : Int) := by omega
 have arn : (64 : Int) ≤ (c2 : Int) := by omega
 have auL : ¬ c2 = 32 := by omega
 rw [← hlm]
 have HGD := Lib.hid hgd
 clear hgd
 clear lk bk hc0 hm bm lr ls br bs_ hc2 hr0 hr1 hr2 hr3 hlm
 go_enter Tryz.func12, Tryz.ntmps12
 go_wp2_with fail
 refine (SS A0 c0 K HK.out.1 (by rw [HK.out.1]; exact HK.out.2.2) HK.out.2.1 HGD.out _ HR0.out).mono ?_
 rintro e x1 ⟨rfl, hb1⟩
 have HB1 : Hid (Below w.heap.size w x1) := Below.trans (pl (Below.refl _ _)) (hb1.mono sz)
 have hz1 := HB1.out.size
 replace HR0 := Lib.hid (HR0.out.next (bt hb1))
 replace HR1 := Lib.hid (HR1.out.next (bt hb1))
 replace HR2 := Lib.hid (HR2.out.next (bt hb1))
 replace HR3 := Lib.hid (HR3.out.next (bt hb1))
 clear hb1
 go_wp2_with fail
 exact bodyPost_ret (v := .int .i64 41) (by simp [results, Tryz.results12, go_sem]) rfl ⟨rfl, pl HB1.out⟩
theorem aq5 (A0 A1 : Option Addr) (g off c0 c1 c2 : Nat) (K m R S : List Nat) (lk : K.length = 32) (bk : ∀ z ∈ K, z < 256) (hc0 : 32 ≤ c0) (hm : m.length ≤ 65536) (bm : ∀ z ∈ m, z < 256) (lr : R.length = 32) (ls : S.length = 32) (br : ∀ z ∈ R, z < 256) (bs_ : ∀ z ∈ S, z < 256) (hc2 : 64 ≤ c2) (hgd : qW K) (hsl : (if bW S < LO then 0 else 31) = 31) (w : World) (hr0 : Rd w .u8 A0 K) (hr1 : Rd w .u8 A1 m) (hr2 : Rd w .u8 (some ⟨g, off, none⟩) R) (hr3 : Rd w .u8 (some ⟨g, off + 32, none⟩) S) :
 Calls Tryz.prog 12 #[.slice A0 32 c0, .slice A1 m.length c1, .slice (some ⟨g, off, none⟩) 64 c2] w fun e w' => e = .returned (.int .i64 42) ∧ Below w.heap.size w w' := by
 have HK := Lib.hid (And.intro lk (And.intro bk hc0))
 have HM := Lib.hid (And.intro hm bm)
 have HRS := Lib.hid (And.intro lr (And.intro ls (And.intro br bs_)))
 have HR0 := Lib.hid hr0
 have HR1 := Lib.hid hr1
 have HR2 := Lib.hid hr2
 have HR3 := Lib.hid hr3
 obtain ⟨lm, hlm⟩ : ∃ z, z = m.length := ⟨_, rfl⟩
 have LV := Lib.hid hlm.symm
 have hls : lm ≤ 65536 := by omega
 have hlI : ((65536 : Int) < (lm : Int)) = False := eq_false (by omega)
 have hlJ : decide (65536 < lm) = false := decide_eq_false (by omega)
 have auJ : (32 : Int) ≤ (c2 : Int) := by omega
 have arn : (64 : Int) ≤ (c2 : Int) := by omega
 have auL : ¬ c2 = 32 := by omega
 rw [← hlm]
 have HGD := Lib.hid hgd
 clear hgd
 have HSL := Lib.hid hsl
 clear hsl
 clear lk bk hc0 hm bm lr ls br bs_ hc2 hr0 hr1 hr2 hr3 hlm
 go_enter Tryz.func12, Tryz.ntmps12
 go_wp2_with fail
 refine (OE A0 c0 K HK.out.1 (by rw [HK.out.1]; exact HK.out.2.2) HK.out.2.1 HGD.out _ HR0.out).mono ?_
 rintro e x1 ⟨⟨o, rfl, hok, hof⟩, hb1⟩
 have HB1 : Hid (Below w.heap.size w x1) := Below.trans (pl (Below.refl _ _)) (hb1.mono sz)
 have hz1 := HB1.out.size
 replace HR0 := Lib.hid (HR0.out.next (bt hb1))
 replace HR1 := Lib.hid (HR1.out.next (bt hb1))
 replace HR2 := Lib.hid (HR2.out.next (bt hb1))
 replace HR3 := Lib.hid (HR3.out.next (bt hb1))
 clear hb1
 have DU := Lib.hid hok
 have zQ := Lib.hid hof
 clear hok hof
 go_wp2_with fail
 refine (apq (some ⟨g, off + 32, none⟩) (c2 - 32) 31 S HRS.out.2.2.2 HRS.out.2.1 HSL.out _ (HR3.out.next (pl (Below.refl _ _)))).mono ?_
 rintro e y2 ⟨rfl, hb2⟩
 replace HR0 := Lib.hid (HR0.out.next (bt hb2))
 replace HR1 := Lib.hid (HR1.out.next (bt hb2))
 replace HR2 := Lib.hid (HR2.out.next (bt hb2))
 replace HR3 := Lib.hid (HR3.out.next (bt hb2))
 replace DU := Lib.hid (DU.out.next (bt hb2))
 obtain ⟨x2, rfl, hc2, hz2, kD⟩ := bQ (b := x1.heap.size) hb2 rfl ob
 have HB2 := aZ HB1.out hc2
 clear hb2 hc2
 try simp only [eF] at hz2
 go_wp2_with fail
 exact bodyPost_ret (v := .int .i64 42) (by simp [results, Tryz.results12, go_sem]) rfl ⟨rfl, pl HB2.out⟩
theorem apM (A0 A1 : Option Addr) (g off c0 c1 c2 : Nat) (K m R S : List Nat) (lk : K.length = 32) (bk : ∀ z ∈ K, z < 256) (hc0 : 32 ≤ c0) (hm : m.length ≤ 65536) (bm : ∀ z ∈ m, z < 256) (lr : R.length = 32) (ls : S.length = 32) (br : ∀ z ∈ R, z < 256) (bs_ : ∀ z ∈ S, z < 256) (hc2 : 64 ≤ c2) (hgd : qW K) (hsl : (if bW S < LO then 0 else 31) = 0) (b : Bool) (hb : decide (iM (Pt.smul (ab3 (R ++ (K ++ m))) (-(decP hgd.2)) + Pt.smul (bW S) iZ) = R) = b) (w : World) (hr0 : Rd w .u8 A0 K) (hr1 : Rd w .u8 A1 m) (hr2 : Rd w .u8 (some ⟨g, off, none⟩) R) (hr3 : Rd w .u8 (some ⟨g, off + 32, none⟩) S) :
 Calls Tryz.prog 12 #[.slice A0 32 c0, .slice A1 m.length c1, .slice (some ⟨g, off, none⟩) 64 c2] w fun e w' => e = .returned (.int .i64 (cond b 0 42)) ∧ Below w.heap.size w w' := by
 have HK := Lib.hid (And.intro lk (And.intro bk hc0))
 have HM := Lib.hid (And.intro hm bm)
 have HRS := Lib.hid (And.intro lr (And.intro ls (And.intro br bs_)))
 have HR0 := Lib.hid hr0
 have HR1 := Lib.hid hr1
 have HR2 := Lib.hid hr2
 have HR3 := Lib.hid hr3
 obtain ⟨lm, hlm⟩ : ∃ z, z = m.length := ⟨_, rfl⟩
 have LV := Lib.hid hlm.symm
 have hls : lm ≤ 65536 := by omega
 have hlI : ((65536 : Int) < (lm : Int)) = False := eq_false (by omega)
 have hlJ : decide (65536 < lm) = false := decide_eq_false (by omega)
 have auJ : (32 : Int) ≤ (c2 : Int) := by omega
 have arn : (64 : Int) ≤ (c2 : Int) := by omega
 have auL : ¬ c2 = 32 := by omega
 rw [← hlm]
 obtain ⟨M2, hM2⟩ : ∃ z, z = R ++ (K ++ m) := ⟨_, rfl⟩
 obtain ⟨KK, hKK⟩ : ∃ z, z = dw 32 (ab3 M2) := ⟨_, rfl⟩
 obtain ⟨P, hP⟩ : ∃ z, z = decP hgd.2 := ⟨_, rfl⟩
 obtain ⟨WP, hWP⟩ : ∃ z, z = Pt.smul (bW KK) (-P) + Pt.smul (bW S) iZ := ⟨_, rfl⟩
 obtain ⟨F, hFF⟩ : ∃ z, z = iM WP := ⟨_, rfl⟩
 have hres : decide (F = R) = b := by rw [hFF, hWP, hKK, hM2, hP, acL _ (agG _)]; exact hb
 have HQ := Lib.hid (And.intro hM2 (And.intro hKK (And.intro hWP (And.intro hFF hres))))
 have HPP : Hid (∀ h : qW K, P = decP h.2) := Lib.hid (fun h => hP)
 clear hM2 hKK hWP hP hFF hres
 have HGD := Lib.hid hgd
 have HSL := Lib.hid hsl
 clear hgd hb hsl
 clear lk bk hc0 hm bm lr ls br bs_ hc2 hr0 hr1 hr2 hr3 hlm
 go_enter Tryz.func12, Tryz.ntmps12
 go_wp2_with fail
 refine (OE A0 c0 K HK.out.1 (by rw [HK.out.1]; exact HK.out.2.2) HK.out.2.1 HGD.out _ HR0.out).mono ?_
 rintro e x1 ⟨⟨o, rfl, hok, hof⟩, hb1⟩
 have HB1 : Hid (Below w.heap.size w x1) := Below.trans (pl (Below.refl _ _)) (hb1.mono sz)
 have hz1 := HB1.out.size
 replace HR0 := Lib.hid (HR0.out.next (bt hb1))
 replace HR1 := Lib.hid (HR1.out.next (bt hb1))
 replace HR2 := Lib.hid (HR2.out.next (bt hb1))
 replace HR3 := Lib.hid (HR3.out.next (bt hb1))
 clear hb1
 rw [← HPP.out HGD.out] at hof
 have DU := Lib.hid hok
 have zQ := Lib.hid hof
 clear hok hof
 go_wp2_with fail
 refine (apq (some ⟨g, off + 32, none⟩) (c2 - 32) 0 S HRS.out.2.2.2 HRS.out.2.1 HSL.out _ (HR3.out.next (pl (Below.refl _ _)))).mono ?_
 rintro e y2 ⟨rfl, hb2⟩
 replace HR0 := Lib.hid (HR0.out.next (bt hb2))
 replace HR1 := Lib.hid (HR1.out.next (bt hb2))
 replace HR2 := Lib.hid (HR2.out.next (bt hb2))
 replace HR3 := Lib.hid (HR3.out.next (bt hb2))
 replace DU := Lib.hid (DU.out.next (bt hb2))
 obtain ⟨x2, rfl, hc2, hz2, kD⟩ := bQ (b := x1.heap.size) hb2 rfl ob
 have HB2 := aZ HB1.out hc2
 clear hb2 hc2
 try simp only [eF] at hz2
 go_wp2_with fail
 refine (am0 (some ⟨g, off, none⟩) A0 A1 c2 c0 c1 32 32 lm (64 + lm) R K m M2 HRS.out.1 HK.out.1 LV.out HQ.out.1 (by rw [HQ.out.1, List.length_append, List.length_append, HRS.out.1, HK.out.1, LV.out]; omega) (by omega) _ (HR2.out.next (pl (Below.refl _ _))) (HR0.out.next (pl (Below.refl _ _))) (HR1.out.next (pl (Below.refl _ _)))).mono ?_
 rintro e y3 ⟨⟨Aj1, cj1, rfl, hj⟩, hb3⟩
 replace HR0 := Lib.hid (HR0.out.next (bt hb3))
 replace HR1 := Lib.hid (HR1.out.next (bt hb3))
 replace HR2 := Lib.hid (HR2.out.next (bt hb3))
 replace HR3 := Lib.hid (HR3.out.next (bt hb3))
 replace DU := Lib.hid (DU.out.next (bt hb3))
 obtain ⟨x3, rfl, hc3, hz3, nN⟩ := bQ (b := x1.heap.size) hb3 rfl ob
 have HB3 := aZ HB2.out hc3
 clear hb3 hc3
 try simp only [eF] at hz3
 have HJ1 := Lib.hid hj
 clear hj
 go_wp2_with fail
 refine (anK Aj1 cj1 (64 + lm) M2 KK (by rw [HQ.out.1, List.length_append, List.length_append, HRS.out.1, HK.out.1, LV.out]; omega) (by omega) (by rw [HQ.out.1]; exact (fun z hz => (List.mem_append.mp hz).elim (fun h => HRS.out.2.2.1 z h) (fun h => (fun z hz => (List.mem_append.mp hz).elim (fun h => HK.out.2.1 z h) (fun h => HM.out.2 z h)) z h))) HQ.out.2.1 _ HJ1.out).mono ?_
 rintro e y4 ⟨⟨qs1, rfl, hj⟩, hb4⟩
 replace HR0 := Lib.hid (HR0.out.next (bt hb4))
 replace HR1 := Lib.hid (HR1.out.next (bt hb4))
 replace HR2 := Lib.hid (HR2.out.next (bt hb4))
 replace HR3 := Lib.hid (HR3.out.next (bt hb4))
 replace DU := Lib.hid (DU.out.next (bt hb4))
 obtain ⟨x4, rfl, hc4, lT, rU⟩ := bQ (b := x1.heap.size) hb4 rfl ob
 have HB4 := aZ HB3.out hc4
 clear hb4 hc4
 try simp only [eF] at lT
 have amo := Lib.hid hj
 clear hj HJ1
 go_wp2_with fail
 have apF : (x4.pin x1.heap.size (.cells #[.slice o.A (aB o.x).length o.a, .slice o.B (aB o.y).length o.b, .slice o.C (aB o.z).length o.c] 47)).heap[x1.heap.size]? = some (.cells #[.slice o.A (aB o.x).length o.a, .slice o.B (aB o.y).length o.b, .slice o.C (aB o.z).length o.c] 47) := ob
 have EI : Hid (Below w.heap.size w (x4.pin x1.heap.size (.cells #[.slice o.A (aB o.x).length o.a, .slice o.B (aB o.y).length o.b, .slice o.C (aB o.z).length o.c] 47))) := Lib.hid (pl HB4.out)
 have hl7 : x1.heap.size < (x4.pin x1.heap.size (.cells #[.slice o.A (aB o.x).length o.a, .slice o.B (aB o.y).length o.b, .slice o.C (aB o.z).length o.c] 47)).heap.size := (Array.getElem?_eq_some_iff.mp apF).1
 obtain ⟨wN, hwN⟩ : ∃ z, z = x4.pin x1.heap.size (.cells #[.slice o.A (aB o.x).length o.a, .slice o.B (aB o.y).length o.b, .slice o.C (aB o.z).length o.c] 47) := ⟨_, rfl⟩
 rw [← hwN] at HR2 HR3 DU amo apF EI hl7 ⊢
 clear hwN rU lT HB4 HR0 HR1
 refine vN (σ := Dp × Dp × Dp × Nat) (fun s => match s with | (on, ob_, oq, nb) => [(39, .slice (some ⟨qs1, 0, none⟩) 32 32), (40, o.v), (41, on.v), (42, .slice (some ⟨g, off, none⟩) 64 c2), (43, .slice (some ⟨g, off + 32, none⟩) 32 (c2 - 32)), (44, ob_.v), (45, oq.v), (10, .pointer (some ⟨nb, 0, none⟩))]) (fun s v => match s with | (on, ob_, oq, nb) => (Hid (oq.ok v) ∧ Hid (oq.of WP) ∧ wN.heap.size ≤ nb) ∧ Keeps wN [(nb, .cells #[.slice oq.A (aB oq.x).length oq.a, .slice oq.B (aB oq.y).length oq.b, .slice oq.C (aB oq.z).length oq.c] 47)] v) ?_ ?_
 · refine LC (S := Keeps wN _) (ds := [8]) (n := 9) #[false, false, false, false, false, false, false, false, false] (by kernel_rfl) rfl rfl (ak (b := x1.heap.size) (o := .cells #[.slice o.A (aB o.x).length o.a, .slice o.B (aB o.y).length o.b, .slice o.C (aB o.z).length o.c] 47) apF (aO (pl (Below.refl _ _)))) (fun y HS => ?_)
   refine pure_ #[true, false, false, false, false, false, false, false, false] (i := 0) (N := some 39) (v := ?v1) rfl rfl (by kernel_rfl) (fun _ _ _ h => nomatch h.1) (Or.inl ⟨by rfl, ?hy1⟩) rfl ?_
   case hy1 => (intro v; go_simp; first | done | with_reducible rfl)
   simp only [Act.put, List.setIfInBounds_toArray, List.set_cons_zero, List.set_cons_succ]
   refine take_ #[true, true, false, false, false, false, false, false, false] (i := 1) (N := some 40) (v := ?v2) rfl rfl (by kernel_rfl) (fun _ _ _ h => nomatch h.1) (Or.inl ⟨by rfl, ?hy2⟩) HS rfl ?_
   case hy2 => (intro v hv; obtain ⟨x, rfl, _, _, n0⟩ := hv.jE; go_simp; first | done | with_reducible rfl)
   simp only [Act.put, List.setIfInBounds_toArray, List.set_cons_zero, List.set_cons_succ]
   refine pure_ #[true, true, false, true, false, false, false, false, false] (i := 3) (N := some 42) (v := ?v3) rfl rfl (by kernel_rfl) (fun _ _ _ h => nomatch h.1) (Or.inl ⟨by rfl, ?hy3⟩) rfl ?_
   case hy3 => (intro v; go_simp; first | done | with_reducible rfl)
   simp only [Act.put, List.setIfInBounds_toArray, List.set_cons_zero, List.set_cons_succ]
   refine pure_ #[true, true, false, true, true, false, false, false, false] (i := 4) (N := some 43) (v := ?v4) rfl rfl (by kernel_rfl) (fun _ _ _ h => nomatch h.1) (Or.inl ⟨by rfl, ?hy4⟩) rfl ?_
   case hy4 => (intro v; go_simp; first | done | with_reducible rfl)
   simp only [Act.put, List.setIfInBounds_toArray, List.set_cons_zero, List.set_cons_succ]
   refine two_ #[true, true, true, true, true, false, false, false, false] #[true, true, false, true, true, false, false, true, false] (i := 2) (j := 7) (Ni := some 41) (Nj := some 10) rfl rfl rfl rfl (by kernel_rfl) (by decide) (by decide) (fun K hK => ?_) (fun K hK => ?_)
   · go_simp
     refine (Xw o _ zQ.out _ (DU.out.next HS.1)).mono ?_
     rintro e y ⟨⟨on, rfl, hok, hof⟩, hb⟩
     refine hK.out _ _ (HS.step hb rfl) ?_
     clear HS
     intro HS
     clear hb
     have HNK := Lib.hid hok
     have HNF := Lib.hid hof
     clear hok hof
     refine two_ #[true, true, true, true, true, true, false, false, false] #[true, true, true, true, true, false, false, true, false] (i := 5) (j := 7) (Ni := some 44) (Nj := some 10) rfl rfl rfl rfl (by kernel_rfl) (by decide) (by decide) (fun K hK => ?_) (fun K hK => ?_)
     · go_simp
       refine (GU _).mono ?_
       rintro e y ⟨⟨ob_, rfl, hok, hof⟩, hb⟩
       refine hK.out _ _ (HS.step hb rfl) ?_
       clear HS
       intro HS
       have SB := Lib.hid (HNK.out.next hb)
       clear HNK
       have HNK := SB
       clear SB
       clear hb
       have HEK := Lib.hid hok
       have HEF := Lib.hid hof
       clear hok hof
       refine two_ #[true, true, true, true, true, true, true, false, false] #[true, true, true, true, true, true, false, true, false] (i := 6) (j := 7) (Ni := some 45) (Nj := some 10) rfl rfl rfl rfl (by kernel_rfl) (by decide) (by decide) (fun K hK => ?_) (fun K hK => ?_)
       · go_simp
         refine (ao4 on ob_ _ _ HNF.out HEF.out (some ⟨qs1, 0, none⟩) (some ⟨g, off + 32, none⟩) 32 (c2 - 32) KK S WP HQ.out.2.2.1 (amV HQ.out.2.1).1 HRS.out.2.1 (amV HQ.out.2.1).2 HRS.out.2.2.2 _ HNK.out HEK.out (amo.out.next HS.1) (HR3.out.next HS.1)).mono ?_
         rintro e y ⟨⟨oq, rfl, hok, hof⟩, hb⟩
         refine hK.out _ _ (HS.step hb rfl) ?_
         clear HS
         intro HS
         have SB := Lib.hid (HNK.out.next hb)
         clear HNK
         have HNK := SB
         clear SB
         have anm := Lib.hid (HEK.out.next hb)
         clear HEK
         have HEK := anm
         clear anm
         clear hb
         have HQK := Lib.hid hok
         have HQF := Lib.hid hof
         clear hok hof
         refine dH 7 (some 10) (h := fun K hK => ?_)
         go_simp
         obtain ⟨nb, hbn⟩ : ∃ b, b = y.heap.size := ⟨_, rfl⟩
         have hBN : wN.heap.size ≤ nb := by rw [hbn]; exact HS.1.size
         obtain ⟨HS', HT⟩ := HS.new (o := .cells #[.slice none 0 0, .slice none 0 0, .slice none 0 0] 47)
         refine hK.out _ _ HS' ?_
         clear HS HS'
         intro HS
         have SB := Lib.hid (HNK.out.next (Below.alloc (Below.refl y.heap.size y) (Nat.le_refl _) (.cells #[.slice none 0 0, .slice none 0 0, .slice none 0 0] 47)))
         clear HNK
         have HNK := SB
         clear SB
         have anm := Lib.hid (HEK.out.next (Below.alloc (Below.refl y.heap.size y) (Nat.le_refl _) (.cells #[.slice none 0 0, .slice none 0 0, .slice none 0 0] 47)))
         clear HEK
         have HEK := anm
         clear anm
         have apP := Lib.hid (HQK.out.next (Below.alloc (Below.refl y.heap.size y) (Nat.le_refl _) (.cells #[.slice none 0 0, .slice none 0 0, .slice none 0 0] 47)))
         clear HQK
         have HQK := apP
         clear apP
         rw [← hbn] at HT ⊢
         clear hbn
         obtain ⟨y2, hy2⟩ : ∃ z, z = y.alloc (.cells #[.slice none 0 0, .slice none 0 0, .slice none 0 0] 47) := ⟨_, rfl⟩
         rw [← hy2] at HS HT HNK HEK HQK ⊢
         clear hy2
         replace HT : Keeps wN [(nb, .cells #[.slice none 0 0, .slice none 0 0, .slice none 0 0] 47)] _ := ⟨HT.1, fun p hp => HT.2 p (by rw [List.mem_singleton] at hp; subst hp; exact List.mem_cons_self)⟩
         obtain ⟨x, rfl, hk, hz, l⟩ := HT.jE
         clear HS
         refine pO 8 none (h := fun K hK => ?_)
         go_simp
         refine hK.out _ _ ?_
         refine done_ (by kernel_rfl) ?_
         refine ⟨rfl, (on, ob_, oq, nb), by simp only [puts, Act.put, List.setIfInBounds_toArray, List.set_cons_zero, List.set_cons_succ], ⟨Lib.hid (HQK.out.oI l), HQF, hBN⟩, ?_⟩
         exact ak (b := nb) (eY l) (aO (jS hk.below hBN))
       · go_simp
         obtain ⟨nb, hbn⟩ : ∃ b, b = y.heap.size := ⟨_, rfl⟩
         have hBN : wN.heap.size ≤ nb := by rw [hbn]; exact HS.1.size
         obtain ⟨HS', HT⟩ := HS.new (o := .cells #[.slice none 0 0, .slice none 0 0, .slice none 0 0] 47)
         refine hK.out _ _ HS' ?_
         clear HS HS'
         intro HS
         have SB := Lib.hid (HNK.out.next (Below.alloc (Below.refl y.heap.size y) (Nat.le_refl _) (.cells #[.slice none 0 0, .slice none 0 0, .slice none 0 0] 47)))
         clear HNK
         have HNK := SB
         clear SB
         have anm := Lib.hid (HEK.out.next (Below.alloc (Below.refl y.heap.size y) (Nat.le_refl _) (.cells #[.slice none 0 0, .slice none 0 0, .slice none 0 0] 47)))
         clear HEK
         have HEK := anm
         clear anm
         rw [← hbn] at HT ⊢
         clear hbn
         obtain ⟨y2, hy2⟩ : ∃ z, z = y.alloc (.cells #[.slice none 0 0, .slice none 0 0, .slice none 0 0] 47) := ⟨_, rfl⟩
         rw [← hy2] at HS HT HNK HEK ⊢
         clear hy2
         refine dH 6 (some 45) (h := fun K hK => ?_)
         go_simp
         refine (ao4 on ob_ _ _ HNF.out HEF.out (some ⟨qs1, 0, none⟩) (some ⟨g, off + 32, none⟩) 32 (c2 - 32) KK S WP HQ.out.2.2.1 (amV HQ.out.2.1).1 HRS.out.2.1 (amV HQ.out.2.1).2 HRS.out.2.2.2 _ HNK.out HEK.out (amo.out.next HS.1) (HR3.out.next HS.1)).mono ?_
         rintro e y ⟨⟨oq, rfl, hok, hof⟩, hb⟩
         refine hK.out _ _ (HS.step hb rfl) ?_
         clear HS
         intro HS
         have SB := Lib.hid (HNK.out.next hb)
         clear HNK
         have HNK := SB
         clear SB
         have anm := Lib.hid (HEK.out.next hb)
         clear HEK
         have HEK := anm
         clear anm
         replace HT := HT.step hb rfl
         clear hb
         have HQK := Lib.hid hok
         have HQF := Lib.hid hof
         clear hok hof
         replace HT : Keeps wN [(nb, .cells #[.slice none 0 0, .slice none 0 0, .slice none 0 0] 47)] _ := ⟨HT.1, fun p hp => HT.2 p (by rw [List.mem_singleton] at hp; subst hp; exact List.mem_cons_self)⟩
         obtain ⟨x, rfl, hk, hz, l⟩ := HT.jE
         clear HS
         refine pO 8 none (h := fun K hK => ?_)
         go_simp
         refine hK.out _ _ ?_
         refine done_ (by kernel_rfl) ?_
         refine ⟨rfl, (on, ob_, oq, nb), by simp only [puts, Act.put, List.setIfInBounds_toArray, List.set_cons_zero, List.set_cons_succ], ⟨Lib.hid (HQK.out.oI l), HQF, hBN⟩, ?_⟩
         exact ak (b := nb) (eY l) (aO (jS hk.below hBN))
     · go_simp
       obtain ⟨nb, hbn⟩ : ∃ b, b = y.heap.size := ⟨_, rfl⟩
       have hBN : wN.heap.size ≤ nb := by rw [hbn]; exact HS.1.size
       obtain ⟨HS', HT⟩ := HS.new (o := .cells #[.slice none 0 0, .slice none 0 0, .slice none 0 0] 47)
       refine hK.out _ _ HS' ?_
       clear HS HS'
       intro HS
       have SB := Lib.hid (HNK.out.next (Below.alloc (Below.refl y.heap.size y) (Nat.le_refl _) (.cells #[.slice none 0 0, .slice none 0 0, .slice none 0 0] 47)))
       clear HNK
       have HNK := SB
       clear SB
       rw [← hbn] at HT ⊢
       clear hbn
       obtain ⟨y2, hy2⟩ : ∃ z, z = y.alloc (.cells #[.slice none 0 0, .slice none 0 0, .slice none 0 0] 47) := ⟨_, rfl⟩
       rw [← hy2] at HS HT HNK ⊢
       clear hy2
       refine dH 5 (some 44) (h := fun K hK => ?_)
       go_simp
       refine (GU _).mono ?_
       rintro e y ⟨⟨ob_, rfl, hok, hof⟩, hb⟩
       refine hK.out _ _ (HS.step hb rfl) ?_
       clear HS
       intro HS
       have SB := Lib.hid (HNK.out.next hb)
       clear HNK
       have HNK := SB
       clear SB
       replace HT := HT.step hb rfl
       clear hb
       have HEK := Lib.hid hok
       have HEF := Lib.hid hof
       clear hok hof
       refine dH 6 (some 45) (h := fun K hK => ?_)
       go_simp
       refine (ao4 on ob_ _ _ HNF.out HEF.out (some ⟨qs1, 0, none⟩) (some ⟨g, off + 32, none⟩) 32 (c2 - 32) KK S WP HQ.out.2.2.1 (amV HQ.out.2.1).1 HRS.out.2.1 (amV HQ.out.2.1).2 HRS.out.2.2.2 _ HNK.out HEK.out (amo.out.next HS.1) (HR3.out.next HS.1)).mono ?_
       rintro e y ⟨⟨oq, rfl, hok, hof⟩, hb⟩
       refine hK.out _ _ (HS.step hb rfl) ?_
       clear HS
       intro HS
       have SB := Lib.hid (HNK.out.next hb)
       clear HNK
       have HNK := SB
       clear SB
       have anm := Lib.hid (HEK.out.next hb)
       clear HEK
       have HEK := anm
       clear anm
       replace HT := HT.step hb rfl
       clear hb
       have HQK := Lib.hid hok
       have HQF := Lib.hid hof
       clear hok hof
       replace HT : Keeps wN [(nb, .cells #[.slice none 0 0, .slice none 0 0, .slice none 0 0] 47)] _ := ⟨HT.1, fun p hp => HT.2 p (by rw [List.mem_singleton] at hp; subst hp; exact List.mem_cons_self)⟩
       obtain ⟨x, rfl, hk, hz, l⟩ := HT.jE
       clear HS
       refine pO 8 none (h := fun K hK => ?_)
       go_simp
       refine hK.out _ _ ?_
       refine done_ (by kernel_rfl) ?_
       refine ⟨rfl, (on, ob_, oq, nb), by simp only [puts, Act.put, List.setIfInBounds_toArray, List.set_cons_zero, List.set_cons_succ], ⟨Lib.hid (HQK.out.oI l), HQF, hBN⟩, ?_⟩
       exact ak (b := nb) (eY l) (aO (jS hk.below hBN))
   · go_simp
     obtain ⟨nb, hbn⟩ : ∃ b, b = y.heap.size := ⟨_, rfl⟩
     have hBN : wN.heap.size ≤ nb := by rw [hbn]; exact HS.1.size
     obtain ⟨HS', HT⟩ := HS.new (o := .cells #[.slice none 0 0, .slice none 0 0, .slice none 0 0] 47)
     refine hK.out _ _ HS' ?_
     clear HS HS'
     intro HS
     rw [← hbn] at HT ⊢
     clear hbn
     obtain ⟨y2, hy2⟩ : ∃ z, z = y.alloc (.cells #[.slice none 0 0, .slice none 0 0, .slice none 0 0] 47) := ⟨_, rfl⟩
     rw [← hy2] at HS HT  ⊢
     clear hy2
     refine dH 2 (some 41) (h := fun K hK => ?_)
     go_simp
     refine (Xw o _ zQ.out _ (DU.out.next HS.1)).mono ?_
     rintro e y ⟨⟨on, rfl, hok, hof⟩, hb⟩
     refine hK.out _ _ (HS.step hb rfl) ?_
     clear HS
     intro HS
     replace HT := HT.step hb rfl
     clear hb
     have HNK := Lib.hid hok
     have HNF := Lib.hid hof
     clear hok hof
     refine dH 5 (some 44) (h := fun K hK => ?_)
     go_simp
     refine (GU _).mono ?_
     rintro e y ⟨⟨ob_, rfl, hok, hof⟩, hb⟩
     refine hK.out _ _ (HS.step hb rfl) ?_
     clear HS
     intro HS
     have SB := Lib.hid (HNK.out.next hb)
     clear HNK
     have HNK := SB
     clear SB
     replace HT := HT.step hb rfl
     clear hb
     have HEK := Lib.hid hok
     have HEF := Lib.hid hof
     clear hok hof
     refine dH 6 (some 45) (h := fun K hK => ?_)
     go_simp
     refine (ao4 on ob_ _ _ HNF.out HEF.out (some ⟨qs1, 0, none⟩) (some ⟨g, off + 32, none⟩) 32 (c2 - 32) KK S WP HQ.out.2.2.1 (amV HQ.out.2.1).1 HRS.out.2.1 (amV HQ.out.2.1).2 HRS.out.2.2.2 _ HNK.out HEK.out (amo.out.next HS.1) (HR3.out.next HS.1)).mono ?_
     rintro e y ⟨⟨oq, rfl, hok, hof⟩, hb⟩
     refine hK.out _ _ (HS.step hb rfl) ?_
     clear HS
     intro HS
     have SB := Lib.hid (HNK.out.next hb)
     clear HNK
     have HNK := SB
     clear SB
     have anm := Lib.hid (HEK.out.next hb)
     clear HEK
     have HEK := anm
     clear anm
     replace HT := HT.step hb rfl
     clear hb
     have HQK := Lib.hid hok
     have HQF := Lib.hid hof
     clear hok hof
     replace HT : Keeps wN [(nb, .cells #[.slice none 0 0, .slice none 0 0, .slice none 0 0] 47)] _ := ⟨HT.1, fun p hp => HT.2 p (by rw [List.mem_singleton] at hp; subst hp; exact List.mem_cons_self)⟩
     obtain ⟨x, rfl, hk, hz, l⟩ := HT.jE
     clear HS
     refine pO 8 none (h := fun K hK => ?_)
     go_simp
     refine hK.out _ _ ?_
     refine done_ (by kernel_rfl) ?_
     refine ⟨rfl, (on, ob_, oq, nb), by simp only [puts, Act.put, List.setIfInBounds_toArray, List.set_cons_zero, List.set_cons_succ], ⟨Lib.hid (HQK.out.oI l), HQF, hBN⟩, ?_⟩
     exact ak (b := nb) (eY l) (aO (jS hk.below hBN))
 rintro ⟨on, ob_, oq, nb⟩ v ⟨hpr, HK⟩
 simp only [puts, Act.put, List.setIfInBounds_toArray, List.set_cons_zero, List.set_cons_succ]
 obtain ⟨x9, rfl, hk, auq, lx9⟩ := HK.jE
 have aqP : Hid (Below wN.heap.size wN x9) := hk.below
 clear HK hk
 obtain ⟨hok, hof, hnb⟩ := hpr
 have HBP : Hid (Below wN.heap.size wN (x9.pin nb (.cells #[.slice oq.A (aB oq.x).length oq.a, .slice oq.B (aB oq.y).length oq.b, .slice oq.C (aB oq.z).length oq.c] 47))) := Lib.hid (jS aqP.out hnb)
 have hbq : ((aoy F).toList == (aoy R).toList) = b := by rw [apz (by rw [HQ.out.2.2.2.1]; exact qj _ _) HRS.out.2.2.1]; exact HQ.out.2.2.2.2
 go_wp2_with fail
 refine st1 wN [] 7 (ak (b := nb) ob (aO (pl HBP.out))) (fun HS => ?_)
 refine tk1 0 (some 46) HS (h := ?_)
 refine pure_ #[true, false, false, true, false, false, false] (i := 3) (N := some 49) (v := ?v6) rfl rfl (by kernel_rfl) (fun _ _ _ h => h) (Or.inl ⟨by rfl, ?Pj⟩) rfl ?_
 case Pj => (intro v; go_simp; first | done | with_reducible rfl)
 simp only [Act.put, List.setIfInBounds_toArray, List.set_cons_zero, List.set_cons_succ]
 refine pure_ #[true, false, false, true, true, false, false] (i := 4) (N := some 50) (v := ?v7) rfl rfl (by kernel_rfl) (fun _ _ _ h => h) (Or.inl ⟨by rfl, ?Um⟩) rfl ?_
 case Um => (intro v; go_simp; first | done | with_reducible rfl)
 simp only [Act.put, List.setIfInBounds_toArray, List.set_cons_zero, List.set_cons_succ]
 refine tk1 5 (some 51) HS (v := (.string (aoy R))) (hy := by (intro v hv; obtain ⟨x, rfl, hk, _, n0⟩ := hv.jE; exact aoK (.tmp 50) R rfl rfl HRS.out.1 (HR2.out.next hv.1))) (h := ?_)
 refine dH 1 (some 47) (h := fun K hK => ?_)
 go_simp
 refine (ao2 oq _ F hof.out HQ.out.2.2.2.1 _ (hok.out.next (pl (Below.refl _ _)))).mono ?_
 rintro e y ⟨⟨ge, hge, rfl, hob⟩, hb⟩
 refine hK.out _ _ (HS.step hb rfl) ?_
 clear HS hb
 intro HS
 refine ape #[true, true, true, true, true, true, false] (i := 2) (some 48) rfl rfl (by kernel_rfl) (by decide) rfl HS (aoK (.tmp 47) F rfl rfl (by rw [HQ.out.2.2.2.1]; exact kV _ _) (nS hob)) ?_
 simp only [Act.put, List.setIfInBounds_toArray, List.set_cons_zero, List.set_cons_succ]
 refine ape #[true, true, true, true, true, true, true] (i := 6) (some 52) (v := .bool (!b)) rfl rfl (by kernel_rfl) (by decide) rfl HS (apu (.tmp 48) (.tmp 51) b rfl rfl rfl hbq) ?_
 simp only [Act.put, List.setIfInBounds_toArray, List.set_cons_zero, List.set_cons_succ]
 obtain ⟨x41, rfl, aqo, asz, asC⟩ := HS.jE
 have aoz : Hid (Below wN.heap.size wN x41) := aqo.below
 clear HS aqo
 refine done_ (by kernel_rfl) ?_
 cases b
 case true =>
  go_wp2_with fail
  exact bodyPost_ret (v := .int .i64 0) (by simp [results, Tryz.results12, go_sem]) rfl ⟨rfl, Below.trans EI.out ((jS aoz.out hnb).mono EI.out.size)⟩
 case false =>
  go_wp2_with fail
  exact bodyPost_ret (v := .int .i64 42) (by simp [results, Tryz.results12, go_sem]) rfl ⟨rfl, Below.trans EI.out ((jS aoz.out hnb).mono EI.out.size)⟩
theorem aq6 (A0 A1 : Option Addr) (g off c0 c1 c2 : Nat) (K m R S : List Nat) (lk : K.length = 32) (bk : ∀ z ∈ K, z < 256) (hc0 : 32 ≤ c0) (hm : m.length ≤ 65536) (bm : ∀ z ∈ m, z < 256) (lr : R.length = 32) (ls : S.length = 32) (br : ∀ z ∈ R, z < 256) (bs_ : ∀ z ∈ S, z < 256) (hc2 : 64 ≤ c2) (hgd : qW K) (hsl : (if bW S < LO then 0 else 31) = 0) (hb : decide (iM (Pt.smul (ab3 (R ++ (K ++ m))) (-(decP hgd.2)) + Pt.smul (bW S) iZ) = R) = true) (w : World) (hr0 : Rd w .u8 A0 K) (hr1 : Rd w .u8 A1 m) (hr2 : Rd w .u8 (some ⟨g, off, none⟩) R) (hr3 : Rd w .u8 (some ⟨g, off + 32, none⟩) S) : Calls Tryz.prog 12 #[.slice A0 32 c0, .slice A1 m.length c1, .slice (some ⟨g, off, none⟩) 64 c2] w fun e w' => e = .returned (.int .i64 0) ∧ Below w.heap.size w w' := apM A0 A1 g off c0 c1 c2 K m R S lk bk hc0 hm bm lr ls br bs_ hc2 hgd hsl true hb w hr0 hr1 hr2 hr3
theorem aq1 (A0 A1 : Option Addr) (g off c0 c1 c2 : Nat) (K m R S : List Nat) (lk : K.length = 32) (bk : ∀ z ∈ K, z < 256) (hc0 : 32 ≤ c0) (hm : m.length ≤ 65536) (bm : ∀ z ∈ m, z < 256) (lr : R.length = 32) (ls : S.length = 32) (br : ∀ z ∈ R, z < 256) (bs_ : ∀ z ∈ S, z < 256) (hc2 : 64 ≤ c2) (hgd : qW K) (hsl : (if bW S < LO then 0 else 31) = 0) (hb : decide (iM (Pt.smul (ab3 (R ++ (K ++ m))) (-(decP hgd.2)) + Pt.smul (bW S) iZ) = R) = false) (w : World) (hr0 : Rd w .u8 A0 K) (hr1 : Rd w .u8 A1 m) (hr2 : Rd w .u8 (some ⟨g, off, none⟩) R) (hr3 : Rd w .u8 (some ⟨g, off + 32, none⟩) S) : Calls Tryz.prog 12 #[.slice A0 32 c0, .slice A1 m.length c1, .slice (some ⟨g, off, none⟩) 64 c2] w fun e w' => e = .returned (.int .i64 42) ∧ Below w.heap.size w w' := apM A0 A1 g off c0 c1 c2 K m R S lk bk hc0 hm bm lr ls br bs_ hc2 hgd hsl false hb w hr0 hr1 hr2 hr3
end
end Go.Proofs.YtehfkbaendajbaaGreatDoor
