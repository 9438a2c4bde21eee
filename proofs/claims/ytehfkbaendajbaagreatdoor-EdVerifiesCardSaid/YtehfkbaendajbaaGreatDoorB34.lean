/-
  Shared, part 34: walks and plain laws; each theorem states its own conditions.
-/
import Derived.Test.YtehfkbaendajbaaGreatDoorB33
namespace Go.Proofs.YtehfkbaendajbaaGreatDoor
set_option linter.unusedSimpArgs false
set_option linter.unusedVariables false
set_option maxRecDepth 100000
set_option maxHeartbeats 8000000
section
open Go.RowKit Go.Proofs.YtehfkbaendajbaaGreatDoorW.PrintLast
theorem Rd.ku {w : World} {g : Nat} {o' : Obj} {k : IntKind} {A A1 A2 A3 : Option Addr} {n1 n2 n3 c1 c2 c3 : Nat} {xs : List Nat} (h : Rd w k A xs) (hg : w.heap[g]? = some (.cells #[.slice A1 n1 c1, .slice A2 n2 c2, .slice A3 n3 c3] 47)) : Rd (w.pin g o') k A xs := by
 have h1 : Rd (w.pin g (.cells #[.slice A1 n1 c1, .slice A2 n2 c2, .slice A3 n3 c3] 47)) k A xs := by rw [aN hg]; exact h
 exact Rd.oI (Array.getElem?_eq_some_iff.mp hg).1 h1
structure rE (p q b o : Dp) (R : Option Addr) (r : Nat) (A : Option Addr) (ns : List Nat) (B : Option Addr) (ms : List Nat) (w : World) : Prop where
 p : p.ok w
 q : q.ok w
 b : b.ok w
 o : o.ok w
 d : Dn w R r dN
 n : Rd w .u8 A ns
 m : Rd w .u8 B ms
theorem Dp.ok.ku {w : World} {g : Nat} {o' : Obj} {p : Dp} {A1 A2 A3 : Option Addr} {n1 n2 n3 c1 c2 c3 : Nat} (h : p.ok w) (hg : w.heap[g]? = some (.cells #[.slice A1 n1 c1, .slice A2 n2 c2, .slice A3 n3 c3] 47)) : p.ok (w.pin g o') := ⟨⟨h.x.1.ku hg, h.x.2⟩, ⟨h.y.1.ku hg, h.y.2⟩, ⟨h.z.1.ku hg, h.z.2⟩⟩
theorem rE.next {p q b o : Dp} {R : Option Addr} {r : Nat} {A B : Option Addr} {ns ms : List Nat} {w w' : World} (h : rE p q b o R r A ns B ms w) (hb : Below w.heap.size w w') : rE p q b o R r A ns B ms w' := ⟨h.p.next hb, h.q.next hb, h.b.next hb, h.o.next hb, h.d.next hb, h.n.mono hb (Nat.le_refl _), h.m.mono hb (Nat.le_refl _)⟩
theorem rE.put {p q b o : Dp} {R : Option Addr} {r : Nat} {A B : Option Addr} {ns ms : List Nat} {w : World} {g : Nat} {o' : Obj} {A1 A2 A3 : Option Addr} {n1 n2 n3 c1 c2 c3 : Nat} (h : rE p q b o R r A ns B ms w) (hg : w.heap[g]? = some (.cells #[.slice A1 n1 c1, .slice A2 n2 c2, .slice A3 n3 c3] 47)) (k : Dp) (hk : k.ok w) : rE p q b k R r A ns B ms (w.pin g o') := ⟨h.p.ku hg, h.q.ku hg, h.b.ku hg, hk.ku hg, ⟨h.d.1.ku hg, h.d.2⟩, h.n.ku hg, h.m.ku hg⟩
theorem NM (n k : Nat) (P : EP) : Pt.smul (n / 2 ^ k) P = (Pt.smul (n / 2 ^ (k + 1)) P + Pt.smul (n / 2 ^ (k + 1)) P) + Pt.smul (n / 2 ^ k % 2) P := by
 rw [xR, ← smul_add]
 congr 1
 rw [Nat.pow_succ, ← Nat.div_div_eq_div_mul]
 omega
theorem xW (n m k : Nat) (P Q S : EP) (hS : S = Pt.smul (n / 2 ^ (k + 1)) P + Pt.smul (m / 2 ^ (k + 1)) Q) : Pt.smul (n / 2 ^ k) P + Pt.smul (m / 2 ^ k) Q = (S + S) + (Pt.smul (n / 2 ^ k % 2) P + Pt.smul (m / 2 ^ k % 2) Q) := by
 rw [hS, NM n k P, NM m k Q, add4, add4 (Pt.smul (n / 2 ^ (k + 1)) P) (Pt.smul (m / 2 ^ (k + 1)) Q)]
theorem Wi {n m k : Nat} {P Q S : EP} (hS : S = Pt.smul (n / 2 ^ (k + 1)) P + Pt.smul (m / 2 ^ (k + 1)) Q) (hn : n / 2 ^ k % 2 = 1) (hm : m / 2 ^ k % 2 = 1) : (S + S) + (P + Q) = Pt.smul (n / 2 ^ k) P + Pt.smul (m / 2 ^ k) Q := by rw [xW n m k P Q S hS, hn, hm, tY, tY]
theorem Wh {n m k : Nat} {P Q S : EP} (hS : S = Pt.smul (n / 2 ^ (k + 1)) P + Pt.smul (m / 2 ^ (k + 1)) Q) (hn : n / 2 ^ k % 2 = 1) (hm : ¬ m / 2 ^ k % 2 = 1) : (S + S) + P = Pt.smul (n / 2 ^ k) P + Pt.smul (m / 2 ^ k) Q := by rw [xW n m k P Q S hS, hn, show m / 2 ^ k % 2 = 0 by omega, tY, smul_zero, Pt.add_zero]
theorem V9 {n m k : Nat} {P Q S : EP} (hS : S = Pt.smul (n / 2 ^ (k + 1)) P + Pt.smul (m / 2 ^ (k + 1)) Q) (hn : ¬ n / 2 ^ k % 2 = 1) (hm : m / 2 ^ k % 2 = 1) : (S + S) + Q = Pt.smul (n / 2 ^ k) P + Pt.smul (m / 2 ^ k) Q := by rw [xW n m k P Q S hS, hm, show n / 2 ^ k % 2 = 0 by omega, tY, smul_zero, Pt.zero_add]
theorem V7 {n m k : Nat} {P Q S : EP} (hS : S = Pt.smul (n / 2 ^ (k + 1)) P + Pt.smul (m / 2 ^ (k + 1)) Q) (hn : ¬ n / 2 ^ k % 2 = 1) (hm : ¬ m / 2 ^ k % 2 = 1) : S + S = Pt.smul (n / 2 ^ k) P + Pt.smul (m / 2 ^ k) Q := by rw [xW n m k P Q S hS, show n / 2 ^ k % 2 = 0 by omega, show m / 2 ^ k % 2 = 0 by omega, smul_zero, smul_zero, Pt.add_zero, Pt.add_zero]
theorem Af (l : List Nat) (h : ∀ b ∈ l, b < 256) (k : Nat) (hk : 8 * l.length ≤ k) : bW l / 2 ^ k = 0 := by
 refine Nat.div_eq_of_lt (Nat.lt_of_lt_of_le (oD l h) ?_)
 rw [show (256 : Nat) = 2 ^ 8 from rfl, ← Nat.pow_mul]
 exact Nat.pow_le_pow_right (by decide) hk
theorem eP (A : Option Addr) (c : Nat) (ns : List Nat) (i : Nat) (b : Bool) (hb : decide (bW ns / 2 ^ i % 2 = 1) = b) (hi : i ≤ 8000) (hby : ∀ z ∈ ns, z < 256) (w : World) (hr : Rd w .u8 A ns) : Calls Tryz.prog 73 #[.slice A ns.length c, .int .i64 (i : Int)] w fun e w' => e = .returned (.bool b) ∧ Below w.heap.size w w' := by
 subst hb
 exact digit_eq A c ns i hi hby w hr
theorem afF (p q : Dp) (P Q : EP) (hp : p.of P) (hq : q.of Q) (A B : Option Addr) (c d : Nat) (ns ms : List Nat) (hn : ns.length ≤ 100) (hm : ms.length ≤ 100) (hbn : ∀ b ∈ ns, b < 256) (hbm : ∀ b ∈ ms, b < 256) (hc : ms.length ≤ ns.length) (w : World) (kp : p.ok w) (kq : q.ok w) (hrn : Rd w .u8 A ns) (hrm : Rd w .u8 B ms) :
 Calls Tryz.prog 34 #[.slice A ns.length c, p.v, .slice B ms.length d, q.v] w fun e w' => (∃ o : Dp, e = .returned o.v ∧ o.ok w' ∧ o.of (Pt.smul (bW ns) P + Pt.smul (bW ms) Q)) ∧ Below w.heap.size w w' := by
 have hcI : ((ns.length : Int) < (ms.length : Int)) = False := eq_false (by omega)
 have HP := Lib.hid kp
 have HQ := Lib.hid kq
 have HOP := Lib.hid hp
 have HOQ := Lib.hid hq
 have HRn := Lib.hid hrn
 have EM := Lib.hid hrm
 have rC := Lib.hid (And.intro hbn hbm)
 have HN := Lib.hid (show ns.length ≤ 100 ∧ ms.length ≤ 100 ∧ ns.length ≤ ns.length ∧ ms.length ≤ ns.length by omega)
 clear kp kq hp hq hrn hrm hbn hbm
 go_enter Tryz.func34, Tryz.ntmps34
 go_wp2_with fail
 refine (D7 _).mono ?_
 rintro e y1 ⟨⟨R1, r1, rfl, hr1⟩, hb1⟩
 replace HP := Lib.hid (HP.out.next (bt hb1))
 replace HQ := Lib.hid (HQ.out.next (bt hb1))
 replace HRn := Lib.hid (HRn.out.next (bt hb1))
 replace EM := Lib.hid (EM.out.next (bt hb1))
 obtain ⟨x1, rfl, hc1, hz1, l10, nG, l12⟩ := bZ (b0 := w.heap.size) (b1 := w.heap.size + 1) (b2 := w.heap.size + 1 + 1) hb1 rfl ob ob ob
 have HB1 : Hid (Below w.heap.size w x1) := Below.trans (pl (Below.refl _ _)) (hc1.mono sz)
 clear hb1 hc1
 try simp only [eF] at hz1
 have HD := Lib.hid hr1
 clear hr1
 go_wp2_with fail
 refine (lC p q P Q HOP.out HOQ.out R1 r1 _ (HP.out.next (pl (Below.refl _ _))) (HQ.out.next (pl (Below.refl _ _))) (HD.out.next (pl (Below.refl _ _)))).mono ?_
 rintro e y2 ⟨⟨bo, rfl, hbo, hbf⟩, hb2⟩
 replace HP := Lib.hid (HP.out.next (bt hb2))
 replace HQ := Lib.hid (HQ.out.next (bt hb2))
 replace HRn := Lib.hid (HRn.out.next (bt hb2))
 replace EM := Lib.hid (EM.out.next (bt hb2))
 replace HD := Lib.hid (HD.out.next (bt hb2))
 obtain ⟨x2, rfl, hc2, hz2, kD, rQ, Gh⟩ := bZ (b0 := w.heap.size) (b1 := w.heap.size + 1) (b2 := w.heap.size + 1 + 1) hb2 rfl ob ob ob
 have HB2 := aZ HB1.out hc2
 clear hb2 hc2
 try simp only [eF] at hz2
 have HB := Lib.hid hbo
 have HBF := Lib.hid hbf
 clear hbo hbf
 go_wp2_with fail
 refine (AO _).mono ?_
 rintro e y3 ⟨⟨oz, rfl, ZC, Ih⟩, hb3⟩
 replace HP := Lib.hid (HP.out.next (bt hb3))
 replace HQ := Lib.hid (HQ.out.next (bt hb3))
 replace HRn := Lib.hid (HRn.out.next (bt hb3))
 replace EM := Lib.hid (EM.out.next (bt hb3))
 replace HD := Lib.hid (HD.out.next (bt hb3))
 replace HB := Lib.hid (HB.out.next (bt hb3))
 obtain ⟨x3, rfl, hc3, hz3, nN, uq, zn, Py⟩ := Bl (b0 := w.heap.size) (b1 := w.heap.size + 1) (b2 := w.heap.size + 1 + 1) (b3 := x2.heap.size) hb3 rfl ob ob ob ob
 have HB3 := aZ HB2.out hc3
 clear hb3 hc3
 try simp only [eF] at hz3
 have HO := Lib.hid ZC
 have zQ := Lib.hid Ih
 clear ZC Ih
 go_wp2_with fail
 go_loopw [13] (fun iv wr => ∃ (k : Nat) (o : Dp) (x : World), iv = .int .i64 ((k : Int) - 1) ∧ wr = (((((x.pin w.heap.size (.cells #[.slice p.A (aB p.x).length p.a, .slice p.B (aB p.y).length p.b, .slice p.C (aB p.z).length p.c] 47)).pin (w.heap.size + 1) (.cells #[.slice q.A (aB q.x).length q.a, .slice q.B (aB q.y).length q.b, .slice q.C (aB q.z).length q.c] 47)).pin (w.heap.size + 1 + 1) (.cells #[.slice none 0 0, .slice none 0 0, .slice none 0 0] 47)).pin x2.heap.size (.cells #[.slice bo.A (aB bo.x).length bo.a, .slice bo.B (aB bo.y).length bo.b, .slice bo.C (aB bo.z).length bo.c] 47)).pin x3.heap.size (.cells #[.slice o.A (aB o.x).length o.a, .slice o.B (aB o.y).length o.b, .slice o.C (aB o.z).length o.c] 47)) ∧ w.heap.size + 2 < x.heap.size ∧ x2.heap.size < x.heap.size ∧ x3.heap.size < x.heap.size ∧ Hid (Below w.heap.size w x ∧ k ≤ 8 * ns.length ∧ o.of (Pt.smul (bW ns / 2 ^ k) P + Pt.smul (bW ms / 2 ^ k) Q) ∧ rE p q bo o R1 r1 A ns B ms wr)) (fun iv _ => (intOf iv + 1).toNat)
 case atStart => exact ⟨8 * ns.length, oz, _, by simp, qX ob ob ob ob ob, sz, sz, sz, Lib.hid ⟨pl HB3.out, Nat.le_refl _, by rw [Af ns rC.out.1 _ (by have := HN.out; omega), Af ms rC.out.2 _ (by have := HN.out; omega), smul_zero, smul_zero, Pt.add_zero]; exact zQ.out, ⟨(HP.out.next (pl (Below.refl _ _))), (HQ.out.next (pl (Below.refl _ _))), (HB.out.next (pl (Below.refl _ _))), (HO.out.next (pl (Below.refl _ _))), (HD.out.next (pl (Below.refl _ _))), (HRn.out.next (pl (Below.refl _ _))), (EM.out.next (pl (Below.refl _ _)))⟩⟩⟩
 case round =>
  obtain ⟨k, o, x10, rfl, rfl, q0, q1, q2, J⟩ := hrel
  have fB : Hid (Below w.heap.size w x10) := Lib.hid J.out.1
  have Aj : Hid (rE p q bo o R1 r1 A ns B ms (((((x10.pin w.heap.size (.cells #[.slice p.A (aB p.x).length p.a, .slice p.B (aB p.y).length p.b, .slice p.C (aB p.z).length p.c] 47)).pin (w.heap.size + 1) (.cells #[.slice q.A (aB q.x).length q.a, .slice q.B (aB q.y).length q.b, .slice q.C (aB q.z).length q.c] 47)).pin (w.heap.size + 1 + 1) (.cells #[.slice none 0 0, .slice none 0 0, .slice none 0 0] 47)).pin x2.heap.size (.cells #[.slice bo.A (aB bo.x).length bo.a, .slice bo.B (aB bo.y).length bo.b, .slice bo.C (aB bo.z).length bo.c] 47)).pin x3.heap.size (.cells #[.slice o.A (aB o.x).length o.a, .slice o.B (aB o.y).length o.b, .slice o.C (aB o.z).length o.c] 47))) := Lib.hid J.out.2.2.2
  have HOf := Lib.hid J.out.2.2.1
  have HK := Lib.hid J.out.2.1
  clear J
  rcases k with _ | k
  · go_wp2_with fail
    have HF : Hid (o.ok ((((((x10.pin w.heap.size (.cells #[.slice p.A (aB p.x).length p.a, .slice p.B (aB p.y).length p.b, .slice p.C (aB p.z).length p.c] 47)).pin (w.heap.size + 1) (.cells #[.slice q.A (aB q.x).length q.a, .slice q.B (aB q.y).length q.b, .slice q.C (aB q.z).length q.c] 47)).pin (w.heap.size + 1 + 1) (.cells #[.slice o.A (aB o.x).length o.a, .slice o.B (aB o.y).length o.b, .slice o.C (aB o.z).length o.c] 47)).pin x2.heap.size (.cells #[.slice bo.A (aB bo.x).length bo.a, .slice bo.B (aB bo.y).length bo.b, .slice bo.C (aB bo.z).length bo.c] 47)).pin x3.heap.size (.cells #[.slice o.A (aB o.x).length o.a, .slice o.B (aB o.y).length o.b, .slice o.C (aB o.z).length o.c] 47)))) := Lib.hid (by
     have h := Aj.out.o.ku (g := w.heap.size + 1 + 1) (o' := .cells #[.slice o.A (aB o.x).length o.a, .slice o.B (aB o.y).length o.b, .slice o.C (aB o.z).length o.c] 47) ob
     rw [qA _ (show x3.heap.size ≠ w.heap.size + 1 + 1 by omega), qA _ (show x2.heap.size ≠ w.heap.size + 1 + 1 by omega), dB] at h
     exact h)
    exact bodyPost_ret (v := .agg #[.slice o.A (aB o.x).length o.a, .slice o.B (aB o.y).length o.b, .slice o.C (aB o.z).length o.c]) (fA rfl rfl (bC 47 (w.heap.size + 1 + 1) #[.slice o.A (aB o.x).length o.a, .slice o.B (aB o.y).length o.b, .slice o.C (aB o.z).length o.c] 47 (by kernel_rfl) (by kernel_rfl) ob)) rfl ⟨⟨o, rfl, HF.out, by have h := HOf.out; rw [Nat.pow_zero, Nat.div_one, Nat.div_one] at h; exact h⟩, pl fB.out⟩
  · rw [show (((k + 1 : Nat) : Int) - 1) = (k : Int) from by omega]
    obtain ⟨S, hS⟩ : ∃ S, S = (Pt.smul (bW ns / 2 ^ (k + 1)) P + Pt.smul (bW ms / 2 ^ (k + 1)) Q) := ⟨_, rfl⟩
    have HS := Lib.hid hS
    have Dq : Hid (o.of S) := Lib.hid (by rw [hS]; exact HOf.out)
    clear HOf hS
    have hk8 : k ≤ 8000 := by have := HK.out; have := HN.out; omega
    go_wp2_with fail
    refine (lC o o S S Dq.out Dq.out R1 r1 _ Aj.out.o Aj.out.o Aj.out.d).mono ?_
    rintro e y11 ⟨⟨o1, rfl, ho1, hf1⟩, dG⟩
    replace Aj := Lib.hid (Aj.out.next (bt dG))
    obtain ⟨x11, rfl, mQ, nD, Bo, Kr, Kt, Yd, Ye⟩ := dZ (b0 := w.heap.size) (b1 := w.heap.size + 1) (b2 := w.heap.size + 1 + 1) (b3 := x2.heap.size) (b4 := x3.heap.size) dG rfl ob ob ob ob ob
    have fC := aZ fB.out mQ
    clear dG mQ
    try simp only [eF] at nD
    have HO1 := Lib.hid ho1
    have Gf := Lib.hid hf1
    clear ho1 hf1
    go_wp2_with fail
    have QX : Hid (rE p q bo o1 R1 r1 A ns B ms (((((x11.pin w.heap.size (.cells #[.slice p.A (aB p.x).length p.a, .slice p.B (aB p.y).length p.b, .slice p.C (aB p.z).length p.c] 47)).pin (w.heap.size + 1) (.cells #[.slice q.A (aB q.x).length q.a, .slice q.B (aB q.y).length q.b, .slice q.C (aB q.z).length q.c] 47)).pin (w.heap.size + 1 + 1) (.cells #[.slice none 0 0, .slice none 0 0, .slice none 0 0] 47)).pin x2.heap.size (.cells #[.slice bo.A (aB bo.x).length bo.a, .slice bo.B (aB bo.y).length bo.b, .slice bo.C (aB bo.z).length bo.c] 47)).pin x3.heap.size (.cells #[.slice o1.A (aB o1.x).length o1.a, .slice o1.B (aB o1.y).length o1.b, .slice o1.C (aB o1.z).length o1.c] 47))) := Lib.hid (by have h := Aj.out.put (g := x3.heap.size) (o' := .cells #[.slice o1.A (aB o1.x).length o1.a, .slice o1.B (aB o1.y).length o1.b, .slice o1.C (aB o1.z).length o1.c] 47) ob o1 HO1.out; rw [dB] at h; exact h)
    clear Aj
    have Aj := QX
    clear QX
    by_cases hn1 : bW ns / 2 ^ k % 2 = 1
    · by_cases hm1 : bW ms / 2 ^ k % 2 = 1
      · refine (eP A c ns k true (decide_eq_true hn1) hk8 rC.out.1 _ Aj.out.n).mono ?_
        rintro e QN ⟨rfl, bT⟩
        replace Aj := Lib.hid (Aj.out.next (bt bT))
        obtain ⟨x12, rfl, hc12, kF, uS, vI, vJ, Fp, Fq⟩ := dZ (b0 := w.heap.size) (b1 := w.heap.size + 1) (b2 := w.heap.size + 1 + 1) (b3 := x2.heap.size) (b4 := x3.heap.size) bT rfl ob ob ob ob ob
        have fG := aZ fC.out hc12
        clear bT hc12
        try simp only [eF] at kF
        go_wp2_with fail
        refine (eP B d ms k true (decide_eq_true hm1) hk8 rC.out.2 _ Aj.out.m).mono ?_
        rintro e y13 ⟨rfl, bM⟩
        replace Aj := Lib.hid (Aj.out.next (bt bM))
        obtain ⟨DL, rfl, hc13, jJ, tq, xg, xk, Ku, Kv⟩ := dZ (b0 := w.heap.size) (b1 := w.heap.size + 1) (b2 := w.heap.size + 1 + 1) (b3 := x2.heap.size) (b4 := x3.heap.size) bM rfl ob ob ob ob ob
        have iH := aZ fG.out hc13
        clear bM hc13
        try simp only [eF] at jJ
        go_wp2_with fail
        refine (lC o1 bo (S + S) (P + Q) Gf.out HBF.out R1 r1 _ Aj.out.o Aj.out.b Aj.out.d).mono ?_
        rintro e Zl ⟨⟨o2, rfl, ho2, hf2⟩, dO⟩
        replace Aj := Lib.hid (Aj.out.next (bt dO))
        obtain ⟨x14, rfl, lH, lZ, xq, xu, xw, Kw, Ky⟩ := dZ (b0 := w.heap.size) (b1 := w.heap.size + 1) (b2 := w.heap.size + 1 + 1) (b3 := x2.heap.size) (b4 := x3.heap.size) dO rfl ob ob ob ob ob
        have jo := aZ iH.out lH
        clear dO lH
        try simp only [eF] at lZ
        have EK := Lib.hid ho2
        have HF2 := Lib.hid hf2
        clear ho2 hf2
        go_wp2_with fail
        have sF : Hid (rE p q bo o2 R1 r1 A ns B ms (((((x14.pin w.heap.size (.cells #[.slice p.A (aB p.x).length p.a, .slice p.B (aB p.y).length p.b, .slice p.C (aB p.z).length p.c] 47)).pin (w.heap.size + 1) (.cells #[.slice q.A (aB q.x).length q.a, .slice q.B (aB q.y).length q.b, .slice q.C (aB q.z).length q.c] 47)).pin (w.heap.size + 1 + 1) (.cells #[.slice none 0 0, .slice none 0 0, .slice none 0 0] 47)).pin x2.heap.size (.cells #[.slice bo.A (aB bo.x).length bo.a, .slice bo.B (aB bo.y).length bo.b, .slice bo.C (aB bo.z).length bo.c] 47)).pin x3.heap.size (.cells #[.slice o2.A (aB o2.x).length o2.a, .slice o2.B (aB o2.y).length o2.b, .slice o2.C (aB o2.z).length o2.c] 47))) := Lib.hid (by have h := Aj.out.put (g := x3.heap.size) (o' := .cells #[.slice o2.A (aB o2.x).length o2.a, .slice o2.B (aB o2.y).length o2.b, .slice o2.C (aB o2.z).length o2.c] 47) ob o2 EK.out; rw [dB] at h; exact h)
        clear Aj
        have Aj := sF
        clear sF
        go_roundw
        case rel => exact ⟨k, o2, _, by simp, by first | rfl | exact qX ob ob ob ob ob, sz, sz, sz, Lib.hid ⟨pl jo.out, by have := HK.out; omega, by rw [← Wi HS.out hn1 hm1]; exact HF2.out, Aj.out⟩⟩
        case measure => first | exact nO k | exact mX k (by omega)
      · refine (eP A c ns k true (decide_eq_true hn1) hk8 rC.out.1 _ Aj.out.n).mono ?_
        rintro e QN ⟨rfl, bT⟩
        replace Aj := Lib.hid (Aj.out.next (bt bT))
        obtain ⟨x12, rfl, hc12, kF, uS, vI, vJ, Fp, Fq⟩ := dZ (b0 := w.heap.size) (b1 := w.heap.size + 1) (b2 := w.heap.size + 1 + 1) (b3 := x2.heap.size) (b4 := x3.heap.size) bT rfl ob ob ob ob ob
        have fG := aZ fC.out hc12
        clear bT hc12
        try simp only [eF] at kF
        go_wp2_with fail
        refine (eP B d ms k false (decide_eq_false hm1) hk8 rC.out.2 _ Aj.out.m).mono ?_
        rintro e y13 ⟨rfl, bM⟩
        replace Aj := Lib.hid (Aj.out.next (bt bM))
        obtain ⟨DL, rfl, hc13, jJ, tq, xg, xk, Ku, Kv⟩ := dZ (b0 := w.heap.size) (b1 := w.heap.size + 1) (b2 := w.heap.size + 1 + 1) (b3 := x2.heap.size) (b4 := x3.heap.size) bM rfl ob ob ob ob ob
        have iH := aZ fG.out hc13
        clear bM hc13
        try simp only [eF] at jJ
        go_wp2_with fail
        refine (eP A c ns k true (decide_eq_true hn1) hk8 rC.out.1 _ Aj.out.n).mono ?_
        rintro e Zl ⟨rfl, dO⟩
        replace Aj := Lib.hid (Aj.out.next (bt dO))
        obtain ⟨x14, rfl, lH, lZ, xq, xu, xw, Kw, Ky⟩ := dZ (b0 := w.heap.size) (b1 := w.heap.size + 1) (b2 := w.heap.size + 1 + 1) (b3 := x2.heap.size) (b4 := x3.heap.size) dO rfl ob ob ob ob ob
        have jo := aZ iH.out lH
        clear dO lH
        try simp only [eF] at lZ
        go_wp2_with fail
        refine (lC o1 p (S + S) P Gf.out HOP.out R1 r1 _ Aj.out.o Aj.out.p Aj.out.d).mono ?_
        rintro e y15 ⟨⟨o2, rfl, ho2, hf2⟩, fH⟩
        replace Aj := Lib.hid (Aj.out.next (bt fH))
        obtain ⟨x15, rfl, rM, vH, Pq, Pv, Px, abV, abW⟩ := dZ (b0 := w.heap.size) (b1 := w.heap.size + 1) (b2 := w.heap.size + 1 + 1) (b3 := x2.heap.size) (b4 := x3.heap.size) fH rfl ob ob ob ob ob
        have nV := aZ jo.out rM
        clear fH rM
        try simp only [eF] at vH
        have EK := Lib.hid ho2
        have HF2 := Lib.hid hf2
        clear ho2 hf2
        go_wp2_with fail
        have sF : Hid (rE p q bo o2 R1 r1 A ns B ms (((((x15.pin w.heap.size (.cells #[.slice p.A (aB p.x).length p.a, .slice p.B (aB p.y).length p.b, .slice p.C (aB p.z).length p.c] 47)).pin (w.heap.size + 1) (.cells #[.slice q.A (aB q.x).length q.a, .slice q.B (aB q.y).length q.b, .slice q.C (aB q.z).length q.c] 47)).pin (w.heap.size + 1 + 1) (.cells #[.slice none 0 0, .slice none 0 0, .slice none 0 0] 47)).pin x2.heap.size (.cells #[.slice bo.A (aB bo.x).length bo.a, .slice bo.B (aB bo.y).length bo.b, .slice bo.C (aB bo.z).length bo.c] 47)).pin x3.heap.size (.cells #[.slice o2.A (aB o2.x).length o2.a, .slice o2.B (aB o2.y).length o2.b, .slice o2.C (aB o2.z).length o2.c] 47))) := Lib.hid (by have h := Aj.out.put (g := x3.heap.size) (o' := .cells #[.slice o2.A (aB o2.x).length o2.a, .slice o2.B (aB o2.y).length o2.b, .slice o2.C (aB o2.z).length o2.c] 47) ob o2 EK.out; rw [dB] at h; exact h)
        clear Aj
        have Aj := sF
        clear sF
        go_roundw
        case rel => exact ⟨k, o2, _, by simp, by first | rfl | exact qX ob ob ob ob ob, sz, sz, sz, Lib.hid ⟨pl nV.out, by have := HK.out; omega, by rw [← Wh HS.out hn1 hm1]; exact HF2.out, Aj.out⟩⟩
        case measure => first | exact nO k | exact mX k (by omega)
    · by_cases hm1 : bW ms / 2 ^ k % 2 = 1
      · refine (eP A c ns k false (decide_eq_false hn1) hk8 rC.out.1 _ Aj.out.n).mono ?_
        rintro e QN ⟨rfl, bT⟩
        replace Aj := Lib.hid (Aj.out.next (bt bT))
        obtain ⟨x12, rfl, hc12, kF, uS, vI, vJ, Fp, Fq⟩ := dZ (b0 := w.heap.size) (b1 := w.heap.size + 1) (b2 := w.heap.size + 1 + 1) (b3 := x2.heap.size) (b4 := x3.heap.size) bT rfl ob ob ob ob ob
        have fG := aZ fC.out hc12
        clear bT hc12
        try simp only [eF] at kF
        go_wp2_with fail
        refine (eP A c ns k false (decide_eq_false hn1) hk8 rC.out.1 _ Aj.out.n).mono ?_
        rintro e y13 ⟨rfl, bM⟩
        replace Aj := Lib.hid (Aj.out.next (bt bM))
        obtain ⟨DL, rfl, hc13, jJ, tq, xg, xk, Ku, Kv⟩ := dZ (b0 := w.heap.size) (b1 := w.heap.size + 1) (b2 := w.heap.size + 1 + 1) (b3 := x2.heap.size) (b4 := x3.heap.size) bM rfl ob ob ob ob ob
        have iH := aZ fG.out hc13
        clear bM hc13
        try simp only [eF] at jJ
        go_wp2_with fail
        refine (eP B d ms k true (decide_eq_true hm1) hk8 rC.out.2 _ Aj.out.m).mono ?_
        rintro e Zl ⟨rfl, dO⟩
        replace Aj := Lib.hid (Aj.out.next (bt dO))
        obtain ⟨x14, rfl, lH, lZ, xq, xu, xw, Kw, Ky⟩ := dZ (b0 := w.heap.size) (b1 := w.heap.size + 1) (b2 := w.heap.size + 1 + 1) (b3 := x2.heap.size) (b4 := x3.heap.size) dO rfl ob ob ob ob ob
        have jo := aZ iH.out lH
        clear dO lH
        try simp only [eF] at lZ
        go_wp2_with fail
        refine (lC o1 q (S + S) Q Gf.out HOQ.out R1 r1 _ Aj.out.o Aj.out.q Aj.out.d).mono ?_
        rintro e y15 ⟨⟨o2, rfl, ho2, hf2⟩, fH⟩
        replace Aj := Lib.hid (Aj.out.next (bt fH))
        obtain ⟨x15, rfl, rM, vH, Pq, Pv, Px, abV, abW⟩ := dZ (b0 := w.heap.size) (b1 := w.heap.size + 1) (b2 := w.heap.size + 1 + 1) (b3 := x2.heap.size) (b4 := x3.heap.size) fH rfl ob ob ob ob ob
        have nV := aZ jo.out rM
        clear fH rM
        try simp only [eF] at vH
        have EK := Lib.hid ho2
        have HF2 := Lib.hid hf2
        clear ho2 hf2
        go_wp2_with fail
        have sF : Hid (rE p q bo o2 R1 r1 A ns B ms (((((x15.pin w.heap.size (.cells #[.slice p.A (aB p.x).length p.a, .slice p.B (aB p.y).length p.b, .slice p.C (aB p.z).length p.c] 47)).pin (w.heap.size + 1) (.cells #[.slice q.A (aB q.x).length q.a, .slice q.B (aB q.y).length q.b, .slice q.C (aB q.z).length q.c] 47)).pin (w.heap.size + 1 + 1) (.cells #[.slice none 0 0, .slice none 0 0, .slice none 0 0] 47)).pin x2.heap.size (.cells #[.slice bo.A (aB bo.x).length bo.a, .slice bo.B (aB bo.y).length bo.b, .slice bo.C (aB bo.z).length bo.c] 47)).pin x3.heap.size (.cells #[.slice o2.A (aB o2.x).length o2.a, .slice o2.B (aB o2.y).length o2.b, .slice o2.C (aB o2.z).length o2.c] 47))) := Lib.hid (by have h := Aj.out.put (g := x3.heap.size) (o' := .cells #[.slice o2.A (aB o2.x).length o2.a, .slice o2.B (aB o2.y).length o2.b, .slice o2.C (aB o2.z).length o2.c] 47) ob o2 EK.out; rw [dB] at h; exact h)
        clear Aj
        have Aj := sF
        clear sF
        go_roundw
        case rel => exact ⟨k, o2, _, by simp, by first | rfl | exact qX ob ob ob ob ob, sz, sz, sz, Lib.hid ⟨pl nV.out, by have := HK.out; omega, by rw [← V9 HS.out hn1 hm1]; exact HF2.out, Aj.out⟩⟩
        case measure => first | exact nO k | exact mX k (by omega)
      · refine (eP A c ns k false (decide_eq_false hn1) hk8 rC.out.1 _ Aj.out.n).mono ?_
        rintro e QN ⟨rfl, bT⟩
        replace Aj := Lib.hid (Aj.out.next (bt bT))
        obtain ⟨x12, rfl, hc12, kF, uS, vI, vJ, Fp, Fq⟩ := dZ (b0 := w.heap.size) (b1 := w.heap.size + 1) (b2 := w.heap.size + 1 + 1) (b3 := x2.heap.size) (b4 := x3.heap.size) bT rfl ob ob ob ob ob
        have fG := aZ fC.out hc12
        clear bT hc12
        try simp only [eF] at kF
        go_wp2_with fail
        refine (eP A c ns k false (decide_eq_false hn1) hk8 rC.out.1 _ Aj.out.n).mono ?_
        rintro e y13 ⟨rfl, bM⟩
        replace Aj := Lib.hid (Aj.out.next (bt bM))
        obtain ⟨DL, rfl, hc13, jJ, tq, xg, xk, Ku, Kv⟩ := dZ (b0 := w.heap.size) (b1 := w.heap.size + 1) (b2 := w.heap.size + 1 + 1) (b3 := x2.heap.size) (b4 := x3.heap.size) bM rfl ob ob ob ob ob
        have iH := aZ fG.out hc13
        clear bM hc13
        try simp only [eF] at jJ
        go_wp2_with fail
        refine (eP B d ms k false (decide_eq_false hm1) hk8 rC.out.2 _ Aj.out.m).mono ?_
        rintro e Zl ⟨rfl, dO⟩
        replace Aj := Lib.hid (Aj.out.next (bt dO))
        obtain ⟨x14, rfl, lH, lZ, xq, xu, xw, Kw, Ky⟩ := dZ (b0 := w.heap.size) (b1 := w.heap.size + 1) (b2 := w.heap.size + 1 + 1) (b3 := x2.heap.size) (b4 := x3.heap.size) dO rfl ob ob ob ob ob
        have jo := aZ iH.out lH
        clear dO lH
        try simp only [eF] at lZ
        go_wp2_with fail
        go_roundw
        case rel => exact ⟨k, o1, _, by simp, by first | rfl | exact qX ob ob ob ob ob, sz, sz, sz, Lib.hid ⟨pl jo.out, by have := HK.out; omega, by rw [← V7 HS.out hn1 hm1]; exact Gf.out, Aj.out⟩⟩
        case measure => first | exact nO k | exact mX k (by omega)
theorem afE (p q : Dp) (P Q : EP) (hp : p.of P) (hq : q.of Q) (A B : Option Addr) (c d : Nat) (ns ms : List Nat) (hn : ns.length ≤ 100) (hm : ms.length ≤ 100) (hbn : ∀ b ∈ ns, b < 256) (hbm : ∀ b ∈ ms, b < 256) (hc : ns.length < ms.length) (w : World) (kp : p.ok w) (kq : q.ok w) (hrn : Rd w .u8 A ns) (hrm : Rd w .u8 B ms) :
 Calls Tryz.prog 34 #[.slice A ns.length c, p.v, .slice B ms.length d, q.v] w fun e w' => (∃ o : Dp, e = .returned o.v ∧ o.ok w' ∧ o.of (Pt.smul (bW ns) P + Pt.smul (bW ms) Q)) ∧ Below w.heap.size w w' := by
 have hcI : (ns.length : Int) < (ms.length : Int) := by omega
 have HP := Lib.hid kp
 have HQ := Lib.hid kq
 have HOP := Lib.hid hp
 have HOQ := Lib.hid hq
 have HRn := Lib.hid hrn
 have EM := Lib.hid hrm
 have rC := Lib.hid (And.intro hbn hbm)
 have HN := Lib.hid (show ns.length ≤ 100 ∧ ms.length ≤ 100 ∧ ns.length ≤ ms.length ∧ ms.length ≤ ms.length by omega)
 clear kp kq hp hq hrn hrm hbn hbm
 go_enter Tryz.func34, Tryz.ntmps34
 go_wp2_with fail
 refine (D7 _).mono ?_
 rintro e y1 ⟨⟨R1, r1, rfl, hr1⟩, hb1⟩
 replace HP := Lib.hid (HP.out.next (bt hb1))
 replace HQ := Lib.hid (HQ.out.next (bt hb1))
 replace HRn := Lib.hid (HRn.out.next (bt hb1))
 replace EM := Lib.hid (EM.out.next (bt hb1))
 obtain ⟨x1, rfl, hc1, hz1, l10, nG, l12⟩ := bZ (b0 := w.heap.size) (b1 := w.heap.size + 1) (b2 := w.heap.size + 1 + 1) hb1 rfl ob ob ob
 have HB1 : Hid (Below w.heap.size w x1) := Below.trans (pl (Below.refl _ _)) (hc1.mono sz)
 clear hb1 hc1
 try simp only [eF] at hz1
 have HD := Lib.hid hr1
 clear hr1
 go_wp2_with fail
 refine (lC p q P Q HOP.out HOQ.out R1 r1 _ (HP.out.next (pl (Below.refl _ _))) (HQ.out.next (pl (Below.refl _ _))) (HD.out.next (pl (Below.refl _ _)))).mono ?_
 rintro e y2 ⟨⟨bo, rfl, hbo, hbf⟩, hb2⟩
 replace HP := Lib.hid (HP.out.next (bt hb2))
 replace HQ := Lib.hid (HQ.out.next (bt hb2))
 replace HRn := Lib.hid (HRn.out.next (bt hb2))
 replace EM := Lib.hid (EM.out.next (bt hb2))
 replace HD := Lib.hid (HD.out.next (bt hb2))
 obtain ⟨x2, rfl, hc2, hz2, kD, rQ, Gh⟩ := bZ (b0 := w.heap.size) (b1 := w.heap.size + 1) (b2 := w.heap.size + 1 + 1) hb2 rfl ob ob ob
 have HB2 := aZ HB1.out hc2
 clear hb2 hc2
 try simp only [eF] at hz2
 have HB := Lib.hid hbo
 have HBF := Lib.hid hbf
 clear hbo hbf
 go_wp2_with fail
 refine (AO _).mono ?_
 rintro e y3 ⟨⟨oz, rfl, ZC, Ih⟩, hb3⟩
 replace HP := Lib.hid (HP.out.next (bt hb3))
 replace HQ := Lib.hid (HQ.out.next (bt hb3))
 replace HRn := Lib.hid (HRn.out.next (bt hb3))
 replace EM := Lib.hid (EM.out.next (bt hb3))
 replace HD := Lib.hid (HD.out.next (bt hb3))
 replace HB := Lib.hid (HB.out.next (bt hb3))
 obtain ⟨x3, rfl, hc3, hz3, nN, uq, zn, Py⟩ := Bl (b0 := w.heap.size) (b1 := w.heap.size + 1) (b2 := w.heap.size + 1 + 1) (b3 := x2.heap.size) hb3 rfl ob ob ob ob
 have HB3 := aZ HB2.out hc3
 clear hb3 hc3
 try simp only [eF] at hz3
 have HO := Lib.hid ZC
 have zQ := Lib.hid Ih
 clear ZC Ih
 go_wp2_with fail
 go_loopw [13] (fun iv wr => ∃ (k : Nat) (o : Dp) (x : World), iv = .int .i64 ((k : Int) - 1) ∧ wr = (((((x.pin w.heap.size (.cells #[.slice p.A (aB p.x).length p.a, .slice p.B (aB p.y).length p.b, .slice p.C (aB p.z).length p.c] 47)).pin (w.heap.size + 1) (.cells #[.slice q.A (aB q.x).length q.a, .slice q.B (aB q.y).length q.b, .slice q.C (aB q.z).length q.c] 47)).pin (w.heap.size + 1 + 1) (.cells #[.slice none 0 0, .slice none 0 0, .slice none 0 0] 47)).pin x2.heap.size (.cells #[.slice bo.A (aB bo.x).length bo.a, .slice bo.B (aB bo.y).length bo.b, .slice bo.C (aB bo.z).length bo.c] 47)).pin x3.heap.size (.cells #[.slice o.A (aB o.x).length o.a, .slice o.B (aB o.y).length o.b, .slice o.C (aB o.z).length o.c] 47)) ∧ w.heap.size + 2 < x.heap.size ∧ x2.heap.size < x.heap.size ∧ x3.heap.size < x.heap.size ∧ Hid (Below w.heap.size w x ∧ k ≤ 8 * ms.length ∧ o.of (Pt.smul (bW ns / 2 ^ k) P + Pt.smul (bW ms / 2 ^ k) Q) ∧ rE p q bo o R1 r1 A ns B ms wr)) (fun iv _ => (intOf iv + 1).toNat)
 case atStart => exact ⟨8 * ms.length, oz, _, by simp, qX ob ob ob ob ob, sz, sz, sz, Lib.hid ⟨pl HB3.out, Nat.le_refl _, by rw [Af ns rC.out.1 _ (by have := HN.out; omega), Af ms rC.out.2 _ (by have := HN.out; omega), smul_zero, smul_zero, Pt.add_zero]; exact zQ.out, ⟨(HP.out.next (pl (Below.refl _ _))), (HQ.out.next (pl (Below.refl _ _))), (HB.out.next (pl (Below.refl _ _))), (HO.out.next (pl (Below.refl _ _))), (HD.out.next (pl (Below.refl _ _))), (HRn.out.next (pl (Below.refl _ _))), (EM.out.next (pl (Below.refl _ _)))⟩⟩⟩
 case round =>
  obtain ⟨k, o, x10, rfl, rfl, q0, q1, q2, J⟩ := hrel
  have fB : Hid (Below w.heap.size w x10) := Lib.hid J.out.1
  have Aj : Hid (rE p q bo o R1 r1 A ns B ms (((((x10.pin w.heap.size (.cells #[.slice p.A (aB p.x).length p.a, .slice p.B (aB p.y).length p.b, .slice p.C (aB p.z).length p.c] 47)).pin (w.heap.size + 1) (.cells #[.slice q.A (aB q.x).length q.a, .slice q.B (aB q.y).length q.b, .slice q.C (aB q.z).length q.c] 47)).pin (w.heap.size + 1 + 1) (.cells #[.slice none 0 0, .slice none 0 0, .slice none 0 0] 47)).pin x2.heap.size (.cells #[.slice bo.A (aB bo.x).length bo.a, .slice bo.B (aB bo.y).length bo.b, .slice bo.C (aB bo.z).length bo.c] 47)).pin x3.heap.size (.cells #[.slice o.A (aB o.x).length o.a, .slice o.B (aB o.y).length o.b, .slice o.C (aB o.z).length o.c] 47))) := Lib.hid J.out.2.2.2
  have HOf := Lib.hid J.out.2.2.1
  have HK := Lib.hid J.out.2.1
  clear J
  rcases k with _ | k
  · go_wp2_with fail
    have HF : Hid (o.ok ((((((x10.pin w.heap.size (.cells #[.slice p.A (aB p.x).length p.a, .slice p.B (aB p.y).length p.b, .slice p.C (aB p.z).length p.c] 47)).pin (w.heap.size + 1) (.cells #[.slice q.A (aB q.x).length q.a, .slice q.B (aB q.y).length q.b, .slice q.C (aB q.z).length q.c] 47)).pin (w.heap.size + 1 + 1) (.cells #[.slice o.A (aB o.x).length o.a, .slice o.B (aB o.y).length o.b, .slice o.C (aB o.z).length o.c] 47)).pin x2.heap.size (.cells #[.slice bo.A (aB bo.x).length bo.a, .slice bo.B (aB bo.y).length bo.b, .slice bo.C (aB bo.z).length bo.c] 47)).pin x3.heap.size (.cells #[.slice o.A (aB o.x).length o.a, .slice o.B (aB o.y).length o.b, .slice o.C (aB o.z).length o.c] 47)))) := Lib.hid (by
     have h := Aj.out.o.ku (g := w.heap.size + 1 + 1) (o' := .cells #[.slice o.A (aB o.x).length o.a, .slice o.B (aB o.y).length o.b, .slice o.C (aB o.z).length o.c] 47) ob
     rw [qA _ (show x3.heap.size ≠ w.heap.size + 1 + 1 by omega), qA _ (show x2.heap.size ≠ w.heap.size + 1 + 1 by omega), dB] at h
     exact h)
    exact bodyPost_ret (v := .agg #[.slice o.A (aB o.x).length o.a, .slice o.B (aB o.y).length o.b, .slice o.C (aB o.z).length o.c]) (fA rfl rfl (bC 47 (w.heap.size + 1 + 1) #[.slice o.A (aB o.x).length o.a, .slice o.B (aB o.y).length o.b, .slice o.C (aB o.z).length o.c] 47 (by kernel_rfl) (by kernel_rfl) ob)) rfl ⟨⟨o, rfl, HF.out, by have h := HOf.out; rw [Nat.pow_zero, Nat.div_one, Nat.div_one] at h; exact h⟩, pl fB.out⟩
  · rw [show (((k + 1 : Nat) : Int) - 1) = (k : Int) from by omega]
    obtain ⟨S, hS⟩ : ∃ S, S = (Pt.smul (bW ns / 2 ^ (k + 1)) P + Pt.smul (bW ms / 2 ^ (k + 1)) Q) := ⟨_, rfl⟩
    have HS := Lib.hid hS
    have Dq : Hid (o.of S) := Lib.hid (by rw [hS]; exact HOf.out)
    clear HOf hS
    have hk8 : k ≤ 8000 := by have := HK.out; have := HN.out; omega
    go_wp2_with fail
    refine (lC o o S S Dq.out Dq.out R1 r1 _ Aj.out.o Aj.out.o Aj.out.d).mono ?_
    rintro e y11 ⟨⟨o1, rfl, ho1, hf1⟩, dG⟩
    replace Aj := Lib.hid (Aj.out.next (bt dG))
    obtain ⟨x11, rfl, mQ, nD, Bo, Kr, Kt, Yd, Ye⟩ := dZ (b0 := w.heap.size) (b1 := w.heap.size + 1) (b2 := w.heap.size + 1 + 1) (b3 := x2.heap.size) (b4 := x3.heap.size) dG rfl ob ob ob ob ob
    have fC := aZ fB.out mQ
    clear dG mQ
    try simp only [eF] at nD
    have HO1 := Lib.hid ho1
    have Gf := Lib.hid hf1
    clear ho1 hf1
    go_wp2_with fail
    have QX : Hid (rE p q bo o1 R1 r1 A ns B ms (((((x11.pin w.heap.size (.cells #[.slice p.A (aB p.x).length p.a, .slice p.B (aB p.y).length p.b, .slice p.C (aB p.z).length p.c] 47)).pin (w.heap.size + 1) (.cells #[.slice q.A (aB q.x).length q.a, .slice q.B (aB q.y).length q.b, .slice q.C (aB q.z).length q.c] 47)).pin (w.heap.size + 1 + 1) (.cells #[.slice none 0 0, .slice none 0 0, .slice none 0 0] 47)).pin x2.heap.size (.cells #[.slice bo.A (aB bo.x).length bo.a, .slice bo.B (aB bo.y).length bo.b, .slice bo.C (aB bo.z).length bo.c] 47)).pin x3.heap.size (.cells #[.slice o1.A (aB o1.x).length o1.a, .slice o1.B (aB o1.y).length o1.b, .slice o1.C (aB o1.z).length o1.c] 47))) := Lib.hid (by have h := Aj.out.put (g := x3.heap.size) (o' := .cells #[.slice o1.A (aB o1.x).length o1.a, .slice o1.B (aB o1.y).length o1.b, .slice o1.C (aB o1.z).length o1.c] 47) ob o1 HO1.out; rw [dB] at h; exact h)
    clear Aj
    have Aj := QX
    clear QX
    by_cases hn1 : bW ns / 2 ^ k % 2 = 1
    · by_cases hm1 : bW ms / 2 ^ k % 2 = 1
      · refine (eP A c ns k true (decide_eq_true hn1) hk8 rC.out.1 _ Aj.out.n).mono ?_
        rintro e QN ⟨rfl, bT⟩
        replace Aj := Lib.hid (Aj.out.next (bt bT))
        obtain ⟨x12, rfl, hc12, kF, uS, vI, vJ, Fp, Fq⟩ := dZ (b0 := w.heap.size) (b1 := w.heap.size + 1) (b2 := w.heap.size + 1 + 1) (b3 := x2.heap.size) (b4 := x3.heap.size) bT rfl ob ob ob ob ob
        have fG := aZ fC.out hc12
        clear bT hc12
        try simp only [eF] at kF
        go_wp2_with fail
        refine (eP B d ms k true (decide_eq_true hm1) hk8 rC.out.2 _ Aj.out.m).mono ?_
        rintro e y13 ⟨rfl, bM⟩
        replace Aj := Lib.hid (Aj.out.next (bt bM))
        obtain ⟨DL, rfl, hc13, jJ, tq, xg, xk, Ku, Kv⟩ := dZ (b0 := w.heap.size) (b1 := w.heap.size + 1) (b2 := w.heap.size + 1 + 1) (b3 := x2.heap.size) (b4 := x3.heap.size) bM rfl ob ob ob ob ob
        have iH := aZ fG.out hc13
        clear bM hc13
        try simp only [eF] at jJ
        go_wp2_with fail
        refine (lC o1 bo (S + S) (P + Q) Gf.out HBF.out R1 r1 _ Aj.out.o Aj.out.b Aj.out.d).mono ?_
        rintro e Zl ⟨⟨o2, rfl, ho2, hf2⟩, dO⟩
        replace Aj := Lib.hid (Aj.out.next (bt dO))
        obtain ⟨x14, rfl, lH, lZ, xq, xu, xw, Kw, Ky⟩ := dZ (b0 := w.heap.size) (b1 := w.heap.size + 1) (b2 := w.heap.size + 1 + 1) (b3 := x2.heap.size) (b4 := x3.heap.size) dO rfl ob ob ob ob ob
        have jo := aZ iH.out lH
        clear dO lH
        try simp only [eF] at lZ
        have EK := Lib.hid ho2
        have HF2 := Lib.hid hf2
        clear ho2 hf2
        go_wp2_with fail
        have sF : Hid (rE p q bo o2 R1 r1 A ns B ms (((((x14.pin w.heap.size (.cells #[.slice p.A (aB p.x).length p.a, .slice p.B (aB p.y).length p.b, .slice p.C (aB p.z).length p.c] 47)).pin (w.heap.size + 1) (.cells #[.slice q.A (aB q.x).length q.a, .slice q.B (aB q.y).length q.b, .slice q.C (aB q.z).length q.c] 47)).pin (w.heap.size + 1 + 1) (.cells #[.slice none 0 0, .slice none 0 0, .slice none 0 0] 47)).pin x2.heap.size (.cells #[.slice bo.A (aB bo.x).length bo.a, .slice bo.B (aB bo.y).length bo.b, .slice bo.C (aB bo.z).length bo.c] 47)).pin x3.heap.size (.cells #[.slice o2.A (aB o2.x).length o2.a, .slice o2.B (aB o2.y).length o2.b, .slice o2.C (aB o2.z).length o2.c] 47))) := Lib.hid (by have h := Aj.out.put (g := x3.heap.size) (o' := .cells #[.slice o2.A (aB o2.x).length o2.a, .slice o2.B (aB o2.y).length o2.b, .slice o2.C (aB o2.z).length o2.c] 47) ob o2 EK.out; rw [dB] at h; exact h)
        clear Aj
        have Aj := sF
        clear sF
        go_roundw
        case rel => exact ⟨k, o2, _, by simp, by first | rfl | exact qX ob ob ob ob ob, sz, sz, sz, Lib.hid ⟨pl jo.out, by have := HK.out; omega, by rw [← Wi HS.out hn1 hm1]; exact HF2.out, Aj.out⟩⟩
        case measure => first | exact nO k | exact mX k (by omega)
      · refine (eP A c ns k true (decide_eq_true hn1) hk8 rC.out.1 _ Aj.out.n).mono ?_
        rintro e QN ⟨rfl, bT⟩
        replace Aj := Lib.hid (Aj.out.next (bt bT))
        obtain ⟨x12, rfl, hc12, kF, uS, vI, vJ, Fp, Fq⟩ := dZ (b0 := w.heap.size) (b1 := w.heap.size + 1) (b2 := w.heap.size + 1 + 1) (b3 := x2.heap.size) (b4 := x3.heap.size) bT rfl ob ob ob ob ob
        have fG := aZ fC.out hc12
        clear bT hc12
        try simp only [eF] at kF
        go_wp2_with fail
        refine (eP B d ms k false (decide_eq_false hm1) hk8 rC.out.2 _ Aj.out.m).mono ?_
        rintro e y13 ⟨rfl, bM⟩
        replace Aj := Lib.hid (Aj.out.next (bt bM))
        obtain ⟨DL, rfl, hc13, jJ, tq, xg, xk, Ku, Kv⟩ := dZ (b0 := w.heap.size) (b1 := w.heap.size + 1) (b2 := w.heap.size + 1 + 1) (b3 := x2.heap.size) (b4 := x3.heap.size) bM rfl ob ob ob ob ob
        have iH := aZ fG.out hc13
        clear bM hc13
        try simp only [eF] at jJ
        go_wp2_with fail
        refine (eP A c ns k true (decide_eq_true hn1) hk8 rC.out.1 _ Aj.out.n).mono ?_
        rintro e Zl ⟨rfl, dO⟩
        replace Aj := Lib.hid (Aj.out.next (bt dO))
        obtain ⟨x14, rfl, lH, lZ, xq, xu, xw, Kw, Ky⟩ := dZ (b0 := w.heap.size) (b1 := w.heap.size + 1) (b2 := w.heap.size + 1 + 1) (b3 := x2.heap.size) (b4 := x3.heap.size) dO rfl ob ob ob ob ob
        have jo := aZ iH.out lH
        clear dO lH
        try simp only [eF] at lZ
        go_wp2_with fail
        refine (lC o1 p (S + S) P Gf.out HOP.out R1 r1 _ Aj.out.o Aj.out.p Aj.out.d).mono ?_
        rintro e y15 ⟨⟨o2, rfl, ho2, hf2⟩, fH⟩
        replace Aj := Lib.hid (Aj.out.next (bt fH))
        obtain ⟨x15, rfl, rM, vH, Pq, Pv, Px, abV, abW⟩ := dZ (b0 := w.heap.size) (b1 := w.heap.size + 1) (b2 := w.heap.size + 1 + 1) (b3 := x2.heap.size) (b4 := x3.heap.size) fH rfl ob ob ob ob ob
        have nV := aZ jo.out rM
        clear fH rM
        try simp only [eF] at vH
        have EK := Lib.hid ho2
        have HF2 := Lib.hid hf2
        clear ho2 hf2
        go_wp2_with fail
        have sF : Hid (rE p q bo o2 R1 r1 A ns B ms (((((x15.pin w.heap.size (.cells #[.slice p.A (aB p.x).length p.a, .slice p.B (aB p.y).length p.b, .slice p.C (aB p.z).length p.c] 47)).pin (w.heap.size + 1) (.cells #[.slice q.A (aB q.x).length q.a, .slice q.B (aB q.y).length q.b, .slice q.C (aB q.z).length q.c] 47)).pin (w.heap.size + 1 + 1) (.cells #[.slice none 0 0, .slice none 0 0, .slice none 0 0] 47)).pin x2.heap.size (.cells #[.slice bo.A (aB bo.x).length bo.a, .slice bo.B (aB bo.y).length bo.b, .slice bo.C (aB bo.z).length bo.c] 47)).pin x3.heap.size (.cells #[.slice o2.A (aB o2.x).length o2.a, .slice o2.B (aB o2.y).length o2.b, .slice o2.C (aB o2.z).length o2.c] 47))) := Lib.hid (by have h := Aj.out.put (g := x3.heap.size) (o' := .cells #[.slice o2.A (aB o2.x).length o2.a, .slice o2.B (aB o2.y).length o2.b, .slice o2.C (aB o2.z).length o2.c] 47) ob o2 EK.out; rw [dB] at h; exact h)
        clear Aj
        have Aj := sF
        clear sF
        go_roundw
        case rel => exact ⟨k, o2, _, by simp, by first | rfl | exact qX ob ob ob ob ob, sz, sz, sz, Lib.hid ⟨pl nV.out, by have := HK.out; omega, by rw [← Wh HS.out hn1 hm1]; exact HF2.out, Aj.out⟩⟩
        case measure => first | exact nO k | exact mX k (by omega)
    · by_cases hm1 : bW ms / 2 ^ k % 2 = 1
      · refine (eP A c ns k false (decide_eq_false hn1) hk8 rC.out.1 _ Aj.out.n).mono ?_
        rintro e QN ⟨rfl, bT⟩
        replace Aj := Lib.hid (Aj.out.next (bt bT))
        obtain ⟨x12, rfl, hc12, kF, uS, vI, vJ, Fp, Fq⟩ := dZ (b0 := w.heap.size) (b1 := w.heap.size + 1) (b2 := w.heap.size + 1 + 1) (b3 := x2.heap.size) (b4 := x3.heap.size) bT rfl ob ob ob ob ob
        have fG := aZ fC.out hc12
        clear bT hc12
        try simp only [eF] at kF
        go_wp2_with fail
        refine (eP A c ns k false (decide_eq_false hn1) hk8 rC.out.1 _ Aj.out.n).mono ?_
        rintro e y13 ⟨rfl, bM⟩
        replace Aj := Lib.hid (Aj.out.next (bt bM))
        obtain ⟨DL, rfl, hc13, jJ, tq, xg, xk, Ku, Kv⟩ := dZ (b0 := w.heap.size) (b1 := w.heap.size + 1) (b2 := w.heap.size + 1 + 1) (b3 := x2.heap.size) (b4 := x3.heap.size) bM rfl ob ob ob ob ob
        have iH := aZ fG.out hc13
        clear bM hc13
        try simp only [eF] at jJ
        go_wp2_with fail
        refine (eP B d ms k true (decide_eq_true hm1) hk8 rC.out.2 _ Aj.out.m).mono ?_
        rintro e Zl ⟨rfl, dO⟩
        replace Aj := Lib.hid (Aj.out.next (bt dO))
        obtain ⟨x14, rfl, lH, lZ, xq, xu, xw, Kw, Ky⟩ := dZ (b0 := w.heap.size) (b1 := w.heap.size + 1) (b2 := w.heap.size + 1 + 1) (b3 := x2.heap.size) (b4 := x3.heap.size) dO rfl ob ob ob ob ob
        have jo := aZ iH.out lH
        clear dO lH
        try simp only [eF] at lZ
        go_wp2_with fail
        refine (lC o1 q (S + S) Q Gf.out HOQ.out R1 r1 _ Aj.out.o Aj.out.q Aj.out.d).mono ?_
        rintro e y15 ⟨⟨o2, rfl, ho2, hf2⟩, fH⟩
        replace Aj := Lib.hid (Aj.out.next (bt fH))
        obtain ⟨x15, rfl, rM, vH, Pq, Pv, Px, abV, abW⟩ := dZ (b0 := w.heap.size) (b1 := w.heap.size + 1) (b2 := w.heap.size + 1 + 1) (b3 := x2.heap.size) (b4 := x3.heap.size) fH rfl ob ob ob ob ob
        have nV := aZ jo.out rM
        clear fH rM
        try simp only [eF] at vH
        have EK := Lib.hid ho2
        have HF2 := Lib.hid hf2
        clear ho2 hf2
        go_wp2_with fail
        have sF : Hid (rE p q bo o2 R1 r1 A ns B ms (((((x15.pin w.heap.size (.cells #[.slice p.A (aB p.x).length p.a, .slice p.B (aB p.y).length p.b, .slice p.C (aB p.z).length p.c] 47)).pin (w.heap.size + 1) (.cells #[.slice q.A (aB q.x).length q.a, .slice q.B (aB q.y).length q.b, .slice q.C (aB q.z).length q.c] 47)).pin (w.heap.size + 1 + 1) (.cells #[.slice none 0 0, .slice none 0 0, .slice none 0 0] 47)).pin x2.heap.size (.cells #[.slice bo.A (aB bo.x).length bo.a, .slice bo.B (aB bo.y).length bo.b, .slice bo.C (aB bo.z).length bo.c] 47)).pin x3.heap.size (.cells #[.slice o2.A (aB o2.x).length o2.a, .slice o2.B (aB o2.y).length o2.b, .slice o2.C (aB o2.z).length o2.c] 47))) := Lib.hid (by have h := Aj.out.put (g := x3.heap.size) (o' := .cells #[.slice o2.A (aB o2.x).length o2.a, .slice o2.B (aB o2.y).length o2.b, .slice o2.C (aB o2.z).length o2.c] 47) ob o2 EK.out; rw [dB] at h; exact h)
        clear Aj
        have Aj := sF
        clear sF
        go_roundw
        case rel => exact ⟨k, o2, _, by simp, by first | rfl | exact qX ob ob ob ob ob, sz, sz, sz, Lib.hid ⟨pl nV.out, by have := HK.out; omega, by rw [← V9 HS.out hn1 hm1]; exact HF2.out, Aj.out⟩⟩
        case measure => first | exact nO k | exact mX k (by omega)
      · refine (eP A c ns k false (decide_eq_false hn1) hk8 rC.out.1 _ Aj.out.n).mono ?_
        rintro e QN ⟨rfl, bT⟩
        replace Aj := Lib.hid (Aj.out.next (bt bT))
        obtain ⟨x12, rfl, hc12, kF, uS, vI, vJ, Fp, Fq⟩ := dZ (b0 := w.heap.size) (b1 := w.heap.size + 1) (b2 := w.heap.size + 1 + 1) (b3 := x2.heap.size) (b4 := x3.heap.size) bT rfl ob ob ob ob ob
        have fG := aZ fC.out hc12
        clear bT hc12
        try simp only [eF] at kF
        go_wp2_with fail
        refine (eP A c ns k false (decide_eq_false hn1) hk8 rC.out.1 _ Aj.out.n).mono ?_
        rintro e y13 ⟨rfl, bM⟩
        replace Aj := Lib.hid (Aj.out.next (bt bM))
        obtain ⟨DL, rfl, hc13, jJ, tq, xg, xk, Ku, Kv⟩ := dZ (b0 := w.heap.size) (b1 := w.heap.size + 1) (b2 := w.heap.size + 1 + 1) (b3 := x2.heap.size) (b4 := x3.heap.size) bM rfl ob ob ob ob ob
        have iH := aZ fG.out hc13
        clear bM hc13
        try simp only [eF] at jJ
        go_wp2_with fail
        refine (eP B d ms k false (decide_eq_false hm1) hk8 rC.out.2 _ Aj.out.m).mono ?_
        rintro e Zl ⟨rfl, dO⟩
        replace Aj := Lib.hid (Aj.out.next (bt dO))
        obtain ⟨x14, rfl, lH, lZ, xq, xu, xw, Kw, Ky⟩ := dZ (b0 := w.heap.size) (b1 := w.heap.size + 1) (b2 := w.heap.size + 1 + 1) (b3 := x2.heap.size) (b4 := x3.heap.size) dO rfl ob ob ob ob ob
        have jo := aZ iH.out lH
        clear dO lH
        try simp only [eF] at lZ
        go_wp2_with fail
        go_roundw
        case rel => exact ⟨k, o1, _, by simp, by first | rfl | exact qX ob ob ob ob ob, sz, sz, sz, Lib.hid ⟨pl jo.out, by have := HK.out; omega, by rw [← V7 HS.out hn1 hm1]; exact Gf.out, Aj.out⟩⟩
        case measure => first | exact nO k | exact mX k (by omega)
theorem ML (p q : Dp) (P Q : EP) (hp : p.of P) (hq : q.of Q) (A B : Option Addr) (c d : Nat) (ns ms : List Nat) (hn : ns.length ≤ 100) (hm : ms.length ≤ 100) (hbn : ∀ b ∈ ns, b < 256) (hbm : ∀ b ∈ ms, b < 256) (w : World) (kp : p.ok w) (kq : q.ok w) (hrn : Rd w .u8 A ns) (hrm : Rd w .u8 B ms) : Calls Tryz.prog 34 #[.slice A ns.length c, p.v, .slice B ms.length d, q.v] w fun e w' => (∃ o : Dp, e = .returned o.v ∧ o.ok w' ∧ o.of (Pt.smul (bW ns) P + Pt.smul (bW ms) Q)) ∧ Below w.heap.size w w' := by
 by_cases h : ns.length < ms.length
 · exact afE p q P Q hp hq A B c d ns ms hn hm hbn hbm h w kp kq hrn hrm
 · exact afF p q P Q hp hq A B c d ns ms hn hm hbn hbm (by omega) w kp kq hrn hrm
end
end Go.Proofs.YtehfkbaendajbaaGreatDoor
