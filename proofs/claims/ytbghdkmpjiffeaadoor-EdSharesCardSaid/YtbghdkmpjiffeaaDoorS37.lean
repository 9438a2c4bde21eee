/-
  Shared, part 37: walks and plain laws; each theorem states its own conditions.
-/
import Derived.Test.YtbghdkmpjiffeaaDoorS35
import Derived.Test.YtbghdkmpjiffeaaDoorS36
namespace Go.Proofs.YtbghdkmpjiffeaaDoor
set_option linter.unusedSimpArgs false
set_option linter.unusedVariables false
set_option maxRecDepth 100000
set_option maxHeartbeats 8000000
section
open Go.RowKit Go.Proofs.YtbghdkmpjiffeaaDoorW.PrintLast
theorem Dn.uX {w : World} {g : Nat} {o' : Obj} {A : Option Addr} {c n m : Nat} {t : TypeId} (h : Dn w A c n) (hg : w.heap[g]? = some (.cells (Array.replicate m (.int .u64 0)) t)) : Dn (w.pin g o') A c n := by
 refine ⟨fun i hi => ?_, h.2⟩
 obtain ⟨b, off, e, hc⟩ := h.1 i hi
 refine ⟨b, off, e, ?_⟩
 by_cases hb : b = g
 · exfalso
   subst hb
   have hne : aB n ≠ [] := fun e => by rw [e] at hi; exact absurd hi (Nat.not_lt_zero _)
   have hl := SY n hne
   have hpos : 0 < (aB n).length := List.length_pos_iff.mpr hne
   obtain ⟨b2, off2, e2, hc2⟩ := h.1 ((aB n).length - 1) (by omega)
   rw [e] at e2
   simp only [Option.some.injEq, Addr.mk.injEq] at e2
   obtain ⟨rfl, rfl, _⟩ := e2
   rw [List.getLast_eq_getElem] at hl
   simp only [World.cell?, hg] at hc2
   have h3 := Array.getElem?_eq_some_iff.mp hc2
   obtain ⟨hj, h4⟩ := h3
   rw [Array.getElem_replicate] at h4
   injection h4 with _ h5
   exact hl (by omega)
 · exact (show (w.pin g o').cell? ⟨b, off + i, none⟩ = w.cell? ⟨b, off + i, none⟩ by simp only [World.cell?]; rw [je hb]).trans hc
theorem Dp.ok.uX {w : World} {g : Nat} {o' : Obj} {p : Dp} {t : TypeId} (h : p.ok w) (hg : w.heap[g]? = some (.cells bP t)) : p.ok (w.pin g o') := ⟨h.x.uX (m := 20) hg, h.y.uX (m := 20) hg, h.z.uX (m := 20) hg⟩
section
variable {P : Program} {ops : Array Oper} {Q : Exit → Act → World → Prop} {md : Region.Mode}
theorem uf {o : Oper} {y : Nat → Option Bool} (h : o.guard = none) : Region.wanted o y = true := by simp [Region.wanted, h]
structure Runs (P : Program) (o : Oper) (a : Act) (w : World) (a' : Act) (w' : World) : Prop where
 out : ∀ (K : Act → World → Prop) (Q : Exit → Act → World → Prop), K a' w' → Oper.wp P o a w K Q
theorem jD {o : Oper} {a : Act} {w : World} (N : Option Tmp) (hN : o.dst = N) (ty : TypeId) (x : Operand) (ho : o.op = .load ty x) (b : Nat) (cs : Array Value) (t : TypeId) (hx : a.eval x = .pointer (some ⟨b, 0, none⟩)) (h : w.heap[b]? = some (.cells cs t))
 (hu : (P.underlying ty).any TypeDesc.isRow = true) (hi : (P.info? ty).map (·.size) = some cs.size) : Runs P o a w (a.put N (.agg cs)) w :=
 ⟨fun K Q hK => by
  subst hN
  unfold Oper.wp
  rw [mF ty x ho b cs t hx hu hi h]
  exact hK⟩
theorem gY {o : Oper} {a : Act} {w : World} (hN : o.dst = none) (ty : TypeId) (x y : Operand) (ho : o.op = .store ty x y) (b : Nat) (c old : Array Value) (t : TypeId) (hx : a.eval x = .pointer (some ⟨b, 0, none⟩)) (hy : a.eval y = .agg c) (hs : (P.info? ty).map (·.size) = some c.size) (hos : old.size = c.size) (h1 : c.all (·.oneCell') = true) (h : w.heap[b]? = some (.cells old t)) : Runs P o a w (a.put none undef) (w.pin b (.cells c t)) :=
 ⟨fun K Q hK => qU ty x y ho b c old t hx hy hs hos h1 h (by rw [hN]; exact hK)⟩
theorem pF {i : Nat} {oi : Oper} {fuel : Nat} {l : Array Bool} {a a' : Act} {w w' : World} (l' : Array Bool) (hi : ops[i]? = some oi) (hc : readyB md ops l l' i = true) (hg : oi.guard = none) (h : Runs P oi a w a' w')
 (hK : wpAnyLast P md ops Q (fun _ => True) [] fuel l' a' w') : wpAnyLast P md ops Q (fun _ => True) [] (fuel + 1) l a w :=
 one_ l' hi rfl hc (by simp) (fun K hk => by rw [if_pos (uf hg)]; exact h.out _ _ (hk.out _ _ trivial (fun _ => hK)))
theorem NP {i j : Nat} {oi oj : Oper} {fuel : Nat} {l : Array Bool} {a a1 a2 : Act} {w w1 w2 : World} (li lj : Array Bool) (hi : ops[i]? = some oi) (hj : ops[j]? = some oj)
 (hc : (Region.ready md ops l == [i, j] && l.setIfInBounds i true == li && l.setIfInBounds j true == lj) = true) (hgi : oi.guard = none) (hgj : oj.guard = none) (h1 : Runs P oi a w a1 w1) (h2 : Runs P oj a w a2 w2)
 (k1 : wpAnyLast P md ops Q (fun _ => True) [] fuel li a1 w1) (k2 : wpAnyLast P md ops Q (fun _ => True) [] fuel lj a2 w2) : wpAnyLast P md ops Q (fun _ => True) [] (fuel + 1) l a w :=
 two_ li lj hi hj rfl rfl hc (by simp) (by simp) (fun K hk => by rw [if_pos (uf hgi)]; exact h1.out _ _ (hk.out _ _ trivial (fun _ => k1))) (fun K hk => by rw [if_pos (uf hgj)]; exact h2.out _ _ (hk.out _ _ trivial (fun _ => k2)))
end
theorem nT {P : Program} {fn : Func} {k j : Nat} {ty tz : TypeId} {tmps : Array Value} {b c : Nat} {v u : Value} {w : World} (hr : fn.results = #[.cell k ty, .cell j tz]) (ht : tmps.getD k undef = .pointer (some ⟨b, 0, none⟩)) (hs : tmps.getD j undef = .pointer (some ⟨c, 0, none⟩))
 (hl : (loadVar ty ⟨b, 0, none⟩).run P w = .ok v w) (hm : (loadVar tz ⟨c, 0, none⟩).run P w = .ok u w) : (results fn tmps).run P w = .ok (.tuple #[v, u]) w := by
 have ht' : tmps[k]?.getD undef = .pointer (some ⟨b, 0, none⟩) := by simpa using ht
 have hs' : tmps[j]?.getD undef = .pointer (some ⟨c, 0, none⟩) := by simpa using hs
 simp [results, hr, ht', hs', asAddr, Result.andThen, hl, hm]
theorem Tj (P : EP) : ∀ z ∈ iM P, z < 256 := qj _ _
theorem Na (P : EP) : (iM P).length = 32 := kV _ _
theorem MZ (P : EP) : bW (iM P) = sV P := by
 unfold iM
 rw [yM]
 exact Nat.mod_eq_of_lt (by have := XK P; exact this)
theorem wM : yt (bW (iq 253 15)) (bW (iq 251 31)) HP := by
 rw [Qg, Qh]
 exact ⟨by decide +kernel, by decide +kernel, HP2, LH⟩
theorem OD {n m N M : Nat} (e : N = M) (h1 : sK n m N) (h2 : sK n m M) : decP h1 = decP h2 := by subst e; rfl
theorem MQ (P : EP) (A : Option Addr) (c : Nat) : ∃ o : Pn, o.of P ∧ ∀ w, kT w → Rd w .u8 A (iM P) → Calls Tryd.prog 13 #[.slice A 32 c] w fun e w' => e = .returned (.tuple #[o.v, .int .i64 0]) ∧ Below w.heap.size w w' := by
 obtain ⟨D, hD⟩ : ∃ D, D = 2 ^ 255 := ⟨_, rfl⟩
 obtain ⟨n, hn⟩ : ∃ z, z = bW (iq 253 15) := ⟨_, rfl⟩
 obtain ⟨m, hm⟩ : ∃ z, z = bW (iq 251 31) := ⟨_, rfl⟩
 have ex : yt n m HP := by rw [hn, hm]; exact wM
 have hC := (sN ex P).1
 rw [← MZ] at hC
 obtain ⟨o, ho, hw⟩ := DN n m D hn hm hD A c (iM P) (Na P) (Tj P) hC
 have hp : decP hC = P := (OD (MZ P) hC (sN ex P).1).trans (XA ex P (sN ex P).1)
 rw [hp] at ho
 exact ⟨o, ho, hw⟩
theorem aaX (A : Option Addr) (c : Nat) (bs T : List Nat) (hT : T = bs.take 32) (hc : bs.length ≤ c) (w : World) (hr : Rd w .u8 A bs) : Calls Tryd.prog 58 #[.slice A bs.length c] w fun e w' => e = .returned (.slice A T.length c) ∧ Below w.heap.size w w' := by
 subst hT
 exact aaW A c bs hc w hr
def qW (bs : List Nat) : Prop := bs.length = 32 ∧ sK (bW (iq 253 15)) (bW (iq 251 31)) (bW bs)
theorem MS (A : Option Addr) (c L : Nat) (bs : List Nat) (hL : L = bs.length) (hc : bs.length ≤ c) (hby : ∀ z ∈ bs, z < 256) (h : qW bs) (w : World) (hr : Rd w .u8 A bs) : Calls Tryd.prog 14 #[.slice A L c] w fun e w' => (∃ o : Dp, e = .returned (.tuple #[o.v, .bool true]) ∧ o.ok w' ∧ o.of (decP h.2)) ∧ Below w.heap.size w w' := by
 obtain ⟨D, hD⟩ : ∃ D, D = 2 ^ 255 := ⟨_, rfl⟩
 have h0 := MJ _ _ D wM hD A c bs (by have := h.1; omega) h.1 hby w hr
 have hL2 : L = 32 := hL.trans h.1
 subst hL2
 refine h0.mono ?_
 rintro e w' ⟨⟨_, o, he, hok, hof⟩ | ⟨hn, _⟩, hb⟩
 · exact ⟨⟨o, he, hok, hof⟩, hb⟩
 · exact absurd h.2 hn
theorem SQ (A : Option Addr) (c : Nat) (bs : List Nat) (hc : bs.length ≤ c) (hby : ∀ z ∈ bs, z < 256) (h : ¬ qW bs) (w : World) (hr : Rd w .u8 A bs) : Calls Tryd.prog 14 #[.slice A bs.length c] w fun e w' => e = .returned (.tuple #[.agg #[.slice none 0 0, .slice none 0 0, .slice none 0 0], .bool false]) ∧ Below w.heap.size w w' := by
 by_cases hl : bs.length = 32
 · obtain ⟨D, hD⟩ : ∃ D, D = 2 ^ 255 := ⟨_, rfl⟩
   have h0 := MJ _ _ D wM hD A c bs (by omega) hl hby w hr
   rw [hl]
   refine h0.mono ?_
   rintro e w' ⟨⟨hy, _⟩ | ⟨_, he⟩, hb⟩
   · exact absurd ⟨hl, hy⟩ h
   · exact ⟨he, hb⟩
 · exact GV A c bs hl w
theorem Qa (A : Option Addr) (c : Nat) (bs : List Nat) (lc : bs.length ≤ c) (hl : bs.length ≤ 100) (hby : ∀ z ∈ bs, z < 256) (hg : qW bs) (w : World) (h5 : uU w) (hr : Rd w .u8 A bs) :
 Calls Tryd.prog 19 #[.slice A bs.length c] w fun e w' => (∃ (P : EP) (h : Pn) (o : Dp), e = .returned (.tuple #[h.v, o.v]) ∧ h.of P ∧ o.of P ∧ o.ok w') ∧ Below w.heap.size w w' := by
 have mJ := Lib.hid hr
 have HE := Lib.hid h5
 have rC := Lib.hid (And.intro lc (And.intro hl hby))
 have HG := Lib.hid hg
 clear hr h5 hl lc hby hg
 go_enter Tryd.func19, Tryd.ntmps19
 go_wp2_with fail
 refine (MS A c bs.length bs rfl rC.out.1 rC.out.2.2 HG.out _ (mJ.out.next (pl (Below.refl _ _)))).mono ?_
 rintro e y1 ⟨⟨o, rfl, hok, hof⟩, hb1⟩
 obtain ⟨x1, rfl, hc1, hz1, l10, nG⟩ := fO (b0 := w.heap.size) (b1 := w.heap.size + 1) hb1 rfl ob ob
 have HB1 : Hid (Below w.heap.size w x1) := Below.trans (pl (Below.refl _ _)) (hc1.mono sz)
 clear hb1 hc1
 try simp only [bF] at hz1
 have HO := Lib.hid hok
 have zQ := Lib.hid hof
 obtain ⟨P, hP⟩ : ∃ P, P = decP HG.out.2 := ⟨_, rfl⟩
 rw [← hP] at zQ
 clear hok hof hP
 go_wp2_with fail
 refine (MK o P zQ.out _ (HO.out.next (pl (Below.refl _ _)))).mono ?_
 rintro e y2 ⟨⟨ge, zK, rfl, rO⟩, hb2⟩
 replace HO := Lib.hid (HO.out.next (bt hb2))
 have gI : Keeps w _ y2 := ak (b := w.heap.size) ((hb2.block _ sz).trans ob) (ak (b := w.heap.size + 1) ((hb2.block _ sz).trans ob) (ak (b := x1.heap.size) ((hb2.block _ sz).trans ob) (ak rO (aO (Below.trans (pl HB1.out) (hb2.mono sz))))))
 obtain ⟨x2, rfl, hk2, hz2, kD, rQ, Gh, UE⟩ := gI.iO
 have HB2 : Hid (Below w.heap.size w x2) := hk2.below
 have HG2 : w.heap.size ≤ ge := by have := HB1.out.size; (try simp only [bF] at zK); omega
 have abq : w.heap.size < ge := by (try simp only [bF] at zK); omega
 have aiB : w.heap.size + 1 < ge := by (try simp only [bF] at zK); omega
 have aiC : x1.heap.size < ge := by (try simp only [bF] at zK); omega
 clear gI hk2 hb2 rO zK
 obtain ⟨h, hh, hde⟩ := MQ P (some ⟨ge, 0, none⟩) 32
 have HH := Lib.hid hh
 have HDE := Lib.hid hde
 clear hh hde
 go_wp2_with fail
 refine (HDE.out _ (HE.out.next (pl HB2.out)).o (nS ob)).mono ?_
 rintro e y3 ⟨rfl, hb3⟩
 replace HO := Lib.hid (HO.out.next (bt hb3))
 obtain ⟨x3, rfl, hc3, hz3, nN, uq, zn, Py⟩ := Bl (b0 := w.heap.size) (b1 := w.heap.size + 1) (b2 := x1.heap.size) (b3 := ge) hb3 rfl ob ob ob ob
 have HB3 := aZ HB2.out hc3
 clear hb3 hc3
 try simp only [bF] at hz3
 go_wp2_with (refine bf 28 (.tmp 6) (.tmp 23) rfl rfl (x3.heap.size) 0 h.cA rfl rfl 28 bP h.cA ob (by kernel_rfl) (by kernel_rfl) (eH h) (by kernel_rfl) ?_)
 refine start_ (S := fun _ => True) (ds := []) (n := 4) #[false, false, false, false] (by kernel_rfl) rfl rfl trivial (fun _ => ?_)
 refine NP (i := 0) (j := 1) #[true, false, false, false] #[false, true, false, false] rfl rfl (by kernel_rfl) rfl rfl (jD (some 25) rfl 28 (.tmp 6) rfl (x3.heap.size) h.cA 28 rfl ob (by kernel_rfl) (by kernel_rfl)) (jD (some 26) rfl 34 (.tmp 4) rfl (x1.heap.size) #[.slice o.A (aB o.x).length o.a, .slice o.B (aB o.y).length o.b, .slice o.C (aB o.z).length o.c] 34 rfl ob (by kernel_rfl) (by kernel_rfl)) ?_ ?_
 all_goals simp only [Act.put, List.setIfInBounds_toArray, List.set_cons_zero, List.set_cons_succ]
 · refine NP (i := 1) (j := 2) #[true, true, false, false] #[true, false, true, false] rfl rfl (by kernel_rfl) rfl rfl (jD (some 26) rfl 34 (.tmp 4) rfl (x1.heap.size) #[.slice o.A (aB o.x).length o.a, .slice o.B (aB o.y).length o.b, .slice o.C (aB o.z).length o.c] 34 rfl ob (by kernel_rfl) (by kernel_rfl)) (gY rfl 28 (.tmp 2) (.tmp 25) rfl (w.heap.size) h.cA bP 28 rfl rfl (by kernel_rfl) rfl (eH h) ob) ?_ ?_
   all_goals simp only [Act.put, List.setIfInBounds_toArray, List.set_cons_zero, List.set_cons_succ]
   · refine pF (i := 2) #[true, true, true, false] rfl (by kernel_rfl) rfl (gY rfl 28 (.tmp 2) (.tmp 25) rfl (w.heap.size) h.cA bP 28 rfl rfl (by kernel_rfl) rfl (eH h) ob) ?_
     simp only [Act.put, List.setIfInBounds_toArray, List.set_cons_zero, List.set_cons_succ]
     refine pF (i := 3) #[true, true, true, true] rfl (by kernel_rfl) rfl (gY rfl 34 (.tmp 3) (.tmp 26) rfl (w.heap.size + 1) #[.slice o.A (aB o.x).length o.a, .slice o.B (aB o.y).length o.b, .slice o.C (aB o.z).length o.c] #[.slice none 0 0, .slice none 0 0, .slice none 0 0] 34 rfl rfl (by kernel_rfl) rfl (by kernel_rfl) ob) ?_
     simp only [Act.put, List.setIfInBounds_toArray, List.set_cons_zero, List.set_cons_succ]
     refine done_ (by kernel_rfl) ?_
     go_wp2_with fail
     have HF : Hid (o.ok ((((((((x3.pin w.heap.size (.cells bP 28)).pin (w.heap.size + 1) (.cells #[.slice none 0 0, .slice none 0 0, .slice none 0 0] 34)).pin x1.heap.size (.cells #[.slice o.A (aB o.x).length o.a, .slice o.B (aB o.y).length o.b, .slice o.C (aB o.z).length o.c] 34)).pin ge (.cells (bn (iM P)) 5)).alloc (.cells bP 28)).pin x3.heap.size (.cells h.cA 28)).drew.pin w.heap.size (.cells h.cA 28)).pin (w.heap.size + 1) (.cells #[.slice o.A (aB o.x).length o.a, .slice o.B (aB o.y).length o.b, .slice o.C (aB o.z).length o.c] 34))) := Lib.hid (by
      have h1 := HO.out.next (pl (Below.refl _ _) : Below ((((x3.pin w.heap.size (.cells bP 28)).pin (w.heap.size + 1) (.cells #[.slice none 0 0, .slice none 0 0, .slice none 0 0] 34)).pin x1.heap.size (.cells #[.slice o.A (aB o.x).length o.a, .slice o.B (aB o.y).length o.b, .slice o.C (aB o.z).length o.c] 34)).pin ge (.cells (bn (iM P)) 5)).heap.size ((((x3.pin w.heap.size (.cells bP 28)).pin (w.heap.size + 1) (.cells #[.slice none 0 0, .slice none 0 0, .slice none 0 0] 34)).pin x1.heap.size (.cells #[.slice o.A (aB o.x).length o.a, .slice o.B (aB o.y).length o.b, .slice o.C (aB o.z).length o.c] 34)).pin ge (.cells (bn (iM P)) 5)) ((((((x3.pin w.heap.size (.cells bP 28)).pin (w.heap.size + 1) (.cells #[.slice none 0 0, .slice none 0 0, .slice none 0 0] 34)).pin x1.heap.size (.cells #[.slice o.A (aB o.x).length o.a, .slice o.B (aB o.y).length o.b, .slice o.C (aB o.z).length o.c] 34)).pin ge (.cells (bn (iM P)) 5)).alloc (.cells bP 28)).pin x3.heap.size (.cells h.cA 28)).drew)
      exact (h1.uX (g := w.heap.size) (o' := .cells h.cA 28) ob).ku (g := w.heap.size + 1) (o' := .cells #[.slice o.A (aB o.x).length o.a, .slice o.B (aB o.y).length o.b, .slice o.C (aB o.z).length o.c] 34) ob)
     exact bodyPost_ret (v := .tuple #[h.v, o.v]) (nT rfl rfl rfl (fD h ob) (bC 34 (w.heap.size + 1) #[.slice o.A (aB o.x).length o.a, .slice o.B (aB o.y).length o.b, .slice o.C (aB o.z).length o.c] 34 (by kernel_rfl) (by kernel_rfl) ob)) rfl ⟨⟨P, h, o, rfl, HH.out, zQ.out, HF.out⟩, pl HB3.out⟩
   · refine pF (i := 1) #[true, true, true, false] rfl (by kernel_rfl) rfl (jD (some 26) rfl 34 (.tmp 4) rfl (x1.heap.size) #[.slice o.A (aB o.x).length o.a, .slice o.B (aB o.y).length o.b, .slice o.C (aB o.z).length o.c] 34 rfl ob (by kernel_rfl) (by kernel_rfl)) ?_
     simp only [Act.put, List.setIfInBounds_toArray, List.set_cons_zero, List.set_cons_succ]
     refine pF (i := 3) #[true, true, true, true] rfl (by kernel_rfl) rfl (gY rfl 34 (.tmp 3) (.tmp 26) rfl (w.heap.size + 1) #[.slice o.A (aB o.x).length o.a, .slice o.B (aB o.y).length o.b, .slice o.C (aB o.z).length o.c] #[.slice none 0 0, .slice none 0 0, .slice none 0 0] 34 rfl rfl (by kernel_rfl) rfl (by kernel_rfl) ob) ?_
     simp only [Act.put, List.setIfInBounds_toArray, List.set_cons_zero, List.set_cons_succ]
     refine done_ (by kernel_rfl) ?_
     go_wp2_with fail
     have HF : Hid (o.ok ((((((((x3.pin w.heap.size (.cells bP 28)).pin (w.heap.size + 1) (.cells #[.slice none 0 0, .slice none 0 0, .slice none 0 0] 34)).pin x1.heap.size (.cells #[.slice o.A (aB o.x).length o.a, .slice o.B (aB o.y).length o.b, .slice o.C (aB o.z).length o.c] 34)).pin ge (.cells (bn (iM P)) 5)).alloc (.cells bP 28)).pin x3.heap.size (.cells h.cA 28)).drew.pin w.heap.size (.cells h.cA 28)).pin (w.heap.size + 1) (.cells #[.slice o.A (aB o.x).length o.a, .slice o.B (aB o.y).length o.b, .slice o.C (aB o.z).length o.c] 34))) := Lib.hid (by
      have h1 := HO.out.next (pl (Below.refl _ _) : Below ((((x3.pin w.heap.size (.cells bP 28)).pin (w.heap.size + 1) (.cells #[.slice none 0 0, .slice none 0 0, .slice none 0 0] 34)).pin x1.heap.size (.cells #[.slice o.A (aB o.x).length o.a, .slice o.B (aB o.y).length o.b, .slice o.C (aB o.z).length o.c] 34)).pin ge (.cells (bn (iM P)) 5)).heap.size ((((x3.pin w.heap.size (.cells bP 28)).pin (w.heap.size + 1) (.cells #[.slice none 0 0, .slice none 0 0, .slice none 0 0] 34)).pin x1.heap.size (.cells #[.slice o.A (aB o.x).length o.a, .slice o.B (aB o.y).length o.b, .slice o.C (aB o.z).length o.c] 34)).pin ge (.cells (bn (iM P)) 5)) ((((((x3.pin w.heap.size (.cells bP 28)).pin (w.heap.size + 1) (.cells #[.slice none 0 0, .slice none 0 0, .slice none 0 0] 34)).pin x1.heap.size (.cells #[.slice o.A (aB o.x).length o.a, .slice o.B (aB o.y).length o.b, .slice o.C (aB o.z).length o.c] 34)).pin ge (.cells (bn (iM P)) 5)).alloc (.cells bP 28)).pin x3.heap.size (.cells h.cA 28)).drew)
      exact (h1.uX (g := w.heap.size) (o' := .cells h.cA 28) ob).ku (g := w.heap.size + 1) (o' := .cells #[.slice o.A (aB o.x).length o.a, .slice o.B (aB o.y).length o.b, .slice o.C (aB o.z).length o.c] 34) ob)
     exact bodyPost_ret (v := .tuple #[h.v, o.v]) (nT rfl rfl rfl (fD h ob) (bC 34 (w.heap.size + 1) #[.slice o.A (aB o.x).length o.a, .slice o.B (aB o.y).length o.b, .slice o.C (aB o.z).length o.c] 34 (by kernel_rfl) (by kernel_rfl) ob)) rfl ⟨⟨P, h, o, rfl, HH.out, zQ.out, HF.out⟩, pl HB3.out⟩
 · refine pF (i := 0) #[true, true, false, false] rfl (by kernel_rfl) rfl (jD (some 25) rfl 28 (.tmp 6) rfl (x3.heap.size) h.cA 28 rfl ob (by kernel_rfl) (by kernel_rfl)) ?_
   simp only [Act.put, List.setIfInBounds_toArray, List.set_cons_zero, List.set_cons_succ]
   refine pF (i := 2) #[true, true, true, false] rfl (by kernel_rfl) rfl (gY rfl 28 (.tmp 2) (.tmp 25) rfl (w.heap.size) h.cA bP 28 rfl rfl (by kernel_rfl) rfl (eH h) ob) ?_
   simp only [Act.put, List.setIfInBounds_toArray, List.set_cons_zero, List.set_cons_succ]
   refine pF (i := 3) #[true, true, true, true] rfl (by kernel_rfl) rfl (gY rfl 34 (.tmp 3) (.tmp 26) rfl (w.heap.size + 1) #[.slice o.A (aB o.x).length o.a, .slice o.B (aB o.y).length o.b, .slice o.C (aB o.z).length o.c] #[.slice none 0 0, .slice none 0 0, .slice none 0 0] 34 rfl rfl (by kernel_rfl) rfl (by kernel_rfl) ob) ?_
   simp only [Act.put, List.setIfInBounds_toArray, List.set_cons_zero, List.set_cons_succ]
   refine done_ (by kernel_rfl) ?_
   go_wp2_with fail
   have HF : Hid (o.ok ((((((((x3.pin w.heap.size (.cells bP 28)).pin (w.heap.size + 1) (.cells #[.slice none 0 0, .slice none 0 0, .slice none 0 0] 34)).pin x1.heap.size (.cells #[.slice o.A (aB o.x).length o.a, .slice o.B (aB o.y).length o.b, .slice o.C (aB o.z).length o.c] 34)).pin ge (.cells (bn (iM P)) 5)).alloc (.cells bP 28)).pin x3.heap.size (.cells h.cA 28)).drew.pin w.heap.size (.cells h.cA 28)).pin (w.heap.size + 1) (.cells #[.slice o.A (aB o.x).length o.a, .slice o.B (aB o.y).length o.b, .slice o.C (aB o.z).length o.c] 34))) := Lib.hid (by
    have h1 := HO.out.next (pl (Below.refl _ _) : Below ((((x3.pin w.heap.size (.cells bP 28)).pin (w.heap.size + 1) (.cells #[.slice none 0 0, .slice none 0 0, .slice none 0 0] 34)).pin x1.heap.size (.cells #[.slice o.A (aB o.x).length o.a, .slice o.B (aB o.y).length o.b, .slice o.C (aB o.z).length o.c] 34)).pin ge (.cells (bn (iM P)) 5)).heap.size ((((x3.pin w.heap.size (.cells bP 28)).pin (w.heap.size + 1) (.cells #[.slice none 0 0, .slice none 0 0, .slice none 0 0] 34)).pin x1.heap.size (.cells #[.slice o.A (aB o.x).length o.a, .slice o.B (aB o.y).length o.b, .slice o.C (aB o.z).length o.c] 34)).pin ge (.cells (bn (iM P)) 5)) ((((((x3.pin w.heap.size (.cells bP 28)).pin (w.heap.size + 1) (.cells #[.slice none 0 0, .slice none 0 0, .slice none 0 0] 34)).pin x1.heap.size (.cells #[.slice o.A (aB o.x).length o.a, .slice o.B (aB o.y).length o.b, .slice o.C (aB o.z).length o.c] 34)).pin ge (.cells (bn (iM P)) 5)).alloc (.cells bP 28)).pin x3.heap.size (.cells h.cA 28)).drew)
    exact (h1.uX (g := w.heap.size) (o' := .cells h.cA 28) ob).ku (g := w.heap.size + 1) (o' := .cells #[.slice o.A (aB o.x).length o.a, .slice o.B (aB o.y).length o.b, .slice o.C (aB o.z).length o.c] 34) ob)
   exact bodyPost_ret (v := .tuple #[h.v, o.v]) (nT rfl rfl rfl (fD h ob) (bC 34 (w.heap.size + 1) #[.slice o.A (aB o.x).length o.a, .slice o.B (aB o.y).length o.b, .slice o.C (aB o.z).length o.c] 34 (by kernel_rfl) (by kernel_rfl) ob)) rfl ⟨⟨P, h, o, rfl, HH.out, zQ.out, HF.out⟩, pl HB3.out⟩
theorem Vq (A : Option Addr) (c : Nat) (bs : List Nat) (lc : bs.length ≤ c) (hl : bs.length ≤ 100) (hby : ∀ z ∈ bs, z < 256) (hg : ¬ qW bs) (w : World) (h5 : uU w) (hr : Rd w .u8 A bs) :
 Calls Tryd.prog 19 #[.slice A bs.length c] w fun e w' => (∃ (P : EP) (h : Pn) (o : Dp), e = .returned (.tuple #[h.v, o.v]) ∧ h.of P ∧ o.of P ∧ o.ok w') ∧ Below w.heap.size w w' := by
 have mJ := Lib.hid hr
 have HE := Lib.hid h5
 have rC := Lib.hid (And.intro lc (And.intro hl hby))
 have HG := Lib.hid hg
 clear hr h5 hl lc hby hg
 go_enter Tryd.func19, Tryd.ntmps19
 go_wp2_with fail
 refine (SQ A c bs rC.out.1 rC.out.2.2 HG.out _ (mJ.out.next (pl (Below.refl _ _)))).mono ?_
 rintro e y1 ⟨rfl, hb1⟩
 obtain ⟨x1, rfl, hc1, hz1, l10, nG⟩ := fO (b0 := w.heap.size) (b1 := w.heap.size + 1) hb1 rfl ob ob
 have HB1 : Hid (Below w.heap.size w x1) := Below.trans (pl (Below.refl _ _)) (hc1.mono sz)
 clear hb1 hc1
 try simp only [bF] at hz1
 go_wp2_with fail
 obtain ⟨T, hT⟩ : ∃ z, z = bs.take 32 := ⟨_, rfl⟩
 have HT : Hid (T = bs.take 32 ∧ T.length ≤ 100 ∧ ∀ z ∈ T, z < 256) := Lib.hid ⟨hT, by rw [hT, List.length_take]; omega, fun z hz => rC.out.2.2 z (List.mem_of_mem_take (by rw [hT] at hz; exact hz))⟩
 clear hT
 refine (aaX A c bs T HT.out.1 rC.out.1 _ (mJ.out.next (pl HB1.out))).mono ?_
 rintro e y2 ⟨rfl, hb2⟩
 obtain ⟨x2, rfl, hc2, hz2, kD, rQ, Gh⟩ := bZ (b0 := w.heap.size) (b1 := w.heap.size + 1) (b2 := x1.heap.size) hb2 rfl ob ob ob
 have HB2 := aZ HB1.out hc2
 clear hb2 hc2
 try simp only [bF] at hz2
 go_wp2_with fail
 refine (GU _).mono ?_
 rintro e y3 ⟨⟨ob0, rfl, aeA, aez⟩, hb3⟩
 obtain ⟨x3, rfl, hc3, hz3, nN, uq, zn⟩ := bZ (b0 := w.heap.size) (b1 := w.heap.size + 1) (b2 := x1.heap.size) hb3 rfl ob ob ob
 have HB3 := aZ HB2.out hc3
 clear hb3 hc3
 try simp only [bF] at hz3
 have HOb := Lib.hid aeA
 have ahv := Lib.hid aez
 clear aeA aez
 go_wp2_with fail
 refine (D8 ob0 iZ ahv.out A c T HT.out.2.1 HT.out.2.2 _ (HOb.out.next (pl (Below.refl _ _))) (by rw [HT.out.1]; exact Rd.take (mJ.out.next (pl HB3.out)) 32)).mono ?_
 rintro e y4 ⟨⟨o, rfl, hok, hof⟩, hb4⟩
 replace HOb := Lib.hid (HOb.out.next (bt hb4))
 obtain ⟨x4, rfl, hc4, lT, rU, yL, Dj⟩ := bZ (b0 := w.heap.size) (b1 := w.heap.size + 1) (b2 := x1.heap.size) hb4 rfl ob ob ob
 have HB4 := aZ HB3.out hc4
 clear hb4 hc4
 try simp only [bF] at lT
 have HO := Lib.hid hok
 have zQ := Lib.hid hof
 obtain ⟨P, hP⟩ : ∃ P, P = Pt.smul (bW T) iZ := ⟨_, rfl⟩
 rw [← hP] at zQ
 clear hok hof hP
 go_wp2_with fail
 have HOn : Hid (o.ok (((x4.pin w.heap.size (.cells bP 28)).pin (w.heap.size + 1) (.cells #[.slice none 0 0, .slice none 0 0, .slice none 0 0] 34)).pin x1.heap.size (.cells #[.slice o.A (aB o.x).length o.a, .slice o.B (aB o.y).length o.b, .slice o.C (aB o.z).length o.c] 34))) := Lib.hid (by
  have h := HO.out.ku (g := x1.heap.size) (o' := .cells #[.slice o.A (aB o.x).length o.a, .slice o.B (aB o.y).length o.b, .slice o.C (aB o.z).length o.c] 34) ob
  rw [dB] at h
  exact h)
 clear HO
 have HO := HOn
 clear HOn
 refine (MK o P zQ.out _ (HO.out.next (pl (Below.refl _ _)))).mono ?_
 rintro e y5 ⟨⟨ge, Du, rfl, TN⟩, hb5⟩
 replace HO := Lib.hid (HO.out.next (bt hb5))
 have gI : Keeps w _ y5 := ak (b := w.heap.size) ((hb5.block _ sz).trans ob) (ak (b := w.heap.size + 1) ((hb5.block _ sz).trans ob) (ak (b := x1.heap.size) ((hb5.block _ sz).trans ob) (ak TN (aO (Below.trans (pl HB4.out) (hb5.mono sz))))))
 obtain ⟨x5, rfl, hk5, rP, Ae, l51, Gi, WC⟩ := gI.iO
 have kR : Hid (Below w.heap.size w x5) := hk5.below
 have HG5 : w.heap.size ≤ ge := by have := HB4.out.size; (try simp only [bF] at Du); omega
 have abv : w.heap.size < ge := by (try simp only [bF] at Du); omega
 have abw : w.heap.size + 1 < ge := by (try simp only [bF] at Du); omega
 have aiD : x1.heap.size < ge := by (try simp only [bF] at Du); omega
 clear gI hk5 hb5 TN Du
 obtain ⟨h, hh, hde⟩ := MQ P (some ⟨ge, 0, none⟩) 32
 have HH := Lib.hid hh
 have HDE := Lib.hid hde
 clear hh hde
 go_wp2_with fail
 refine (HDE.out _ (HE.out.next (pl kR.out)).o (nS ob)).mono ?_
 rintro e y6 ⟨rfl, hb6⟩
 replace HO := Lib.hid (HO.out.next (bt hb6))
 obtain ⟨x6, rfl, hc6, yH, Gj, Jk, Kz, UF⟩ := Bl (b0 := w.heap.size) (b1 := w.heap.size + 1) (b2 := x1.heap.size) (b3 := ge) hb6 rfl ob ob ob ob
 have mg := aZ kR.out hc6
 clear hb6 hc6
 try simp only [bF] at yH
 go_wp2_with (refine bf 28 (.tmp 6) (.tmp 23) rfl rfl (x6.heap.size) 0 h.cA rfl rfl 28 bP h.cA ob (by kernel_rfl) (by kernel_rfl) (eH h) (by kernel_rfl) ?_)
 refine start_ (S := fun _ => True) (ds := []) (n := 4) #[false, false, false, false] (by kernel_rfl) rfl rfl trivial (fun _ => ?_)
 refine NP (i := 0) (j := 1) #[true, false, false, false] #[false, true, false, false] rfl rfl (by kernel_rfl) rfl rfl (jD (some 25) rfl 28 (.tmp 6) rfl (x6.heap.size) h.cA 28 rfl ob (by kernel_rfl) (by kernel_rfl)) (jD (some 26) rfl 34 (.tmp 4) rfl (x1.heap.size) #[.slice o.A (aB o.x).length o.a, .slice o.B (aB o.y).length o.b, .slice o.C (aB o.z).length o.c] 34 rfl ob (by kernel_rfl) (by kernel_rfl)) ?_ ?_
 all_goals simp only [Act.put, List.setIfInBounds_toArray, List.set_cons_zero, List.set_cons_succ]
 · refine NP (i := 1) (j := 2) #[true, true, false, false] #[true, false, true, false] rfl rfl (by kernel_rfl) rfl rfl (jD (some 26) rfl 34 (.tmp 4) rfl (x1.heap.size) #[.slice o.A (aB o.x).length o.a, .slice o.B (aB o.y).length o.b, .slice o.C (aB o.z).length o.c] 34 rfl ob (by kernel_rfl) (by kernel_rfl)) (gY rfl 28 (.tmp 2) (.tmp 25) rfl (w.heap.size) h.cA bP 28 rfl rfl (by kernel_rfl) rfl (eH h) ob) ?_ ?_
   all_goals simp only [Act.put, List.setIfInBounds_toArray, List.set_cons_zero, List.set_cons_succ]
   · refine pF (i := 2) #[true, true, true, false] rfl (by kernel_rfl) rfl (gY rfl 28 (.tmp 2) (.tmp 25) rfl (w.heap.size) h.cA bP 28 rfl rfl (by kernel_rfl) rfl (eH h) ob) ?_
     simp only [Act.put, List.setIfInBounds_toArray, List.set_cons_zero, List.set_cons_succ]
     refine pF (i := 3) #[true, true, true, true] rfl (by kernel_rfl) rfl (gY rfl 34 (.tmp 3) (.tmp 26) rfl (w.heap.size + 1) #[.slice o.A (aB o.x).length o.a, .slice o.B (aB o.y).length o.b, .slice o.C (aB o.z).length o.c] #[.slice none 0 0, .slice none 0 0, .slice none 0 0] 34 rfl rfl (by kernel_rfl) rfl (by kernel_rfl) ob) ?_
     simp only [Act.put, List.setIfInBounds_toArray, List.set_cons_zero, List.set_cons_succ]
     refine done_ (by kernel_rfl) ?_
     go_wp2_with fail
     have HF : Hid (o.ok ((((((((x6.pin w.heap.size (.cells bP 28)).pin (w.heap.size + 1) (.cells #[.slice none 0 0, .slice none 0 0, .slice none 0 0] 34)).pin x1.heap.size (.cells #[.slice o.A (aB o.x).length o.a, .slice o.B (aB o.y).length o.b, .slice o.C (aB o.z).length o.c] 34)).pin ge (.cells (bn (iM P)) 5)).alloc (.cells bP 28)).pin x6.heap.size (.cells h.cA 28)).drew.pin w.heap.size (.cells h.cA 28)).pin (w.heap.size + 1) (.cells #[.slice o.A (aB o.x).length o.a, .slice o.B (aB o.y).length o.b, .slice o.C (aB o.z).length o.c] 34))) := Lib.hid (by
      have h1 := HO.out.next (pl (Below.refl _ _) : Below ((((x6.pin w.heap.size (.cells bP 28)).pin (w.heap.size + 1) (.cells #[.slice none 0 0, .slice none 0 0, .slice none 0 0] 34)).pin x1.heap.size (.cells #[.slice o.A (aB o.x).length o.a, .slice o.B (aB o.y).length o.b, .slice o.C (aB o.z).length o.c] 34)).pin ge (.cells (bn (iM P)) 5)).heap.size ((((x6.pin w.heap.size (.cells bP 28)).pin (w.heap.size + 1) (.cells #[.slice none 0 0, .slice none 0 0, .slice none 0 0] 34)).pin x1.heap.size (.cells #[.slice o.A (aB o.x).length o.a, .slice o.B (aB o.y).length o.b, .slice o.C (aB o.z).length o.c] 34)).pin ge (.cells (bn (iM P)) 5)) ((((((x6.pin w.heap.size (.cells bP 28)).pin (w.heap.size + 1) (.cells #[.slice none 0 0, .slice none 0 0, .slice none 0 0] 34)).pin x1.heap.size (.cells #[.slice o.A (aB o.x).length o.a, .slice o.B (aB o.y).length o.b, .slice o.C (aB o.z).length o.c] 34)).pin ge (.cells (bn (iM P)) 5)).alloc (.cells bP 28)).pin x6.heap.size (.cells h.cA 28)).drew)
      exact (h1.uX (g := w.heap.size) (o' := .cells h.cA 28) ob).ku (g := w.heap.size + 1) (o' := .cells #[.slice o.A (aB o.x).length o.a, .slice o.B (aB o.y).length o.b, .slice o.C (aB o.z).length o.c] 34) ob)
     exact bodyPost_ret (v := .tuple #[h.v, o.v]) (nT rfl rfl rfl (fD h ob) (bC 34 (w.heap.size + 1) #[.slice o.A (aB o.x).length o.a, .slice o.B (aB o.y).length o.b, .slice o.C (aB o.z).length o.c] 34 (by kernel_rfl) (by kernel_rfl) ob)) rfl ⟨⟨P, h, o, rfl, HH.out, zQ.out, HF.out⟩, pl mg.out⟩
   · refine pF (i := 1) #[true, true, true, false] rfl (by kernel_rfl) rfl (jD (some 26) rfl 34 (.tmp 4) rfl (x1.heap.size) #[.slice o.A (aB o.x).length o.a, .slice o.B (aB o.y).length o.b, .slice o.C (aB o.z).length o.c] 34 rfl ob (by kernel_rfl) (by kernel_rfl)) ?_
     simp only [Act.put, List.setIfInBounds_toArray, List.set_cons_zero, List.set_cons_succ]
     refine pF (i := 3) #[true, true, true, true] rfl (by kernel_rfl) rfl (gY rfl 34 (.tmp 3) (.tmp 26) rfl (w.heap.size + 1) #[.slice o.A (aB o.x).length o.a, .slice o.B (aB o.y).length o.b, .slice o.C (aB o.z).length o.c] #[.slice none 0 0, .slice none 0 0, .slice none 0 0] 34 rfl rfl (by kernel_rfl) rfl (by kernel_rfl) ob) ?_
     simp only [Act.put, List.setIfInBounds_toArray, List.set_cons_zero, List.set_cons_succ]
     refine done_ (by kernel_rfl) ?_
     go_wp2_with fail
     have HF : Hid (o.ok ((((((((x6.pin w.heap.size (.cells bP 28)).pin (w.heap.size + 1) (.cells #[.slice none 0 0, .slice none 0 0, .slice none 0 0] 34)).pin x1.heap.size (.cells #[.slice o.A (aB o.x).length o.a, .slice o.B (aB o.y).length o.b, .slice o.C (aB o.z).length o.c] 34)).pin ge (.cells (bn (iM P)) 5)).alloc (.cells bP 28)).pin x6.heap.size (.cells h.cA 28)).drew.pin w.heap.size (.cells h.cA 28)).pin (w.heap.size + 1) (.cells #[.slice o.A (aB o.x).length o.a, .slice o.B (aB o.y).length o.b, .slice o.C (aB o.z).length o.c] 34))) := Lib.hid (by
      have h1 := HO.out.next (pl (Below.refl _ _) : Below ((((x6.pin w.heap.size (.cells bP 28)).pin (w.heap.size + 1) (.cells #[.slice none 0 0, .slice none 0 0, .slice none 0 0] 34)).pin x1.heap.size (.cells #[.slice o.A (aB o.x).length o.a, .slice o.B (aB o.y).length o.b, .slice o.C (aB o.z).length o.c] 34)).pin ge (.cells (bn (iM P)) 5)).heap.size ((((x6.pin w.heap.size (.cells bP 28)).pin (w.heap.size + 1) (.cells #[.slice none 0 0, .slice none 0 0, .slice none 0 0] 34)).pin x1.heap.size (.cells #[.slice o.A (aB o.x).length o.a, .slice o.B (aB o.y).length o.b, .slice o.C (aB o.z).length o.c] 34)).pin ge (.cells (bn (iM P)) 5)) ((((((x6.pin w.heap.size (.cells bP 28)).pin (w.heap.size + 1) (.cells #[.slice none 0 0, .slice none 0 0, .slice none 0 0] 34)).pin x1.heap.size (.cells #[.slice o.A (aB o.x).length o.a, .slice o.B (aB o.y).length o.b, .slice o.C (aB o.z).length o.c] 34)).pin ge (.cells (bn (iM P)) 5)).alloc (.cells bP 28)).pin x6.heap.size (.cells h.cA 28)).drew)
      exact (h1.uX (g := w.heap.size) (o' := .cells h.cA 28) ob).ku (g := w.heap.size + 1) (o' := .cells #[.slice o.A (aB o.x).length o.a, .slice o.B (aB o.y).length o.b, .slice o.C (aB o.z).length o.c] 34) ob)
     exact bodyPost_ret (v := .tuple #[h.v, o.v]) (nT rfl rfl rfl (fD h ob) (bC 34 (w.heap.size + 1) #[.slice o.A (aB o.x).length o.a, .slice o.B (aB o.y).length o.b, .slice o.C (aB o.z).length o.c] 34 (by kernel_rfl) (by kernel_rfl) ob)) rfl ⟨⟨P, h, o, rfl, HH.out, zQ.out, HF.out⟩, pl mg.out⟩
 · refine pF (i := 0) #[true, true, false, false] rfl (by kernel_rfl) rfl (jD (some 25) rfl 28 (.tmp 6) rfl (x6.heap.size) h.cA 28 rfl ob (by kernel_rfl) (by kernel_rfl)) ?_
   simp only [Act.put, List.setIfInBounds_toArray, List.set_cons_zero, List.set_cons_succ]
   refine pF (i := 2) #[true, true, true, false] rfl (by kernel_rfl) rfl (gY rfl 28 (.tmp 2) (.tmp 25) rfl (w.heap.size) h.cA bP 28 rfl rfl (by kernel_rfl) rfl (eH h) ob) ?_
   simp only [Act.put, List.setIfInBounds_toArray, List.set_cons_zero, List.set_cons_succ]
   refine pF (i := 3) #[true, true, true, true] rfl (by kernel_rfl) rfl (gY rfl 34 (.tmp 3) (.tmp 26) rfl (w.heap.size + 1) #[.slice o.A (aB o.x).length o.a, .slice o.B (aB o.y).length o.b, .slice o.C (aB o.z).length o.c] #[.slice none 0 0, .slice none 0 0, .slice none 0 0] 34 rfl rfl (by kernel_rfl) rfl (by kernel_rfl) ob) ?_
   simp only [Act.put, List.setIfInBounds_toArray, List.set_cons_zero, List.set_cons_succ]
   refine done_ (by kernel_rfl) ?_
   go_wp2_with fail
   have HF : Hid (o.ok ((((((((x6.pin w.heap.size (.cells bP 28)).pin (w.heap.size + 1) (.cells #[.slice none 0 0, .slice none 0 0, .slice none 0 0] 34)).pin x1.heap.size (.cells #[.slice o.A (aB o.x).length o.a, .slice o.B (aB o.y).length o.b, .slice o.C (aB o.z).length o.c] 34)).pin ge (.cells (bn (iM P)) 5)).alloc (.cells bP 28)).pin x6.heap.size (.cells h.cA 28)).drew.pin w.heap.size (.cells h.cA 28)).pin (w.heap.size + 1) (.cells #[.slice o.A (aB o.x).length o.a, .slice o.B (aB o.y).length o.b, .slice o.C (aB o.z).length o.c] 34))) := Lib.hid (by
    have h1 := HO.out.next (pl (Below.refl _ _) : Below ((((x6.pin w.heap.size (.cells bP 28)).pin (w.heap.size + 1) (.cells #[.slice none 0 0, .slice none 0 0, .slice none 0 0] 34)).pin x1.heap.size (.cells #[.slice o.A (aB o.x).length o.a, .slice o.B (aB o.y).length o.b, .slice o.C (aB o.z).length o.c] 34)).pin ge (.cells (bn (iM P)) 5)).heap.size ((((x6.pin w.heap.size (.cells bP 28)).pin (w.heap.size + 1) (.cells #[.slice none 0 0, .slice none 0 0, .slice none 0 0] 34)).pin x1.heap.size (.cells #[.slice o.A (aB o.x).length o.a, .slice o.B (aB o.y).length o.b, .slice o.C (aB o.z).length o.c] 34)).pin ge (.cells (bn (iM P)) 5)) ((((((x6.pin w.heap.size (.cells bP 28)).pin (w.heap.size + 1) (.cells #[.slice none 0 0, .slice none 0 0, .slice none 0 0] 34)).pin x1.heap.size (.cells #[.slice o.A (aB o.x).length o.a, .slice o.B (aB o.y).length o.b, .slice o.C (aB o.z).length o.c] 34)).pin ge (.cells (bn (iM P)) 5)).alloc (.cells bP 28)).pin x6.heap.size (.cells h.cA 28)).drew)
    exact (h1.uX (g := w.heap.size) (o' := .cells h.cA 28) ob).ku (g := w.heap.size + 1) (o' := .cells #[.slice o.A (aB o.x).length o.a, .slice o.B (aB o.y).length o.b, .slice o.C (aB o.z).length o.c] 34) ob)
   exact bodyPost_ret (v := .tuple #[h.v, o.v]) (nT rfl rfl rfl (fD h ob) (bC 34 (w.heap.size + 1) #[.slice o.A (aB o.x).length o.a, .slice o.B (aB o.y).length o.b, .slice o.C (aB o.z).length o.c] 34 (by kernel_rfl) (by kernel_rfl) ob)) rfl ⟨⟨P, h, o, rfl, HH.out, zQ.out, HF.out⟩, pl mg.out⟩
end
end Go.Proofs.YtbghdkmpjiffeaaDoor
