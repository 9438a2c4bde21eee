/-
  Shared, part 18: walks and plain laws; each theorem states its own conditions.
-/
import Derived.Test.YtehfkbaendajbaaGreatDoorB12
namespace Go.Proofs.YtehfkbaendajbaaGreatDoor
set_option linter.unusedSimpArgs false
set_option linter.unusedVariables false
set_option maxRecDepth 100000
set_option maxHeartbeats 8000000
section
open Go.RowKit Go.Proofs.YtehfkbaendajbaaGreatDoorW.PrintLast
abbrev dJ (n : Nat) (r : Value) (a b : V8) : Array Value := #[.int .i64 8, .int .i64 64, .int .i64 80, .int .i64 1, .int .i64 8, .int .i64 7, .int .i64 19, .int .i64 61, .int .i64 6, .int .i64 28, .int .i64 34, .int .i64 39, .int .i64 14, .int .i64 18, .int .i64 41, .int .i64 (n : Int), r, .int .u32 (a.a : Int), .int .u32 (a.b : Int), .int .u32 (a.c : Int), .int .u32 (a.d : Int), .int .u32 (a.e : Int), .int .u32 (a.f : Int), .int .u32 (a.g : Int), .int .u32 (a.h : Int), .int .u64 (b.a : Int), .int .u64 (b.b : Int), .int .u64 (b.c : Int), .int .u64 (b.d : Int), .int .u64 (b.e : Int), .int .u64 (b.f : Int), .int .u64 (b.g : Int), .int .u64 (b.h : Int)]
abbrev zV8 : V8 := ⟨0, 0, 0, 0, 0, 0, 0, 0⟩
theorem ig.hol {B g : Nat} {w v : World} (h : ig w) (k : kY B g w v) (hB : B = w.heap.size) (hg : g ≠ 6) : ig v := ⟨Nat.lt_of_lt_of_le h.1 k.size, fun j hj => by
 have h1 := h.2 j hj
 have h2 := k.block 6 (by rw [hB]; exact h.1) (Ne.symm hg)
 simp only [World.cell?, h2] at h1 ⊢
 exact h1⟩
theorem VH (g n : Nat) (r : Value) (a b : V8) (w : World) (hs : ig w) (hg : g ≠ 6) (hob : w.heap[g]? = some (.cells (dJ n r a b) 131)) :
 Calls Tryz.prog 110 #[.pointer (some ⟨g, 0, none⟩)] w fun e w' => e = .returned (.tuple #[]) ∧ Below (w.pin g (.cells (dJ 0 (.slice none 0 0) (fE qC) (fE aV)) 131)).heap.size (w.pin g (.cells (dJ 0 (.slice none 0 0) (fE qC) (fE aV)) 131)) w' := by
 obtain ⟨x, rfl⟩ : ∃ x : World, w = x.pin g (.cells (dJ n r a b) 131) := ⟨w, (aN hob).symm⟩
 have hl : g < x.heap.size := by have := (Array.getElem?_eq_some_iff.mp hob).1; rw [aA] at this; exact this
 clear hob
 have HS := Lib.hid hs
 clear hs
 obtain ⟨A0, hA0⟩ : ∃ z, z = fE qC := ⟨_, rfl⟩
 obtain ⟨B0, hB0⟩ : ∃ z, z = fE aV := ⟨_, rfl⟩
 rw [← hA0, ← hB0]
 have C32 : Hid (∀ w, ig w → Calls Tryz.prog 122 #[.agg #[.int .i64 4, .int .i64 32, .int .i64 64, .int .i64 7, .int .i64 18, .int .i64 3, .int .i64 17, .int .i64 19, .int .i64 10, .int .i64 2, .int .i64 13, .int .i64 22, .int .i64 6, .int .i64 11, .int .i64 25]] w fun e w' => e = .returned (.agg (A0.cs .u32)) ∧ Below w.heap.size w w') := Lib.hid (by rw [hA0]; exact fun w h => Xl w h)
 have C64 : Hid (∀ w, ig w → Calls Tryz.prog 123 #[.agg #[.int .i64 8, .int .i64 64, .int .i64 80, .int .i64 1, .int .i64 8, .int .i64 7, .int .i64 19, .int .i64 61, .int .i64 6, .int .i64 28, .int .i64 34, .int .i64 39, .int .i64 14, .int .i64 18, .int .i64 41]] w fun e w' => e = .returned (.agg (B0.cs .u64)) ∧ Below w.heap.size w w') := Lib.hid (by rw [hB0]; exact fun w h => Xm w h)
 clear hA0 hB0
 obtain ⟨B, hB⟩ : ∃ B, B = x.heap.size := ⟨_, rfl⟩
 have hBx : B ≤ x.heap.size := by omega
 have HB0 : Hid (kY B g (x.pin g (.cells (dJ n r a b) 131)) x) := Lib.hid (kY.Wp hB)
 go_enter Tryz.func110, Tryz.ntmps110
 go_wp2_with fail
 refine (P5 _).mono ?_
 rintro e y1 ⟨rfl, hb1⟩
 obtain ⟨x1, rfl, hc1, hz1, l10⟩ := bQ (b := g) hb1 rfl ob
 have HB1 : Hid (kY B g (x.pin g (.cells (dJ n r a b) 131)) x1) := Lib.hid (kY.below (uP HB0.out) hc1 sz)
 clear hb1 hc1
 try simp only [eF] at hz1
 go_wp2_with fail
 refine (C32.out _ (by exact HS.out.hol (uP HB1.out) (by rw [aA]; exact hB) hg)).mono ?_
 rintro e y2 ⟨rfl, hb2⟩
 obtain ⟨x2, rfl, hc2, hz2, kD⟩ := bQ (b := g) hb2 rfl ob
 have HB2 : Hid (kY B g (x.pin g (.cells (dJ n r a b) 131)) x2) := Lib.hid (kY.below (uP HB1.out) hc2 sz)
 clear hb2 hc2
 try simp only [eF] at hz2
 go_wp2_with fail
 refine (NR _).mono ?_
 rintro e y3 ⟨rfl, hb3⟩
 obtain ⟨x3, rfl, hc3, hz3, nN⟩ := bQ (b := g) hb3 rfl ob
 have HB3 : Hid (kY B g (x.pin g (.cells (dJ n r a b) 131)) x3) := Lib.hid (kY.below (uP HB2.out) hc3 sz)
 clear hb3 hc3
 try simp only [eF] at hz3
 go_wp2_with fail
 refine (C64.out _ (by exact HS.out.hol (uP HB3.out) (by rw [aA]; exact hB) hg)).mono ?_
 rintro e y4 ⟨rfl, hb4⟩
 obtain ⟨x4, rfl, hc4, lT, rU⟩ := bQ (b := g) hb4 rfl ob
 have HB4 : Hid (kY B g (x.pin g (.cells (dJ n r a b) 131)) x4) := Lib.hid (kY.below (uP HB3.out) hc4 sz)
 clear hb4 hc4
 try simp only [eF] at lT
 go_wp2_with fail
 exact bodyPost_end (v := .tuple #[]) (by simp [results, Tryz.results110, go_sem]) rfl ⟨rfl, by rw [aA, aA, ← hB]; exact kY.done (uP HB4.out) (by refine Eq.trans ob ?_; rfl) (by rw [aA]; exact hl)⟩
section
variable {ops : Array Oper} {rest : List Oper} {o : Oper} {a : Act} {w : World} {Q : Exit → Act → World → Prop}
theorem DI (x : Operand) (hg : o.guard = none) (hop : o.op = .build 131 #[(0, x)]) (hx : a.eval x = .agg #[.int .i64 8, .int .i64 64, .int .i64 80, .int .i64 1, .int .i64 8, .int .i64 7, .int .i64 19, .int .i64 61, .int .i64 6, .int .i64 28, .int .i64 34, .int .i64 39, .int .i64 14, .int .i64 18, .int .i64 41]) (h : wpList Tryz.prog ops Q rest (a.put o.dst (.agg (dJ 0 (.slice none 0 0) zV8 zV8))) w) : wpList Tryz.prog ops Q (o :: rest) a w := by
 refine wpList_plain hg fun K hK => ?_
 have hrun := run_build (P := Tryz.prog) w 131 #[(0, .agg #[.int .i64 8, .int .i64 64, .int .i64 80, .int .i64 1, .int .i64 8, .int .i64 7, .int .i64 19, .int .i64 61, .int .i64 6, .int .i64 28, .int .i64 34, .int .i64 39, .int .i64 14, .int .i64 18, .int .i64 41])] (dJ 0 (.slice none 0 0) zV8 zV8) (by kernel_rfl)
 unfold Oper.wp execOp
 simp only [hop, Sem.run_bind, List.map_toArray, List.map_cons, List.map_nil, hx, hrun, Result.andThen_ok]
 exact hK _ _ h
end
theorem aci (w : World) (hs : ig w) :
 Calls Tryz.prog 80 #[.int .i64 512] w fun e w' => (∃ b, w.heap.size ≤ b ∧ e = .returned (.tuple #[.pointer (some ⟨b, 0, none⟩), .int .i64 0]) ∧ w'.heap[b]? = some (.cells (dJ 0 (.slice none 0 0) (fE qC) (fE aV)) 131)) ∧ Below w.heap.size w w' := by
 have HS := Lib.hid hs
 clear hs
 go_enter Tryz.func80, Tryz.ntmps80
 go_wp2_with fail
 refine (ZW _).mono ?_
 rintro e x1 ⟨rfl, hb1⟩
 have HB1 : Hid (Below w.heap.size w x1) := Below.trans (pl (Below.refl _ _)) (hb1.mono sz)
 have hz1 := HB1.out.size
 clear hb1
 go_wp2_with (first | (refine bf 124 (.tmp 4) (.tmp 10) rfl rfl (x1.heap.size) 0 #[.int .i64 8, .int .i64 64, .int .i64 80, .int .i64 1, .int .i64 8, .int .i64 7, .int .i64 19, .int .i64 61, .int .i64 6, .int .i64 28, .int .i64 34, .int .i64 39, .int .i64 14, .int .i64 18, .int .i64 41] rfl rfl 124 #[.int .i64 0, .int .i64 0, .int .i64 0, .int .i64 0, .int .i64 0, .int .i64 0, .int .i64 0, .int .i64 0, .int .i64 0, .int .i64 0, .int .i64 0, .int .i64 0, .int .i64 0, .int .i64 0, .int .i64 0] #[.int .i64 8, .int .i64 64, .int .i64 80, .int .i64 1, .int .i64 8, .int .i64 7, .int .i64 19, .int .i64 61, .int .i64 6, .int .i64 28, .int .i64 34, .int .i64 39, .int .i64 14, .int .i64 18, .int .i64 41] ob (by kernel_rfl) (by kernel_rfl) (by kernel_rfl) (by kernel_rfl) ?_) | (refine gZ 124 (.tmp 4) rfl rfl (x1.heap.size) #[.int .i64 8, .int .i64 64, .int .i64 80, .int .i64 1, .int .i64 8, .int .i64 7, .int .i64 19, .int .i64 61, .int .i64 6, .int .i64 28, .int .i64 34, .int .i64 39, .int .i64 14, .int .i64 18, .int .i64 41] 124 rfl (by kernel_rfl) (by kernel_rfl) ob ?_) | (refine DI (.tmp 14) rfl rfl rfl ?_))
 refine (VH (x1.heap.size + 1) 0 (.slice none 0 0) zV8 zV8 _ (by exact ig.next HS.out (pl HB1.out)) (by have := HS.out.1; omega) ob).mono ?_
 rintro e y2 ⟨rfl, hb2⟩
 obtain ⟨x2, rfl, hc2, hz2, kD⟩ := bQ (b := x1.heap.size + 1) hb2 rfl ob
 have HB2 := aZ HB1.out hc2
 clear hb2 hc2
 try simp only [eF] at hz2
 go_wp2_with fail
 exact bodyPost_ret (v := .tuple #[.pointer (some ⟨x1.heap.size + 1, 0, none⟩), .int .i64 0]) (by simp [results, Tryz.results80, go_sem]) rfl ⟨⟨x1.heap.size + 1, by omega, rfl, ob⟩, pl HB2.out⟩
end
section
open Go.RowKit Go.Proofs.YtehfkbaendajbaaGreatDoorW.PrintLast
theorem Rd.drop {w : World} {k : IntKind} {gb off : Nat} {xs : List Nat} (h : Rd w k (some ⟨gb, off, none⟩) xs) (i : Nat) : Rd w k (some ⟨gb, off + i, none⟩) (xs.drop i) := fun j hj => by
 rw [List.length_drop] at hj
 obtain ⟨b, o, e, hc⟩ := h (i + j) (by omega)
 simp only [Option.some.injEq, Addr.mk.injEq] at e
 obtain ⟨rfl, rfl, _⟩ := e
 refine ⟨gb, off + i, rfl, ?_⟩
 rw [List.getElem_drop, Nat.add_assoc]
 exact hc
theorem Rd.take {w : World} {k : IntKind} {A : Option Addr} {xs : List Nat} (h : Rd w k A xs) (i : Nat) : Rd w k A (xs.take i) := fun j hj => by
 rw [List.length_take] at hj
 obtain ⟨b, o, e, hc⟩ := h j (by omega)
 exact ⟨b, o, e, by rw [List.getElem_take]; exact hc⟩
theorem Rd.hol {B g : Nat} {w v : World} {k : IntKind} {gb off : Nat} {xs : List Nat} (h : Rd w k (some ⟨gb, off, none⟩) xs) (hh : kY B g w v) (hb : gb < B) (hg : gb ≠ g) : Rd v k (some ⟨gb, off, none⟩) xs := fun j hj => by
 obtain ⟨b, o, e, hc⟩ := h j hj
 refine ⟨b, o, e, ?_⟩
 simp only [Option.some.injEq, Addr.mk.injEq] at e
 obtain ⟨rfl, rfl, _⟩ := e
 have h2 := hh.block gb hb hg
 simp only [World.cell?, h2] at hc ⊢
 exact hc
theorem jm.hol {B g : Nat} {w v : World} (h : jm w) (k : kY B g w v) (hB : B = w.heap.size) (hg : g ≠ 7) : jm v := by
 obtain ⟨h1, t, fr, h2⟩ := h
 exact ⟨Nat.lt_of_lt_of_le h1 k.size, t, fr, (k.block 7 (by rw [hB]; exact h1) (Ne.symm hg)).trans h2⟩
theorem uG {A : Option Addr} {n1 n2 c1 c2 : Nat} (h2 : n1 = n2) (h3 : c1 = c2) : Value.slice A n1 c1 = .slice A n2 c2 := by subst h2 h3; rfl
theorem BX (s : Sh) : ∀ (k : Nat) (l : List Nat) (h : V8), iV s (k + 1) l h = Cc s (iV s k l h) ((l.drop (kH s * k)).take (kH s))
 | 0, l, h => by rw [Nat.mul_zero, List.drop_zero]; rfl
 | k + 1, l, h => by
  rw [iV, BX s k, List.drop_drop]
  rw [show kH s + kH s * k = kH s * (k + 1) by rw [Nat.mul_succ, Nat.add_comm]]
  rfl
theorem add_lt (d : Nat) (h v : V8) : (h.add d v).lt d := ⟨Nat.mod_lt _ (Nat.pow_pos (by decide)), Nat.mod_lt _ (Nat.pow_pos (by decide)), Nat.mod_lt _ (Nat.pow_pos (by decide)), Nat.mod_lt _ (Nat.pow_pos (by decide)), Nat.mod_lt _ (Nat.pow_pos (by decide)), Nat.mod_lt _ (Nat.pow_pos (by decide)), Nat.mod_lt _ (Nat.pow_pos (by decide)), Nat.mod_lt _ (Nat.pow_pos (by decide))⟩
theorem BU (s : Sh) : ∀ (k : Nat) (l : List Nat) (h : V8), h.lt s.d → (iV s k l h).lt s.d
 | 0, _, _, h => h
 | k + 1, l, h, hh => BU s k _ _ (add_lt _ _ _)
theorem Za (g n : Nat) (r : Value) (a b : V8) (gb off c : Nat) (bs : List Nat) (hne : 0 < bs.length) (hc : bs.length ≤ c) (hl : bs.length ≤ 4000000) (hby : ∀ x ∈ bs, x < 256) (hv : b.lt 64) (hgb : gb ≠ g) (w : World) (hk : jm w) (hg : g ≠ 7) (hr : Rd w .u8 (some ⟨gb, off, none⟩) bs) (hob : w.heap[g]? = some (.cells (dJ n r a b) 131)) :
 Calls Tryz.prog 111 #[.pointer (some ⟨g, 0, none⟩), .slice (some ⟨gb, off, none⟩) bs.length c] w fun e w' => (∃ A, e = .returned (.slice A (bs.length % 128) (c - 128 * (bs.length / 128))) ∧ (0 < bs.length % 128 → A = some ⟨gb, off + 128 * (bs.length / 128), none⟩)) ∧ Below (w.pin g (.cells (dJ n r a (iV aV (bs.length / 128) bs b)) 131)).heap.size (w.pin g (.cells (dJ n r a (iV aV (bs.length / 128) bs b)) 131)) w' := by
 obtain ⟨x, rfl⟩ : ∃ x : World, w = x.pin g (.cells (dJ n r a b) 131) := ⟨w, (aN hob).symm⟩
 have hlt : g < x.heap.size := by have := (Array.getElem?_eq_some_iff.mp hob).1; rw [aA] at this; exact this
 obtain ⟨B, hB⟩ : ∃ B, B = x.heap.size := ⟨_, rfl⟩
 have HB0 : Hid (kY B g (x.pin g (.cells (dJ n r a b) 131)) x) := Lib.hid (kY.Wp hB)
 have su := Lib.hid hk
 have mJ := Lib.hid hr
 have rV := Lib.hid hby
 have HVL := Lib.hid hv
 have HGB := Lib.hid (show gb < B ∧ gb ≠ g by
  obtain ⟨b', o', e', hb', _⟩ := hr.place hne
  simp only [Option.some.injEq, Addr.mk.injEq] at e'
  obtain ⟨rfl, _⟩ := e'
  rw [aA, ← hB] at hb'
  exact ⟨hb', hgb⟩)
 obtain ⟨L, hL⟩ : ∃ L, L = bs.length := ⟨_, rfl⟩
 have HLL := Lib.hid (show L = bs.length ∧ L ≤ c ∧ L ≤ 4000000 by omega)
 rw [← hL]
 clear hob hk hr hby hv hgb hne hc hl hL
 go_enter Tryz.func111, Tryz.ntmps111
 go_wp2_with fail
 go_loopw [1] (fun iv wr => ∃ (j : Nat) (v : V8) (A : Option Addr) (y : World), iv = .slice A (L - 128 * j) (c - 128 * j) ∧ wr = y.pin g (.cells (dJ n r a v) 131) ∧ g < y.heap.size ∧ Hid (kY B g (x.pin g (.cells (dJ n r a b) 131)) y ∧ 128 * j ≤ L ∧ v = iV aV j bs b ∧ (0 < c - 128 * j → A = some ⟨gb, off + 128 * j, none⟩))) (fun iv _ => match iv with | .slice _ l _ => l | _ => 0)
 case atStart => exact ⟨0, b, some ⟨gb, off, none⟩, x, by simp, rfl, hlt, HB0.out, by omega, rfl, fun _ => by simp⟩
 case round =>
  obtain ⟨j, v, A, y, rfl, rfl, q0, H⟩ := hrel
  have fB : Hid (kY B g (x.pin g (.cells (dJ n r a b) 131)) y) := Lib.hid H.out.1
  have HV : Hid (v.lt 64 ∧ v = iV aV j bs b) := Lib.hid ⟨by rw [H.out.2.2.1]; exact BU aV _ _ _ HVL.out, H.out.2.2.1⟩
  have hyB : B ≤ y.heap.size := by have := H.out.1.size; rw [aA, ← hB] at this; exact this
  by_cases hq : 128 ≤ L - 128 * j
  · obtain rfl : A = some ⟨gb, off + 128 * j, none⟩ := H.out.2.2.2 (by have := HLL.out; omega)
    have hqI : (128 : Int) ≤ ((L - 128 * j : Nat) : Int) := by omega
    have hcI : (128 : Int) ≤ ((c - 128 * j : Nat) : Int) := by have := HLL.out; omega
    go_wp2_with (refine eu 124 (.tmp 9) rfl rfl (g) 0 rfl [.int .i64 8, .int .i64 64, .int .i64 80, .int .i64 1, .int .i64 8, .int .i64 7, .int .i64 19, .int .i64 61, .int .i64 6, .int .i64 28, .int .i64 34, .int .i64 39, .int .i64 14, .int .i64 18, .int .i64 41] (dJ n r a v) 131 ob (by kernel_rfl) (by kernel_rfl) (by kernel_rfl) ?_)
    refine (oZ _).mono ?_
    rintro e y11 ⟨rfl, dG⟩
    obtain ⟨x11, rfl, mQ, nD, Bo⟩ := bQ (b := g) dG rfl ob
    have fC : Hid (kY B g (x.pin g (.cells (dJ n r a b) 131)) x11) := Lib.hid (kY.below (uP fB.out) mQ sz)
    clear dG mQ
    try simp only [eF] at nD
    go_wp2_with fail
    obtain ⟨nv, hnv⟩ : ∃ z, z = (Cc aV v ((bs.drop (128 * j)).take 128)) := ⟨_, rfl⟩
    have CM : Hid (∀ w, jm w → Rd w .u8 (some ⟨gb, off + 128 * j, none⟩) ((bs.drop (128 * j)).take 128) → Calls Tryz.prog 126 #[.agg #[.int .i64 8, .int .i64 64, .int .i64 80, .int .i64 1, .int .i64 8, .int .i64 7, .int .i64 19, .int .i64 61, .int .i64 6, .int .i64 28, .int .i64 34, .int .i64 39, .int .i64 14, .int .i64 18, .int .i64 41], .agg (v.cs .u64), .slice (some ⟨gb, off + 128 * j, none⟩) 128 (c - 128 * j)] w fun e w' => e = .returned (.agg (nv.cs .u64)) ∧ Below w.heap.size w w') := Lib.hid (fun w hk hr => by
     rw [hnv]
     exact afh _ _ _ v HV.out.1 (by have := HLL.out; simp; omega) (by omega) (fun z hz => rV.out z (List.mem_of_mem_drop (List.mem_of_mem_take hz))) w hk hr)
    have HNV := Lib.hid hnv
    clear hnv
    refine start_ (S := Keeps (x11.pin g (.cells (dJ n r a v) 131)) _) (ds := [19]) (n := 20) #[false, false, false, false, false, false, false, false, false, false, false, false, false, false, false, false, false, false, false, false] (by kernel_rfl) rfl rfl (ak (b := g) ob (aO (pl (Below.refl _ _)))) (fun HS => ?_)
    refine tk1 0 (some 38) HS (h := ?_)
    refine tk1 1 (some 39) HS (h := ?_)
    refine tk1 2 (some 40) HS (h := ?_)
    refine tk1 3 (some 41) HS (h := ?_)
    refine tk1 4 (some 42) HS (v := .agg #[.int .i64 8, .int .i64 64, .int .i64 80, .int .i64 1, .int .i64 8, .int .i64 7, .int .i64 19, .int .i64 61, .int .i64 6, .int .i64 28, .int .i64 34, .int .i64 39, .int .i64 14, .int .i64 18, .int .i64 41]) (hy := by (intro v hv; obtain ⟨x, rfl, _, _, n0⟩ := hv.jE; exact aG 124 (.tmp 41) rfl g 0 rfl [.int .i64 8, .int .i64 64, .int .i64 80, .int .i64 1, .int .i64 8, .int .i64 7, .int .i64 19, .int .i64 61, .int .i64 6, .int .i64 28, .int .i64 34, .int .i64 39, .int .i64 14, .int .i64 18, .int .i64 41] (dJ n r a v) 131 ob (by kernel_rfl) (by kernel_rfl) (by kernel_rfl))) (h := ?_)
    refine tk1 5 (some 43) HS (h := ?_)
    refine tk1 6 (some 44) HS (h := ?_)
    refine tk1 7 (some 45) HS (h := ?_)
    refine tk1 8 (some 46) HS (v := .agg (v.cs .u64)) (hy := by (intro v hv; obtain ⟨x, rfl, _, _, n0⟩ := hv.jE; exact aG 129 (.tmp 45) rfl g 25 rfl [.int .u64 (v.a : Int), .int .u64 (v.b : Int), .int .u64 (v.c : Int), .int .u64 (v.d : Int), .int .u64 (v.e : Int), .int .u64 (v.f : Int), .int .u64 (v.g : Int), .int .u64 (v.h : Int)] (dJ n r a v) 131 ob (by kernel_rfl) (by kernel_rfl) (by kernel_rfl))) (h := ?_)
    refine tk1 9 (some 47) HS (h := ?_)
    refine tk1 10 (some 48) HS (h := ?_)
    refine tk1 11 (some 49) HS (h := ?_)
    refine tk1 12 (some 50) HS (h := ?_)
    refine tk1 13 (some 51) HS (v := .agg #[.int .i64 8, .int .i64 64, .int .i64 80, .int .i64 1, .int .i64 8, .int .i64 7, .int .i64 19, .int .i64 61, .int .i64 6, .int .i64 28, .int .i64 34, .int .i64 39, .int .i64 14, .int .i64 18, .int .i64 41]) (hy := by (intro v hv; obtain ⟨x, rfl, _, _, n0⟩ := hv.jE; exact aG 124 (.tmp 50) rfl g 0 rfl [.int .i64 8, .int .i64 64, .int .i64 80, .int .i64 1, .int .i64 8, .int .i64 7, .int .i64 19, .int .i64 61, .int .i64 6, .int .i64 28, .int .i64 34, .int .i64 39, .int .i64 14, .int .i64 18, .int .i64 41] (dJ n r a v) 131 ob (by kernel_rfl) (by kernel_rfl) (by kernel_rfl))) (h := ?_)
    refine dH 14 (some 52) (h := fun K hK => ?_)
    go_simp
    refine (oZ _).mono ?_
    rintro e y ⟨rfl, hb⟩
    refine hK.out _ _ (HS.step hb rfl) ?_
    clear HS hb
    intro HS
    refine tk1 15 (some 53) HS (h := ?_)
    refine dH 16 (some 54) (h := fun K hK => ?_)
    go_simp
    refine (CM.out _ (by exact jm.next (su.out.hol (uP fC.out) (by rw [aA]; exact hB) hg) HS.1) (by exact Rd.mono ((Rd.hol mJ.out (uP fC.out) HGB.out.1 HGB.out.2).drop (128 * j) |>.take 128) HS.1 (by exact Nat.le_refl _))).mono ?_
    rintro e y ⟨rfl, hb⟩
    refine hK.out _ _ (HS.step hb rfl) ?_
    clear HS hb
    intro HS
    refine tk1 17 (some 55) HS (h := ?_)
    refine tk1 18 (some 56) HS (h := ?_)
    obtain ⟨x1, rfl, hk1, hz1, l10⟩ := HS.jE
    have HB1 : Hid (Below (x11.pin g (.cells (dJ n r a v) 131)).heap.size (x11.pin g (.cells (dJ n r a v) 131)) x1) := hk1.below
    clear HS hk1
    refine pO 19 none (h := fun K hK => ?_)
    refine (if_pos (by rfl)).mpr ?_
    refine jY 129 (.tmp 56) (.tmp 54) rfl g 25 (nv.cs .u64) rfl rfl 131 (dJ n r a v) (dJ n r a nv) ob (by kernel_rfl) (by kernel_rfl) (by kernel_rfl) (by kernel_rfl) ?_
    refine hK.out _ _ ?_
    refine done_ (by kernel_rfl) ?_
    go_wp2_with fail
    have fG : Hid (kY B g (x.pin g (.cells (dJ n r a b) 131)) x1) := Lib.hid (kY.below (uP fC.out) HB1.out sz)
    have h1B : B ≤ x1.heap.size := by have := fG.out.size; rw [aA, ← hB] at this; exact this
    go_wp2_with (refine eu 124 (.tmp 60) rfl rfl (g) 0 rfl [.int .i64 8, .int .i64 64, .int .i64 80, .int .i64 1, .int .i64 8, .int .i64 7, .int .i64 19, .int .i64 61, .int .i64 6, .int .i64 28, .int .i64 34, .int .i64 39, .int .i64 14, .int .i64 18, .int .i64 41] (dJ n r a nv) 131 ob (by kernel_rfl) (by kernel_rfl) (by kernel_rfl) ?_)
    refine (oZ _).mono ?_
    rintro e y13 ⟨rfl, bM⟩
    obtain ⟨DL, rfl, hc13, jJ, tq⟩ := bQ (b := g) bM rfl ob
    have iH : Hid (kY B g (x.pin g (.cells (dJ n r a b) 131)) DL) := Lib.hid (kY.below (uP fG.out) hc13 sz)
    clear bM hc13
    try simp only [eF] at jJ
    go_wp2_with fail
    go_roundw
    case rel => exact ⟨j + 1, nv, _, DL, uG (by omega) (by omega), rfl, tq, iH.out, by omega, by rw [HNV.out, HV.out.2, ← HV.out.2, BX, ← HV.out.2]; rfl, fun h => by rw [if_neg (by omega), show off + 128 * j + 128 = off + 128 * (j + 1) by omega]⟩
    case measure => (simp; omega)
  · have hqI : ((128 : Int) ≤ ((L - 128 * j : Nat) : Int)) = False := eq_false (by omega)
    go_wp2_with (refine eu 124 (.tmp 9) rfl rfl (g) 0 rfl [.int .i64 8, .int .i64 64, .int .i64 80, .int .i64 1, .int .i64 8, .int .i64 7, .int .i64 19, .int .i64 61, .int .i64 6, .int .i64 28, .int .i64 34, .int .i64 39, .int .i64 14, .int .i64 18, .int .i64 41] (dJ n r a v) 131 ob (by kernel_rfl) (by kernel_rfl) (by kernel_rfl) ?_)
    refine (oZ _).mono ?_
    rintro e y11 ⟨rfl, dG⟩
    obtain ⟨x11, rfl, mQ, nD, Bo⟩ := bQ (b := g) dG rfl ob
    have fC : Hid (kY B g (x.pin g (.cells (dJ n r a b) 131)) x11) := Lib.hid (kY.below (uP fB.out) mQ sz)
    clear dG mQ
    try simp only [eF] at nD
    go_wp2_with fail
    have hj : j = L / 128 := by have := H.out.2.1; omega
    have hv : iV aV (L / 128) bs b = v := by rw [← hj]; exact HV.out.2.symm
    rw [hv]
    exact bodyPost_ret (v := .slice A (L - 128 * j) (c - 128 * j)) (by simp [results, Tryz.results111, go_sem]) rfl ⟨⟨A, congrArg Ending.returned (uG (by omega) (by omega)), fun h => by rw [← hj]; exact H.out.2.2.2 (by have := HLL.out; omega)⟩, by rw [aA, aA, ← hB]; exact kY.done (uP fC.out) ob (by rw [aA]; exact hlt)⟩
end
end Go.Proofs.YtehfkbaendajbaaGreatDoor
