/-
  Shared, part 27: walks and plain laws; each theorem states its own conditions.
-/
import Derived.Test.YtehfkbaendajbaaGreatDoorB26
namespace Go.Proofs.YtehfkbaendajbaaGreatDoor
set_option linter.unusedSimpArgs false
set_option linter.unusedVariables false
set_option maxRecDepth 100000
set_option maxHeartbeats 8000000
section
open Go.RowKit Go.Proofs.YtehfkbaendajbaaGreatDoorW.PrintLast
theorem gu.own {w : World} {B : Nat} {v : Value} {bs : List Nat} (h : gu w B v bs) (h0 : 0 < bs.length) : ∃ q cap cur, v = .slice (some ⟨q, 0, none⟩) bs.length cap ∧ B ≤ q ∧ w.heap[q]? = some (.cells cur 5) ∧ ∀ i, (hi : i < bs.length) → cur[i]? = some (.int .u8 ((bs[i] : Nat) : Int)) := by
 unfold gu at h
 rcases h.2 with ⟨_, h2⟩ | ⟨q, cap, cur, rfl, hB, hq, hn, _, hsz, ht⟩
 · omega
 · refine ⟨q, cap, cur, rfl, hB, hq, fun i hi => ?_⟩
   have h1 : (bs.map bv)[i]? = some (bv bs[i]) := by simp [hi]
   rw [← ht, List.getElem?_take_of_lt (by omega)] at h1
   simpa using h1
theorem BI {w : World} {q : Nat} {cur : Array Value} {t : TypeId} {bs : List Nat} (h : w.heap[q]? = some (.cells cur t)) (hc : ∀ i, (hi : i < bs.length) → cur[i]? = some (.int .u8 ((bs[i] : Nat) : Int))) : Rd w .u8 (some ⟨q, 0, none⟩) bs := jC h hc
theorem wG {cur : Array Value} {bs : List Nat} (k x : Nat) (hc : ∀ i, (hi : i < bs.length) → cur[i]? = some (.int .u8 ((bs[i] : Nat) : Int))) : ∀ i, (hi : i < (bs.set k x).length) → (cur.setIfInBounds k (.int .u8 (x : Int)))[i]? = some (.int .u8 (((bs.set k x)[i] : Nat) : Int)) := by
 intro i hi
 have hi' : i < bs.length := by rw [List.length_set] at hi; exact hi
 have h1 := hc i hi'
 have h2 : i < cur.size := (Array.getElem?_eq_some_iff.mp h1).1
 rw [Array.getElem?_setIfInBounds, List.getElem_set]
 by_cases h : k = i
 · subst h; rw [if_pos rfl, if_pos h2, if_pos rfl]
 · rw [if_neg h, if_neg h]; exact h1
abbrev Eo : Fn := ⟨929955233495203, 466365720129213, 1662059464998953, 2033849074728123, 1442794654840575⟩
def kT (w : World) : Prop := 3 < w.heap.size ∧ ∃ gt gf, w.heap[3]? = some (.cells #[.int .u64 929955233495203, .int .u64 466365720129213, .int .u64 1662059464998953, .int .u64 2033849074728123, .int .u64 1442794654840575] gt gf)
theorem kT.next {w w' : World} (h : kT w) (hb : Below w.heap.size w w') : kT w' := by
 obtain ⟨h1, gt, gf, h2⟩ := h
 exact ⟨Nat.lt_of_lt_of_le h1 hb.size, gt, gf, (hb.block 3 h1).trans h2⟩
theorem adF (fy : Fn) (A : Option Addr) (c : Nat) (bs : List Nat) (hl : bs.length = 32) (hby : ∀ z ∈ bs, z < 256) (low : List Nat) (hlow : low = bs.set 31 (bs.getD 31 0 % 128)) (CD : Hid (∀ q cap w, Rd w .u8 (some ⟨q, 0, none⟩) low → Calls Tryz.prog 53 #[.slice (some ⟨q, 0, none⟩) 32 cap] w fun e w' => e = .returned (.tuple #[fy.v, .int .i64 30]) ∧ Below w.heap.size w w'))  (w : World) (hg : kT w) (hr : Rd w .u8 A bs) :
 Calls Tryz.prog 25 #[.slice A 32 c] w fun e w' => e = .returned (.tuple #[dh.v, .int .i64 40]) ∧ Below w.heap.size w w' := by
 obtain ⟨gb, off, rfl, hgb, hc⟩ := hr.place (by omega)
 obtain ⟨v, hv⟩ : ∃ z, z = bs.getD 31 0 := ⟨_, rfl⟩
 have h31 := hc 31 (by omega)
 rw [show bs[31] = v by rw [hv, List.getD_eq_getElem?_getD, List.getElem?_eq_getElem (by omega)]; rfl] at h31
 have mJ := Lib.hid (hr.next (pl (Below.refl _ _) : Below w.heap.size w (w.alloc (.cells bP 38))))
 have hcell : (w.alloc (.cells bP 38)).cell? ⟨gb, off + 31, none⟩ = some (.int .u8 (v : Int)) := ((pl (Below.refl _ _) : Below w.heap.size w (w.alloc (.cells bP 38))).cell (p := ⟨gb, off + 31, none⟩) hgb).trans h31
 have HV := Lib.hid hv
 have HL := Lib.hid hl
 have rV := Lib.hid hby
 have uM := Lib.hid hlow
 clear hc h31 hr hv hl hgb hby hlow
 go_enter Tryz.func25, Tryz.ntmps25
 go_wp2_with (at_builtin; refine bH (.const (.slice none 0 0)) (.tmp 19) rfl rfl (w.heap.size + 1) (.slice none 0 0) [] bs (some ⟨gb, off, none⟩) 32 c rfl rfl HL.out.symm (gu.nil _ _) mJ.out (by have := HL.out; simp; omega) (by simp only [World.size_alloc]; omega) ?_)
 intro v1 w1 hrow1 hgrow1 lI
 obtain ⟨q, cap, cur, hv1, hq, wU, hcur⟩ := gu.own hrow1 (by have := HL.out; omega)
 rw [HL.out] at hv1
 subst hv1
 have mV : w1.heap[w.heap.size]? = some (.cells bP 38) := (hgrow1.block _ sz (by simp [Value.ownBlock])).trans ob
 have gI : Keeps w [(q, .cells cur 5), (w.heap.size, .cells bP 38)] w1 := ak wU (ak mV (aO (Lib.hid (Below.grown (pl (Below.refl _ _) : Below w.heap.size w (w.alloc (.cells bP 38))) hgrow1 (by simp only [World.size_alloc]; omega) (fun k h => by simp [Value.ownBlock] at h)))))
 obtain ⟨x1, rfl, hk1, hz1, l10, nG⟩ := gI.iL
 have HB1 : Hid (Below w.heap.size w x1) := hk1.below
 have hwq : w.heap.size < q := by omega
 obtain ⟨v1, hv1⟩ : ∃ z, z = v % 128 := ⟨_, rfl⟩
 have e1 : bits BinOp.and IntKind.u8 (v : Int) 127 = (v1 : Int) := by rw [hv1]; exact yC v (by rw [HV.out]; exact getD_lt HL.out rV.out 31 (by decide))
 have hc31 : cur[31]? = some (.int .u8 (v : Int)) := by
  have h := hcur 31 (by have := HL.out; omega)
  rw [show bs[31]'(by have := HL.out; omega) = v by rw [HV.out, List.getD_eq_getElem?_getD, List.getElem?_eq_getElem (by have := HL.out; omega)]; rfl] at h
  exact h
 have WV := Lib.hid (wG 31 v1 hcur)
 have zH := Lib.hid hv1
 clear gI hk1 wU mV hrow1 hgrow1 lI hcur hv1
 go_wp2_with fail
 refine (CD.out q cap _ (by rw [uM.out, ← HV.out, ← zH.out]; exact BI ob WV.out)).mono ?_
 rintro e y2 ⟨rfl, hb2⟩
 obtain ⟨x2, rfl, hc2, hz2, kD⟩ := bQ (b := w.heap.size) hb2 rfl ob
 have HB2 := aZ HB1.out hc2
 clear hb2 hc2
 try simp only [eF] at hz2
 go_wp2_with (refine bf 38 (.tmp 2) (.tmp 33) rfl rfl (w.heap.size) 0 dh.cA rfl rfl 38 bP dh.cA ob (by kernel_rfl) (by kernel_rfl) (eH dh) (by kernel_rfl) ?_)
 exact bodyPost_ret (v := .tuple #[dh.v, .int .i64 40]) (cu rfl rfl (fD (b := w.heap.size) dh (eY (by simp only [World.size_alloc, aA]; omega))) rfl) rfl ⟨rfl, pl HB2.out⟩
theorem adG (fy : Fn) (A : Option Addr) (c : Nat) (bs : List Nat) (hl : bs.length = 32) (hby : ∀ z ∈ bs, z < 256) (low : List Nat) (hlow : low = bs.set 31 (bs.getD 31 0 % 128)) (CD : Hid (∀ q cap w, Rd w .u8 (some ⟨q, 0, none⟩) low → Calls Tryz.prog 53 #[.slice (some ⟨q, 0, none⟩) 32 cap] w fun e w' => e = .returned (.tuple #[fy.v, .int .i64 0]) ∧ Below w.heap.size w w')) (fs fo fu fm fv fx fn ft : Fn) (C2 : Hid (∀ w, Calls Tryz.prog 54 #[fy.v] w fun e w' => e = .returned fs.v ∧ Below w.heap.size w w'))(C3 : Hid (∀ w, Calls Tryz.prog 57 #[.int .u64 1] w fun e w' => e = .returned fo.v ∧ Below w.heap.size w w'))(C4 : Hid (∀ w, Calls Tryz.prog 56 #[fs.v, fo.v] w fun e w' => e = .returned fu.v ∧ Below w.heap.size w w'))(C5 : Hid (∀ w, Calls Tryz.prog 38 #[.agg #[.int .u64 929955233495203, .int .u64 466365720129213, .int .u64 1662059464998953, .int .u64 2033849074728123, .int .u64 1442794654840575], fs.v] w fun e w' => e = .returned fm.v ∧ Below w.heap.size w w'))(C6 : Hid (∀ w, Calls Tryz.prog 58 #[fm.v, fo.v] w fun e w' => e = .returned fv.v ∧ Below w.heap.size w w'))(C7 : Hid (∀ w, Calls Tryz.prog 55 #[fu.v, fv.v] w fun e w' => e = .returned (.tuple #[fx.v, .bool false]) ∧ Below w.heap.size w w')) (w : World) (hg : kT w) (hr : Rd w .u8 A bs) :
 Calls Tryz.prog 25 #[.slice A 32 c] w fun e w' => e = .returned (.tuple #[dh.v, .int .i64 40]) ∧ Below w.heap.size w w' := by
 obtain ⟨hgl, gt, gf, hg2⟩ := hg
 have XU : w.heap.size ≠ 3 := by omega
 have HG := Lib.hid hg2
 clear hg2
 obtain ⟨gb, off, rfl, hgb, hc⟩ := hr.place (by omega)
 obtain ⟨v, hv⟩ : ∃ z, z = bs.getD 31 0 := ⟨_, rfl⟩
 have h31 := hc 31 (by omega)
 rw [show bs[31] = v by rw [hv, List.getD_eq_getElem?_getD, List.getElem?_eq_getElem (by omega)]; rfl] at h31
 have mJ := Lib.hid (hr.next (pl (Below.refl _ _) : Below w.heap.size w (w.alloc (.cells bP 38))))
 have hcell : (w.alloc (.cells bP 38)).cell? ⟨gb, off + 31, none⟩ = some (.int .u8 (v : Int)) := ((pl (Below.refl _ _) : Below w.heap.size w (w.alloc (.cells bP 38))).cell (p := ⟨gb, off + 31, none⟩) hgb).trans h31
 have HV := Lib.hid hv
 have HL := Lib.hid hl
 have rV := Lib.hid hby
 have uM := Lib.hid hlow
 clear hc h31 hr hv hl hgb hby hlow
 go_enter Tryz.func25, Tryz.ntmps25
 go_wp2_with (at_builtin; refine bH (.const (.slice none 0 0)) (.tmp 19) rfl rfl (w.heap.size + 1) (.slice none 0 0) [] bs (some ⟨gb, off, none⟩) 32 c rfl rfl HL.out.symm (gu.nil _ _) mJ.out (by have := HL.out; simp; omega) (by simp only [World.size_alloc]; omega) ?_)
 intro v1 w1 hrow1 hgrow1 lI
 obtain ⟨q, cap, cur, hv1, hq, wU, hcur⟩ := gu.own hrow1 (by have := HL.out; omega)
 rw [HL.out] at hv1
 subst hv1
 have mV : w1.heap[w.heap.size]? = some (.cells bP 38) := (hgrow1.block _ sz (by simp [Value.ownBlock])).trans ob
 have gI : Keeps w [(q, .cells cur 5), (w.heap.size, .cells bP 38)] w1 := ak wU (ak mV (aO (Lib.hid (Below.grown (pl (Below.refl _ _) : Below w.heap.size w (w.alloc (.cells bP 38))) hgrow1 (by simp only [World.size_alloc]; omega) (fun k h => by simp [Value.ownBlock] at h)))))
 obtain ⟨x1, rfl, hk1, hz1, l10, nG⟩ := gI.iL
 have HB1 : Hid (Below w.heap.size w x1) := hk1.below
 have hwq : w.heap.size < q := by omega
 obtain ⟨v1, hv1⟩ : ∃ z, z = v % 128 := ⟨_, rfl⟩
 have e1 : bits BinOp.and IntKind.u8 (v : Int) 127 = (v1 : Int) := by rw [hv1]; exact yC v (by rw [HV.out]; exact getD_lt HL.out rV.out 31 (by decide))
 have hc31 : cur[31]? = some (.int .u8 (v : Int)) := by
  have h := hcur 31 (by have := HL.out; omega)
  rw [show bs[31]'(by have := HL.out; omega) = v by rw [HV.out, List.getD_eq_getElem?_getD, List.getElem?_eq_getElem (by have := HL.out; omega)]; rfl] at h
  exact h
 have WV := Lib.hid (wG 31 v1 hcur)
 have zH := Lib.hid hv1
 clear gI hk1 wU mV hrow1 hgrow1 lI hcur hv1
 go_wp2_with fail
 refine (CD.out q cap _ (by rw [uM.out, ← HV.out, ← zH.out]; exact BI ob WV.out)).mono ?_
 rintro e y2 ⟨rfl, hb2⟩
 obtain ⟨x2, rfl, hc2, hz2, kD⟩ := bQ (b := w.heap.size) hb2 rfl ob
 have HB2 := aZ HB1.out hc2
 clear hb2 hc2
 try simp only [eF] at hz2
 go_wp2_with fail
 refine (C2.out _).mono ?_
 rintro e y3 ⟨rfl, hb3⟩
 obtain ⟨x3, rfl, hc3, hz3, nN, uq⟩ := fO (b0 := w.heap.size) (b1 := x2.heap.size) hb3 rfl ob ob
 have HB3 := aZ HB2.out hc3
 clear hb3 hc3
 try simp only [eF] at hz3
 go_wp2_with fail
 have hgy : x2.heap.size ≠ 3 := by have := HB2.out.size; omega
 have hgs : x3.heap.size ≠ 3 := by have := HB3.out.size; omega
 refine aac w [(w.heap.size, .cells bP 38), (x2.heap.size, .cells #[.int .u64 fy.a, .int .u64 fy.b, .int .u64 fy.c, .int .u64 fy.d, .int .u64 fy.e] 36), (x3.heap.size, .cells #[.int .u64 fs.a, .int .u64 fs.b, .int .u64 fs.c, .int .u64 fs.d, .int .u64 fs.e] 36), (3, .cells #[.int .u64 929955233495203, .int .u64 466365720129213, .int .u64 1662059464998953, .int .u64 2033849074728123, .int .u64 1442794654840575] gt gf)] [.is fs.v, .is fo.v, .is fu.v, .is (.agg #[.int .u64 929955233495203, .int .u64 466365720129213, .int .u64 1662059464998953, .int .u64 2033849074728123, .int .u64 1442794654840575]), .is fs.v, .is fm.v, .is fo.v, .is fv.v, .is (.tuple #[fx.v, .bool false]), .is (.tuple #[fx.v, .bool false]), .is fx.v, .is (.bool false), .own 13 (.cells #[.int .u64 0, .int .u64 0, .int .u64 0, .int .u64 0, .int .u64 0] 36) (.cells #[.int .u64 fx.a, .int .u64 fx.b, .int .u64 fx.c, .int .u64 fx.d, .int .u64 fx.e] 36), .is undef, .is (.bool false)] [some 37, some 38, some 39, some 40, some 41, some 42, some 43, some 44, some 45, some 36, some 46, some 47, some 9, none, some 10] [(8, .pointer (some ⟨x3.heap.size, 0, none⟩))] 47 (ak (b := w.heap.size) ob (ak (b := x2.heap.size) ob (ak (b := x3.heap.size) ob (ak (b := 3) (by (repeat (first | with_reducible exact ((HB3.out.block _ hgl).trans HG.out) | with_reducible apply ng | with_reducible apply jw | with_reducible apply lg)); all_goals (first | omega | (simp only [World.size_alloc, aA, World.size_drew, World.size_setCell] <;> omega))) (aO (pl HB3.out)))))) (fun a0 hc => ⟨abp hc [(8, none)], abP hc [] Tryz.func57 (fun _ HK => C3.out _), abP hc [(37, some 0), (38, some 1)] Tryz.func56 (fun _ HK => C4.out _), abp hc [], abp hc [(8, none)], abP hc [(40, some 3), (41, some 4)] Tryz.func38 (fun _ HK => C5.out _), abP hc [] Tryz.func57 (fun _ HK => C3.out _), abP hc [(42, some 5), (43, some 6)] Tryz.func58 (fun _ HK => C6.out _), abP hc [(39, some 2), (44, some 7)] Tryz.func55 (fun _ HK => C7.out _), abp hc [(45, some 8)], abp hc [(36, some 9)], abp hc [(36, some 9)], abR hc [], abX hc 12 [(9, some 12), (46, some 10)], abp hc [(47, some 11)], trivial⟩) ?_ ⟨rfl, trivial⟩ (by simp) (by kernel_rfl) rfl rfl rfl rfl rfl (by kernel_rfl)
 intro ρ w' HK HO HN aC HW0
 simp only [ae7, ae8, valOf, Sp.val, List.getElem?_cons_zero, List.getElem?_cons_succ, Act.put, List.setIfInBounds_toArray, List.set_cons_zero, List.set_cons_succ]
 obtain ⟨hg0, ho0⟩ := HO 12 _ _ _ rfl
 clear HO HN
 generalize ρ 12 = gx at hg0 ho0 ⊢
 clear ρ
 have gI : Keeps w [(gx, .cells #[.int .u64 fx.a, .int .u64 fx.b, .int .u64 fx.c, .int .u64 fx.d, .int .u64 fx.e] 36), (w.heap.size, .cells bP 38), (x2.heap.size, .cells #[.int .u64 fy.a, .int .u64 fy.b, .int .u64 fy.c, .int .u64 fy.d, .int .u64 fy.e] 36)] w' := ak ho0 (⟨HK.1, fun q hq => HK.2 q (by simp only [List.mem_cons, List.not_mem_nil, or_false] at hq ⊢; rcases hq with rfl | rfl <;> simp)⟩)
 have zZ : w.heap.size < gx := Nat.lt_of_lt_of_le (aC _ (List.mem_cons_self)) hg0
 have Aa : x2.heap.size < gx := Nat.lt_of_lt_of_le (aC _ (List.mem_cons_of_mem _ (List.mem_cons_self))) hg0
 obtain ⟨x4, rfl, hk4, lT, rU, yL, Dj⟩ := gI.eG
 have HB4 : Hid (Below w.heap.size w x4) := hk4.below
 clear HK aC gI hk4 ho0
 have LU : w.heap.size ≤ gx := Nat.le_trans HW0 hg0
 clear hg0
 clear HW0
 go_wp2_with (refine bf 38 (.tmp 2) (.tmp 58) rfl rfl (w.heap.size) 0 dh.cA rfl rfl 38 bP dh.cA ob (by kernel_rfl) (by kernel_rfl) (eH dh) (by kernel_rfl) ?_)
 exact bodyPost_ret (v := .tuple #[dh.v, .int .i64 40]) (cu rfl rfl (fD (b := w.heap.size) dh (eY (by simp only [World.size_alloc, aA]; omega))) rfl) rfl ⟨rfl, pl HB4.out⟩
theorem adK (fy : Fn) (A : Option Addr) (c : Nat) (bs : List Nat) (hl : bs.length = 32) (hby : ∀ z ∈ bs, z < 256) (low : List Nat) (hlow : low = bs.set 31 (bs.getD 31 0 % 128)) (CD : Hid (∀ q cap w, Rd w .u8 (some ⟨q, 0, none⟩) low → Calls Tryz.prog 53 #[.slice (some ⟨q, 0, none⟩) 32 cap] w fun e w' => e = .returned (.tuple #[fy.v, .int .i64 0]) ∧ Below w.heap.size w w')) (fs fo fu fm fv fx fn ft : Fn) (C2 : Hid (∀ w, Calls Tryz.prog 54 #[fy.v] w fun e w' => e = .returned fs.v ∧ Below w.heap.size w w'))(C3 : Hid (∀ w, Calls Tryz.prog 57 #[.int .u64 1] w fun e w' => e = .returned fo.v ∧ Below w.heap.size w w'))(C4 : Hid (∀ w, Calls Tryz.prog 56 #[fs.v, fo.v] w fun e w' => e = .returned fu.v ∧ Below w.heap.size w w'))(C5 : Hid (∀ w, Calls Tryz.prog 38 #[.agg #[.int .u64 929955233495203, .int .u64 466365720129213, .int .u64 1662059464998953, .int .u64 2033849074728123, .int .u64 1442794654840575], fs.v] w fun e w' => e = .returned fm.v ∧ Below w.heap.size w w'))(C6 : Hid (∀ w, Calls Tryz.prog 58 #[fm.v, fo.v] w fun e w' => e = .returned fv.v ∧ Below w.heap.size w w'))(C7 : Hid (∀ w, Calls Tryz.prog 55 #[fu.v, fv.v] w fun e w' => e = .returned (.tuple #[fx.v, .bool true]) ∧ Below w.heap.size w w'))(ZH : 127 < bs.getD 31 0) (hz : ((fx.a : Int) == 0 && ((fx.b : Int) == 0 && ((fx.c : Int) == 0 && ((fx.d : Int) == 0 && (fx.e : Int) == 0)))) = true)  (w : World) (hg : kT w) (hr : Rd w .u8 A bs) :
 Calls Tryz.prog 25 #[.slice A 32 c] w fun e w' => e = .returned (.tuple #[dh.v, .int .i64 40]) ∧ Below w.heap.size w w' := by
 obtain ⟨hgl, gt, gf, hg2⟩ := hg
 have XU : w.heap.size ≠ 3 := by omega
 have HG := Lib.hid hg2
 clear hg2
 have hvI : ((127 : Int) < ((bs.getD 31 0 : Nat) : Int)) = True := eq_true (by omega)
 have hzI := hz
 obtain ⟨gb, off, rfl, hgb, hc⟩ := hr.place (by omega)
 obtain ⟨v, hv⟩ : ∃ z, z = bs.getD 31 0 := ⟨_, rfl⟩
 have h31 := hc 31 (by omega)
 rw [show bs[31] = v by rw [hv, List.getD_eq_getElem?_getD, List.getElem?_eq_getElem (by omega)]; rfl] at h31
 have mJ := Lib.hid (hr.next (pl (Below.refl _ _) : Below w.heap.size w (w.alloc (.cells bP 38))))
 have hcell : (w.alloc (.cells bP 38)).cell? ⟨gb, off + 31, none⟩ = some (.int .u8 (v : Int)) := ((pl (Below.refl _ _) : Below w.heap.size w (w.alloc (.cells bP 38))).cell (p := ⟨gb, off + 31, none⟩) hgb).trans h31
 have HV := Lib.hid hv
 rw [← hv] at hvI ZH
 clear ZH
 have HL := Lib.hid hl
 have rV := Lib.hid hby
 have uM := Lib.hid hlow
 clear hc h31 hr hv hl hgb hby hlow
 go_enter Tryz.func25, Tryz.ntmps25
 go_wp2_with (at_builtin; refine bH (.const (.slice none 0 0)) (.tmp 19) rfl rfl (w.heap.size + 1) (.slice none 0 0) [] bs (some ⟨gb, off, none⟩) 32 c rfl rfl HL.out.symm (gu.nil _ _) mJ.out (by have := HL.out; simp; omega) (by simp only [World.size_alloc]; omega) ?_)
 intro v1 w1 hrow1 hgrow1 lI
 obtain ⟨q, cap, cur, hv1, hq, wU, hcur⟩ := gu.own hrow1 (by have := HL.out; omega)
 rw [HL.out] at hv1
 subst hv1
 have mV : w1.heap[w.heap.size]? = some (.cells bP 38) := (hgrow1.block _ sz (by simp [Value.ownBlock])).trans ob
 have gI : Keeps w [(q, .cells cur 5), (w.heap.size, .cells bP 38)] w1 := ak wU (ak mV (aO (Lib.hid (Below.grown (pl (Below.refl _ _) : Below w.heap.size w (w.alloc (.cells bP 38))) hgrow1 (by simp only [World.size_alloc]; omega) (fun k h => by simp [Value.ownBlock] at h)))))
 obtain ⟨x1, rfl, hk1, hz1, l10, nG⟩ := gI.iL
 have HB1 : Hid (Below w.heap.size w x1) := hk1.below
 have hwq : w.heap.size < q := by omega
 obtain ⟨v1, hv1⟩ : ∃ z, z = v % 128 := ⟨_, rfl⟩
 have e1 : bits BinOp.and IntKind.u8 (v : Int) 127 = (v1 : Int) := by rw [hv1]; exact yC v (by rw [HV.out]; exact getD_lt HL.out rV.out 31 (by decide))
 have hc31 : cur[31]? = some (.int .u8 (v : Int)) := by
  have h := hcur 31 (by have := HL.out; omega)
  rw [show bs[31]'(by have := HL.out; omega) = v by rw [HV.out, List.getD_eq_getElem?_getD, List.getElem?_eq_getElem (by have := HL.out; omega)]; rfl] at h
  exact h
 have WV := Lib.hid (wG 31 v1 hcur)
 have zH := Lib.hid hv1
 clear gI hk1 wU mV hrow1 hgrow1 lI hcur hv1
 go_wp2_with fail
 refine (CD.out q cap _ (by rw [uM.out, ← HV.out, ← zH.out]; exact BI ob WV.out)).mono ?_
 rintro e y2 ⟨rfl, hb2⟩
 obtain ⟨x2, rfl, hc2, hz2, kD⟩ := bQ (b := w.heap.size) hb2 rfl ob
 have HB2 := aZ HB1.out hc2
 clear hb2 hc2
 try simp only [eF] at hz2
 go_wp2_with fail
 refine (C2.out _).mono ?_
 rintro e y3 ⟨rfl, hb3⟩
 obtain ⟨x3, rfl, hc3, hz3, nN, uq⟩ := fO (b0 := w.heap.size) (b1 := x2.heap.size) hb3 rfl ob ob
 have HB3 := aZ HB2.out hc3
 clear hb3 hc3
 try simp only [eF] at hz3
 go_wp2_with fail
 have hgy : x2.heap.size ≠ 3 := by have := HB2.out.size; omega
 have hgs : x3.heap.size ≠ 3 := by have := HB3.out.size; omega
 refine aac w [(w.heap.size, .cells bP 38), (x2.heap.size, .cells #[.int .u64 fy.a, .int .u64 fy.b, .int .u64 fy.c, .int .u64 fy.d, .int .u64 fy.e] 36), (x3.heap.size, .cells #[.int .u64 fs.a, .int .u64 fs.b, .int .u64 fs.c, .int .u64 fs.d, .int .u64 fs.e] 36), (3, .cells #[.int .u64 929955233495203, .int .u64 466365720129213, .int .u64 1662059464998953, .int .u64 2033849074728123, .int .u64 1442794654840575] gt gf)] [.is fs.v, .is fo.v, .is fu.v, .is (.agg #[.int .u64 929955233495203, .int .u64 466365720129213, .int .u64 1662059464998953, .int .u64 2033849074728123, .int .u64 1442794654840575]), .is fs.v, .is fm.v, .is fo.v, .is fv.v, .is (.tuple #[fx.v, .bool true]), .is (.tuple #[fx.v, .bool true]), .is fx.v, .is (.bool true), .own 13 (.cells #[.int .u64 0, .int .u64 0, .int .u64 0, .int .u64 0, .int .u64 0] 36) (.cells #[.int .u64 fx.a, .int .u64 fx.b, .int .u64 fx.c, .int .u64 fx.d, .int .u64 fx.e] 36), .is undef, .is (.bool true)] [some 37, some 38, some 39, some 40, some 41, some 42, some 43, some 44, some 45, some 36, some 46, some 47, some 9, none, some 10] [(8, .pointer (some ⟨x3.heap.size, 0, none⟩))] 47 (ak (b := w.heap.size) ob (ak (b := x2.heap.size) ob (ak (b := x3.heap.size) ob (ak (b := 3) (by (repeat (first | with_reducible exact ((HB3.out.block _ hgl).trans HG.out) | with_reducible apply ng | with_reducible apply jw | with_reducible apply lg)); all_goals (first | omega | (simp only [World.size_alloc, aA, World.size_drew, World.size_setCell] <;> omega))) (aO (pl HB3.out)))))) (fun a0 hc => ⟨abp hc [(8, none)], abP hc [] Tryz.func57 (fun _ HK => C3.out _), abP hc [(37, some 0), (38, some 1)] Tryz.func56 (fun _ HK => C4.out _), abp hc [], abp hc [(8, none)], abP hc [(40, some 3), (41, some 4)] Tryz.func38 (fun _ HK => C5.out _), abP hc [] Tryz.func57 (fun _ HK => C3.out _), abP hc [(42, some 5), (43, some 6)] Tryz.func58 (fun _ HK => C6.out _), abP hc [(39, some 2), (44, some 7)] Tryz.func55 (fun _ HK => C7.out _), abp hc [(45, some 8)], abp hc [(36, some 9)], abp hc [(36, some 9)], abR hc [], abX hc 12 [(9, some 12), (46, some 10)], abp hc [(47, some 11)], trivial⟩) ?_ ⟨rfl, trivial⟩ (by simp) (by kernel_rfl) rfl rfl rfl rfl rfl (by kernel_rfl)
 intro ρ w' HK HO HN aC HW0
 simp only [ae7, ae8, valOf, Sp.val, List.getElem?_cons_zero, List.getElem?_cons_succ, Act.put, List.setIfInBounds_toArray, List.set_cons_zero, List.set_cons_succ]
 obtain ⟨hg0, ho0⟩ := HO 12 _ _ _ rfl
 clear HO HN
 generalize ρ 12 = gx at hg0 ho0 ⊢
 clear ρ
 have gI : Keeps w [(gx, .cells #[.int .u64 fx.a, .int .u64 fx.b, .int .u64 fx.c, .int .u64 fx.d, .int .u64 fx.e] 36), (w.heap.size, .cells bP 38), (x2.heap.size, .cells #[.int .u64 fy.a, .int .u64 fy.b, .int .u64 fy.c, .int .u64 fy.d, .int .u64 fy.e] 36)] w' := ak ho0 (⟨HK.1, fun q hq => HK.2 q (by simp only [List.mem_cons, List.not_mem_nil, or_false] at hq ⊢; rcases hq with rfl | rfl <;> simp)⟩)
 have zZ : w.heap.size < gx := Nat.lt_of_lt_of_le (aC _ (List.mem_cons_self)) hg0
 have Aa : x2.heap.size < gx := Nat.lt_of_lt_of_le (aC _ (List.mem_cons_of_mem _ (List.mem_cons_self))) hg0
 obtain ⟨x4, rfl, hk4, lT, rU, yL, Dj⟩ := gI.eG
 have HB4 : Hid (Below w.heap.size w x4) := hk4.below
 clear HK aC gI hk4 ho0
 have LU : w.heap.size ≤ gx := Nat.le_trans HW0 hg0
 clear hg0
 clear HW0
 go_wp2_with (refine bf 38 (.tmp 2) (.tmp 58) rfl rfl (w.heap.size) 0 dh.cA rfl rfl 38 bP dh.cA ob (by kernel_rfl) (by kernel_rfl) (eH dh) (by kernel_rfl) ?_)
 exact bodyPost_ret (v := .tuple #[dh.v, .int .i64 40]) (cu rfl rfl (fD (b := w.heap.size) dh (eY (by simp only [World.size_alloc, aA]; omega))) rfl) rfl ⟨rfl, pl HB4.out⟩
theorem adI (fy : Fn) (A : Option Addr) (c : Nat) (bs : List Nat) (hl : bs.length = 32) (hby : ∀ z ∈ bs, z < 256) (low : List Nat) (hlow : low = bs.set 31 (bs.getD 31 0 % 128)) (CD : Hid (∀ q cap w, Rd w .u8 (some ⟨q, 0, none⟩) low → Calls Tryz.prog 53 #[.slice (some ⟨q, 0, none⟩) 32 cap] w fun e w' => e = .returned (.tuple #[fy.v, .int .i64 0]) ∧ Below w.heap.size w w')) (fs fo fu fm fv fx fn ft : Fn) (C2 : Hid (∀ w, Calls Tryz.prog 54 #[fy.v] w fun e w' => e = .returned fs.v ∧ Below w.heap.size w w'))(C3 : Hid (∀ w, Calls Tryz.prog 57 #[.int .u64 1] w fun e w' => e = .returned fo.v ∧ Below w.heap.size w w'))(C4 : Hid (∀ w, Calls Tryz.prog 56 #[fs.v, fo.v] w fun e w' => e = .returned fu.v ∧ Below w.heap.size w w'))(C5 : Hid (∀ w, Calls Tryz.prog 38 #[.agg #[.int .u64 929955233495203, .int .u64 466365720129213, .int .u64 1662059464998953, .int .u64 2033849074728123, .int .u64 1442794654840575], fs.v] w fun e w' => e = .returned fm.v ∧ Below w.heap.size w w'))(C6 : Hid (∀ w, Calls Tryz.prog 58 #[fm.v, fo.v] w fun e w' => e = .returned fv.v ∧ Below w.heap.size w w'))(C7 : Hid (∀ w, Calls Tryz.prog 55 #[fu.v, fv.v] w fun e w' => e = .returned (.tuple #[fx.v, .bool true]) ∧ Below w.heap.size w w'))(ZH : bs.getD 31 0 ≤ 127) (C9 : Hid (∀ w, Calls Tryz.prog 38 #[fx.v, fy.v] w fun e w' => e = .returned ft.v ∧ Below w.heap.size w w')) (w : World) (hg : kT w) (hr : Rd w .u8 A bs) :
 Calls Tryz.prog 25 #[.slice A 32 c] w fun e w' => e = .returned (.tuple #[(Pn.mk fx fy ⟨1, 0, 0, 0, 0⟩ ft).v, .int .i64 0]) ∧ Below w.heap.size w w' := by
 obtain ⟨hgl, gt, gf, hg2⟩ := hg
 have XU : w.heap.size ≠ 3 := by omega
 have HG := Lib.hid hg2
 clear hg2
 have hvI : ((127 : Int) < ((bs.getD 31 0 : Nat) : Int)) = False := eq_false (by omega)
 obtain ⟨gb, off, rfl, hgb, hc⟩ := hr.place (by omega)
 obtain ⟨v, hv⟩ : ∃ z, z = bs.getD 31 0 := ⟨_, rfl⟩
 have h31 := hc 31 (by omega)
 rw [show bs[31] = v by rw [hv, List.getD_eq_getElem?_getD, List.getElem?_eq_getElem (by omega)]; rfl] at h31
 have mJ := Lib.hid (hr.next (pl (Below.refl _ _) : Below w.heap.size w (w.alloc (.cells bP 38))))
 have hcell : (w.alloc (.cells bP 38)).cell? ⟨gb, off + 31, none⟩ = some (.int .u8 (v : Int)) := ((pl (Below.refl _ _) : Below w.heap.size w (w.alloc (.cells bP 38))).cell (p := ⟨gb, off + 31, none⟩) hgb).trans h31
 have HV := Lib.hid hv
 rw [← hv] at hvI ZH
 clear ZH
 have HL := Lib.hid hl
 have rV := Lib.hid hby
 have uM := Lib.hid hlow
 clear hc h31 hr hv hl hgb hby hlow
 go_enter Tryz.func25, Tryz.ntmps25
 go_wp2_with (at_builtin; refine bH (.const (.slice none 0 0)) (.tmp 19) rfl rfl (w.heap.size + 1) (.slice none 0 0) [] bs (some ⟨gb, off, none⟩) 32 c rfl rfl HL.out.symm (gu.nil _ _) mJ.out (by have := HL.out; simp; omega) (by simp only [World.size_alloc]; omega) ?_)
 intro v1 w1 hrow1 hgrow1 lI
 obtain ⟨q, cap, cur, hv1, hq, wU, hcur⟩ := gu.own hrow1 (by have := HL.out; omega)
 rw [HL.out] at hv1
 subst hv1
 have mV : w1.heap[w.heap.size]? = some (.cells bP 38) := (hgrow1.block _ sz (by simp [Value.ownBlock])).trans ob
 have gI : Keeps w [(q, .cells cur 5), (w.heap.size, .cells bP 38)] w1 := ak wU (ak mV (aO (Lib.hid (Below.grown (pl (Below.refl _ _) : Below w.heap.size w (w.alloc (.cells bP 38))) hgrow1 (by simp only [World.size_alloc]; omega) (fun k h => by simp [Value.ownBlock] at h)))))
 obtain ⟨x1, rfl, hk1, hz1, l10, nG⟩ := gI.iL
 have HB1 : Hid (Below w.heap.size w x1) := hk1.below
 have hwq : w.heap.size < q := by omega
 obtain ⟨v1, hv1⟩ : ∃ z, z = v % 128 := ⟨_, rfl⟩
 have e1 : bits BinOp.and IntKind.u8 (v : Int) 127 = (v1 : Int) := by rw [hv1]; exact yC v (by rw [HV.out]; exact getD_lt HL.out rV.out 31 (by decide))
 have hc31 : cur[31]? = some (.int .u8 (v : Int)) := by
  have h := hcur 31 (by have := HL.out; omega)
  rw [show bs[31]'(by have := HL.out; omega) = v by rw [HV.out, List.getD_eq_getElem?_getD, List.getElem?_eq_getElem (by have := HL.out; omega)]; rfl] at h
  exact h
 have WV := Lib.hid (wG 31 v1 hcur)
 have zH := Lib.hid hv1
 clear gI hk1 wU mV hrow1 hgrow1 lI hcur hv1
 go_wp2_with fail
 refine (CD.out q cap _ (by rw [uM.out, ← HV.out, ← zH.out]; exact BI ob WV.out)).mono ?_
 rintro e y2 ⟨rfl, hb2⟩
 obtain ⟨x2, rfl, hc2, hz2, kD⟩ := bQ (b := w.heap.size) hb2 rfl ob
 have HB2 := aZ HB1.out hc2
 clear hb2 hc2
 try simp only [eF] at hz2
 go_wp2_with fail
 refine (C2.out _).mono ?_
 rintro e y3 ⟨rfl, hb3⟩
 obtain ⟨x3, rfl, hc3, hz3, nN, uq⟩ := fO (b0 := w.heap.size) (b1 := x2.heap.size) hb3 rfl ob ob
 have HB3 := aZ HB2.out hc3
 clear hb3 hc3
 try simp only [eF] at hz3
 go_wp2_with fail
 have hgy : x2.heap.size ≠ 3 := by have := HB2.out.size; omega
 have hgs : x3.heap.size ≠ 3 := by have := HB3.out.size; omega
 refine aac w [(w.heap.size, .cells bP 38), (x2.heap.size, .cells #[.int .u64 fy.a, .int .u64 fy.b, .int .u64 fy.c, .int .u64 fy.d, .int .u64 fy.e] 36), (x3.heap.size, .cells #[.int .u64 fs.a, .int .u64 fs.b, .int .u64 fs.c, .int .u64 fs.d, .int .u64 fs.e] 36), (3, .cells #[.int .u64 929955233495203, .int .u64 466365720129213, .int .u64 1662059464998953, .int .u64 2033849074728123, .int .u64 1442794654840575] gt gf)] [.is fs.v, .is fo.v, .is fu.v, .is (.agg #[.int .u64 929955233495203, .int .u64 466365720129213, .int .u64 1662059464998953, .int .u64 2033849074728123, .int .u64 1442794654840575]), .is fs.v, .is fm.v, .is fo.v, .is fv.v, .is (.tuple #[fx.v, .bool true]), .is (.tuple #[fx.v, .bool true]), .is fx.v, .is (.bool true), .own 13 (.cells #[.int .u64 0, .int .u64 0, .int .u64 0, .int .u64 0, .int .u64 0] 36) (.cells #[.int .u64 fx.a, .int .u64 fx.b, .int .u64 fx.c, .int .u64 fx.d, .int .u64 fx.e] 36), .is undef, .is (.bool true)] [some 37, some 38, some 39, some 40, some 41, some 42, some 43, some 44, some 45, some 36, some 46, some 47, some 9, none, some 10] [(8, .pointer (some ⟨x3.heap.size, 0, none⟩))] 47 (ak (b := w.heap.size) ob (ak (b := x2.heap.size) ob (ak (b := x3.heap.size) ob (ak (b := 3) (by (repeat (first | with_reducible exact ((HB3.out.block _ hgl).trans HG.out) | with_reducible apply ng | with_reducible apply jw | with_reducible apply lg)); all_goals (first | omega | (simp only [World.size_alloc, aA, World.size_drew, World.size_setCell] <;> omega))) (aO (pl HB3.out)))))) (fun a0 hc => ⟨abp hc [(8, none)], abP hc [] Tryz.func57 (fun _ HK => C3.out _), abP hc [(37, some 0), (38, some 1)] Tryz.func56 (fun _ HK => C4.out _), abp hc [], abp hc [(8, none)], abP hc [(40, some 3), (41, some 4)] Tryz.func38 (fun _ HK => C5.out _), abP hc [] Tryz.func57 (fun _ HK => C3.out _), abP hc [(42, some 5), (43, some 6)] Tryz.func58 (fun _ HK => C6.out _), abP hc [(39, some 2), (44, some 7)] Tryz.func55 (fun _ HK => C7.out _), abp hc [(45, some 8)], abp hc [(36, some 9)], abp hc [(36, some 9)], abR hc [], abX hc 12 [(9, some 12), (46, some 10)], abp hc [(47, some 11)], trivial⟩) ?_ ⟨rfl, trivial⟩ (by simp) (by kernel_rfl) rfl rfl rfl rfl rfl (by kernel_rfl)
 intro ρ w' HK HO HN aC HW0
 simp only [ae7, ae8, valOf, Sp.val, List.getElem?_cons_zero, List.getElem?_cons_succ, Act.put, List.setIfInBounds_toArray, List.set_cons_zero, List.set_cons_succ]
 obtain ⟨hg0, ho0⟩ := HO 12 _ _ _ rfl
 clear HO HN
 generalize ρ 12 = gx at hg0 ho0 ⊢
 clear ρ
 have gI : Keeps w [(gx, .cells #[.int .u64 fx.a, .int .u64 fx.b, .int .u64 fx.c, .int .u64 fx.d, .int .u64 fx.e] 36), (w.heap.size, .cells bP 38), (x2.heap.size, .cells #[.int .u64 fy.a, .int .u64 fy.b, .int .u64 fy.c, .int .u64 fy.d, .int .u64 fy.e] 36)] w' := ak ho0 (⟨HK.1, fun q hq => HK.2 q (by simp only [List.mem_cons, List.not_mem_nil, or_false] at hq ⊢; rcases hq with rfl | rfl <;> simp)⟩)
 have zZ : w.heap.size < gx := Nat.lt_of_lt_of_le (aC _ (List.mem_cons_self)) hg0
 have Aa : x2.heap.size < gx := Nat.lt_of_lt_of_le (aC _ (List.mem_cons_of_mem _ (List.mem_cons_self))) hg0
 obtain ⟨x4, rfl, hk4, lT, rU, yL, Dj⟩ := gI.eG
 have HB4 : Hid (Below w.heap.size w x4) := hk4.below
 clear HK aC gI hk4 ho0
 have LU : w.heap.size ≤ gx := Nat.le_trans HW0 hg0
 clear hg0
 clear HW0
 go_wp2_with fail
 refine st1 w [7, 8] 9 (ak (b := w.heap.size) ob (ak (b := x2.heap.size) ob (ak (b := gx) ob (aO (pl HB4.out))))) (fun HS => ?_)
 refine tk3 0 (some 62) HS (h := ?_)
 refine tk3 1 (some 63) HS (h := ?_)
 refine tk3 2 (some 64) HS (h := ?_)
 refine tk3 3 (some 65) HS (h := ?_)
 refine tk3 4 (some 66) HS (h := ?_)
 refine dH 5 (some 67) (h := fun K hK => ?_)
 go_simp
 refine (C9.out _).mono ?_
 rintro e y ⟨rfl, hb⟩
 refine hK.out _ _ (HS.step hb rfl) ?_
 clear HS hb
 intro HS
 refine tk3 6 (some 68) HS (h := ?_)
 obtain ⟨x5, rfl, hk5, rP, Ae, l51, Gi⟩ := HS.eG
 have kR : Hid (Below w.heap.size w x5) := hk5.below
 clear HS hk5
 refine pO 7 none (h := fun K hK => ?_)
 refine (if_pos (by rfl)).mpr ?_
 refine gB 38 _ _ rfl (w.heap.size) (#[.int .u64 fx.a, .int .u64 fx.b, .int .u64 fx.c, .int .u64 fx.d, .int .u64 fx.e, .int .u64 fy.a, .int .u64 fy.b, .int .u64 fy.c, .int .u64 fy.d, .int .u64 fy.e, .int .u64 1, .int .u64 0, .int .u64 0, .int .u64 0, .int .u64 0, .int .u64 ft.a, .int .u64 ft.b, .int .u64 ft.c, .int .u64 ft.d, .int .u64 ft.e]) rfl rfl 38 (bP) ob (by kernel_rfl) rfl (eH (Pn.mk fx fy ⟨1, 0, 0, 0, 0⟩ ft)) ?_
 refine hK.out _ _ ?_
 refine pO 8 (some 3) (h := fun K hK => ?_)
 go_simp
 refine hK.out _ _ ?_
 refine done_ (by kernel_rfl) ?_
 go_wp2_with fail
 exact bodyPost_ret (v := .tuple #[(Pn.mk fx fy ⟨1, 0, 0, 0, 0⟩ ft).v, .int .i64 0]) (cu rfl rfl (fD (b := w.heap.size) (Pn.mk fx fy ⟨1, 0, 0, 0, 0⟩ ft) (eY (by simp only [World.size_alloc, aA]; omega))) rfl) rfl ⟨rfl, pl kR.out⟩
theorem adH (fy : Fn) (A : Option Addr) (c : Nat) (bs : List Nat) (hl : bs.length = 32) (hby : ∀ z ∈ bs, z < 256) (low : List Nat) (hlow : low = bs.set 31 (bs.getD 31 0 % 128)) (CD : Hid (∀ q cap w, Rd w .u8 (some ⟨q, 0, none⟩) low → Calls Tryz.prog 53 #[.slice (some ⟨q, 0, none⟩) 32 cap] w fun e w' => e = .returned (.tuple #[fy.v, .int .i64 0]) ∧ Below w.heap.size w w')) (fs fo fu fm fv fx fn ft : Fn) (C2 : Hid (∀ w, Calls Tryz.prog 54 #[fy.v] w fun e w' => e = .returned fs.v ∧ Below w.heap.size w w'))(C3 : Hid (∀ w, Calls Tryz.prog 57 #[.int .u64 1] w fun e w' => e = .returned fo.v ∧ Below w.heap.size w w'))(C4 : Hid (∀ w, Calls Tryz.prog 56 #[fs.v, fo.v] w fun e w' => e = .returned fu.v ∧ Below w.heap.size w w'))(C5 : Hid (∀ w, Calls Tryz.prog 38 #[.agg #[.int .u64 929955233495203, .int .u64 466365720129213, .int .u64 1662059464998953, .int .u64 2033849074728123, .int .u64 1442794654840575], fs.v] w fun e w' => e = .returned fm.v ∧ Below w.heap.size w w'))(C6 : Hid (∀ w, Calls Tryz.prog 58 #[fm.v, fo.v] w fun e w' => e = .returned fv.v ∧ Below w.heap.size w w'))(C7 : Hid (∀ w, Calls Tryz.prog 55 #[fu.v, fv.v] w fun e w' => e = .returned (.tuple #[fx.v, .bool true]) ∧ Below w.heap.size w w'))(ZH : 127 < bs.getD 31 0) (hz : ((fx.a : Int) == 0 && ((fx.b : Int) == 0 && ((fx.c : Int) == 0 && ((fx.d : Int) == 0 && (fx.e : Int) == 0)))) = false) (C8 : Hid (∀ w, Calls Tryz.prog 59 #[fx.v] w fun e w' => e = .returned fn.v ∧ Below w.heap.size w w'))(C9 : Hid (∀ w, Calls Tryz.prog 38 #[fn.v, fy.v] w fun e w' => e = .returned ft.v ∧ Below w.heap.size w w')) (w : World) (hg : kT w) (hr : Rd w .u8 A bs) :
 Calls Tryz.prog 25 #[.slice A 32 c] w fun e w' => e = .returned (.tuple #[(Pn.mk fn fy ⟨1, 0, 0, 0, 0⟩ ft).v, .int .i64 0]) ∧ Below w.heap.size w w' := by
 obtain ⟨hgl, gt, gf, hg2⟩ := hg
 have XU : w.heap.size ≠ 3 := by omega
 have HG := Lib.hid hg2
 clear hg2
 have hvI : ((127 : Int) < ((bs.getD 31 0 : Nat) : Int)) = True := eq_true (by omega)
 have hzI := hz
 obtain ⟨gb, off, rfl, hgb, hc⟩ := hr.place (by omega)
 obtain ⟨v, hv⟩ : ∃ z, z = bs.getD 31 0 := ⟨_, rfl⟩
 have h31 := hc 31 (by omega)
 rw [show bs[31] = v by rw [hv, List.getD_eq_getElem?_getD, List.getElem?_eq_getElem (by omega)]; rfl] at h31
 have mJ := Lib.hid (hr.next (pl (Below.refl _ _) : Below w.heap.size w (w.alloc (.cells bP 38))))
 have hcell : (w.alloc (.cells bP 38)).cell? ⟨gb, off + 31, none⟩ = some (.int .u8 (v : Int)) := ((pl (Below.refl _ _) : Below w.heap.size w (w.alloc (.cells bP 38))).cell (p := ⟨gb, off + 31, none⟩) hgb).trans h31
 have HV := Lib.hid hv
 rw [← hv] at hvI ZH
 clear ZH
 have HL := Lib.hid hl
 have rV := Lib.hid hby
 have uM := Lib.hid hlow
 clear hc h31 hr hv hl hgb hby hlow
 go_enter Tryz.func25, Tryz.ntmps25
 go_wp2_with (at_builtin; refine bH (.const (.slice none 0 0)) (.tmp 19) rfl rfl (w.heap.size + 1) (.slice none 0 0) [] bs (some ⟨gb, off, none⟩) 32 c rfl rfl HL.out.symm (gu.nil _ _) mJ.out (by have := HL.out; simp; omega) (by simp only [World.size_alloc]; omega) ?_)
 intro v1 w1 hrow1 hgrow1 lI
 obtain ⟨q, cap, cur, hv1, hq, wU, hcur⟩ := gu.own hrow1 (by have := HL.out; omega)
 rw [HL.out] at hv1
 subst hv1
 have mV : w1.heap[w.heap.size]? = some (.cells bP 38) := (hgrow1.block _ sz (by simp [Value.ownBlock])).trans ob
 have gI : Keeps w [(q, .cells cur 5), (w.heap.size, .cells bP 38)] w1 := ak wU (ak mV (aO (Lib.hid (Below.grown (pl (Below.refl _ _) : Below w.heap.size w (w.alloc (.cells bP 38))) hgrow1 (by simp only [World.size_alloc]; omega) (fun k h => by simp [Value.ownBlock] at h)))))
 obtain ⟨x1, rfl, hk1, hz1, l10, nG⟩ := gI.iL
 have HB1 : Hid (Below w.heap.size w x1) := hk1.below
 have hwq : w.heap.size < q := by omega
 obtain ⟨v1, hv1⟩ : ∃ z, z = v % 128 := ⟨_, rfl⟩
 have e1 : bits BinOp.and IntKind.u8 (v : Int) 127 = (v1 : Int) := by rw [hv1]; exact yC v (by rw [HV.out]; exact getD_lt HL.out rV.out 31 (by decide))
 have hc31 : cur[31]? = some (.int .u8 (v : Int)) := by
  have h := hcur 31 (by have := HL.out; omega)
  rw [show bs[31]'(by have := HL.out; omega) = v by rw [HV.out, List.getD_eq_getElem?_getD, List.getElem?_eq_getElem (by have := HL.out; omega)]; rfl] at h
  exact h
 have WV := Lib.hid (wG 31 v1 hcur)
 have zH := Lib.hid hv1
 clear gI hk1 wU mV hrow1 hgrow1 lI hcur hv1
 go_wp2_with fail
 refine (CD.out q cap _ (by rw [uM.out, ← HV.out, ← zH.out]; exact BI ob WV.out)).mono ?_
 rintro e y2 ⟨rfl, hb2⟩
 obtain ⟨x2, rfl, hc2, hz2, kD⟩ := bQ (b := w.heap.size) hb2 rfl ob
 have HB2 := aZ HB1.out hc2
 clear hb2 hc2
 try simp only [eF] at hz2
 go_wp2_with fail
 refine (C2.out _).mono ?_
 rintro e y3 ⟨rfl, hb3⟩
 obtain ⟨x3, rfl, hc3, hz3, nN, uq⟩ := fO (b0 := w.heap.size) (b1 := x2.heap.size) hb3 rfl ob ob
 have HB3 := aZ HB2.out hc3
 clear hb3 hc3
 try simp only [eF] at hz3
 go_wp2_with fail
 have hgy : x2.heap.size ≠ 3 := by have := HB2.out.size; omega
 have hgs : x3.heap.size ≠ 3 := by have := HB3.out.size; omega
 refine aac w [(w.heap.size, .cells bP 38), (x2.heap.size, .cells #[.int .u64 fy.a, .int .u64 fy.b, .int .u64 fy.c, .int .u64 fy.d, .int .u64 fy.e] 36), (x3.heap.size, .cells #[.int .u64 fs.a, .int .u64 fs.b, .int .u64 fs.c, .int .u64 fs.d, .int .u64 fs.e] 36), (3, .cells #[.int .u64 929955233495203, .int .u64 466365720129213, .int .u64 1662059464998953, .int .u64 2033849074728123, .int .u64 1442794654840575] gt gf)] [.is fs.v, .is fo.v, .is fu.v, .is (.agg #[.int .u64 929955233495203, .int .u64 466365720129213, .int .u64 1662059464998953, .int .u64 2033849074728123, .int .u64 1442794654840575]), .is fs.v, .is fm.v, .is fo.v, .is fv.v, .is (.tuple #[fx.v, .bool true]), .is (.tuple #[fx.v, .bool true]), .is fx.v, .is (.bool true), .own 13 (.cells #[.int .u64 0, .int .u64 0, .int .u64 0, .int .u64 0, .int .u64 0] 36) (.cells #[.int .u64 fx.a, .int .u64 fx.b, .int .u64 fx.c, .int .u64 fx.d, .int .u64 fx.e] 36), .is undef, .is (.bool true)] [some 37, some 38, some 39, some 40, some 41, some 42, some 43, some 44, some 45, some 36, some 46, some 47, some 9, none, some 10] [(8, .pointer (some ⟨x3.heap.size, 0, none⟩))] 47 (ak (b := w.heap.size) ob (ak (b := x2.heap.size) ob (ak (b := x3.heap.size) ob (ak (b := 3) (by (repeat (first | with_reducible exact ((HB3.out.block _ hgl).trans HG.out) | with_reducible apply ng | with_reducible apply jw | with_reducible apply lg)); all_goals (first | omega | (simp only [World.size_alloc, aA, World.size_drew, World.size_setCell] <;> omega))) (aO (pl HB3.out)))))) (fun a0 hc => ⟨abp hc [(8, none)], abP hc [] Tryz.func57 (fun _ HK => C3.out _), abP hc [(37, some 0), (38, some 1)] Tryz.func56 (fun _ HK => C4.out _), abp hc [], abp hc [(8, none)], abP hc [(40, some 3), (41, some 4)] Tryz.func38 (fun _ HK => C5.out _), abP hc [] Tryz.func57 (fun _ HK => C3.out _), abP hc [(42, some 5), (43, some 6)] Tryz.func58 (fun _ HK => C6.out _), abP hc [(39, some 2), (44, some 7)] Tryz.func55 (fun _ HK => C7.out _), abp hc [(45, some 8)], abp hc [(36, some 9)], abp hc [(36, some 9)], abR hc [], abX hc 12 [(9, some 12), (46, some 10)], abp hc [(47, some 11)], trivial⟩) ?_ ⟨rfl, trivial⟩ (by simp) (by kernel_rfl) rfl rfl rfl rfl rfl (by kernel_rfl)
 intro ρ w' HK HO HN aC HW0
 simp only [ae7, ae8, valOf, Sp.val, List.getElem?_cons_zero, List.getElem?_cons_succ, Act.put, List.setIfInBounds_toArray, List.set_cons_zero, List.set_cons_succ]
 obtain ⟨hg0, ho0⟩ := HO 12 _ _ _ rfl
 clear HO HN
 generalize ρ 12 = gx at hg0 ho0 ⊢
 clear ρ
 have gI : Keeps w [(gx, .cells #[.int .u64 fx.a, .int .u64 fx.b, .int .u64 fx.c, .int .u64 fx.d, .int .u64 fx.e] 36), (w.heap.size, .cells bP 38), (x2.heap.size, .cells #[.int .u64 fy.a, .int .u64 fy.b, .int .u64 fy.c, .int .u64 fy.d, .int .u64 fy.e] 36)] w' := ak ho0 (⟨HK.1, fun q hq => HK.2 q (by simp only [List.mem_cons, List.not_mem_nil, or_false] at hq ⊢; rcases hq with rfl | rfl <;> simp)⟩)
 have zZ : w.heap.size < gx := Nat.lt_of_lt_of_le (aC _ (List.mem_cons_self)) hg0
 have Aa : x2.heap.size < gx := Nat.lt_of_lt_of_le (aC _ (List.mem_cons_of_mem _ (List.mem_cons_self))) hg0
 obtain ⟨x4, rfl, hk4, lT, rU, yL, Dj⟩ := gI.eG
 have HB4 : Hid (Below w.heap.size w x4) := hk4.below
 clear HK aC gI hk4 ho0
 have LU : w.heap.size ≤ gx := Nat.le_trans HW0 hg0
 clear hg0
 clear HW0
 go_wp2_with fail
 refine (C8.out _).mono ?_
 rintro e y5 ⟨rfl, hb5⟩
 obtain ⟨x5, rfl, hc5, rP, Ae, l51, Gi⟩ := bZ (b0 := w.heap.size) (b1 := x2.heap.size) (b2 := gx) hb5 rfl ob ob ob
 have kR := aZ HB4.out hc5
 clear hb5 hc5
 try simp only [eF] at rP
 go_wp2_with fail
 refine st1 w [7, 8] 9 (ak (b := w.heap.size) ob (ak (b := x2.heap.size) ob (ak (b := gx) ob (aO (pl kR.out))))) (fun HS => ?_)
 refine tk3 0 (some 62) HS (h := ?_)
 refine tk3 1 (some 63) HS (h := ?_)
 refine tk3 2 (some 64) HS (h := ?_)
 refine tk3 3 (some 65) HS (h := ?_)
 refine tk3 4 (some 66) HS (h := ?_)
 refine dH 5 (some 67) (h := fun K hK => ?_)
 go_simp
 refine (C9.out _).mono ?_
 rintro e y ⟨rfl, hb⟩
 refine hK.out _ _ (HS.step hb rfl) ?_
 clear HS hb
 intro HS
 refine tk3 6 (some 68) HS (h := ?_)
 obtain ⟨x6, rfl, hk6, yH, Gj, Jk, Kz⟩ := HS.eG
 have mg : Hid (Below w.heap.size w x6) := hk6.below
 clear HS hk6
 refine pO 7 none (h := fun K hK => ?_)
 refine (if_pos (by rfl)).mpr ?_
 refine gB 38 _ _ rfl (w.heap.size) (#[.int .u64 fn.a, .int .u64 fn.b, .int .u64 fn.c, .int .u64 fn.d, .int .u64 fn.e, .int .u64 fy.a, .int .u64 fy.b, .int .u64 fy.c, .int .u64 fy.d, .int .u64 fy.e, .int .u64 1, .int .u64 0, .int .u64 0, .int .u64 0, .int .u64 0, .int .u64 ft.a, .int .u64 ft.b, .int .u64 ft.c, .int .u64 ft.d, .int .u64 ft.e]) rfl rfl 38 (bP) ob (by kernel_rfl) rfl (eH (Pn.mk fn fy ⟨1, 0, 0, 0, 0⟩ ft)) ?_
 refine hK.out _ _ ?_
 refine pO 8 (some 3) (h := fun K hK => ?_)
 go_simp
 refine hK.out _ _ ?_
 refine done_ (by kernel_rfl) ?_
 go_wp2_with fail
 exact bodyPost_ret (v := .tuple #[(Pn.mk fn fy ⟨1, 0, 0, 0, 0⟩ ft).v, .int .i64 0]) (cu rfl rfl (fD (b := w.heap.size) (Pn.mk fn fy ⟨1, 0, 0, 0, 0⟩ ft) (eY (by simp only [World.size_alloc, aA]; omega))) rfl) rfl ⟨rfl, pl mg.out⟩
end
end Go.Proofs.YtehfkbaendajbaaGreatDoor
