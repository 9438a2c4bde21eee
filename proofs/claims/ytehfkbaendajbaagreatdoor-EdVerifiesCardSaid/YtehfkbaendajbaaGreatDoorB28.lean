/-
  Shared, part 28: walks and plain laws; each theorem states its own conditions.
-/
import Derived.Test.YtehfkbaendajbaaGreatDoorB27
import Derived.Lib.Hide
import Derived.StillTailTactics
namespace Go.Proofs.YtehfkbaendajbaaGreatDoor
set_option linter.unusedSimpArgs false
set_option linter.unusedVariables false
set_option maxRecDepth 100000
set_option maxHeartbeats 8000000
section
open Go.RowKit Go.Proofs.YtehfkbaendajbaaGreatDoorW.PrintLast
theorem Qu (T v M : Nat) (hT : T < M) : (T + v * M) % (M * 128) = T + v % 128 * M ∧ (T + v * M) / (M * 128) = v / 128 := by
 have h1 : (T + v * M) % M = T := by rw [Nat.add_mul_mod_self_right, Nat.mod_eq_of_lt hT]
 have h2 : (T + v * M) / M = v := by rw [Nat.add_mul_div_right _ _ (by omega), Nat.div_eq_of_lt hT, Nat.zero_add]
 constructor
 · rw [Nat.mod_mul, h1, h2, Nat.mul_comm]
 · rw [← Nat.div_div_eq_div_mul, h2]
theorem Iw (l : List Nat) (x : Nat) : bW (l ++ [x]) = bW l + x * 256 ^ l.length := by
 have h := xC (l ++ [x]) l.length (by simp)
 have h1 : (l ++ [x]).take (l.length + 1) = l ++ [x] := List.take_of_length_le (by simp)
 have h2 : (l ++ [x]).take l.length = l := List.take_left' rfl
 rw [h1, h2] at h
 rw [h]
 simp
theorem uw (D : Nat) (hD : D = 2 ^ 255) (bs : List Nat) (hl : bs.length = 32) (hb : ∀ z ∈ bs, z < 256) : bW (bs.set 31 (bs.getD 31 0 % 128)) = bW bs % D ∧ bW bs / D = bs.getD 31 0 / 128 := by
 obtain ⟨T, hT⟩ : ∃ T, T = bs.take 31 := ⟨_, rfl⟩
 have hTl : T.length = 31 := by rw [hT, List.length_take]; omega
 obtain ⟨v, hv⟩ : ∃ v, v = bs.getD 31 0 := ⟨_, rfl⟩
 have e1 : bs = T ++ [v] := by
  conv => lhs; rw [← List.take_append_drop 31 bs]
  rw [hT, hv, List.drop_eq_getElem_cons (by omega), List.drop_of_length_le (by omega), List.getD_eq_getElem?_getD, List.getElem?_eq_getElem (by omega)]
  rfl
 have e2 : bs.set 31 (v % 128) = T ++ [v % 128] := by
  conv => lhs; rw [e1]
  rw [List.set_append_right _ _ (by omega), hTl]
  rfl
 rw [← hv, e2]
 have h3 : bW bs = bW T + v * 256 ^ 31 := by rw [e1, Iw, hTl]
 rw [Iw, hTl, h3]
 have hlt : bW T < 256 ^ 31 := by
  have h := oD T (fun z hz => hb z (by rw [hT] at hz; exact List.mem_of_mem_take hz))
  rw [hTl] at h
  exact h
 have e3 : D = 256 ^ 31 * 128 := by rw [hD]
 obtain ⟨M, hM⟩ : ∃ M, M = 256 ^ 31 := ⟨_, rfl⟩
 rw [← hM] at e3 hlt ⊢
 rw [e3]
 have := Qu (bW T) v M hlt
 exact ⟨this.1.symm, this.2⟩
theorem tX (n : Nat) : small n = ⟨0, 0, 0, 0, 0⟩ ↔ n % Num.p = 0 := by
 constructor
 · intro h
   have h1 := jh n
   rw [h] at h1
   exact h1.symm
 · intro h
   rw [← uH, h]
   rfl
theorem OJ (f : Fn) (h : f = ⟨0, 0, 0, 0, 0⟩) : ((f.a : Int) == 0 && ((f.b : Int) == 0 && ((f.c : Int) == 0 && ((f.d : Int) == 0 && (f.e : Int) == 0)))) = true := by subst h; rfl
theorem XI (f : Fn) (h : f ≠ ⟨0, 0, 0, 0, 0⟩) : ((f.a : Int) == 0 && ((f.b : Int) == 0 && ((f.c : Int) == 0 && ((f.d : Int) == 0 && (f.e : Int) == 0)))) = false := U7 h
theorem IJ : Eo.lt 18446744073709551616 := by unfold Fn.lt; decide
theorem II : fe Eo.val = fe dN := by decide +kernel
theorem MR (n m Y : Nat) (hn : n = bW (iq 253 15)) (hm : m = bW (iq 251 31)) (hY : Y < Num.p) : ∃ fs fo fu fm fv : Fn, ∃ okb : Bool, okb = decide (cO n m (dU Y) (dV Y)) ∧ Hid (∀ w, Calls Tryz.prog 54 #[(small Y).v] w fun e w' => e = .returned fs.v ∧ Below w.heap.size w w') ∧ Hid (∀ w, Calls Tryz.prog 57 #[.int .u64 1] w fun e w' => e = .returned fo.v ∧ Below w.heap.size w w') ∧ Hid (∀ w, Calls Tryz.prog 56 #[fs.v, fo.v] w fun e w' => e = .returned fu.v ∧ Below w.heap.size w w') ∧ Hid (∀ w, Calls Tryz.prog 38 #[.agg #[.int .u64 929955233495203, .int .u64 466365720129213, .int .u64 1662059464998953, .int .u64 2033849074728123, .int .u64 1442794654840575], fs.v] w fun e w' => e = .returned fm.v ∧ Below w.heap.size w w') ∧ Hid (∀ w, Calls Tryz.prog 58 #[fm.v, fo.v] w fun e w' => e = .returned fv.v ∧ Below w.heap.size w w') ∧ Hid (∀ w, Calls Tryz.prog 55 #[fu.v, fv.v] w fun e w' => e = .returned (.tuple #[(small (dS n m (dU Y) (dV Y))).v, .bool okb]) ∧ Below w.heap.size w w') := by
 obtain ⟨fs, hs⟩ : ∃ z, z = small ((small Y).val * (small Y).val) := ⟨_, rfl⟩
 have ls : fs.lt 18446744073709551616 := by rw [hs]; exact aF _
 obtain ⟨fo, ho⟩ : ∃ z, z = small 1 := ⟨_, rfl⟩
 have lo : fo.lt 18446744073709551616 := by rw [ho]; exact aF _
 obtain ⟨fu, hu⟩ : ∃ z, z = small (dD fs.val fo.val) := ⟨_, rfl⟩
 have lu : fu.lt 18446744073709551616 := by rw [hu]; exact aF _
 obtain ⟨fm, hfm⟩ : ∃ z, z = small (Eo.val * fs.val) := ⟨_, rfl⟩
 have lm : fm.lt 18446744073709551616 := by rw [hfm]; exact aF _
 obtain ⟨fv, hv⟩ : ∃ z, z = small (fm.val + fo.val) := ⟨_, rfl⟩
 have lv : fv.lt 18446744073709551616 := by rw [hv]; exact aF _
 have fes : fe fs.val = fe Y * fe Y := by rw [hs, aU, aS, aU]
 have feo : fe fo.val = 1 := by rw [ho, aU, iK]
 have hU : fu.val % Num.p = dU Y % Num.p := by
  refine wO.mp ?_
  rw [hu, aU, agJ, fes, feo, MN]
 have hV : fv.val % Num.p = dV Y % Num.p := by
  refine wO.mp ?_
  rw [hv, aU, iJ, hfm, aU, aS, fes, feo, GY, II]
 refine ⟨fs, fo, fu, fm, fv, _, rfl, Lib.hid (jR (small Y) fs _ (aF _) hs rfl), Lib.hid (fun w => by rw [ho]; exact yA 1 (by decide) w), Lib.hid (qI fs fo fu _ ls lo hu rfl), Lib.hid (gX Eo fs fm _ IJ ls hfm rfl), Lib.hid (pJ fm fo fv _ lm lo hv rfl), Lib.hid (fun w => ?_)⟩
 have h := Rz fu fv lu lv w
 rw [← hn, ← hm, tN hU hV] at h
 rw [show decide (cO n m (dU Y) (dV Y)) = decide (cO n m fu.val fv.val) from by simp only [(oL (n := n) (m := m) hU hV).1]]
 exact h
theorem xE (bs : List Nat) (hl : bs.length = 32) (hby : ∀ z ∈ bs, z < 256) : (bs.set 31 (bs.getD 31 0 % 128)).length = 32 ∧ ∀ z ∈ bs.set 31 (bs.getD 31 0 % 128), z < 256 := by
 refine ⟨by rw [List.length_set]; exact hl, fun z hz => ?_⟩
 rcases List.mem_or_eq_of_mem_set hz with h | h
 · exact hby z h
 · rw [h]; omega
theorem SN (D Y : Nat) (hD : D = 2 ^ 255) (bs : List Nat) (hl : bs.length = 32) (hby : ∀ z ∈ bs, z < 256) (hY : Y = bW bs % D) (hp : Y < Num.p) : Hid (∀ q cap w, Rd w .u8 (some ⟨q, 0, none⟩) (bs.set 31 (bs.getD 31 0 % 128)) → Calls Tryz.prog 53 #[.slice (some ⟨q, 0, none⟩) 32 cap] w fun e w' => e = .returned (.tuple #[(small Y).v, .int .i64 0]) ∧ Below w.heap.size w w') := Lib.hid fun q cap w hr => by
 have hN := (uw D hD bs hl hby).1
 have hL := xE bs hl hby
 have h := NY (some ⟨q, 0, none⟩) cap (bs.set 31 (bs.getD 31 0 % 128)) hL.1 hL.2 (by rw [hN, ← hY]; exact hp) w hr
 rw [hL.1, hN, ← hY] at h
 exact h
theorem Jy (D Y : Nat) (hD : D = 2 ^ 255) (bs : List Nat) (hl : bs.length = 32) (hby : ∀ z ∈ bs, z < 256) (hY : Y = bW bs % D) (hp : ¬ Y < Num.p) : Hid (∀ q cap w, Rd w .u8 (some ⟨q, 0, none⟩) (bs.set 31 (bs.getD 31 0 % 128)) → Calls Tryz.prog 53 #[.slice (some ⟨q, 0, none⟩) 32 cap] w fun e w' => e = .returned (.tuple #[(⟨0, 0, 0, 0, 0⟩ : Fn).v, .int .i64 30]) ∧ Below w.heap.size w w') := Lib.hid fun q cap w hr => by
 have hN := (uw D hD bs hl hby).1
 have hL := xE bs hl hby
 have hlt : Y < D := by rw [hY]; exact Nat.mod_lt _ (by rw [hD]; decide)
 have h := Jm (some ⟨q, 0, none⟩) cap (bs.set 31 (bs.getD 31 0 % 128)) hL.1 hL.2 (by rw [hN, ← hY]; exact ⟨Nat.le_of_not_lt hp, by rw [hD] at hlt; exact hlt⟩) w hr
 rw [hL.1] at h
 exact h
theorem YE : (Fn.mk 1 0 0 0 0).lt 18446744073709551616 := by unfold Fn.lt; decide
section
variable {n : Nat} [NeZero n]
theorem Ia (x : Fin n) : x * 1 = x := by grind
end
theorem KW : fe (Fn.val ⟨1, 0, 0, 0, 0⟩) = 1 := iK
theorem RN (x y : Nat) (P : EP) (fx fy ft : Fn) (lx : fx.lt 18446744073709551616) (ly : fy.lt 18446744073709551616) (ht : ft = small (fx.val * fy.val)) (hx : fe fx.val = P.x) (hy : fe fy.val = P.y) : (Pn.mk fx fy ⟨1, 0, 0, 0, 0⟩ ft).of P := by
 refine ⟨⟨lx, ly, ?_, ?_⟩, ?_, ?_, ?_, ?_⟩
 · exact YE
 · rw [ht]; exact aF _
 · show fe (Fn.val ⟨1, 0, 0, 0, 0⟩) ≠ 0
   exact nI.mpr (by decide)
 · show fe fx.val = P.x * fe (Fn.val ⟨1, 0, 0, 0, 0⟩)
   rw [KW, hx, Ia]
 · show fe fy.val = P.y * fe (Fn.val ⟨1, 0, 0, 0, 0⟩)
   rw [KW, hy, Ia]
 · show fe ft.val = P.x * P.y * fe (Fn.val ⟨1, 0, 0, 0, 0⟩)
   rw [KW, Ia, ht, aU, aS, hx, hy]
theorem DN (n m D : Nat) (hn : n = bW (iq 253 15)) (hm : m = bW (iq 251 31)) (hD : D = 2 ^ 255) (A : Option Addr) (c : Nat) (bs : List Nat) (hl : bs.length = 32) (hby : ∀ z ∈ bs, z < 256) (h : sK n m (bW bs)) : ∃ o : Pn, o.of (decP h) ∧ ∀ w, kT w → Rd w .u8 A bs → Calls Tryz.prog 25 #[.slice A 32 c] w fun e w' => e = .returned (.tuple #[o.v, .int .i64 0]) ∧ Below w.heap.size w w' := by
 obtain ⟨P, hP⟩ : ∃ P, P = decP h := ⟨_, rfl⟩
 have hx : P.x = fe (sO n m (bW bs)) := by rw [hP]; rfl
 have hy : P.y = fe (bW bs % D) := by rw [hP, hD]; rfl
 rw [← hP]
 unfold sO at hx
 obtain ⟨h1, h2, h3⟩ := h
 rw [← hD] at h1 h2 h3 hx
 have hdiv := (uw D hD bs hl hby).2
 obtain ⟨Y, hY⟩ : ∃ Y, Y = bW bs % D := ⟨_, rfl⟩
 rw [← hY] at h1 h2 h3 hx hy
 rw [hdiv] at h3 hx
 obtain ⟨fs, fo, fu, fm, fv, okb, hok, C2, C3, C4, C5, C6, C7⟩ := MR n m Y hn hm h1
 rw [decide_eq_true h2] at hok
 subst hok
 have CD := SN D Y hD bs hl hby hY h1
 obtain ⟨R, hR⟩ : ∃ R, R = dS n m (dU Y) (dV Y) := ⟨_, rfl⟩
 rw [← hR] at h3 hx C7
 have ZG : bs.getD 31 0 < 256 := getD_lt hl hby 31 (by decide)
 by_cases hv : bs.getD 31 0 ≤ 127
 · rw [if_neg (by omega)] at hx
   refine ⟨Pn.mk (small R) (small Y) ⟨1, 0, 0, 0, 0⟩ (small ((small R).val * (small Y).val)), RN R Y P _ _ _ (aF _) (aF _) rfl (by rw [aU, hx]) (by rw [aU, hy]), fun w hg hr => ?_⟩
   exact adI (small Y) A c bs hl hby _ rfl CD fs fo fu fm fv (small R) (small R) _ C2 C3 C4 C5 C6 C7 hv (Lib.hid (gX (small R) (small Y) _ _ (aF _) (aF _) rfl rfl)) w hg hr
 · rw [if_pos (by omega)] at hx
   have hz : small R ≠ ⟨0, 0, 0, 0, 0⟩ := fun hz => h3 ⟨by omega, (tX R).mp hz⟩
   refine ⟨Pn.mk (small (dD 0 (small R).val)) (small Y) ⟨1, 0, 0, 0, 0⟩ (small ((small (dD 0 (small R).val)).val * (small Y).val)), RN R Y P _ _ _ (aF _) (aF _) rfl (by rw [aU, lG, aU, hx, lG]) (by rw [aU, hy]), fun w hg hr => ?_⟩
   exact adH (small Y) A c bs hl hby _ rfl CD fs fo fu fm fv (small R) (small (dD 0 (small R).val)) _ C2 C3 C4 C5 C6 C7 (by omega) (XI _ hz) (Lib.hid (EO (small R) _ _ (aF _) rfl rfl)) (Lib.hid (gX (small (dD 0 (small R).val)) (small Y) _ _ (aF _) (aF _) rfl rfl)) w hg hr
theorem Gl (n m D : Nat) (hn : n = bW (iq 253 15)) (hm : m = bW (iq 251 31)) (hD : D = 2 ^ 255) (A : Option Addr) (c : Nat) (bs : List Nat) (hl : bs.length = 32) (hby : ∀ z ∈ bs, z < 256) (h : ¬ sK n m (bW bs)) : ∀ w, kT w → Rd w .u8 A bs → Calls Tryz.prog 25 #[.slice A 32 c] w fun e w' => e = .returned (.tuple #[dh.v, .int .i64 40]) ∧ Below w.heap.size w w' := fun w hg hr => by
 unfold sK at h
 rw [← hD] at h
 have hdiv := (uw D hD bs hl hby).2
 obtain ⟨Y, hY⟩ : ∃ Y, Y = bW bs % D := ⟨_, rfl⟩
 rw [← hY, hdiv] at h
 by_cases h1 : Y < Num.p
 · obtain ⟨fs, fo, fu, fm, fv, okb, hok, C2, C3, C4, C5, C6, C7⟩ := MR n m Y hn hm h1
   have CD := SN D Y hD bs hl hby hY h1
   obtain ⟨R, hR⟩ : ∃ R, R = dS n m (dU Y) (dV Y) := ⟨_, rfl⟩
   rw [← hR] at h C7
   by_cases h2 : cO n m (dU Y) (dV Y)
   · rw [decide_eq_true h2] at hok
     subst hok
     have h3 : bs.getD 31 0 / 128 = 1 ∧ R % Num.p = 0 := Classical.byContradiction fun hc => h ⟨h1, h2, hc⟩
     exact adK (small Y) A c bs hl hby _ rfl CD fs fo fu fm fv (small R) (small R) (small R) C2 C3 C4 C5 C6 C7 (by omega) (OJ _ ((tX R).mpr h3.2)) w hg hr
   · rw [decide_eq_false h2] at hok
     subst hok
     exact adG (small Y) A c bs hl hby _ rfl CD fs fo fu fm fv (small R) (small R) (small R) C2 C3 C4 C5 C6 C7 w hg hr
 · exact adF ⟨0, 0, 0, 0, 0⟩ A c bs hl hby _ rfl (Jy D Y hD bs hl hby hY h1) w hg hr
end
section
open Go.RowKit Go.Proofs.YtehfkbaendajbaaGreatDoorW.PrintLast
theorem JX (p : Pn) (a b : Fn) (C1 : Hid (∀ w, Calls Tryz.prog 59 #[p.x.v] w fun e w' => e = .returned a.v ∧ Below w.heap.size w w')) (C2 : Hid (∀ w, Calls Tryz.prog 59 #[p.t.v] w fun e w' => e = .returned b.v ∧ Below w.heap.size w w')) (w : World) :
 Calls Tryz.prog 29 #[p.v] w fun e w' => e = .returned (Pn.mk a p.y p.z b).v ∧ Below w.heap.size w w' := by
 go_enter Tryz.func29, Tryz.ntmps29
 go_wp2_with fail
 refine st1 w [7, 8, 9] 10 (ak (b := w.heap.size) ob (ak (b := w.heap.size + 1) ob (aO (pl (Below.refl _ _))))) (fun HS => ?_)
 refine tk2 0 (some 3) HS (h := ?_)
 refine tk2 1 (some 4) HS (h := ?_)
 refine tk2 3 (some 6) HS (h := ?_)
 refine tk2 4 (some 7) HS (h := ?_)
 refine dH 2 (some 5) (h := fun K hK => ?_)
 go_simp
 refine (C1.out _).mono ?_
 rintro e y ⟨rfl, hb⟩
 refine hK.out _ _ (HS.step hb rfl) ?_
 clear HS hb
 intro HS
 refine tk2 6 (some 9) HS (h := ?_)
 refine dH 5 (some 8) (h := fun K hK => ?_)
 go_simp
 refine (C2.out _).mono ?_
 rintro e y ⟨rfl, hb⟩
 refine hK.out _ _ (HS.step hb rfl) ?_
 clear HS hb
 intro HS
 obtain ⟨x1, rfl, hk1, hz1, l10, nG⟩ := HS.iL
 have HB1 : Hid (Below w.heap.size w x1) := hk1.below
 clear HS hk1
 refine pO 7 none (h := fun K hK => ?_)
 go_simp
 refine hK.out _ _ ?_
 refine pO 8 (some 10) (h := fun K hK => ?_)
 go_simp
 refine hK.out _ _ ?_
 refine pO 9 none (h := fun K hK => ?_)
 go_simp
 refine hK.out _ _ ?_
 refine done_ (by kernel_rfl) ?_
 iterate 3 (go_step)
 refine wp_region_lit ?_
 refine eu 38 (.tmp 1) rfl rfl (w.heap.size) 0 rfl [.int .u64 a.a, .int .u64 a.b, .int .u64 a.c, .int .u64 a.d, .int .u64 a.e, .int .u64 p.y.a, .int .u64 p.y.b, .int .u64 p.y.c, .int .u64 p.y.d, .int .u64 p.y.e, .int .u64 p.z.a, .int .u64 p.z.b, .int .u64 p.z.c, .int .u64 p.z.d, .int .u64 p.z.e, .int .u64 b.a, .int .u64 b.b, .int .u64 b.c, .int .u64 b.d, .int .u64 b.e] #[.int .u64 a.a, .int .u64 a.b, .int .u64 a.c, .int .u64 a.d, .int .u64 a.e, .int .u64 p.y.a, .int .u64 p.y.b, .int .u64 p.y.c, .int .u64 p.y.d, .int .u64 p.y.e, .int .u64 p.z.a, .int .u64 p.z.b, .int .u64 p.z.c, .int .u64 p.z.d, .int .u64 p.z.e, .int .u64 b.a, .int .u64 b.b, .int .u64 b.c, .int .u64 b.d, .int .u64 b.e] 38 ob (by kernel_rfl) (by kernel_rfl) (by kernel_rfl) ?_
 simp only [Act.put, List.setIfInBounds_toArray, List.set_cons_zero, List.set_cons_succ]
 refine bf 38 (.tmp 2) (.tmp 11) rfl rfl (w.heap.size + 1) 0 #[.int .u64 a.a, .int .u64 a.b, .int .u64 a.c, .int .u64 a.d, .int .u64 a.e, .int .u64 p.y.a, .int .u64 p.y.b, .int .u64 p.y.c, .int .u64 p.y.d, .int .u64 p.y.e, .int .u64 p.z.a, .int .u64 p.z.b, .int .u64 p.z.c, .int .u64 p.z.d, .int .u64 p.z.e, .int .u64 b.a, .int .u64 b.b, .int .u64 b.c, .int .u64 b.d, .int .u64 b.e] rfl rfl 38 bP #[.int .u64 a.a, .int .u64 a.b, .int .u64 a.c, .int .u64 a.d, .int .u64 a.e, .int .u64 p.y.a, .int .u64 p.y.b, .int .u64 p.y.c, .int .u64 p.y.d, .int .u64 p.y.e, .int .u64 p.z.a, .int .u64 p.z.b, .int .u64 p.z.c, .int .u64 p.z.d, .int .u64 p.z.e, .int .u64 b.a, .int .u64 b.b, .int .u64 b.c, .int .u64 b.d, .int .u64 b.e] ob (by kernel_rfl) (by kernel_rfl) (eH (Pn.mk a p.y p.z b)) (by kernel_rfl) ?_
 simp only [Act.put, List.setIfInBounds_toArray, List.set_cons_zero, List.set_cons_succ]
 refine wpList_nil ?_
 go_wp2_with fail
 refine bodyPost_ret (v := (Pn.mk a p.y p.z b).v) (fA rfl rfl (fD (Pn.mk a p.y p.z b) ob)) rfl ⟨rfl, (pl HB1.out)⟩
end
section
open Go.RowKit Go.Proofs.YtehfkbaendajbaaGreatDoorW.PrintLast
section
variable {n : Nat} [NeZero n]
theorem adS (d x y z X Y T : Fin n) (h : y*y - x*x = 1 + d*x*x*y*y) (hX : X = x * z) (hY : Y = y * z) (hT : T = x * y * z) : X * Y = z * T ∧ Y * Y - X * X = z * z + d * (T * T) := by
 subst hX hY hT
 constructor
 · grind
 · have : y * z * (y * z) - x * z * (x * z) = (y*y - x*x) * (z * z) := by grind
   rw [this, h]
   grind
end
def Pn.on (p : Pn) : Bool := !decide (fe p.z.val = 0) && (decide (fe p.x.val * fe p.y.val = fe p.z.val * fe p.t.val) && decide (fe p.y.val * fe p.y.val - fe p.x.val * fe p.x.val = fe p.z.val * fe p.z.val + fe dN * (fe p.t.val * fe p.t.val)))
theorem Pn.of.on {p : Pn} {P : EP} (h : p.of P) : p.on = true := by
 obtain ⟨_, hz, hX, hY, hT⟩ := h
 have h1 := adS Tf.d P.x P.y (fe p.z.val) _ _ _ P.on hX hY hT
 unfold Pn.on
 rw [decide_eq_false hz, decide_eq_true h1.1, decide_eq_true (show _ = fe p.z.val * fe p.z.val + fe dN * (fe p.t.val * fe p.t.val) from h1.2)]
 rfl
theorem Rt (p : Pn) (P : EP) (hp : p.of P) : ∃ o : Pn, o.of (-P) ∧ ∀ w, Calls Tryz.prog 29 #[p.v] w fun e w' => e = .returned o.v ∧ Below w.heap.size w w' := by
 have lp := hp.1
 have h := aaV P hp.2
 refine ⟨Pn.mk (small (dD 0 p.x.val)) p.y p.z (small (dD 0 p.t.val)), ⟨⟨aF _, lp.2.1, lp.2.2.1, aF _⟩, ?_⟩, fun w => JX p _ _ (Lib.hid (EO p.x _ _ lp.1 rfl rfl)) (Lib.hid (EO p.t _ _ lp.2.2.2 rfl rfl)) w⟩
 show LM (fe (small (dD 0 p.x.val)).val) (fe p.y.val) (fe p.z.val) (fe (small (dD 0 p.t.val)).val) (-P)
 rw [aU, aU, lG, lG]
 exact h
end
end Go.Proofs.YtehfkbaendajbaaGreatDoor
