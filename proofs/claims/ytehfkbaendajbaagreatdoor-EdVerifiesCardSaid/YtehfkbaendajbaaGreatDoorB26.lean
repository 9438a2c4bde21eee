/-
  Shared, part 26: walks and plain laws; each theorem states its own conditions.
-/
import Derived.Test.YtehfkbaendajbaaGreatDoorB20
import Derived.Test.YtehfkbaendajbaaGreatDoorB21
import Derived.Test.YtehfkbaendajbaaGreatDoorB25
namespace Go.Proofs.YtehfkbaendajbaaGreatDoor
set_option linter.unusedSimpArgs false
set_option linter.unusedVariables false
set_option maxRecDepth 100000
set_option maxHeartbeats 8000000
section
open Go.RowKit Go.Proofs.YtehfkbaendajbaaGreatDoorW.PrintLast
structure QH where
 A : Option Addr
 c : Nat
 bs : List Nat
def QH.ok (t : QH) (w : World) : Prop := Rd w .u8 t.A t.bs ∧ (∀ b off, t.A = some ⟨b, off, none⟩ → 0 < t.bs.length → b < w.heap.size) ∧ ∀ z ∈ t.bs, z < 256
abbrev QH.v (t : QH) : Value := .slice t.A t.bs.length t.c
def Xg (w : World) (g o : Nat) (l : List QH) : Prop := ∀ i, (h : i < l.length) → w.cell? ⟨g, o + i, none⟩ = some (l[i]'h).v ∧ (l[i]'h).ok w
def kK (l : List QH) : List Nat := l.flatMap QH.bs
theorem CQ (l : List QH) (i : Nat) (h : i < l.length) : kK (l.take (i + 1)) = kK (l.take i) ++ l[i].bs := by
 unfold kK
 rw [List.take_succ_eq_append_getElem h, List.flatMap_append]
 simp
theorem Wj (l : List QH) (i : Nat) : (kK (l.take i)).length ≤ (kK l).length := by
 unfold kK
 conv => rhs; rw [← List.take_append_drop i l, List.flatMap_append, List.length_append]
 omega
theorem Jg {w : World} {g o : Nat} {l : List QH} (h : Xg w g o l) (i : Nat) (z : Nat) (hz : z ∈ kK (l.take i)) : z < 256 := by
 unfold kK at hz
 obtain ⟨t, ht, hz⟩ := List.mem_flatMap.mp hz
 obtain ⟨j, hj, rfl⟩ := List.mem_iff_getElem.mp (List.mem_of_mem_take ht)
 exact (h j hj).2.2.2 z hz
theorem UQ (L i : Nat) (hi : i < L) (h : i < 1001) : ((L : Int) - intOf (.int .i64 (wrap64 ((i : Int) + 1)))).toNat < ((L : Int) - intOf (.int .i64 (i : Int))).toNat := by
 have hw : wrap64 ((i : Int) + 1) = ((i + 1 : Nat) : Int) := by unfold wrap64; omega
 rw [hw]
 show ((L : Int) - ((i + 1 : Nat) : Int)).toNat < ((L : Int) - (i : Int)).toNat
 omega
theorem Xc {B : Nat} {w : World} {g : Nat} (hB : B ≤ g) (h : w.heap[g]? = some (.cells (dJ 0 (.slice none 0 0) (fE qC) (fE aV)) 131)) : Xb B w g [] := ⟨hB, .slice none 0 0, h, gu.nil _ _, by simp [Value.ownBlock]⟩
theorem Yo (l : List QH) (gl ol cl : Nat) (hl : (kK l).length ≤ 1048576) (hsm : l.length ≤ 1000) (w : World) (hk : jm w) (hs : ig w) (htx : Xg w gl ol l) :
 Calls Tryz.prog 40 #[.slice (some ⟨gl, ol, none⟩) l.length cl] w fun e w' => (∃ b, w.heap.size ≤ b ∧ e = .returned (.slice (some ⟨b, 0, none⟩) 64 64) ∧ w'.heap[b]? = some (.cells (bF (Ai aV (kK l))) 5)) ∧ Below w.heap.size w w' := by
 obtain ⟨B, hB⟩ : ∃ z, z = w.heap.size := ⟨_, rfl⟩
 rw [← hB]
 have HB0 := Lib.hid hB
 have HT := Lib.hid htx
 have su := Lib.hid hk
 have HGK := Lib.hid hk.1
 have QY := Lib.hid hs
 have HLen := Lib.hid hl
 have HSm := Lib.hid hsm
 obtain ⟨k, hkl⟩ : ∃ z, z = l.length := ⟨_, rfl⟩
 rw [← hkl]
 have HK := Lib.hid hkl
 clear hB htx hk hs hl hkl hsm
 go_enter Tryz.func40, Tryz.ntmps40
 go_wp2_with fail
 refine (aci _ QY.out).mono ?_
 rintro e y ⟨⟨gh, hgh, rfl, hob⟩, hb⟩
 have HH0 : Hid (Below B w y ∧ Xb B y gh (kK (l.take 0))) := Lib.hid ⟨by rw [HB0.out]; exact hb, Xc (by rw [HB0.out]; exact hgh) hob⟩
 have amD : B ≤ gh := by rw [HB0.out]; exact hgh
 clear hob hb hgh
 go_wp2_with fail
 go_loopw [13] (fun iv wr => ∃ (i : Nat), iv = .int .i64 (i : Int) ∧ Hid (Below B w wr ∧ i ≤ k ∧ Xb B wr gh (kK (l.take i)))) (fun iv _ => (k - intOf iv).toNat)
 case atStart => exact ⟨0, rfl, HH0.out.1, Nat.zero_le _, HH0.out.2⟩
 case round =>
  obtain ⟨i, rfl, J⟩ := hrel
  by_cases hi : i < k
  · have OW : (i : Int) < k := by omega
    have hil : i < l.length := by have := HK.out; omega
    obtain ⟨t, ht⟩ : ∃ z, z = l[i] := ⟨_, rfl⟩
    have hcell : wr.cell? ⟨gl, ol + i, none⟩ = some (.slice t.A t.bs.length t.c) := by
     have h1 := (HT.out i hil).1
     have h2 := World.block_lt_of_cell? w _ h1
     rw [ht]
     exact (J.out.1.cell (p := ⟨gl, ol + i, none⟩) (by rw [HB0.out]; exact h2)).trans h1
    have HTx := Lib.hid ht
    clear ht
    go_wp2_with fail
    have hle : (kK (l.take i)).length + t.bs.length ≤ 1048576 := by
     have h1 := congrArg List.length (CQ l i hil)
     rw [List.length_append, ← HTx.out] at h1
     have := Wj l (i + 1)
     have := HLen.out
     omega
    refine (Wv B gh (kK (l.take i)) t.bs t.A t.c hle (fun z hz => Jg HT.out i z hz) (by rw [HTx.out]; exact (HT.out i hil).2.2.2) (fun b off h h0 => by rw [HB0.out]; exact (HT.out i hil).2.2.1 b off (by rw [← HTx.out]; exact h) (by rw [← HTx.out]; exact h0)) (by have := HGK.out; have := HB0.out; omega) (by have := HGK.out; have := HB0.out; omega) wr (by rw [HB0.out]; exact J.out.1.size) (su.out.low J.out.1 (by have := HGK.out; have := HB0.out; omega)) J.out.2.2 (by rw [HTx.out]; exact Rd.mono (HT.out i hil).2.1 J.out.1 (by rw [HB0.out]; exact Nat.le_refl _))).mono ?_
    rintro e y ⟨⟨rfl, hst2⟩, hb2⟩
    have HS2 : Hid (Below B w y ∧ i + 1 ≤ k ∧ Xb B y gh (kK (l.take (i + 1)))) := Lib.hid ⟨Below.trans J.out.1 hb2, hi, by rw [CQ l i hil, ← HTx.out]; exact hst2⟩
    clear hst2 hb2
    go_wp2_with fail
    go_roundw
    case rel => exact ⟨i + 1, congrArg (Value.int IntKind.i64) (by have := HK.out; have := HSm.out; unfold wrap64; omega), HS2.out⟩
    case measure => exact UQ k i hi (by have := HK.out; have := HSm.out; omega)
  · have OW : ((i : Int) < k) = False := eq_false (by omega)
    go_wp2_with fail
    have hall : kK (l.take i) = kK l := by rw [List.take_of_length_le (by have := HK.out; omega)]
    refine (acG B gh (kK l) HLen.out (fun z hz => Jg HT.out l.length z (by rw [List.take_of_length_le (Nat.le_refl _)]; exact hz)) wr (su.out.low J.out.1 (by have := HGK.out; have := HB0.out; omega)) (by rw [← hall]; exact J.out.2.2)).mono ?_
    rintro e y ⟨⟨b, hgb, rfl, hob⟩, hb2⟩
    have HS2 : Hid (Below B w y ∧ B ≤ b ∧ y.heap[b]? = some (.cells (bF (Ai aV (kK l))) 5)) := Lib.hid ⟨Below.trans J.out.1 (hb2.mono (by rw [HB0.out]; exact J.out.1.size)), Nat.le_trans (by rw [HB0.out]; exact J.out.1.size) hgb, hob⟩
    clear hob hb2 hgb
    go_wp2_with fail
    exact bodyPost_ret (v := .slice (some ⟨b, 0, none⟩) 64 64) (by simp [results, Tryz.results40, go_sem]) rfl ⟨⟨b, HS2.out.2.1, rfl, HS2.out.2.2⟩, HS2.out.1⟩
end
section
open Go.RowKit Go.Proofs.YtehfkbaendajbaaGreatDoorW.PrintLast
theorem EG (t : QH) : kK [t] = t.bs := by simp [kK]
theorem Wn {w w' : World} {g c : Nat} {A : Option Addr} {m : List Nat} {t : TypeId} (h : w'.heap[g]? = some (.cells #[.slice A m.length c] t)) (hr : Rd w .u8 A m) (hb : Below w.heap.size w w') (hA : ∀ b off, A = some ⟨b, off, none⟩ → b < w.heap.size) (hby : ∀ z ∈ m, z < 256) : Xg w' g 0 [⟨A, c, m⟩] := by
 intro i hi
 obtain rfl : i = 0 := by simp at hi; exact hi
 refine ⟨by simp [World.cell?, h], Rd.mono hr hb (Nat.le_refl _), fun b off e _ => Nat.lt_of_lt_of_le (hA b off e) hb.size, hby⟩
theorem Ce (m : List Nat) : (Ai aV m).length = 64 := NC 8 _
theorem aaR : ∀ k (x z : Nat), z ∈ zI k x → z < 256 := by
 intro k
 induction k with
 | zero => intro x z hx; cases hx
 | succ k ih =>
  intro x z hx
  rw [zI] at hx
  rcases List.mem_cons.mp hx with rfl | hx
  · exact Nat.mod_lt _ (by decide)
  · exact ih x z hx
theorem NH (m : List Nat) : ∀ z ∈ Ai aV m, z < 256 := by
 intro z hz
 unfold Ai V8.out at hz
 simp only [List.mem_append] at hz
 rcases hz with h | h | h | h | h | h | h | h <;> exact aaR _ _ _ h
theorem getD_lt {l : List Nat} {n : Nat} (hn : l.length = n) (h : ∀ z ∈ l, z < 256) (i : Nat) (hi : i < n) : l.getD i 0 < 256 := by
 rw [List.getD_eq_getElem?_getD, List.getElem?_eq_getElem (by omega)]
 exact h _ (List.getElem_mem _)
theorem aaO (a : Nat) (h : a < 256) : bits BinOp.and IntKind.u8 (a : Int) 248 = ((a / 8 * 8 : Nat) : Int) := (by decide +kernel : ∀ a : Fin 256, bits BinOp.and IntKind.u8 ((a.1 : Nat) : Int) 248 = ((a.1 / 8 * 8 : Nat) : Int)) ⟨a, h⟩
theorem yC (a : Nat) (h : a < 256) : bits BinOp.and IntKind.u8 (a : Int) 127 = ((a % 128 : Nat) : Int) := (by decide +kernel : ∀ a : Fin 256, bits BinOp.and IntKind.u8 ((a.1 : Nat) : Int) 127 = ((a.1 % 128 : Nat) : Int)) ⟨a, h⟩
theorem afp (a : Nat) (h : a < 256) : bits BinOp.or IntKind.u8 ((a % 128 : Nat) : Int) 64 = ((a % 64 + 64 : Nat) : Int) := (by decide +kernel : ∀ a : Fin 256, bits BinOp.or IntKind.u8 ((a.1 % 128 : Nat) : Int) 64 = ((a.1 % 64 + 64 : Nat) : Int)) ⟨a, h⟩
theorem Ot (H : List Nat) (a b : Nat) {a1 b2 : Nat} (hl : H.length = 64) (ha : a = H.getD 0 0) (hb : b = H.getD 31 0) (h1 : a1 = a / 8 * 8) (h2 : b2 = b % 64 + 64) : (H.set 0 a1).set 31 b2 = kC H ++ H.drop 32 := by
 conv => lhs; rw [← List.take_append_drop 32 H]
 rw [List.set_append_left _ _ (by rw [List.length_take]; omega), List.set_append_left _ _ (by rw [List.length_set, List.length_take]; omega), h1, h2, ha, hb]
 rfl
theorem Ql (m : List Nat) (A : Option Addr) (c : Nat) (hl : m.length ≤ 1048576) (hby : ∀ z ∈ m, z < 256) (w : World) (hk : jm w) (hs : ig w) (hr : Rd w .u8 A m) (hA : ∀ b off, A = some ⟨b, off, none⟩ → b < w.heap.size) :
 Calls Tryz.prog 16 #[.slice A m.length c] w fun e w' => (∃ b, w.heap.size ≤ b ∧ e = .returned (.tuple #[.slice (some ⟨b, 0, none⟩) 32 32, .slice (some ⟨b, 32, none⟩) 32 32]) ∧ w'.heap[b]? = some (.cells (bF (kC (Ai aV m) ++ (Ai aV m).drop 32)) 5)) ∧ Below w.heap.size w w' := by
 obtain ⟨H, hH⟩ : ∃ z, z = Ai aV m := ⟨_, rfl⟩
 rw [← hH]
 have HH := Lib.hid hH
 have mJ := Lib.hid (And.intro hr hA)
 have HM := Lib.hid (And.intro hl hby)
 have su := Lib.hid hk
 have QY := Lib.hid hs
 clear hH hr hA hl hby hk hs
 go_enter Tryz.func16, Tryz.ntmps16
 go_wp2_with fail
 have HW : Hid (Below w.heap.size w (w.alloc (Obj.cells #[.slice A m.length c] 22))) := Lib.hid (pl (Below.refl _ _))
 have HTx : Hid (Xg (w.alloc (Obj.cells #[.slice A m.length c] 22)) w.heap.size 0 [⟨A, c, m⟩]) := Lib.hid (Wn ob mJ.out.1 HW.out (fun b off h => mJ.out.2 b off h) HM.out.2)
 refine (Yo [⟨A, c, m⟩] w.heap.size 0 1 (by rw [EG]; exact HM.out.1) (by simp) _ (su.out.low HW.out su.out.1) (QY.out.next HW.out) HTx.out).mono ?_
 rintro e y1 ⟨⟨gh, TK, rfl, alR⟩, hb1⟩
 have gI : Keeps w _ y1 := ak alR (aO (Below.trans (pl (Below.refl _ _)) (hb1.mono sz)))
 obtain ⟨x1, rfl, hk1, hz1, l10⟩ := gI.jE
 have HB1 : Hid (Below w.heap.size w x1) := hk1.below
 have HG1 : w.heap.size ≤ gh := by simp only [World.size_alloc, aA, World.size_drew, World.size_setCell] at TK; omega
 clear gI hk1 hb1 alR TK
 rw [EG, ← HH.out]
 obtain ⟨a, ha⟩ : ∃ z, z = H.getD 0 0 := ⟨_, rfl⟩
 obtain ⟨b, hb⟩ : ∃ z, z = H.getD 31 0 := ⟨_, rfl⟩
 have HL : Hid (H.length = 64 ∧ ∀ z ∈ H, z < 256) := Lib.hid (by rw [HH.out]; exact ⟨Ce m, NH m⟩)
 have hA0 : (bF H)[0]? = some (.int .u8 (a : Int)) := by rw [jr, ha, List.getD_eq_getElem?_getD, List.getElem?_eq_getElem (by have := HL.out.1; omega)]; rfl
 obtain ⟨a1, ha1⟩ : ∃ z, z = a / 8 * 8 := ⟨_, rfl⟩
 obtain ⟨b1, hb1⟩ : ∃ z, z = b % 128 := ⟨_, rfl⟩
 obtain ⟨b2, hb2⟩ : ∃ z, z = b % 64 + 64 := ⟨_, rfl⟩
 have hA1 : ((bF H).setIfInBounds 0 (.int .u8 (a1 : Int)))[31]? = some (.int .u8 (b : Int)) := by rw [kU, jr, hb, List.getElem?_set_ne (by decide), List.getD_eq_getElem?_getD, List.getElem?_eq_getElem (by have := HL.out.1; omega)]; rfl
 have HAB : Hid (a < 256 ∧ b < 256 ∧ a = H.getD 0 0 ∧ b = H.getD 31 0) := Lib.hid ⟨by rw [ha]; exact getD_lt HL.out.1 HL.out.2 0 (by decide), by rw [hb]; exact getD_lt HL.out.1 HL.out.2 31 (by decide), ha, hb⟩
 have e1 : bits BinOp.and IntKind.u8 (a : Int) 248 = (a1 : Int) := by rw [ha1]; exact aaO a HAB.out.1
 have e2 : bits BinOp.and IntKind.u8 (b : Int) 127 = (b1 : Int) := by rw [hb1]; exact yC b HAB.out.2.1
 have e3 : bits BinOp.or IntKind.u8 (b1 : Int) 64 = (b2 : Int) := by rw [hb1, hb2]; exact afp b HAB.out.2.1
 have HC := Lib.hid (And.intro ha1 hb2)
 clear ha hb ha1 hb1 hb2
 go_wp2_with fail
 refine st1 w [] 6 (ak (b := gh) ob (aO (pl HB1.out))) (fun HS => ?_)
 refine tk1 0 (some 20) HS (h := ?_)
 refine tk1 1 (some 21) HS (h := ?_)
 refine tk1 2 (some 22) HS (h := ?_)
 refine tk1 3 (some 23) HS (h := ?_)
 refine tk1 4 (some 2) HS (h := ?_)
 refine tk1 5 (some 3) HS (h := ?_)
 clear HS
 refine done_ (by kernel_rfl) ?_
 have HF : Hid ((x1.pin gh (.cells (((bF H).setIfInBounds 0 (.int .u8 (a1 : Int))).setIfInBounds 31 (.int .u8 (b2 : Int))) 5)).heap[gh]? = some (.cells (bF (kC H ++ H.drop 32)) 5)) := Lib.hid (by rw [← Ot H _ _ HL.out.1 HAB.out.2.2.1 HAB.out.2.2.2 HC.out.1 HC.out.2, ← kU, ← kU]; exact ob)
 go_wp2_with fail
 exact bodyPost_ret (v := .tuple #[.slice (some ⟨gh, 0, none⟩) 32 32, .slice (some ⟨gh, 32, none⟩) 32 32]) (by simp [results, Tryz.results16, go_sem]) rfl ⟨⟨gh, HG1, rfl, HF.out⟩, pl HB1.out⟩
end
section
open Go.RowKit Go.Proofs.YtehfkbaendajbaaGreatDoorW.PrintLast
section
variable {n : Nat} [NeZero n]
theorem Nb (a z q x : Fin n) (hx : x = a * z) (hq : z * q = 1) : x * q = a := by grind
end
theorem Xp (N y i : Nat) (hN : N = 2 ^ 255) (h : i < 31) : zV (y + N) i = zV y i := by
 unfold zV
 have e : (2 : Nat) ^ 255 = 256 ^ i * (256 * 2 ^ (247 - 8 * i)) := by
  rw [show (256 : Nat) = 2 ^ 8 from rfl, ← Nat.pow_mul, ← Nat.pow_add, ← Nat.pow_add]
  congr 1
  omega
 rw [hN, e, Nat.add_mul_div_left _ _ (Nat.pow_pos (by decide)), Nat.add_mul_mod_self_left]
theorem Zf (y M : Nat) (h0 : 0 < M) (h : y < 128 * M) : (y + M * 128) / M % 256 = y / M % 256 + 128 := by
 have : y / M < 128 := Nat.div_lt_of_lt_mul (by rw [Nat.mul_comm]; exact h)
 rw [Nat.add_mul_div_left _ _ h0]
 obtain ⟨c, hc⟩ : ∃ c, c = y / M := ⟨_, rfl⟩
 rw [← hc] at this ⊢
 omega
theorem aaU (N y : Nat) (hN : N = 2 ^ 255) (h : y < N) : zV (y + N) 31 = zV y 31 + 128 := by
 have e : (2 : Nat) ^ 255 = 256 ^ 31 * 128 := by decide
 unfold zV
 rw [hN] at h ⊢
 rw [e]
 exact Zf y _ (by decide) (by rw [Nat.mul_comm, ← e]; exact h)
theorem DZ (N y : Nat) (hN : N = 2 ^ 255) (h : y < N) : dw 32 (y + N) = (dw 32 y).set 31 (zV y 31 + 128) := by
 apply List.ext_getElem?
 intro i
 by_cases h31 : i = 31
 · subst h31
   rw [List.getElem?_set_self (by rw [kV]; decide)]
   unfold dw
   rw [List.getElem?_map, List.getElem?_range (by decide)]
   exact congrArg some (aaU N y hN h)
 · rw [List.getElem?_set_ne (Ne.symm h31)]
   unfold dw
   rw [List.getElem?_map, List.getElem?_map]
   by_cases hi : i < 31
   · rw [List.getElem?_range (by omega)]
     show some (zV _ i) = some (zV _ i)
     rw [Xp N y i hN hi]
   · rw [List.getElem?_eq_none (by rw [List.length_range]; omega)]
     rfl
theorem wJ (p : Pn) (P : EP) (hp : p.of P) (w : World) : Calls Tryz.prog 13 #[p.v] w fun e w' => (∃ b, w.heap.size ≤ b ∧ e = .returned (.slice (some ⟨b, 0, none⟩) 32 32) ∧ w'.heap[b]? = some (.cells (bF (iM P)) 5)) ∧ Below w.heap.size w w' := by
 obtain ⟨lp, hz0, hX, hY, hT⟩ := hp
 obtain ⟨n, hn⟩ : ∃ n, n = p.z.val ^ (Num.p - 2) := ⟨_, rfl⟩
 have hq : fe p.z.val * fe n = 1 := by rw [hn, ← aS, oh (inv_mul (nI.mp hz0)), iK]
 obtain ⟨z, hz⟩ : ∃ z, z = small n := ⟨_, rfl⟩
 have lz : z.lt 18446744073709551616 := by rw [hz]; exact aF _
 have fz : fe z.val = fe n := by rw [hz, aU]
 obtain ⟨y, hy⟩ : ∃ z', z' = small (p.y.val * z.val) := ⟨_, rfl⟩
 have ly : y.lt 18446744073709551616 := by rw [hy]; exact aF _
 have fy : fe y.val = P.y := by rw [hy, aU, aS, fz]; exact Nb _ _ _ _ hY hq
 obtain ⟨x, hx⟩ : ∃ z', z' = small (p.x.val * z.val) := ⟨_, rfl⟩
 have lx : x.lt 18446744073709551616 := by rw [hx]; exact aF _
 have fx : fe x.val = P.x := by rw [hx, aU, aS, fz]; exact Nb _ _ _ _ hX hq
 have ym : y.val % Num.p = P.y.val := congrArg Fin.val fy
 have xm : x.val % Num.p = P.x.val := congrArg Fin.val fx
 have C1 := Lib.hid (aaH p.z z n lp.2.2.1 hz (by rw [hn]))
 have C2 := Lib.hid (gX p.y z y _ lp.2.1 lz hy rfl)
 have C4 := Lib.hid (gX p.x z x _ lp.1 lz hx rfl)
 have C3 := Lib.hid (WR y (dw 32 P.y.val) ly (by rw [ym]))
 have hyl : P.y.val < 2 ^ 255 := Nat.lt_trans P.y.isLt Ve
 by_cases ho : P.x.val % 2 = 1
 · have C5 := Lib.hid (Ru x true lx (by rw [xm]; exact decide_eq_true ho))
   have := AX p z y x (dw 32 P.y.val) (zV P.y.val 31) (by unfold dw; rw [List.getElem?_map, List.getElem?_range (by decide)]; rfl) (by unfold zV; omega) C1 C2 C3 C4 C5 w
   rw [← DZ _ _ rfl hyl] at this
   unfold iM sV
   rw [ho, Nat.mul_one]
   exact this
 · have C5 := Lib.hid (Ru x false lx (by rw [xm]; exact decide_eq_false ho))
   have := AV p z y x (dw 32 P.y.val) C1 C2 C3 C4 C5 w
   unfold iM sV
   rw [show P.x.val % 2 = 0 by omega, Nat.mul_zero, Nat.add_zero]
   exact this
abbrev vw : Pn := Pn.mk ⟨1738742601995546, 1146398526822698, 2070867633025821, 562264141797630, 587772402128613⟩ ⟨1801439850948184, 1351079888211148, 450359962737049, 900719925474099, 1801439850948198⟩ ⟨1, 0, 0, 0, 0⟩ ⟨1841354044333475, 16398895984059, 755974180946558, 900171276175154, 1821297809914039⟩
theorem yD : vw.of iZ := by
 refine ⟨?_, ?_, ?_, ?_, ?_⟩
 · unfold Pn.lt Fn.lt; decide
 · exact nI.mpr (by decide)
 · exact Fin.ext (by decide +kernel)
 · exact Fin.ext (by decide +kernel)
 · exact Fin.ext (by decide +kernel)
def nU (w : World) : Prop := 2 < w.heap.size ∧ (∃ gt gf, w.heap[0]? = some (.cells #[.int .u64 1738742601995546, .int .u64 1146398526822698, .int .u64 2070867633025821, .int .u64 562264141797630, .int .u64 587772402128613] gt gf)) ∧ (∃ gt gf, w.heap[1]? = some (.cells #[.int .u64 1801439850948184, .int .u64 1351079888211148, .int .u64 450359962737049, .int .u64 900719925474099, .int .u64 1801439850948198] gt gf)) ∧ ∃ gt gf, w.heap[2]? = some (.cells #[.int .u64 1841354044333475, .int .u64 16398895984059, .int .u64 755974180946558, .int .u64 900171276175154, .int .u64 1821297809914039] gt gf)
theorem sH {w : World} {g : Nat} {o : Obj} (h : w.heap[g]? = some o) : g < w.heap.size := (Array.getElem?_eq_some_iff.mp h).1
theorem nU.next {w w' : World} (h : nU w) (hb : Below w.heap.size w w') : nU w' := by
 obtain ⟨h1, ⟨_, _, h2⟩, ⟨_, _, h3⟩, ⟨_, _, h4⟩⟩ := h
 exact ⟨Nat.lt_of_lt_of_le h1 hb.size, ⟨_, _, (hb.block _ (sH h2)).trans h2⟩, ⟨_, _, (hb.block _ (sH h3)).trans h3⟩, ⟨_, _, (hb.block _ (sH h4)).trans h4⟩⟩
theorem Rd.next {w w' : World} {k : IntKind} {A : Option Addr} {xs : List Nat} (h : Rd w k A xs) (hb : Below w.heap.size w w') : Rd w' k A xs := h.mono hb (Nat.le_refl _)
theorem yG (w : World) (h : nU w) : Calls Tryz.prog 14 #[] w fun e w' => e = .returned vw.v ∧ Below w.heap.size w w' := by
 obtain ⟨h1, ⟨t1, f1, h2⟩, ⟨t2, f2, h3⟩, ⟨t3, f3, h4⟩⟩ := h
 exact Hy t1 t2 t3 f1 f2 f3 w ⟨h1, h2, h3, h4⟩
theorem qm (w : World) : Calls Tryz.prog 15 #[] w fun e w' => e = .returned iR.v ∧ Below w.heap.size w w' := aao w
theorem Nr (l : List Nat) (h : ∀ b ∈ l, b < 256) (k : Nat) (hk : 2 * l.length ≤ k) : bW l / 16 ^ k = 0 := by
 refine Nat.div_eq_of_lt (Nat.lt_of_lt_of_le (oD l h) ?_)
 rw [show (256 : Nat) = 16 ^ 2 from rfl, ← Nat.pow_mul]
 exact Nat.pow_le_pow_right (by decide) hk
theorem KT (p q : Pn) (P Q : EP) (hp : p.of P) (hq : q.of Q) (A B : Option Addr) (c d : Nat) (ns ms : List Nat) (hn : ns.length ≤ 1000) (hm : ms.length ≤ 1000) (hbn : ∀ b ∈ ns, b < 256) (hbm : ∀ b ∈ ms, b < 256) : ∃ o : Pn, o.of (Pt.smul (bW ns) P + Pt.smul (bW ms) Q) ∧ ∀ w : World, kE w → Rd w .u8 A ns → Rd w .u8 B ms →
 Calls Tryz.prog 28 #[.slice A ns.length c, p.v, .slice B ms.length d, q.v] w fun e w' => e = .returned o.v ∧ Below w.heap.size w w' :=
 ⟨_, UR (bW ns) (bW ms) (2 * max ns.length ms.length) p q P Q hp hq (Nr ns hbn _ (by omega)) (Nr ms hbm _ (by omega)), fun w hg hrn hrm => acg p q hp.1 hq.1 A B c d ns ms hn hm hbn hbm w hg hrn hrm⟩
theorem key_eq (A : Option Addr) (c : Nat) (ns : List Nat) (hn : ns.length ≤ 1000) (hbn : ∀ b ∈ ns, b < 256) (w : World) (hg : kE w) (hb : nU w) (hr : Rd w .u8 A ns) :
 Calls Tryz.prog 17 #[.slice A ns.length c] w fun e w' => (∃ b, w.heap.size ≤ b ∧ e = .returned (.slice (some ⟨b, 0, none⟩) 32 32) ∧ w'.heap[b]? = some (.cells (bF (iM (Pt.smul (bW ns) iZ))) 5)) ∧ Below w.heap.size w w' := by
 obtain ⟨o, ho, Pg⟩ := KT vw iR iZ Pt.zero yD oH A none c 0 ns [] hn (Nat.zero_le _) hbn (fun _ h => nomatch h)
 have HO : Hid (o.of (Pt.smul (bW ns) iZ)) := Lib.hid (by have h := ho; rw [show bW [] = 0 from rfl, smul_zero, Pt.add_zero] at h; exact h)
 have QU := Lib.hid Pg
 obtain ⟨L, hL⟩ : ∃ z, z = iM (Pt.smul (bW ns) iZ) := ⟨_, rfl⟩
 rw [← hL]
 have HL := Lib.hid hL
 have kS := Lib.hid hg
 have rZ := Lib.hid hb
 have mJ := Lib.hid hr
 clear ho Pg hL hg hb hr hbn
 go_enter Tryz.func17, Tryz.ntmps17
 go_wp2_with fail
 refine (yG _ rZ.out).mono ?_
 rintro e x1 ⟨rfl, hb1⟩
 have HB1 : Hid (Below w.heap.size w x1) := Below.trans (pl (Below.refl _ _)) (hb1.mono sz)
 have hz1 := HB1.out.size
 replace kS := Lib.hid (kS.out.next (bt hb1))
 replace rZ := Lib.hid (rZ.out.next (bt hb1))
 replace mJ := Lib.hid (mJ.out.next (bt hb1))
 clear hb1
 go_wp2_with fail
 refine (qm _).mono ?_
 rintro e x2 ⟨rfl, hb2⟩
 have HB2 := aZ HB1.out hb2
 have hz2 := HB2.out.size
 replace kS := Lib.hid (kS.out.next (bt hb2))
 replace rZ := Lib.hid (rZ.out.next (bt hb2))
 replace mJ := Lib.hid (mJ.out.next (bt hb2))
 clear hb2
 go_wp2_with fail
 refine (QU.out _ kS.out mJ.out (Rd.nil _ _ _)).mono ?_
 rintro e x3 ⟨rfl, hb3⟩
 have HB3 := aZ HB2.out hb3
 have hz3 := HB3.out.size
 replace kS := Lib.hid (kS.out.next (bt hb3))
 replace rZ := Lib.hid (rZ.out.next (bt hb3))
 replace mJ := Lib.hid (mJ.out.next (bt hb3))
 clear hb3
 go_wp2_with fail
 refine (wJ o _ HO.out _).mono ?_
 rintro e y4 ⟨⟨gh, hge4, rfl, Ig⟩, hb4⟩
 replace kS := Lib.hid (kS.out.next (bt hb4))
 replace rZ := Lib.hid (rZ.out.next (bt hb4))
 replace mJ := Lib.hid (mJ.out.next (bt hb4))
 have gI : Keeps w _ y4 := ak Ig (aO (Below.trans (pl HB3.out) (hb4.mono sz)))
 obtain ⟨x4, rfl, hk4, lT, rU⟩ := gI.jE
 have HB4 : Hid (Below w.heap.size w x4) := hk4.below
 have HG4 : w.heap.size ≤ gh := by have := HB3.out.size; (try simp only [eF] at hge4); omega
 clear gI hk4 hb4 Ig hge4
 rw [← HL.out]
 go_wp2_with fail
 exact bodyPost_ret (v := .slice (some ⟨gh, 0, none⟩) 32 32) (by simp [results, Tryz.results17, go_sem]) rfl ⟨⟨gh, HG4, rfl, ob⟩, pl HB4.out⟩
theorem AB (H : List Nat) (h : H.length = 64) : (kC H).length = 32 := by unfold kC; rw [List.length_set, List.length_set, List.length_take]; omega
theorem Oq (H : List Nat) (h : ∀ z ∈ H, z < 256) : ∀ z ∈ kC H, z < 256 := by
 intro z hz
 have hg : ∀ i, H.getD i 0 < 256 := fun i => by
  rw [List.getD_eq_getElem?_getD]
  by_cases hi : i < H.length
  · rw [List.getElem?_eq_getElem hi]; exact h _ (List.getElem_mem _)
  · rw [List.getElem?_eq_none (by omega)]; decide
 unfold kC at hz
 rcases List.mem_or_eq_of_mem_set hz with hz | rfl
 · rcases List.mem_or_eq_of_mem_set hz with hz | rfl
   · exact h z (List.mem_of_mem_take hz)
   · have := hg 0; omega
 · omega
structure vg (w : World) : Prop where
 cons : jm w
 starts : ig w
theorem vg.next {w w' : World} (h : vg w) (hb : Below w.heap.size w w') : vg w' := ⟨h.1.next hb, h.2.next hb⟩
theorem afz (m : List Nat) (A : Option Addr) (c : Nat) (hm : m.length = 32) (hby : ∀ z ∈ m, z < 256) (w : World) (hh : vg w) (hr : Rd w .u8 A m) (hA : ∀ b off, A = some ⟨b, off, none⟩ → b < w.heap.size) : Calls Tryz.prog 16 #[.slice A 32 c] w fun e w' => (∃ b, w.heap.size ≤ b ∧ e = .returned (.tuple #[.slice (some ⟨b, 0, none⟩) 32 32, .slice (some ⟨b, 32, none⟩) 32 32]) ∧ w'.heap[b]? = some (.cells (bF (kC (Ai aV m) ++ (Ai aV m).drop 32)) 5)) ∧ Below w.heap.size w w' := by
 have := Ql m A c (by omega) hby w hh.1 hh.2 hr hA
 rw [hm] at this
 exact this
theorem ae1 (A : Option Addr) (c : Nat) (ns : List Nat) (hn : ns.length = 32) (hbn : ∀ b ∈ ns, b < 256) (w : World) (hg : kE w) (hb : nU w) (hr : Rd w .u8 A ns) : Calls Tryz.prog 17 #[.slice A 32 c] w fun e w' => (∃ b, w.heap.size ≤ b ∧ e = .returned (.slice (some ⟨b, 0, none⟩) 32 32) ∧ w'.heap[b]? = some (.cells (bF (iM (Pt.smul (bW ns) iZ))) 5)) ∧ Below w.heap.size w w' := by
 have := key_eq A c ns (by omega) hbn w hg hb hr
 rw [hn] at this
 exact this
theorem aaI (A : Option Addr) (c : Nat) (m : List Nat) (hm : m.length = 32) (hby : ∀ b ∈ m, b < 256) (w : World) (hh : vg w) (hg : kE w) (hb : nU w) (hr : Rd w .u8 A m) (hA : ∀ b off, A = some ⟨b, off, none⟩ → b < w.heap.size) :
 Calls Tryz.prog 6 #[.slice A 32 c] w fun e w' => (∃ b, w.heap.size ≤ b ∧ e = .returned (.tuple #[.slice (some ⟨b, 0, none⟩) 32 32, .int .i64 0]) ∧ w'.heap[b]? = some (.cells (bF (Yb m)) 5)) ∧ Below w.heap.size w w' := by
 have HM := Lib.hid (And.intro hm hby)
 have adb := Lib.hid hh
 have kS := Lib.hid hg
 have rZ := Lib.hid hb
 have mJ := Lib.hid (And.intro hr hA)
 clear hm hby hh hg hb hr hA
 go_enter Tryz.func6, Tryz.ntmps6
 go_wp2_with fail
 refine (afz m A c HM.out.1 HM.out.2 _ adb.out mJ.out.1 mJ.out.2).mono ?_
 rintro e y1 ⟨⟨gh, TK, rfl, alR⟩, hb1⟩
 replace kS := Lib.hid (kS.out.next (bt hb1))
 replace rZ := Lib.hid (rZ.out.next (bt hb1))
 have gI : Keeps w _ y1 := ak alR (aO (Below.trans (pl (Below.refl _ _)) (hb1.mono sz)))
 obtain ⟨x1, rfl, hk1, hz1, l10⟩ := gI.jE
 have HB1 : Hid (Below w.heap.size w x1) := hk1.below
 have HG1 : w.heap.size ≤ gh := by (try simp only [eF] at TK); omega
 clear gI hk1 hb1 alR TK
 have HCL : Hid ((kC (Ai aV m)).length = 32 ∧ (∀ z ∈ kC (Ai aV m), z < 256) ∧ Rd (x1.pin gh (.cells (bF (kC (Ai aV m) ++ (Ai aV m).drop 32)) 5)) .u8 (some ⟨gh, 0, none⟩) (kC (Ai aV m))) := Lib.hid ⟨AB _ (Ce m), Oq _ (NH m), by
  have h := Rd.take (nS (ob : (x1.pin gh (.cells (bF (kC (Ai aV m) ++ (Ai aV m).drop 32)) 5)).heap[gh]? = _)) 32
  rw [List.take_left' (AB _ (Ce m))] at h
  exact h⟩
 go_wp2_with fail
 refine (ae1 (some ⟨gh, 0, none⟩) 32 (kC (Ai aV m)) HCL.out.1 HCL.out.2.1 _ kS.out rZ.out HCL.out.2.2).mono ?_
 rintro e y2 ⟨⟨gk, zK, rfl, rO⟩, hb2⟩
 replace kS := Lib.hid (kS.out.next (bt hb2))
 replace rZ := Lib.hid (rZ.out.next (bt hb2))
 have gI : Keeps w _ y2 := ak (b := gh) ((hb2.block _ sz).trans ob) (ak rO (aO (Below.trans (pl HB1.out) (hb2.mono sz))))
 obtain ⟨x2, rfl, hk2, hz2, kD, rQ⟩ := gI.iL
 have HB2 : Hid (Below w.heap.size w x2) := hk2.below
 have HG2 : w.heap.size ≤ gk := by have := HB1.out.size; (try simp only [eF] at zK); omega
 have abq : gh < gk := by (try simp only [eF] at zK); omega
 clear gI hk2 hb2 rO zK
 go_wp2_with fail
 exact bodyPost_ret (v := .tuple #[.slice (some ⟨gk, 0, none⟩) 32 32, .int .i64 0]) (by simp [results, Tryz.results6, go_sem]) rfl ⟨⟨gk, HG2, rfl, by unfold Yb; exact ob⟩, pl HB2.out⟩
end
end Go.Proofs.YtehfkbaendajbaaGreatDoor
