/-
  Shared, part 36: walks and plain laws; each theorem states its own conditions.
-/
import Derived.Test.YtehfkbaendajbaaGreatDoorB28
import Derived.Test.YtehfkbaendajbaaGreatDoorB34
namespace Go.Proofs.YtehfkbaendajbaaGreatDoor
set_option linter.unusedSimpArgs false
set_option linter.unusedVariables false
set_option maxRecDepth 100000
set_option maxHeartbeats 8000000
section
open Go.RowKit Go.Proofs.YtehfkbaendajbaaGreatDoorW.PrintLast
theorem Xe (A : Option Addr) (c X g Z : Nat) (hx : X < Num.p) (hz : Z = (X + (Num.p - 1)) % Num.p) (w : World) (hX : Dn w A c X) (hg : w.heap[g]? = some (.cells #[.int .u64 1] 34)) :
 Calls Tryz.prog 74 #[.slice A (aB X).length c, .slice (some ⟨g, 0, none⟩) 1 1] w fun e w' => (∃ A' c', e = .returned (.slice A' (aB Z).length c') ∧ Dn w' A' c' Z) ∧ Below w.heap.size w w' := by
 have h := Gu A (some ⟨g, 0, none⟩) c 1 X 1 Z hx KP hz w hX (lY 1 sQ hg)
 rw [sQ] at h
 exact h
theorem Xf (A : Option Addr) (c X g Z : Nat) (hx : X < Num.p) (hz : Z = (X + 1) % Num.p) (w : World) (hX : Dn w A c X) (hg : w.heap[g]? = some (.cells #[.int .u64 1] 34)) :
 Calls Tryz.prog 106 #[.slice A (aB X).length c, .slice (some ⟨g, 0, none⟩) 1 1] w fun e w' => (∃ A' c', e = .returned (.slice A' (aB Z).length c') ∧ Dn w' A' c' Z) ∧ Below w.heap.size w w' := by
 have h := DX A (some ⟨g, 0, none⟩) c 1 X 1 Z hx KP hz w hX (lY 1 sQ hg)
 rw [sQ] at h
 exact h
theorem Rj (B : Option Addr) (d Y Z L : Nat) (hy : Y < Num.p) (hL : L = (aB Y).length) (hz : Z = (Num.p - Y) % Num.p) (w : World) (hY : Dn w B d Y) : Calls Tryz.prog 74 #[.slice none 0 0, .slice B L d] w fun e w' => (∃ A' c', e = .returned (.slice A' (aB Z).length c') ∧ Dn w' A' c' Z) ∧ Below w.heap.size w w' := LZ B d Y Z hy hz L hL w hY
def L8 (n m u v Y : Nat) (odd : Bool) (e : Ending) (w' : World) : Prop := ∃ r ok, r < Num.p ∧ ok = decide (cO n m u v) ∧ small r = small (dS n m u v) ∧ (if ok = true ∧ ¬ (odd = true ∧ r = 0) then ∃ o : Dp, e = .returned (.tuple #[o.v, .bool true]) ∧ o.ok w' ∧ o.x = (if odd = true then (Num.p - r) % Num.p else r) ∧ o.y = Y ∧ o.z = 1 else e = .returned (.tuple #[.agg #[.slice none 0 0, .slice none 0 0, .slice none 0 0], .bool false]))
theorem L8.bad {n m u v Y : Nat} {odd : Bool} {w' : World} {r : Nat} {ok : Bool} (h : r < Num.p ∧ ok = decide (cO n m u v) ∧ small r = small (dS n m u v)) (hb : ¬ (ok = true ∧ ¬ (odd = true ∧ r = 0))) : L8 n m u v Y odd (.returned (.tuple #[.agg #[.slice none 0 0, .slice none 0 0, .slice none 0 0], .bool false])) w' := ⟨r, ok, h.1, h.2.1, h.2.2, by rw [if_neg hb]⟩
theorem L8.good {n m u v Y : Nat} {odd : Bool} {w' : World} {r : Nat} (h : r < Num.p ∧ true = decide (cO n m u v) ∧ small r = small (dS n m u v)) (hb : ¬ (odd = true ∧ r = 0)) {rx : Nat} (hx : rx = (if odd = true then (Num.p - r) % Num.p else r)) {A A1 : Option Addr} {a c g : Nat} (h1 : Dn w' A1 a rx) (h2 : Dn w' A c Y) (h3 : w'.heap[g]? = some (.cells #[.int .u64 1] 34)) : L8 n m u v Y odd (.returned (.tuple #[.agg #[.slice A1 (aB rx).length a, .slice A (aB Y).length c, .slice (some ⟨g, 0, none⟩) 1 1], .bool true])) w' := ⟨r, true, h.1, h.2.1, h.2.2, by
 rw [if_pos ⟨rfl, hb⟩]
 exact ⟨⟨A1, a, rx, A, c, Y, some ⟨g, 0, none⟩, 1, 1⟩, by unfold Dp.v; simp only; rw [sQ]; rfl, ⟨h1, h2, lY 1 sQ h3⟩, hx, rfl, rfl⟩⟩
theorem GX (A : Option Addr) (c Y : Nat) (ly : Y < Num.p) (odd : Bool) (n m : Nat) (ex : yt n m HP) (s u m1 v : Nat) (Hs : Hid (s = Y * Y % Num.p)) (Hu : Hid (u = (s + (Num.p - 1)) % Num.p)) (Hm : Hid (m1 = dN * s % Num.p)) (Hv : Hid (v = (m1 + 1) % Num.p)) (w : World) (hY : Dn w A c Y) :
 Calls Tryz.prog 66 #[.slice A (aB Y).length c, .bool odd] w fun e w' => L8 n m u v Y odd e w' ∧ Below w.heap.size w w' := by
 have HY := Lib.hid hY
 have HLY := Lib.hid ly
 have HEX := Lib.hid ex
 clear hY ly ex
 go_enter Tryz.func66, Tryz.ntmps66
 go_wp2_with fail
 refine (fQ _ _ _ _ Y Y s HLY.out HLY.out Hs.out _ (HY.out.next (pl (Below.refl _ _))) (HY.out.next (pl (Below.refl _ _)))).mono ?_
 rintro e y1 ⟨⟨R1, r1, rfl, hr1⟩, hb1⟩
 replace HY := Lib.hid (HY.out.next (bt hb1))
 obtain ⟨x1, rfl, hc1, hz1, l10⟩ := bQ (b := w.heap.size) hb1 rfl ob
 have HB1 : Hid (Below w.heap.size w x1) := Below.trans (pl (Below.refl _ _)) (hc1.mono sz)
 clear hb1 hc1
 try simp only [eF] at hz1
 have HR1 := Lib.hid hr1
 clear hr1
 go_wp2_with fail
 refine (Xe R1 r1 s x1.heap.size u (iC Hs.out) Hu.out _ (HR1.out.next (pl (Below.refl _ _))) ob).mono ?_
 rintro e y2 ⟨⟨R2, r2, rfl, hr2⟩, hb2⟩
 replace HY := Lib.hid (HY.out.next (bt hb2))
 replace HR1 := Lib.hid (HR1.out.next (bt hb2))
 obtain ⟨x2, rfl, hc2, hz2, kD⟩ := bQ (b := w.heap.size) hb2 rfl ob
 have HB2 := aZ HB1.out hc2
 clear hb2 hc2
 try simp only [eF] at hz2
 have HR2 := Lib.hid hr2
 clear hr2
 go_wp2_with fail
 refine (D7 _).mono ?_
 rintro e y3 ⟨⟨R3, r3, rfl, hr3⟩, hb3⟩
 replace HY := Lib.hid (HY.out.next (bt hb3))
 replace HR1 := Lib.hid (HR1.out.next (bt hb3))
 replace HR2 := Lib.hid (HR2.out.next (bt hb3))
 obtain ⟨x3, rfl, hc3, hz3, nN⟩ := bQ (b := w.heap.size) hb3 rfl ob
 have HB3 := aZ HB2.out hc3
 clear hb3 hc3
 try simp only [eF] at hz3
 have HR3 := Lib.hid hr3
 clear hr3
 go_wp2_with fail
 refine (fQ _ _ _ _ dN s m1 (by decide) (iC Hs.out) Hm.out _ (HR3.out.next (pl (Below.refl _ _))) (HR1.out.next (pl (Below.refl _ _)))).mono ?_
 rintro e y4 ⟨⟨R4, r4, rfl, hr4⟩, hb4⟩
 replace HY := Lib.hid (HY.out.next (bt hb4))
 replace HR1 := Lib.hid (HR1.out.next (bt hb4))
 replace HR2 := Lib.hid (HR2.out.next (bt hb4))
 obtain ⟨x4, rfl, hc4, lT, rU⟩ := bQ (b := w.heap.size) hb4 rfl ob
 have HB4 := aZ HB3.out hc4
 clear hb4 hc4
 try simp only [eF] at lT
 have HR4 := Lib.hid hr4
 clear hr4 HR1 HR3
 go_wp2_with fail
 refine (Xf R4 r4 m1 x4.heap.size v (iC Hm.out) Hv.out _ (HR4.out.next (pl (Below.refl _ _))) ob).mono ?_
 rintro e y5 ⟨⟨R5, r5, rfl, Nl⟩, hb5⟩
 replace HY := Lib.hid (HY.out.next (bt hb5))
 replace HR2 := Lib.hid (HR2.out.next (bt hb5))
 obtain ⟨x5, rfl, hc5, rP, Ae⟩ := bQ (b := w.heap.size) hb5 rfl ob
 have kR := aZ HB4.out hc5
 clear hb5 hc5
 try simp only [eF] at rP
 have jG := Lib.hid Nl
 clear Nl HR4
 go_wp2_with fail
 refine (Oc _ _ _ _ u v n m HEX.out (iC Hu.out) (iC Hv.out) _ (HR2.out.next (pl (Below.refl _ _))) (jG.out.next (pl (Below.refl _ _)))).mono ?_
 rintro e y6 ⟨⟨R6, r6, r, ok, rfl, Io, hrp, hok, WB⟩, hb6⟩
 replace HY := Lib.hid (HY.out.next (bt hb6))
 replace HR2 := Lib.hid (HR2.out.next (bt hb6))
 obtain ⟨x6, rfl, hc6, yH, Gj⟩ := bQ (b := w.heap.size) hb6 rfl ob
 have mg := aZ kR.out hc6
 clear hb6 hc6
 try simp only [eF] at yH
 have jk := Lib.hid Io
 have HRR := Lib.hid (And.intro hrp (And.intro hok WB))
 clear Io hrp hok WB HR2 jG
 cases ok with
 | false =>
  go_wp2_with fail
  exact bodyPost_ret (v := .tuple #[.agg #[.slice none 0 0, .slice none 0 0, .slice none 0 0], .bool false]) (cu rfl rfl (bC 47 (w.heap.size) #[.slice none 0 0, .slice none 0 0, .slice none 0 0] 47 (by kernel_rfl) (by kernel_rfl) ob) rfl) rfl ⟨L8.bad HRR.out (by simp), pl mg.out⟩
 | true =>
  cases odd with
  | false =>
   go_wp2_with fail
   have HF : Hid (Dn ((x6.pin w.heap.size (.cells #[.slice R6 (aB r).length r6, .slice A (aB Y).length c, .slice (some ⟨x6.heap.size, 0, none⟩) 1 1] 47)).alloc (.cells #[.int .u64 1] 34)) R6 r6 r ∧ Dn ((x6.pin w.heap.size (.cells #[.slice R6 (aB r).length r6, .slice A (aB Y).length c, .slice (some ⟨x6.heap.size, 0, none⟩) 1 1] 47)).alloc (.cells #[.int .u64 1] 34)) A c Y) := Lib.hid ⟨((jk.out.oI (o' := .cells #[.slice R6 (aB r).length r6, .slice A (aB Y).length c, .slice (some ⟨x6.heap.size, 0, none⟩) 1 1] 47) sz).next (pl (Below.refl _ _))), ((HY.out.oI (o' := .cells #[.slice R6 (aB r).length r6, .slice A (aB Y).length c, .slice (some ⟨x6.heap.size, 0, none⟩) 1 1] 47) sz).next (pl (Below.refl _ _)))⟩
   have o9 : ((x6.pin w.heap.size (.cells #[.slice R6 (aB r).length r6, .slice A (aB Y).length c, .slice (some ⟨x6.heap.size, 0, none⟩) 1 1] 47)).alloc (.cells #[.int .u64 1] 34)).heap[x6.heap.size]? = some (.cells #[.int .u64 1] 34) := ob
   exact bodyPost_ret (v := .tuple #[.agg #[.slice R6 (aB r).length r6, .slice A (aB Y).length c, .slice (some ⟨x6.heap.size, 0, none⟩) 1 1], .bool true]) (cu rfl rfl (bC 47 (w.heap.size) #[.slice R6 (aB r).length r6, .slice A (aB Y).length c, .slice (some ⟨x6.heap.size, 0, none⟩) 1 1] 47 (by kernel_rfl) (by kernel_rfl) ob) rfl) rfl ⟨L8.good HRR.out (by simp) (rfl) HF.out.1 HF.out.2 o9, pl mg.out⟩
  | true =>
   obtain ⟨L, hL⟩ : ∃ z, z = (aB r).length := ⟨_, rfl⟩
   have HL := Lib.hid hL
   rw [← hL]
   clear hL
   by_cases h0 : L = 0
   · have hr0 : r = 0 := oG (by rw [← HL.out]; exact h0)
     have HR0 := Lib.hid hr0
     have hI : (L : Int) = 0 := by omega
     clear h0 hr0
     go_wp2_with fail
     exact bodyPost_ret (v := .tuple #[.agg #[.slice none 0 0, .slice none 0 0, .slice none 0 0], .bool false]) (cu rfl rfl (bC 47 (w.heap.size) #[.slice none 0 0, .slice none 0 0, .slice none 0 0] 47 (by kernel_rfl) (by kernel_rfl) ob) rfl) rfl ⟨L8.bad HRR.out (by exact fun h => h.2 ⟨rfl, HR0.out⟩), pl mg.out⟩
   · have HR0 : Hid (¬ r = 0) := Lib.hid (fun h => h0 (by rw [HL.out, h, dY]; rfl))
     have hI : ((L : Int) = 0) = False := eq_false (by omega)
     have hI2 : ¬ (L : Int) = 0 := by omega
     clear h0
     go_wp2_with fail
     obtain ⟨rx, hrx⟩ : ∃ z, z = (Num.p - r) % Num.p := ⟨_, rfl⟩
     have HRX := Lib.hid hrx
     clear hrx
     refine (Rj R6 r6 r rx L HRR.out.1 HL.out HRX.out _ (jk.out.next (pl (Below.refl _ _)))).mono ?_
     rintro e y7 ⟨⟨R7, r7, rfl, Ip⟩, hb7⟩
     replace HY := Lib.hid (HY.out.next (bt hb7))
     obtain ⟨x7, rfl, Ef, Ac, KA⟩ := bQ (b := w.heap.size) hb7 rfl ob
     have oW := aZ mg.out Ef
     clear hb7 Ef
     try simp only [eF] at Ac
     have jQ := Lib.hid Ip
     clear Ip
     go_wp2_with fail
     have HF : Hid (Dn ((x7.pin w.heap.size (.cells #[.slice R7 (aB rx).length r7, .slice A (aB Y).length c, .slice (some ⟨x7.heap.size, 0, none⟩) 1 1] 47)).alloc (.cells #[.int .u64 1] 34)) R7 r7 rx ∧ Dn ((x7.pin w.heap.size (.cells #[.slice R7 (aB rx).length r7, .slice A (aB Y).length c, .slice (some ⟨x7.heap.size, 0, none⟩) 1 1] 47)).alloc (.cells #[.int .u64 1] 34)) A c Y) := Lib.hid ⟨((jQ.out.oI (o' := .cells #[.slice R7 (aB rx).length r7, .slice A (aB Y).length c, .slice (some ⟨x7.heap.size, 0, none⟩) 1 1] 47) sz).next (pl (Below.refl _ _))), ((HY.out.oI (o' := .cells #[.slice R7 (aB rx).length r7, .slice A (aB Y).length c, .slice (some ⟨x7.heap.size, 0, none⟩) 1 1] 47) sz).next (pl (Below.refl _ _)))⟩
     have o9 : ((x7.pin w.heap.size (.cells #[.slice R7 (aB rx).length r7, .slice A (aB Y).length c, .slice (some ⟨x7.heap.size, 0, none⟩) 1 1] 47)).alloc (.cells #[.int .u64 1] 34)).heap[x7.heap.size]? = some (.cells #[.int .u64 1] 34) := ob
     exact bodyPost_ret (v := .tuple #[.agg #[.slice R7 (aB rx).length r7, .slice A (aB Y).length c, .slice (some ⟨x7.heap.size, 0, none⟩) 1 1], .bool true]) (cu rfl rfl (bC 47 (w.heap.size) #[.slice R7 (aB rx).length r7, .slice A (aB Y).length c, .slice (some ⟨x7.heap.size, 0, none⟩) 1 1] 47 (by kernel_rfl) (by kernel_rfl) ob) rfl) rfl ⟨L8.good HRR.out (fun h => HR0.out h.2) (by rw [if_pos rfl]; exact HRX.out) HF.out.1 HF.out.2 o9, pl oW.out⟩
end
section
open Go.RowKit Go.Proofs.YtehfkbaendajbaaGreatDoorW.PrintLast
theorem aaY (A : Option Addr) (c Y : Nat) (ly : Y < Num.p) (odd : Bool) (n m : Nat) (ex : yt n m HP) (w : World) (hY : Dn w A c Y) : Calls Tryz.prog 66 #[.slice A (aB Y).length c, .bool odd] w fun e w' => (∃ A1 n1 c1 A2 n2 c2 A3 n3 c3 ok, e = .returned (.tuple #[.agg #[.slice A1 n1 c1, .slice A2 n2 c2, .slice A3 n3 c3], .bool ok]) ∧ L8 n m ((Y * Y % Num.p + (Num.p - 1)) % Num.p) ((dN * (Y * Y % Num.p) % Num.p + 1) % Num.p) Y odd e w') ∧ Below w.heap.size w w' := by
 refine (GX A c Y ly odd n m ex _ _ _ _ (Lib.hid rfl) (Lib.hid rfl) (Lib.hid rfl) (Lib.hid rfl) w hY).mono ?_
 rintro e w' ⟨h, hb⟩
 refine ⟨?_, hb⟩
 have h0 := h
 obtain ⟨r, ok, _, _, _, h1⟩ := h
 split at h1
 · obtain ⟨o, rfl, _⟩ := h1
   exact ⟨_, _, _, _, _, _, _, _, _, _, rfl, h0⟩
 · subst h1
   exact ⟨_, _, _, _, _, _, _, _, _, _, rfl, h0⟩
theorem L8.put {n m u v Y : Nat} {odd : Bool} {e : Ending} {w' : World} {g : Nat} {o' : Obj} {A1 A2 A3 : Option Addr} {n1 n2 n3 c1 c2 c3 : Nat} (h : L8 n m u v Y odd e w') (hg : w'.heap[g]? = some (.cells #[.slice A1 n1 c1, .slice A2 n2 c2, .slice A3 n3 c3] 47)) : L8 n m u v Y odd e (w'.pin g o') := by
 obtain ⟨r, ok, a, b, c, h⟩ := h
 refine ⟨r, ok, a, b, c, ?_⟩
 by_cases hc : ok = true ∧ ¬ (odd = true ∧ r = 0)
 · rw [if_pos hc] at h ⊢
   obtain ⟨o, e1, e2, e3⟩ := h
   exact ⟨o, e1, e2.ku hg, e3⟩
 · rw [if_neg hc] at h ⊢
   exact h
theorem Nu (bs : List Nat) (hl : bs.length = 32) (x : Nat) : bs.set 31 x = bs.take 31 ++ [x] := by
 conv => lhs; rw [← List.take_append_drop 31 bs]
 have e : bs.drop 31 = [bs.getD 31 0] := by
  rw [List.drop_eq_getElem_cons (by omega), List.drop_of_length_le (by omega), List.getD_eq_getElem?_getD, List.getElem?_eq_getElem (by omega)]
  rfl
 rw [e, List.set_append_right _ _ (by rw [List.length_take]; omega), List.length_take, hl]
 simp
theorem Mc (er : Nat) (low : List Nat) (he : AP low = (er : Int)) (A : Option Addr) (c : Nat) (hb : ∀ b ∈ low, b < 256) (w : World) (hB : Rd w .u8 A low) : Calls Tryz.prog 65 #[.slice A low.length c] w fun e w' => e = .returned (.tuple #[(SK low).v, .int .i64 (er : Int)]) ∧ Below w.heap.size w w' := by
 have h := Rx A c low hb w hB
 rw [he] at h
 exact h
theorem VF {w : World} {g m : Nat} {t : TypeId} (h : w.heap[g]? = some (.cells #[.int .u8 (m : Int)] t)) : Rd w .u8 (some ⟨g, 0, none⟩) [m] := jC h (by intro i hi; obtain rfl : i = 0 := (by simpa using hi); rfl)
theorem apQ (A : Option Addr) (c : Nat) (bs : List Nat) (hcap : 32 ≤ c) (hl : bs.length = 32) (hby : ∀ z ∈ bs, z < 256) (low : List Nat) (hlow : low = bs.set 31 (bs.getD 31 0 % 128)) (er : Nat) (her : AP low = (er : Int)) (hn : er ≠ 0) (w : World) (hr : Rd w .u8 A bs) :
 Calls Tryz.prog 30 #[.slice A 32 c] w fun e w' => e = .returned (.tuple #[.agg #[.slice none 0 0, .slice none 0 0, .slice none 0 0], .bool false]) ∧ Below w.heap.size w w' := by
 obtain ⟨gb, off, rfl, hgb, hc⟩ := hr.place (by omega)
 obtain ⟨v, hv⟩ : ∃ z, z = bs.getD 31 0 := ⟨_, rfl⟩
 have h31 := hc 31 (by omega)
 rw [show bs[31] = v by rw [hv, List.getD_eq_getElem?_getD, List.getElem?_eq_getElem (by omega)]; rfl] at h31
 obtain ⟨T, hT⟩ : ∃ z, z = bs.take 31 := ⟨_, rfl⟩
 have hTl : T.length = 31 := by rw [hT, List.length_take]; omega
 have mJ : Hid (Rd (w.alloc (.cells #[.slice none 0 0, .slice none 0 0, .slice none 0 0] 47)) .u8 (some ⟨gb, off, none⟩) T) := Lib.hid (by rw [hT]; exact Rd.take (hr.next (pl (Below.refl _ _))) 31)
 have HV := Lib.hid hv
 have HT := Lib.hid (And.intro hT hTl)
 have HL := Lib.hid (And.intro hl hby)
 have uM := Lib.hid hlow
 have hcI : (31 : Int) ≤ (c : Int) := by omega
 clear hc hr hv hT hTl hl hby hlow
 go_enter Tryz.func30, Tryz.ntmps30
 go_wp2_with (at_builtin; refine bH (.tmp 11) (.tmp 13) rfl rfl (w.heap.size + 1) (.slice none 0 0) [] T (some ⟨gb, off, none⟩) 31 c rfl rfl HT.out.2.symm (gu.nil _ _) mJ.out (by have := HT.out.2; simp; omega) (by simp only [World.size_alloc]; omega) ?_)
 intro v1 w1 hrow1 hgrow1 lI
 have mV : w1.heap[w.heap.size]? = some (.cells #[.slice none 0 0, .slice none 0 0, .slice none 0 0] 47) := (hgrow1.block _ sz (by simp [Value.ownBlock])).trans ob
 have gI : Keeps w [(w.heap.size, .cells #[.slice none 0 0, .slice none 0 0, .slice none 0 0] 47)] w1 := ak mV (aO (Lib.hid (Below.grown (pl (Below.refl _ _) : Below w.heap.size w (w.alloc (.cells #[.slice none 0 0, .slice none 0 0, .slice none 0 0] 47))) hgrow1 (by simp only [World.size_alloc]; omega) (fun k h => by simp [Value.ownBlock] at h))))
 have hs1 : w.heap.size + 1 ≤ w1.heap.size := by have := hgrow1.size; simp only [World.size_alloc] at this; exact this
 obtain ⟨x1, rfl, hk1, hz1, l10⟩ := gI.jE
 have HB1 : Hid (Below w.heap.size w x1) := hk1.below
 rw [aA] at hs1
 obtain ⟨A1, c1, rfl, _, _, _⟩ := hrow1.form
 rw [HT.out.2] at hrow1
 have zG := Lib.hid hrow1
 have hcell : (x1.pin w.heap.size (.cells #[.slice none 0 0, .slice none 0 0, .slice none 0 0] 47)).cell? ⟨gb, off + 31, none⟩ = some (.int .u8 (v : Int)) := ((pl HB1.out : Below w.heap.size w (x1.pin w.heap.size (.cells #[.slice none 0 0, .slice none 0 0, .slice none 0 0] 47))).cell (p := ⟨gb, off + 31, none⟩) hgb).trans h31
 obtain ⟨m, hm⟩ : ∃ z, z = v % 128 := ⟨_, rfl⟩
 have e1 : (v : Int) % 128 = (m : Int) := by omega
 have e2 : (v : Int).tmod 128 = (m : Int) := by rw [Int.tmod_eq_emod_of_nonneg (Int.natCast_nonneg _)]; omega
 have HM := Lib.hid hm
 have hTL := HT.out.2
 rw [hTL]
 clear gI hk1 mV hrow1 hgrow1 lI hm hTL
 go_wp2_with (at_builtin; refine bH (.tmp 15) (.tmp 20) rfl rfl (w.heap.size + 1) (.slice A1 31 c1) T [m] (some ⟨x1.heap.size, 0, none⟩) 1 1 rfl rfl rfl (gu.below zG.out (Below.alloc (Below.refl _ _) (Nat.le_refl _) _) (Nat.le_refl _)) (VF ob) (by have := HT.out.2; simp; omega) (by simp only [World.size_alloc, aA]; omega) ?_)
 intro v2 w2 hrow2 hgrow2 wR
 obtain ⟨gq, hgq, abm⟩ : ∃ g, (Value.slice A1 31 c1).ownBlock = some g ∧ w.heap.size + 1 ≤ g := by
  have h := zG.out.own (by have := HT.out.2; omega)
  obtain ⟨q, cap, cur, hv1, hq, _⟩ := h
  exact ⟨q, by rw [hv1]; rfl, hq⟩
 have mV : w2.heap[w.heap.size]? = some (.cells #[.slice none 0 0, .slice none 0 0, .slice none 0 0] 47) := (hgrow2.block w.heap.size sz (fun e => by rw [hgq] at e; injection e with e; omega)).trans ob
 have gI : Keeps w [(w.heap.size, .cells #[.slice none 0 0, .slice none 0 0, .slice none 0 0] 47)] w2 := ak mV (aO (Lib.hid (Below.grown (pl HB1.out : Below w.heap.size w ((x1.pin w.heap.size (.cells #[.slice none 0 0, .slice none 0 0, .slice none 0 0] 47)).alloc (.cells #[.int .u8 (m : Int)] 5))) hgrow2 (by simp only [World.size_alloc, aA]; omega) (fun k h => by rw [hgq] at h; injection h with h; omega))))
 obtain ⟨x2, rfl, hk2, hz2, kD⟩ := gI.jE
 have HB2 : Hid (Below w.heap.size w x2) := hk2.below
 have hlo : T ++ [m] = low := by rw [uM.out, HM.out, HV.out, HT.out.1]; exact (Nu bs HL.out.1 _).symm
 rw [hlo] at hrow2
 obtain ⟨A2, c2, rfl, _, _, _⟩ := hrow2.form
 have QG : Hid (Rd (x2.pin w.heap.size (.cells #[.slice none 0 0, .slice none 0 0, .slice none 0 0] 47)) .u8 A2 low) := Lib.hid (gu.rd' hrow2)
 have HLl : Hid (∀ z ∈ low, z < 256) := Lib.hid (by rw [uM.out]; exact (xE bs HL.out.1 HL.out.2).2)
 clear gI hk2 mV hrow2 hgrow2 wR hgq abm hlo
 go_wp2_with fail
 have HE := Lib.hid her
 clear her
 refine (Mc er low HE.out A2 c2 HLl.out _ QG.out).mono ?_
 rintro e y3 ⟨rfl, hb3⟩
 replace QG := Lib.hid (QG.out.next (bt hb3))
 obtain ⟨x3, rfl, hc3, hz3, nN⟩ := bQ (b := w.heap.size) hb3 rfl ob
 have HB3 := aZ HB2.out hc3
 clear hb3 hc3
 try simp only [eF] at hz3
 go_wp2_with fail
 exact bodyPost_ret (v := .tuple #[.agg #[.slice none 0 0, .slice none 0 0, .slice none 0 0], .bool false]) (cu rfl rfl (bC 47 (w.heap.size) #[.slice none 0 0, .slice none 0 0, .slice none 0 0] 47 (by kernel_rfl) (by kernel_rfl) ob) rfl) rfl ⟨rfl, pl HB3.out⟩
theorem OA (A : Option Addr) (c : Nat) (bs : List Nat) (hcap : 32 ≤ c) (hl : bs.length = 32) (hby : ∀ z ∈ bs, z < 256) (low : List Nat) (hlow : low = bs.set 31 (bs.getD 31 0 % 128)) (her : AP low = ((0 : Nat) : Int)) (hlt : bW low < Num.p) (en em : Nat) (ex : yt en em HP) (w : World) (hr : Rd w .u8 A bs) :
 Calls Tryz.prog 30 #[.slice A 32 c] w fun e w' => L8 en em ((bW low * bW low % Num.p + (Num.p - 1)) % Num.p) ((dN * (bW low * bW low % Num.p) % Num.p + 1) % Num.p) (bW low) (decide ((127 : Int) < ((bs.getD 31 0 : Nat) : Int))) e w' ∧ Below w.heap.size w w' := by
 have aC := Lib.hid hlt
 have HEX := Lib.hid ex
 clear hlt ex
 obtain ⟨gb, off, rfl, hgb, hc⟩ := hr.place (by omega)
 obtain ⟨v, hv⟩ : ∃ z, z = bs.getD 31 0 := ⟨_, rfl⟩
 have h31 := hc 31 (by omega)
 rw [show bs[31] = v by rw [hv, List.getD_eq_getElem?_getD, List.getElem?_eq_getElem (by omega)]; rfl] at h31
 obtain ⟨T, hT⟩ : ∃ z, z = bs.take 31 := ⟨_, rfl⟩
 have hTl : T.length = 31 := by rw [hT, List.length_take]; omega
 have mJ : Hid (Rd (w.alloc (.cells #[.slice none 0 0, .slice none 0 0, .slice none 0 0] 47)) .u8 (some ⟨gb, off, none⟩) T) := Lib.hid (by rw [hT]; exact Rd.take (hr.next (pl (Below.refl _ _))) 31)
 have HV := Lib.hid hv
 have HT := Lib.hid (And.intro hT hTl)
 have HL := Lib.hid (And.intro hl hby)
 have uM := Lib.hid hlow
 have hcI : (31 : Int) ≤ (c : Int) := by omega
 clear hc hr hv hT hTl hl hby hlow
 go_enter Tryz.func30, Tryz.ntmps30
 go_wp2_with (at_builtin; refine bH (.tmp 11) (.tmp 13) rfl rfl (w.heap.size + 1) (.slice none 0 0) [] T (some ⟨gb, off, none⟩) 31 c rfl rfl HT.out.2.symm (gu.nil _ _) mJ.out (by have := HT.out.2; simp; omega) (by simp only [World.size_alloc]; omega) ?_)
 intro v1 w1 hrow1 hgrow1 lI
 have mV : w1.heap[w.heap.size]? = some (.cells #[.slice none 0 0, .slice none 0 0, .slice none 0 0] 47) := (hgrow1.block _ sz (by simp [Value.ownBlock])).trans ob
 have gI : Keeps w [(w.heap.size, .cells #[.slice none 0 0, .slice none 0 0, .slice none 0 0] 47)] w1 := ak mV (aO (Lib.hid (Below.grown (pl (Below.refl _ _) : Below w.heap.size w (w.alloc (.cells #[.slice none 0 0, .slice none 0 0, .slice none 0 0] 47))) hgrow1 (by simp only [World.size_alloc]; omega) (fun k h => by simp [Value.ownBlock] at h))))
 have hs1 : w.heap.size + 1 ≤ w1.heap.size := by have := hgrow1.size; simp only [World.size_alloc] at this; exact this
 obtain ⟨x1, rfl, hk1, hz1, l10⟩ := gI.jE
 have HB1 : Hid (Below w.heap.size w x1) := hk1.below
 rw [aA] at hs1
 obtain ⟨A1, c1, rfl, _, _, _⟩ := hrow1.form
 rw [HT.out.2] at hrow1
 have zG := Lib.hid hrow1
 have hcell : (x1.pin w.heap.size (.cells #[.slice none 0 0, .slice none 0 0, .slice none 0 0] 47)).cell? ⟨gb, off + 31, none⟩ = some (.int .u8 (v : Int)) := ((pl HB1.out : Below w.heap.size w (x1.pin w.heap.size (.cells #[.slice none 0 0, .slice none 0 0, .slice none 0 0] 47))).cell (p := ⟨gb, off + 31, none⟩) hgb).trans h31
 obtain ⟨m, hm⟩ : ∃ z, z = v % 128 := ⟨_, rfl⟩
 have e1 : (v : Int) % 128 = (m : Int) := by omega
 have e2 : (v : Int).tmod 128 = (m : Int) := by rw [Int.tmod_eq_emod_of_nonneg (Int.natCast_nonneg _)]; omega
 have HM := Lib.hid hm
 have hTL := HT.out.2
 rw [hTL]
 clear gI hk1 mV hrow1 hgrow1 lI hm hTL
 go_wp2_with (at_builtin; refine bH (.tmp 15) (.tmp 20) rfl rfl (w.heap.size + 1) (.slice A1 31 c1) T [m] (some ⟨x1.heap.size, 0, none⟩) 1 1 rfl rfl rfl (gu.below zG.out (Below.alloc (Below.refl _ _) (Nat.le_refl _) _) (Nat.le_refl _)) (VF ob) (by have := HT.out.2; simp; omega) (by simp only [World.size_alloc, aA]; omega) ?_)
 intro v2 w2 hrow2 hgrow2 wR
 obtain ⟨gq, hgq, abm⟩ : ∃ g, (Value.slice A1 31 c1).ownBlock = some g ∧ w.heap.size + 1 ≤ g := by
  have h := zG.out.own (by have := HT.out.2; omega)
  obtain ⟨q, cap, cur, hv1, hq, _⟩ := h
  exact ⟨q, by rw [hv1]; rfl, hq⟩
 have mV : w2.heap[w.heap.size]? = some (.cells #[.slice none 0 0, .slice none 0 0, .slice none 0 0] 47) := (hgrow2.block w.heap.size sz (fun e => by rw [hgq] at e; injection e with e; omega)).trans ob
 have gI : Keeps w [(w.heap.size, .cells #[.slice none 0 0, .slice none 0 0, .slice none 0 0] 47)] w2 := ak mV (aO (Lib.hid (Below.grown (pl HB1.out : Below w.heap.size w ((x1.pin w.heap.size (.cells #[.slice none 0 0, .slice none 0 0, .slice none 0 0] 47)).alloc (.cells #[.int .u8 (m : Int)] 5))) hgrow2 (by simp only [World.size_alloc, aA]; omega) (fun k h => by rw [hgq] at h; injection h with h; omega))))
 obtain ⟨x2, rfl, hk2, hz2, kD⟩ := gI.jE
 have HB2 : Hid (Below w.heap.size w x2) := hk2.below
 have hlo : T ++ [m] = low := by rw [uM.out, HM.out, HV.out, HT.out.1]; exact (Nu bs HL.out.1 _).symm
 rw [hlo] at hrow2
 obtain ⟨A2, c2, rfl, _, _, _⟩ := hrow2.form
 have QG : Hid (Rd (x2.pin w.heap.size (.cells #[.slice none 0 0, .slice none 0 0, .slice none 0 0] 47)) .u8 A2 low) := Lib.hid (gu.rd' hrow2)
 have HLl : Hid (∀ z ∈ low, z < 256) := Lib.hid (by rw [uM.out]; exact (xE bs HL.out.1 HL.out.2).2)
 clear gI hk2 mV hrow2 hgrow2 wR hgq abm hlo
 go_wp2_with fail
 have HE := Lib.hid her
 clear her
 refine (Mc 0 low HE.out A2 c2 HLl.out _ QG.out).mono ?_
 rintro e y3 ⟨rfl, hb3⟩
 replace QG := Lib.hid (QG.out.next (bt hb3))
 obtain ⟨x3, rfl, hc3, hz3, nN⟩ := bQ (b := w.heap.size) hb3 rfl ob
 have HB3 := aZ HB2.out hc3
 clear hb3 hc3
 try simp only [eF] at hz3
 go_wp2_with fail
 refine st1 w [9, 10] 11 (ak (b := w.heap.size) ob (aO (pl HB3.out))) (fun HS => ?_)
 refine tk1 0 (some 30) HS (hy := by (intro v hv; obtain ⟨x, rfl, hk, _, n0⟩ := hv.jE; have hcx := (hk.below.cell (p := ⟨gb, off + 31, none⟩) hgb).trans h31; go_simp; first | done | with_reducible rfl)) (h := ?_)
 refine tk1 2 (some 32) HS (hy := by (intro v hv; obtain ⟨x, rfl, hk, _, n0⟩ := hv.jE; have hcx := (hk.below.cell (p := ⟨gb, off + 31, none⟩) hgb).trans h31; go_simp; first | done | with_reducible rfl)) (h := ?_)
 refine tk1 3 (some 33) HS (hy := by (intro v hv; obtain ⟨x, rfl, hk, _, n0⟩ := hv.jE; have hcx := (hk.below.cell (p := ⟨gb, off + 31, none⟩) hgb).trans h31; go_simp; first | done | with_reducible rfl)) (h := ?_)
 refine tk1 4 (some 34) HS (hy := by (intro v hv; obtain ⟨x, rfl, hk, _, n0⟩ := hv.jE; have hcx := (hk.below.cell (p := ⟨gb, off + 31, none⟩) hgb).trans h31; go_simp; first | done | with_reducible rfl)) (h := ?_)
 refine tk1 5 (some 35) HS (hy := by (intro v hv; obtain ⟨x, rfl, hk, _, n0⟩ := hv.jE; have hcx := (hk.below.cell (p := ⟨gb, off + 31, none⟩) hgb).trans h31; go_simp; first | done | with_reducible rfl)) (h := ?_)
 refine dH 1 (some 31) (h := fun K hK => ?_)
 go_simp
 refine (qH A2 c2 low HLl.out (by rw [uM.out, List.length_set]; have := HL.out.1; omega) _ (QG.out.next (pl (Below.refl _ _)))).mono ?_
 rintro e y ⟨⟨R1, r1, rfl, hr1⟩, hb⟩
 refine hK.out _ _ (HS.step hb rfl) ?_
 replace QG := Lib.hid (QG.out.next (bt hb))
 clear HS hb
 intro HS
 have HR1 := Lib.hid hr1
 clear hr1
 refine dH 6 (some 36) (h := fun K hK => ?_)
 go_simp
 refine (aaY R1 r1 (bW low) aC.out (decide ((127 : Int) < (v : Int))) en em HEX.out _ (HR1.out.next (pl (Below.refl _ _)))).mono ?_
 rintro e y ⟨⟨B1, n1, d1, B2, n2, d2, B3, n3, d3, okk, rfl, hof⟩, hb⟩
 refine hK.out _ _ (HS.step hb rfl) ?_
 replace QG := Lib.hid (QG.out.next (bt hb))
 replace HR1 := Lib.hid (HR1.out.next (bt hb))
 clear HS hb
 intro HS
 have zQ := Lib.hid hof
 clear hof
 refine pure_ #[true, true, true, true, true, true, true, true, false, false, false] (i := 7) (N := some 37) (v := ?v6) rfl rfl (by kernel_rfl) (fun _ _ _ h => h) (Or.inl ⟨by rfl, ?Pj⟩) rfl ?_
 case Pj => (intro v; go_simp; first | done | with_reducible rfl)
 simp only [Act.put, List.setIfInBounds_toArray, List.set_cons_zero, List.set_cons_succ]
 refine pure_ #[true, true, true, true, true, true, true, true, true, false, false] (i := 8) (N := some 38) (v := ?v7) rfl rfl (by kernel_rfl) (fun _ _ _ h => h) (Or.inl ⟨by rfl, ?Um⟩) rfl ?_
 case Um => (intro v; go_simp; first | done | with_reducible rfl)
 simp only [Act.put, List.setIfInBounds_toArray, List.set_cons_zero, List.set_cons_succ]
 obtain ⟨x4, rfl, hk4, lT, rU⟩ := HS.jE
 have HB4 : Hid (Below w.heap.size w x4) := hk4.below
 clear HS hk4
 refine pO 9 none (h := fun K hK => ?_)
 go_simp
 refine hK.out _ _ ?_
 refine pO 10 (some 3) (h := fun K hK => ?_)
 go_simp
 refine hK.out _ _ ?_
 refine done_ (by kernel_rfl) ?_
 go_wp2_with fail
 have HF := zQ.out.put (g := w.heap.size) (o' := .cells #[.slice B1 n1 d1, .slice B2 n2 d2, .slice B3 n3 d3] 47) ob
 rw [dB] at HF
 exact bodyPost_ret (v := .tuple #[.agg #[.slice B1 n1 d1, .slice B2 n2 d2, .slice B3 n3 d3], .bool okk]) (cu rfl rfl (bC 47 (w.heap.size) #[.slice B1 n1 d1, .slice B2 n2 d2, .slice B3 n3 d3] 47 (by kernel_rfl) (by kernel_rfl) (eY sz)) rfl) rfl ⟨by rw [← HV.out]; exact HF, pl HB4.out⟩
end
section
open Go.RowKit Go.Proofs.YtehfkbaendajbaaGreatDoorW.PrintLast
theorem Xz {low : List Nat} (hl : low.length = 32) (h : bW low < Num.p) : AP low = ((0 : Nat) : Int) := by unfold AP; rw [if_pos hl, if_pos h]; rfl
theorem SI {low : List Nat} (hl : low.length = 32) (h : ¬ bW low < Num.p) : AP low = ((30 : Nat) : Int) := by unfold AP; rw [if_pos hl, if_neg h]; rfl
theorem XF (Y : Nat) : (Y * Y % Num.p + (Num.p - 1)) % Num.p % Num.p = dU Y % Num.p := by
 refine wO.mp ?_
 rw [qO KP, dA, aS, iK, MN]
theorem XG (Y : Nat) : (dN * (Y * Y % Num.p) % Num.p + 1) % Num.p % Num.p = dV Y % Num.p := by
 refine wO.mp ?_
 rw [dA, iJ, dA, aS, dA, aS, iK, GY]
theorem MJ (n m D : Nat) (ex : yt n m HP) (hD : D = 2 ^ 255) (A : Option Addr) (c : Nat) (bs : List Nat) (hcap : 32 ≤ c) (hl : bs.length = 32) (hby : ∀ z ∈ bs, z < 256) (w : World) (hr : Rd w .u8 A bs) :
 Calls Tryz.prog 30 #[.slice A 32 c] w fun e w' => ((∃ h : sK n m (bW bs), ∃ o : Dp, e = .returned (.tuple #[o.v, .bool true]) ∧ o.ok w' ∧ o.of (decP h)) ∨ (¬ sK n m (bW bs) ∧ e = .returned (.tuple #[.agg #[.slice none 0 0, .slice none 0 0, .slice none 0 0], .bool false]))) ∧ Below w.heap.size w w' := by
 have hN := (uw D hD bs hl hby).1
 have hdiv := (uw D hD bs hl hby).2
 have hL := xE bs hl hby
 obtain ⟨low, hlow⟩ : ∃ z, z = bs.set 31 (bs.getD 31 0 % 128) := ⟨_, rfl⟩
 rw [← hlow] at hN hL
 obtain ⟨Y, hY⟩ : ∃ Y, Y = bW bs % D := ⟨_, rfl⟩
 rw [← hY] at hN
 have ZG : bs.getD 31 0 < 256 := getD_lt hl hby 31 (by decide)
 by_cases h1 : Y < Num.p
 · refine (OA A c bs hcap hl hby low hlow (Xz hL.1 (by rw [hN]; exact h1)) (by rw [hN]; exact h1) n m ex w hr).mono ?_
   rintro e w' ⟨⟨r, ok, hrp, hok, WB, hres⟩, hb⟩
   refine ⟨?_, hb⟩
   rw [hN] at hok WB hres
   have TI := oL (n := n) (m := m) (XF Y) (XG Y)
   rw [tN (n := n) (m := m) (XF Y) (XG Y)] at WB
   have hok2 : ok = true ↔ cO n m (dU Y) (dV Y) := by
    rw [hok, decide_eq_true_eq]; exact TI.1
   obtain ⟨R, hR⟩ : ∃ R, R = dS n m (dU Y) (dV Y) := ⟨_, rfl⟩
   rw [← hR] at WB
   have hrm : r % Num.p = R % Num.p := yU WB
   have hr0 : r = 0 ↔ R % Num.p = 0 := by rw [← hrm, Nat.mod_eq_of_lt hrp]
   have hodd : decide ((127 : Int) < ((bs.getD 31 0 : Nat) : Int)) = true ↔ bW bs / D = 1 := by
    rw [decide_eq_true_eq, hdiv]; omega
   have hC : sK n m (bW bs) ↔ cO n m (dU Y) (dV Y) ∧ ¬ (bW bs / D = 1 ∧ R % Num.p = 0) := by
    unfold sK
    rw [← hD, ← hY, ← hR]
    exact ⟨fun h => h.2, fun h => ⟨h1, h⟩⟩
   by_cases hc : sK n m (bW bs)
   · have hcc := hC.mp hc
     rw [if_pos ⟨hok2.mpr hcc.1, fun h => hcc.2 ⟨hodd.mp h.1, hr0.mp h.2⟩⟩] at hres
     obtain ⟨o, rfl, hoo, ex1, ey1, ez1⟩ := hres
     refine .inl ⟨hc, o, rfl, hoo, ?_⟩
     have hx : (decP hc).x = fe (sO n m (bW bs)) := rfl
     have hy : (decP hc).y = fe Y := by rw [hY, hD]; rfl
     unfold sO at hx
     rw [← hD, ← hY, ← hR] at hx
     have hox : fe o.x = (decP hc).x := by
      rw [ex1, hx]
      by_cases ho : bW bs / D = 1
      · rw [if_pos (hodd.mpr ho), if_pos ho, lG]
        have := qO (X := 0) hrp
        rw [Nat.zero_add, jc] at this
        rw [this, oh hrm, ← jc, ← agJ, lG]
      · rw [if_neg (fun h => ho (hodd.mp h)), if_neg ho, oh hrm]
     refine ⟨⟨?_, by rw [ey1]; exact h1, by rw [ez1]; exact KP⟩, ?_, ?_, ?_⟩
     · rw [ex1]; split
       · exact Nat.mod_lt _ gJ
       · exact hrp
     · rw [ez1]; exact aco
     · rw [ez1, iK, Ia, hox]
     · rw [ez1, iK, Ia, ey1, hy]
   · rw [if_neg (fun h => hc (hC.mpr ⟨hok2.mp h.1, fun h2 => h.2 ⟨hodd.mpr h2.1, hr0.mpr h2.2⟩⟩))] at hres
     exact .inr ⟨hc, hres⟩
 · refine (apQ A c bs hcap hl hby low hlow 30 (SI hL.1 (by rw [hN]; exact h1)) (by decide) w hr).mono ?_
   rintro e w' ⟨he, hb⟩
   refine ⟨.inr ⟨fun h => h1 ?_, he⟩, hb⟩
   have := h.1
   rw [← hD, ← hY] at this
   exact this
end
end Go.Proofs.YtehfkbaendajbaaGreatDoor
