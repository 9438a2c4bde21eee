/-
  Shared, part 20: walks and plain laws; each theorem states its own conditions.
-/
import Derived.Test.YtehfkbaendajbaaGreatDoorB19
namespace Go.Proofs.YtehfkbaendajbaaGreatDoor
set_option linter.unusedSimpArgs false
set_option linter.unusedVariables false
set_option maxRecDepth 100000
set_option maxHeartbeats 8000000
section
open Go.RowKit Go.Proofs.YtehfkbaendajbaaGreatDoorW.PrintLast
theorem take_nil (g n : Nat) (r : Value) (a b : V8) (A : Option Addr) (c : Nat) (w : World) (hob : w.heap[g]? = some (.cells (dJ (n) r a b) 131)) :
 Calls Tryz.prog 111 #[.pointer (some ⟨g, 0, none⟩), .slice A 0 c] w fun e w' => e = .returned (.slice A 0 c) ∧ Below (w.pin g (.cells (dJ (n) r a b) 131)).heap.size (w.pin g (.cells (dJ (n) r a b) 131)) w' := by
 obtain ⟨x, rfl⟩ : ∃ x : World, w = x.pin g (.cells (dJ (n) r a b) 131) := ⟨w, (aN hob).symm⟩
 have hlt : g < x.heap.size := by have := (Array.getElem?_eq_some_iff.mp hob).1; rw [aA] at this; exact this
 obtain ⟨B, hB⟩ : ∃ B, B = x.heap.size := ⟨_, rfl⟩
 have HB0 : Hid (kY B g (x.pin g (.cells (dJ (n) r a b) 131)) x) := Lib.hid (kY.Wp hB)
 clear hob
 go_enter Tryz.func111, Tryz.ntmps111
 go_wp2_with fail
 go_loopw [1] (fun iv wr => ∃ (y : World), iv = .slice A 0 c ∧ wr = y.pin g (.cells (dJ (n) r a b) 131) ∧ g < y.heap.size ∧ Hid (kY B g (x.pin g (.cells (dJ (n) r a b) 131)) y)) (fun iv _ => 0)
 case atStart => exact ⟨x, rfl, rfl, hlt, HB0⟩
 case round =>
  obtain ⟨y, rfl, rfl, q0, fB⟩ := hrel
  have hyB : B ≤ y.heap.size := by have := fB.out.size; rw [aA, ← hB] at this; exact this
  go_wp2_with (refine eu 124 (.tmp 9) rfl rfl (g) 0 rfl [.int .i64 8, .int .i64 64, .int .i64 80, .int .i64 1, .int .i64 8, .int .i64 7, .int .i64 19, .int .i64 61, .int .i64 6, .int .i64 28, .int .i64 34, .int .i64 39, .int .i64 14, .int .i64 18, .int .i64 41] (dJ (n) r a b) 131 ob (by kernel_rfl) (by kernel_rfl) (by kernel_rfl) ?_)
  refine (oZ _).mono ?_
  rintro e y11 ⟨rfl, dG⟩
  obtain ⟨x11, rfl, mQ, nD, Bo⟩ := bQ (b := g) dG rfl ob
  have fC : Hid (kY B g (x.pin g (.cells (dJ (n) r a b) 131)) x11) := Lib.hid (kY.below (uP fB.out) mQ sz)
  clear dG mQ
  try simp only [eF] at nD
  go_wp2_with fail
  exact bodyPost_ret (v := .slice A 0 c) (by simp [results, Tryz.results111, go_sem]) rfl ⟨rfl, by rw [aA, aA, ← hB]; exact kY.done (uP fC.out) ob (by rw [aA]; exact hlt)⟩
theorem gu.pin {x : World} {B g : Nat} {o o' : Obj} {v : Value} {bs : List Nat} (h : gu (x.pin g o) B v bs) (hg : v.ownBlock ≠ some g) : gu (x.pin g o') B v bs := by
 unfold gu at h ⊢
 refine ⟨h.1, ?_⟩
 rcases h.2 with hn | ⟨q, cap, cur, rfl, hb, hq, hr⟩
 · exact .inl hn
 · have e : q ≠ g := fun e => hg (by rw [e]; rfl)
   refine .inr ⟨q, cap, cur, rfl, hb, ?_, hr⟩
   rw [je e] at hq ⊢
   exact hq
theorem Rd.pin {x : World} {g B : Nat} {o o' : Obj} {k : IntKind} {A : Option Addr} {bs : List Nat} (h : Rd (x.pin g o) k A bs) (hA : ∀ b off, A = some ⟨b, off, none⟩ → 0 < bs.length → b < B) (hg : B ≤ g) : Rd (x.pin g o') k A bs := fun i hi => by
 obtain ⟨b, off, e, hc⟩ := h i hi
 have hb := hA b off e (by omega)
 refine ⟨b, off, e, ?_⟩
 rw [jM (by omega)] at hc ⊢
 exact hc
theorem take_any (g n : Nat) (r : Value) (a b : V8) (v : Value) (B : Nat) (bs : List Nat) (hl : bs.length ≤ 4000000) (hby : ∀ x ∈ bs, x < 256) (hv : b.lt 64) (w : World) (hk : jm w) (hg : g ≠ 7) (hr : gu w B v bs) (hn : v.ownBlock ≠ some g) (hob : w.heap[g]? = some (.cells (dJ (n) r a b) 131)) :
 Calls Tryz.prog 111 #[.pointer (some ⟨g, 0, none⟩), v] w fun e w' => (∃ A c', e = .returned (.slice A (bs.length % 128) c') ∧ Rd w' .u8 A (bs.drop (128 * (bs.length / 128)))) ∧ Below (w.pin g (.cells (dJ (n) r a (iV aV (bs.length / 128) bs b)) 131)).heap.size (w.pin g (.cells (dJ (n) r a (iV aV (bs.length / 128) bs b)) 131)) w' := by
 obtain ⟨A, c, rfl, hc, hnone, hsome⟩ := hr.form
 by_cases h0 : bs.length = 0
 · have e : bs = [] := List.eq_nil_of_length_eq_zero h0
   subst e
   refine (take_nil g n r a b A c w hob).mono ?_
   rintro e w' ⟨rfl, hb⟩
   exact ⟨⟨A, c, rfl, Rd.nil _ _ _⟩, hb⟩
 · cases A with
   | none => exact absurd (hnone rfl) h0
   | some ad =>
    obtain ⟨gb, rfl, rO, hB, hlt⟩ := hsome ad rfl
    have hne : gb ≠ g := fun e => hn (by rw [rO, e])
    have hrd := gu.rd hr
    refine (Za g n r a b gb 0 c bs (by omega) hc hl hby hv hne w hk hg hrd hob).mono ?_
    rintro e w' ⟨⟨A2, rfl, hA⟩, hb⟩
    refine ⟨⟨A2, _, rfl, ?_⟩, hb⟩
    by_cases h1 : bs.length % 128 = 0
    · rw [show bs.drop (128 * (bs.length / 128)) = [] from List.drop_eq_nil_of_le (by omega)]
      exact Rd.nil _ _ _
    · rw [hA (by omega)]
      have h2 : Rd (w.pin g (.cells (dJ (n) r a (iV aV (bs.length / 128) bs b)) 131)) .u8 (some ⟨gb, 0, none⟩) bs := fun i hi => by
       obtain ⟨b', o', e', hc'⟩ := hrd i hi
       simp only [Option.some.injEq, Addr.mk.injEq] at e'
       obtain ⟨rfl, rfl, _⟩ := e'
       exact ⟨gb, 0, rfl, by rw [jM hne]; exact hc'⟩
      exact Rd.mono (Rd.drop h2 _) hb (Nat.le_refl _)
end
section
open Go.RowKit Go.Proofs.YtehfkbaendajbaaGreatDoorW.PrintLast
theorem jm.low {B : Nat} {w w' : World} (h : jm w) (hb : Below B w w') (hB : 7 < B) : jm w' := by
 obtain ⟨h1, t, fr, h2⟩ := h
 exact ⟨Nat.lt_of_lt_of_le h1 hb.size, t, fr, (hb.block 7 hB).trans h2⟩
theorem Jt {B g : Nat} {x : World} {o o' : Obj} (h : B ≤ g) : Below B (x.pin g o) (x.pin g o') := by
 have h1 := jS (o := o') (Below.refl B (x.pin g o)) h
 rwa [dB] at h1
theorem Wv (B g : Nat) (m bs : List Nat) (A : Option Addr) (c : Nat) (hl : m.length + bs.length ≤ 1048576) (hbm : ∀ z ∈ m, z < 256) (hby : ∀ z ∈ bs, z < 256) (hA : ∀ b off, A = some ⟨b, off, none⟩ → 0 < bs.length → b < B) (hg : g ≠ 7) (hgk : 7 < B) (w : World) (hB : B ≤ w.heap.size) (hk : jm w) (hst : Xb B w g m) (hr : Rd w .u8 A bs) :
 Calls Tryz.prog 81 #[.pointer (some ⟨g, 0, none⟩), .slice A bs.length c] w fun e w' => (e = .returned (.int .i64 0) ∧ Xb B w' g (m ++ bs)) ∧ Below B w w' := by
 obtain ⟨hBg, v, hob, hrow, hown⟩ := hst
 obtain ⟨L, hL⟩ : ∃ z, z = (m ++ bs).length := ⟨_, rfl⟩
 have WY := Lib.hid hL
 clear hL
 obtain ⟨b0, hb0⟩ : ∃ z, z = fE qC := ⟨_, rfl⟩
 obtain ⟨hm, hhm⟩ : ∃ z, z = QM m := ⟨_, rfl⟩
 have HM := Lib.hid (show hm.lt 64 ∧ iV aV ((uF m ++ bs).length / 128) (uF m ++ bs) hm = QM (m ++ bs) by rw [hhm]; exact ⟨Lm m, ND m bs⟩)
 rw [← hb0, ← hhm] at hob
 have HB0 := Lib.hid hb0
 clear hb0 hhm
 obtain ⟨x, rfl⟩ : ∃ x : World, w = x.pin g (.cells (dJ (m.length) v b0 hm) 131) := ⟨w, (aN hob).symm⟩
 have hlt : g < x.heap.size := by have := (Array.getElem?_eq_some_iff.mp hob).1; rw [aA] at this; exact this
 rw [aA] at hB
 have zG := Lib.hid (show gu (x.pin g (.cells (dJ (L) v b0 hm) 131)) B v (uF m) from gu.pin hrow hown)
 have mJ := Lib.hid (show Rd (x.pin g (.cells (dJ (L) v b0 hm) 131)) .u8 A bs from Rd.pin hr hA hBg)
 have adi := Lib.hid hown
 have su := Lib.hid hk
 have hl2 : (uF m).length < 128 := by rw [xO]; exact Nat.mod_lt _ (by decide)
 have HL := Lib.hid (show m.length + bs.length ≤ 1048576 ∧ (uF m).length < 128 from ⟨hl, hl2⟩)
 have rV := Lib.hid (show ∀ z ∈ uF m ++ bs, z < 256 from fun z hz => by
  rcases List.mem_append.mp hz with h | h
  · exact hbm z (List.mem_of_mem_drop h)
  · exact hby z h)
 have e1 : IntKind.i64.wrap (1048576 - (m.length : Int)) = ((1048576 - m.length : Nat) : Int) := (IntWalk.i64_in _ (by omega)).trans (by omega)
 have e2 : ((1048576 - m.length : Nat) : Int) < (bs.length : Int) ↔ False := ⟨fun h => by omega, False.elim⟩
 have e3 : (m.length : Int) + (bs.length : Int) = (L : Int) := by have := WY.out; rw [List.length_append] at this; omega
 have e4 : IntKind.i64.wrap (L : Int) = (L : Int) := (IntWalk.i64_in _ (by omega)).trans rfl
 clear hob hrow hr hown hk hbm hby hl hl2
 go_enter Tryz.func81, Tryz.ntmps81
 go_wp2_with (at_builtin; refine bH (.tmp 31) (.tmp 32) rfl rfl B v (uF m) bs A bs.length c rfl rfl rfl zG.out mJ.out (by have := HL.out; omega) (by rw [aA]; omega) ?_)
 intro v1 w1 hrow1 hgrow1 lI
 have alR : w1.heap[g]? = some (.cells (dJ (L) v b0 hm) 131) := (hgrow1.block g (by rw [aA]; exact hlt) (fun e => adi.out e.symm)).trans ob
 have hv1 : v1.ownBlock ≠ some g := by
  rcases lI with h | h
  · rw [h]; exact adi.out
  · rw [h]; intro e; injection e with e; (try rw [aA] at e); omega
 have HBa : Hid (Below B (x.pin g (.cells (dJ (m.length) v b0 hm) 131)) w1) := Lib.hid (Below.grown (Jt hBg) hgrow1 (by rw [aA]; omega) (fun k h => (zG.out.lt k h).1))
 have hs1 : x.heap.size ≤ w1.heap.size := by have := hgrow1.size; rw [aA] at this; exact this
 have HR1 := Lib.hid (And.intro hrow1 (And.intro hv1 alR))
 clear hrow1 hgrow1 lI hv1 alR
 go_wp2_with fail
 refine (take_any g L v b0 hm v1 B (uF m ++ bs) (by have := HL.out; rw [List.length_append]; omega) rV.out HM.out.1 w1 (su.out.low HBa.out hgk) hg HR1.out.1 HR1.out.2.1 HR1.out.2.2).mono ?_
 rintro e y ⟨⟨A2, c2, rfl, Ue⟩, hb2⟩
 obtain ⟨h2, hh2⟩ : ∃ z, z = iV aV ((uF m ++ bs).length / 128) (uF m ++ bs) hm := ⟨_, rfl⟩
 rw [← hh2] at hb2
 have Ph : y.heap[g]? = some (.cells (dJ (L) v b0 h2) 131) := (hb2.block g (by rw [aA]; omega)).trans (eY (by omega))
 have HBb : Hid (Below B (x.pin g (.cells (dJ (m.length) v b0 hm) 131)) y) := Lib.hid (Below.trans (jS HBa.out hBg) (hb2.mono (by rw [aA]; omega)))
 have hs2 : w1.heap.size ≤ y.heap.size := by have := hb2.size; rw [aA] at this; exact this
 obtain ⟨rs, hrs⟩ : ∃ z, z = (uF m ++ bs).drop (128 * ((uF m ++ bs).length / 128)) := ⟨_, rfl⟩
 have hrl : (uF m ++ bs).length % 128 = rs.length := by rw [hrs, List.length_drop]; omega
 rw [← hrs] at Ue
 rw [hrl]
 have HR2 := Lib.hid (And.intro Ue (And.intro Ph (And.intro hh2 (And.intro hrs (show rs.length < 128 by rw [← hrl]; exact Nat.mod_lt _ (by decide))))))
 clear Ue hb2 Ph hh2 hrs hrl
 go_wp2_with (at_builtin; refine bH (.const (.slice none 0 0)) (.tmp 34) rfl rfl B (.slice none 0 0) [] rs A2 rs.length c2 rfl rfl rfl (gu.nil _ _) HR2.out.1 (by have := HR2.out.2.2.2.2; simp; omega) (by omega) ?_)
 intro v2 w2 hrow2 hgrow2 wR
 have rO : w2.heap[g]? = some (.cells (dJ (L) v b0 h2) 131) := (hgrow2.block g (by omega) (fun e => by simp [Value.ownBlock] at e)).trans HR2.out.2.1
 have hv2 : v2.ownBlock ≠ some g := by
  rcases wR with h | h
  · rw [h]; simp [Value.ownBlock]
  · rw [h]; intro e; injection e with e; omega
 have HBc : Hid (Below B (x.pin g (.cells (dJ (m.length) v b0 hm) 131)) w2) := Lib.hid (Below.grown HBb.out hgrow2 (by omega) (fun k h => by simp [Value.ownBlock] at h))
 have hlt2 : g < w2.heap.size := (Array.getElem?_eq_some_iff.mp rO).1
 obtain ⟨x2, rfl⟩ : ∃ x2 : World, w2 = x2.pin g (.cells (dJ (L) v b0 h2) 131) := ⟨w2, (aN rO).symm⟩
 rw [aA] at hlt2
 obtain ⟨A3, c3, hv3, _, _⟩ := hrow2.form
 subst hv3
 have HR3 := Lib.hid (And.intro hrow2 hv2)
 clear hrow2 hgrow2 wR rO hv2
 go_wp2_with fail
 refine bodyPost_ret (v := .int .i64 0) ?_ rfl ?_
 · simp [results, Tryz.results81, go_sem]
 refine ⟨⟨rfl, hBg, _, ?_, ?_, HR3.out.2⟩, ?_⟩
 · rw [← WY.out, ← HB0.out, ← HM.out.2, ← HR2.out.2.2.1]; exact ob
 · rw [← YX, ← HR2.out.2.2.2.1]; exact gu.pin HR3.out.1 HR3.out.2
 · have h3 := jS (o := .cells (dJ (L) (.slice A3 rs.length c3) b0 h2) 131) HBc.out hBg
   rwa [dB] at h3
end
section
open Go.RowKit Go.Proofs.YtehfkbaendajbaaGreatDoorW.PrintLast
theorem gu.rd' {w : World} {B c n : Nat} {A : Option Addr} {bs : List Nat} (h : gu w B (.slice A n c) bs) : Rd w .u8 A bs := by
 obtain ⟨A', c', e, _, hn, hs⟩ := h.form
 simp only [Value.slice.injEq] at e
 obtain ⟨rfl, rfl, rfl⟩ := e
 cases A with
 | none =>
  have : bs = [] := List.eq_nil_of_length_eq_zero (hn rfl)
  subst this
  exact Rd.nil _ _ _
 | some ad =>
  obtain ⟨g, rfl, _⟩ := hs ad rfl
  exact gu.rd h
theorem Xv (B g : Nat) (m : List Nat) (w : World) (hst : Xb B w g m) :
 Calls Tryz.prog 112 #[.pointer (some ⟨g, 0, none⟩)] w fun e w' => (∃ gc, w.heap.size ≤ gc ∧ e = .returned (.pointer (some ⟨gc, 0, none⟩)) ∧ Xb w.heap.size w' gc m) ∧ Below w.heap.size w w' := by
 obtain ⟨hBg, v, hob, hrow, hown⟩ := hst
 obtain ⟨A, c, rfl, _, _⟩ := hrow.form
 obtain ⟨b0, hb0⟩ : ∃ z, z = fE qC := ⟨_, rfl⟩
 obtain ⟨hm, hhm⟩ : ∃ z, z = QM m := ⟨_, rfl⟩
 obtain ⟨n, hn⟩ : ∃ z, z = (uF m).length := ⟨_, rfl⟩
 have aew : n < 128 := by rw [hn, xO]; exact Nat.mod_lt _ (by decide)
 rw [← hn] at hob hrow
 rw [← hb0, ← hhm] at hob
 have HB0 := Lib.hid (And.intro hb0 (And.intro hhm hn))
 clear hb0 hhm hn
 have hlt : g < w.heap.size := (Array.getElem?_eq_some_iff.mp hob).1
 obtain ⟨x, hx⟩ : ∃ x : World, w = x.pin g (.cells (dJ (m.length) (.slice A n c) b0 hm) 131) := ⟨w, (aN hob).symm⟩
 have hs : w.heap.size = x.heap.size := by rw [hx, aA]
 rw [hs] at hlt
 have mJ := Lib.hid (gu.rd' hrow)
 obtain ⟨B0, hB0⟩ : ∃ z, z = w.heap.size := ⟨_, rfl⟩
 rw [← hB0]
 have hBx : B0 = x.heap.size := by omega
 clear hob hrow hown hs hB0
 subst hx
 go_enter Tryz.func112, Tryz.ntmps112
 go_wp2_with (first | (refine gZ 131 (.tmp 7) rfl rfl g (dJ (m.length) (.slice A n c) b0 hm) 131 rfl (by kernel_rfl) (by kernel_rfl) ob ?_) | (refine iG 131 (.tmp 3) (.tmp 8) rfl rfl (x.heap.size) (dJ (m.length) (.slice A n c) b0 hm) #[.int .i64 0, .int .i64 0, .int .i64 0, .int .i64 0, .int .i64 0, .int .i64 0, .int .i64 0, .int .i64 0, .int .i64 0, .int .i64 0, .int .i64 0, .int .i64 0, .int .i64 0, .int .i64 0, .int .i64 0, .int .i64 0, .slice none 0 0, .int .u32 0, .int .u32 0, .int .u32 0, .int .u32 0, .int .u32 0, .int .u32 0, .int .u32 0, .int .u32 0, .int .u64 0, .int .u64 0, .int .u64 0, .int .u64 0, .int .u64 0, .int .u64 0, .int .u64 0, .int .u64 0] 131 rfl rfl (by kernel_rfl) (by kernel_rfl) (by kernel_rfl) ob ?_) | (at_builtin; refine bH (.const (.slice none 0 0)) (.tmp 12) rfl rfl B0 (.slice none 0 0) [] (uF m) A n c rfl rfl HB0.out.2.2 (gu.nil _ _) (by exact Rd.mono mJ.out (pl (Below.refl _ _)) (Nat.le_refl _)) (by have := HB0.out.2.2; simp; omega) (by rw [hBx]; exact sz) ?_))
 intro v2 w2 hrow2 hgrow2 wR
 have rO : w2.heap[x.heap.size]? = some (.cells (dJ (m.length) (.slice A n c) b0 hm) 131) := (hgrow2.block _ sz (fun e => by simp [Value.ownBlock] at e)).trans ob
 have hv2 : v2.ownBlock ≠ some x.heap.size := by
  rcases wR with h | h
  · rw [h]; simp [Value.ownBlock]
  · rw [h]; intro e; injection e with e; (try simp only [aA, World.size_alloc] at e); omega
 have HBc : Hid (Below B0 (x.pin g (.cells (dJ (m.length) (.slice A n c) b0 hm) 131)) w2) := Lib.hid (Below.grown (pl (Below.refl _ _)) hgrow2 (by rw [hBx]; exact sz) (fun k h => by simp [Value.ownBlock] at h))
 obtain ⟨A3, c3, hv3, _, _⟩ := hrow2.form
 subst hv3
 have hlt2 : x.heap.size < w2.heap.size := (Array.getElem?_eq_some_iff.mp rO).1
 obtain ⟨x2, rfl⟩ : ∃ x2 : World, w2 = x2.pin x.heap.size (.cells (dJ (m.length) (.slice A n c) b0 hm) 131) := ⟨w2, (aN rO).symm⟩
 rw [aA] at hlt2
 have HR3 := Lib.hid (And.intro hrow2 hv2)
 clear hrow2 hgrow2 wR rO hv2
 go_wp2_with fail
 refine bodyPost_ret (v := .pointer (some ⟨x.heap.size, 0, none⟩)) ?_ rfl ?_
 · simp [results, Tryz.results112, go_sem]
 refine ⟨⟨x.heap.size, by omega, rfl, by omega, _, ?_, ?_, HR3.out.2⟩, ?_⟩
 · rw [← HB0.out.1, ← HB0.out.2.1]; exact ob
 · rw [hBx]; exact gu.pin HR3.out.1 HR3.out.2
 · have h3 := jS (b := x.heap.size) (o := .cells (dJ (m.length) (.slice A3 (uF m).length c3) b0 hm) 131) HBc.out (by omega)
   rwa [dB] at h3
end
section
open Go.RowKit Go.Proofs.YtehfkbaendajbaaGreatDoorW.PrintLast
theorem gu.below {w w' : World} {B C : Nat} {v : Value} {bs : List Nat} (h : gu w B v bs) (hb : Below C w w') (hC : w.heap.size ≤ C) : gu w' B v bs := by
 unfold gu at h ⊢
 refine ⟨h.1, ?_⟩
 rcases h.2 with hn | ⟨q, cap, cur, rfl, hB, hq, hr⟩
 · exact .inl hn
 · exact .inr ⟨q, cap, cur, rfl, hB, (hb.block q (Nat.lt_of_lt_of_le (Array.getElem?_eq_some_iff.mp hq).1 hC)).trans hq, hr⟩
theorem VP (n : Nat) : ∀ z ∈ nK aV n, z < 256 := by
 intro z hz
 unfold nK at hz
 rcases List.mem_cons.mp hz with rfl | hz
 · decide
 · rcases List.mem_append.mp hz with hz | hz
   · rw [(List.mem_replicate.mp hz).2]; decide
   · have key : ∀ k (x : Nat), x ∈ zI k (8 * n) → x < 256 := by
      intro k
      induction k with
      | zero => intro x hx; cases hx
      | succ k ih =>
       intro x hx
       rw [zI] at hx
       rcases List.mem_cons.mp hx with rfl | hx
       · exact Nat.mod_lt _ (by decide)
       · exact ih x hx
     exact key 8 z hz
theorem yT (n : Nat) : (nK aV n).length = dW aV n := by rw [← IK]; exact Vg n 8 (Nat.le_refl _)
theorem afB (m : List Nat) : Ai aV m = (QM (m ++ nK aV m.length)).out 8 := rfl
theorem acG (B g : Nat) (m : List Nat) (hl : m.length ≤ 1048576) (hbm : ∀ z ∈ m, z < 256) (w : World) (hk : jm w) (hst : Xb B w g m) :
 Calls Tryz.prog 82 #[.pointer (some ⟨g, 0, none⟩)] w fun e w' => (∃ b, w.heap.size ≤ b ∧ e = .returned (.slice (some ⟨b, 0, none⟩) 64 64) ∧ w'.heap[b]? = some (.cells (bF (Ai aV m)) 5)) ∧ Below w.heap.size w w' := by
 obtain ⟨B0, hB0⟩ : ∃ z, z = w.heap.size := ⟨_, rfl⟩
 rw [← hB0]
 have aag := Lib.hid hB0
 clear hB0
 have HM := Lib.hid (show m.length ≤ 1048576 ∧ ∀ z ∈ m, z < 256 from ⟨hl, hbm⟩)
 have su := Lib.hid hk
 have HGK := Lib.hid hk.1
 have QY := Lib.hid hst
 clear hl hbm hst hk
 go_enter Tryz.func82, Tryz.ntmps82
 go_wp2_with fail
 refine (Xv B g m _ QY.out).mono ?_
 rintro e y ⟨⟨gc, hgc, rfl, hst2⟩, hb⟩
 obtain ⟨hBg, v, hob, hrow, hown⟩ := hst2
 obtain ⟨A, c, rfl, _, _⟩ := hrow.form
 obtain ⟨b0, hb0⟩ : ∃ z, z = fE qC := ⟨_, rfl⟩
 obtain ⟨hm, hhm⟩ : ∃ z, z = QM m := ⟨_, rfl⟩
 obtain ⟨n, hn⟩ : ∃ z, z = (uF m).length := ⟨_, rfl⟩
 have aew : n < 128 := by rw [hn, xO]; exact Nat.mod_lt _ (by decide)
 rw [← hn] at hob hrow hown
 rw [← hb0, ← hhm] at hob
 have HH := Lib.hid (And.intro hhm hn)
 clear hb0 hhm hn
 rw [← aag.out] at hb hBg hrow hgc
 have hlt : gc < y.heap.size := (Array.getElem?_eq_some_iff.mp hob).1
 obtain ⟨x, rfl⟩ : ∃ x : World, y = x.pin gc (.cells (dJ (m.length) (.slice A n c) b0 hm) 131) := ⟨y, (aN hob).symm⟩
 rw [aA] at hlt
 have rV := Lib.hid hb
 have zG := Lib.hid (And.intro hrow hown)
 have hsx : B0 ≤ x.heap.size := by have := hb.size; rw [aA] at this; omega
 clear hob hrow hown hb
 go_wp2_with fail
 refine start_ (S := Keeps (x.pin gc (.cells (dJ (m.length) (.slice A n c) b0 hm) 131)) _) (ds := []) (n := 16) #[false, false, false, false, false, false, false, false, false, false, false, false, false, false, false, false] (by kernel_rfl) rfl rfl (ak (b := gc) ob (aO (pl (Below.refl _ _)))) (fun HS => ?_)
 refine tk1 0 (some 11) HS (h := ?_)
 refine tk1 1 (some 12) HS (h := ?_)
 refine tk1 2 (some 13) HS (h := ?_)
 refine tk1 3 (some 14) HS (h := ?_)
 refine tk1 4 (some 15) HS (h := ?_)
 refine tk1 5 (some 16) HS (h := ?_)
 refine tk1 6 (some 17) HS (h := ?_)
 refine tk1 7 (some 18) HS (h := ?_)
 refine tk1 8 (some 19) HS (h := ?_)
 refine tk1 9 (some 20) HS (h := ?_)
 refine dH 10 (some 21) (h := fun K hK => ?_)
 go_simp
 refine (acu m.length HM.out.1 _).mono ?_
 rintro e y ⟨⟨gp, hgp, rfl, aeB⟩, hb⟩
 refine hK.out _ _ (HS.step hb rfl) ?_
 clear HS hb
 intro HS
 have HP := Lib.hid (And.intro hgp aeB)
 clear hgp aeB
 refine tk1 11 (some 10) HS (h := ?_)
 refine tk1 12 (some 22) HS (h := ?_)
 refine tk1 13 (some 23) HS (h := ?_)
 refine tk1 14 (some 4) HS (h := ?_)
 refine tk1 15 (some 5) HS (h := ?_)
 obtain ⟨x1, rfl, hk1, hz1, l10⟩ := HS.jE
 have HB1 : Hid (Below (x.pin gc (.cells (dJ (m.length) (.slice A n c) b0 hm) 131)).heap.size (x.pin gc (.cells (dJ (m.length) (.slice A n c) b0 hm) 131)) x1) := hk1.below
 clear HS hk1
 refine done_ (by kernel_rfl) ?_
 have hx1 : x1.pin gc (.cells (dJ (m.length) (.slice A n c) b0 hm) 131) = x1 := aN ((HB1.out.block gc (by rw [aA]; exact hlt)).trans (eY hlt))
 have hs1 : x.heap.size ≤ x1.heap.size := by have := HB1.out.size; rw [aA] at this; exact this
 have Zq : Hid (gu (x1.pin gc (.cells (dJ (m.length) (.slice A n c) b0 hm) 131)) B0 (.slice A n c) (uF m)) := Lib.hid (by rw [hx1]; exact gu.below zG.out.1 HB1.out (Nat.le_refl _))
 have ahw : Hid (Rd (x1.pin gc (.cells (dJ (m.length) (.slice A n c) b0 hm) 131)) .u8 (some ⟨gp, 0, none⟩) (nK aV m.length)) := Lib.hid (nS HP.out.2)
 have HBx : Hid (Below B0 w (x1.pin gc (.cells (dJ (m.length) (.slice A n c) b0 hm) 131))) := Lib.hid (by rw [hx1]; exact Below.trans rV.out (HB1.out.mono (by rw [aA]; exact hsx)))
 have hpl := vM m.length
 clear hx1
 go_wp2_with (at_builtin; refine bH (.tmp 28) (.tmp 29) rfl rfl B0 (.slice A n c) (uF m) (nK aV m.length) (some ⟨gp, 0, none⟩) (dW aV m.length) (dW aV m.length) rfl rfl (yT _).symm Zq.out ahw.out (by rw [yT]; have := HH.out.2; omega) (by rw [aA]; omega) ?_)
 intro v1 w1 hrow1 hgrow1 lI
 have alR : w1.heap[gc]? = some (.cells (dJ (m.length) (.slice A n c) b0 hm) 131) := (hgrow1.block gc (by rw [aA]; exact l10) (fun e => zG.out.2 e.symm)).trans ob
 have hv1 : v1.ownBlock ≠ some gc := by
  rcases lI with h | h
  · rw [h]; exact zG.out.2
  · rw [h]; intro e; injection e with e; (try rw [aA] at e); omega
 have HBa : Hid (Below B0 w w1) := Lib.hid (Below.grown HBx.out hgrow1 (by rw [aA]; omega) (fun k h => (Zq.out.lt k h).1))
 have hs2 : x1.heap.size ≤ w1.heap.size := by have := hgrow1.size; rw [aA] at this; exact this
 have HR1 := Lib.hid (And.intro hrow1 (And.intro hv1 alR))
 clear hrow1 hgrow1 lI hv1 alR
 go_wp2_with fail
 refine (take_any gc m.length (.slice A n c) b0 hm v1 B0 (uF m ++ nK aV m.length) (by rw [List.length_append, yT]; have := HH.out.2; omega) (fun z hz => ?_) (by rw [HH.out.1]; exact Lm m) w1 (su.out.low HBa.out (by have := HGK.out; have := aag.out; omega)) (by have := HGK.out; have := aag.out; omega) HR1.out.1 HR1.out.2.1 HR1.out.2.2).mono ?_
 · rcases List.mem_append.mp hz with h | h
   · exact HM.out.2 z (List.mem_of_mem_drop h)
   · exact VP _ z h
 rintro e y ⟨⟨A2, c2, rfl, _⟩, hb2⟩
 obtain ⟨h2, hh2⟩ : ∃ z, z = QM (m ++ nK aV m.length) := ⟨_, rfl⟩
 have e2 : iV aV ((uF m ++ nK aV m.length).length / 128) (uF m ++ nK aV m.length) hm = h2 := by rw [HH.out.1, hh2]; exact ND m _
 rw [e2] at hb2
 have HBb : Hid (Below B0 w y) := Lib.hid (Below.trans (jS HBa.out hBg) (hb2.mono (by rw [aA]; omega)))
 have Ph : y.heap[gc]? = some (.cells (dJ (m.length) (.slice A n c) b0 h2) 131) := (hb2.block gc (by rw [aA]; omega)).trans (eY (by omega))
 have hlt3 : gc < y.heap.size := (Array.getElem?_eq_some_iff.mp Ph).1
 obtain ⟨x2, rfl⟩ : ∃ x2 : World, y = x2.pin gc (.cells (dJ (m.length) (.slice A n c) b0 h2) 131) := ⟨y, (aN Ph).symm⟩
 rw [aA] at hlt3
 have hs3 : B0 ≤ x2.heap.size := by have := HBb.out.size; rw [aA] at this; omega
 have HHD : Hid (h2.lt 64 ∧ h2 = QM (m ++ nK aV m.length)) := Lib.hid ⟨by rw [hh2]; exact Lm _, hh2⟩
 clear e2 hb2 Ph hh2
 go_wp2_with fail
 refine start_ (S := Keeps (x2.pin gc (.cells (dJ (m.length) (.slice A n c) b0 h2) 131)) _) (ds := []) (n := 10) #[false, false, false, false, false, false, false, false, false, false] (by kernel_rfl) rfl rfl (ak (b := gc) ob (aO (pl (Below.refl _ _)))) (fun HS => ?_)
 refine tk1 0 (some 47) HS (h := ?_)
 refine tk1 1 (some 48) HS (h := ?_)
 refine tk1 2 (some 49) HS (h := ?_)
 refine tk1 3 (some 50) HS (v := .agg #[.int .i64 8, .int .i64 64, .int .i64 80, .int .i64 1, .int .i64 8, .int .i64 7, .int .i64 19, .int .i64 61, .int .i64 6, .int .i64 28, .int .i64 34, .int .i64 39, .int .i64 14, .int .i64 18, .int .i64 41]) (hy := by (intro v hv; obtain ⟨x, rfl, _, _, n0⟩ := hv.jE; exact aG 124 (.tmp 49) rfl gc 0 rfl [.int .i64 8, .int .i64 64, .int .i64 80, .int .i64 1, .int .i64 8, .int .i64 7, .int .i64 19, .int .i64 61, .int .i64 6, .int .i64 28, .int .i64 34, .int .i64 39, .int .i64 14, .int .i64 18, .int .i64 41] (dJ (m.length) (.slice A n c) b0 h2) 131 ob (by kernel_rfl) (by kernel_rfl) (by kernel_rfl))) (h := ?_)
 refine tk1 4 (some 51) HS (h := ?_)
 refine tk1 5 (some 52) HS (h := ?_)
 refine tk1 6 (some 53) HS (h := ?_)
 refine tk1 7 (some 54) HS (v := .agg (h2.cs .u64)) (hy := by (intro v hv; obtain ⟨x, rfl, _, _, n0⟩ := hv.jE; exact aG 129 (.tmp 53) rfl gc 25 rfl [.int .u64 (h2.a : Int), .int .u64 (h2.b : Int), .int .u64 (h2.c : Int), .int .u64 (h2.d : Int), .int .u64 (h2.e : Int), .int .u64 (h2.f : Int), .int .u64 (h2.g : Int), .int .u64 (h2.h : Int)] (dJ (m.length) (.slice A n c) b0 h2) 131 ob (by kernel_rfl) (by kernel_rfl) (by kernel_rfl))) (h := ?_)
 refine dH 8 (some 55) (h := fun K hK => ?_)
 go_simp
 refine (acH h2 HHD.out.1 _).mono ?_
 rintro e y ⟨⟨gs, hgs, rfl, aeC⟩, hb⟩
 replace hgs := Nat.le_trans HS.1.size hgs
 refine hK.out _ _ (HS.step hb rfl) ?_
 clear HS hb
 intro HS
 have HS2 := Lib.hid (And.intro hgs aeC)
 clear hgs aeC
 refine tk1 9 (some 2) HS (h := ?_)
 obtain ⟨x1, rfl, hk1, hz1, l10⟩ := HS.jE
 have HB1 : Hid (Below (x2.pin gc (.cells (dJ (m.length) (.slice A n c) b0 h2) 131)).heap.size (x2.pin gc (.cells (dJ (m.length) (.slice A n c) b0 h2) 131)) x1) := hk1.below
 clear HS hk1
 refine done_ (by kernel_rfl) ?_
 have HBf : Hid (Below B0 w (x1.pin gc (.cells (dJ (m.length) (.slice A n c) b0 h2) 131))) := Lib.hid (by
  have h0 := HB1.out.block gc (by rw [aA]; exact hlt3)
  rw [aN (h0.trans (eY hlt3))]
  exact Below.trans HBb.out (HB1.out.mono (by rw [aA]; exact hs3)))
 have aiy : B0 ≤ gs := by have := HS2.out.1; rw [aA] at this; omega
 go_wp2_with fail
 exact bodyPost_ret (v := .slice (some ⟨gs, 0, none⟩) 64 64) (by simp [results, Tryz.results82, go_sem]) rfl ⟨⟨gs, aiy, rfl, by rw [afB, ← HHD.out.2]; exact HS2.out.2⟩, HBf.out⟩
end
end Go.Proofs.YtehfkbaendajbaaGreatDoor
