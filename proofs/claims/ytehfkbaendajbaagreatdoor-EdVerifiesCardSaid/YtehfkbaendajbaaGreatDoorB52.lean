/-
  Shared, part 52: walks and plain laws; each theorem states its own conditions.
-/
import Derived.Test.YtehfkbaendajbaaGreatDoorB43
import Derived.Test.YtehfkbaendajbaaGreatDoorB50
import Derived.IntWalk
import Derived.Lib.Hide
import Derived.StillTailTactics
namespace Go.Proofs.YtehfkbaendajbaaGreatDoor
set_option linter.unusedSimpArgs false
set_option linter.unusedVariables false
set_option maxRecDepth 100000
set_option maxHeartbeats 8000000
section
open Go.RowKit Go.Proofs.YtehfkbaendajbaaGreatDoorW.PrintLast
structure aq7 (bs bl : List Nat) (t i x j v y : Nat) : Prop where
 jj : j = t * 8 + i
 yy : y = x * 256 + v
 iI : (i : Int) < 8
 jI : (t : Int) * 8 + (i : Int) < 128
 hv : v = bl.getD i 0
 n3 : eX ((x : Int) * 256) = (x : Int) * 256
 n5 : eX (v : Int) = (v : Int)
 n4 : eX ((x : Int) * 256 + (v : Int)) = (y : Int)
theorem an5 (bs bl : List Nat) (t i x : Nat) (ht : t < 16) (hi : i < 8) (hx : x * 256 + 255 < 18446744073709551616) (hv : bl.getD i 0 < 256) : ∃ j v y, aq7 bs bl t i x j v y := by
 have n1 : eX ((x : Int) * 256) = (x : Int) * 256 := by unfold eX; rw [IntKind.wrap_u64]; omega
 have n2 : eX ((x : Int) * 256 + ((bl.getD i 0 : Nat) : Int)) = ((x * 256 + bl.getD i 0 : Nat) : Int) := by unfold eX; rw [IntKind.wrap_u64]; omega
 exact ⟨_, _, _, { jj := rfl, yy := rfl, iI := by omega, jI := by omega, hv := rfl, n3 := n1, n5 := by unfold eX; rw [IntKind.wrap_u64]; omega, n4 := n2 }⟩
theorem an4 (bs : List Nat) (k i n : Nat) (hi : i < n) : ((bs.drop k).take n).getD i 0 = bs.getD (k + i) 0 := by simp [List.getD_eq_getElem?_getD, List.getElem?_take, hi, List.getElem?_drop]
theorem am5 (n i : Nat) (h : i < n) : ((n : Int) - intOf (.int .i64 (((i + 1 : Nat)) : Int))).toNat < ((n : Int) - intOf (.int .i64 (i : Int))).toNat := by
 show ((n : Int) - (((i + 1 : Nat)) : Int)).toNat < ((n : Int) - (i : Int)).toNat
 omega
structure aq8 (bs : List Nat) (t i16 i7 i15 i2 v16 v7 v15 v2 s0 s1 q1 q2 q3 : Nat) : Prop where
 d16 : i16 + 16 = t
 e16 : IntKind.i64.wrap ((t : Int) - 16) = (i16 : Int)
 b16 : (i16 : Int) < (t : Int)
 w16 : v16 = vO aV bs i16
 d7 : i7 + 7 = t
 e7 : IntKind.i64.wrap ((t : Int) - 7) = (i7 : Int)
 b7 : (i7 : Int) < (t : Int)
 w7 : v7 = vO aV bs i7
 d15 : i15 + 15 = t
 e15 : IntKind.i64.wrap ((t : Int) - 15) = (i15 : Int)
 b15 : (i15 : Int) < (t : Int)
 w15 : v15 = vO aV bs i15
 d2 : i2 + 2 = t
 e2 : IntKind.i64.wrap ((t : Int) - 2) = (i2 : Int)
 b2 : (i2 : Int) < (t : Int)
 w2 : v2 = vO aV bs i2
 z0 : s0 = mG 64 v15 (1, 8, 7)
 z1 : s1 = mG 64 v2 (19, 61, 6)
 f1 : IntKind.u64.wrap ((v16 : Int) + (v7 : Int)) = (q1 : Int)
 f2 : IntKind.u64.wrap ((q1 : Int) + (s0 : Int)) = (q2 : Int)
 f3 : IntKind.u64.wrap ((q2 : Int) + (s1 : Int)) = (q3 : Int)
 res : q3 = vO aV bs t
theorem an6 (bs : List Nat) (t : Nat) (h1 : 16 ≤ t) (h2 : t < 80) : ∃ i16 i7 i15 i2 v16 v7 v15 v2 s0 s1 q1 q2 q3, aq8 bs t i16 i7 i15 i2 v16 v7 v15 v2 s0 s1 q1 q2 q3 := by
 have hr : vO aV bs t = (((vO aV bs (t - 16) + vO aV bs (t - 7)) % 2 ^ 64 + mG 64 (vO aV bs (t - 15)) (1, 8, 7)) % 2 ^ 64 + mG 64 (vO aV bs (t - 2)) (19, 61, 6)) % 2 ^ 64 := by
  rw [EF aV bs h1 h2]
  show (_ + mG 64 _ (1, 8, 7) + _ + mG 64 _ (19, 61, 6)) % 2 ^ 64 = _
  omega
 exact ⟨t - 16, t - 7, t - 15, t - 2, _, _, _, _, _, _, _, _, _, {
  d16 := by omega, e16 := (IntWalk.i64_in _ (by omega)).trans (by omega), b16 := by omega, w16 := rfl,
  d7 := by omega, e7 := (IntWalk.i64_in _ (by omega)).trans (by omega), b7 := by omega, w7 := rfl,
  d15 := by omega, e15 := (IntWalk.i64_in _ (by omega)).trans (by omega), b15 := by omega, w15 := rfl,
  d2 := by omega, e2 := (IntWalk.i64_in _ (by omega)).trans (by omega), b2 := by omega, w2 := rfl,
  z0 := rfl, z1 := rfl, f1 := amc _ _, f2 := amc _ _, f3 := amc _ _, res := hr.symm }⟩
theorem aoL (A : Option Addr) (c : Nat) (bs : List Nat) (lb : bs.length = 128) (hby : ∀ z ∈ bs, z < 256) (w : World) (hr : Rd w .u8 A bs) :
 Calls Tryz.prog 89 #[.agg #[.int .u64 0, .int .u64 64], .slice A 128 c] w fun e w' => (∃ v, e = .returned v ∧ akd w' w.heap.size v ((List.range 80).map (vO aV bs))) ∧ Below w.heap.size w w' := by
 obtain ⟨gb, off, rfl, hgb, hcell⟩ := hr.place (by omega)
 have rC := Lib.hid hby
 have HCE := Lib.hid hcell
 have HL := Lib.hid lb
 have HGB := Lib.hid hgb
 have h81 : eX 8 = 8 := by decide
 have h82 : wrap64 8 = 8 := by unfold wrap64; omega
 clear hby hcell hr lb
 go_enter Tryz.func89, Tryz.ntmps89
 go_wp2_with fail
 clear h81 h82
 go_loopw [6, 7] (fun ov tv wr => ∃ (t : Nat) (y : World), tv = .int .i64 (t : Int) ∧ wr = y.pin w.heap.size (.cells #[.int .u64 0, .int .u64 64] 106) ∧ w.heap.size < y.heap.size ∧ Hid (Below w.heap.size w y ∧ t ≤ 16 ∧ akd (y.pin w.heap.size (.cells #[.int .u64 0, .int .u64 64] 106)) (w.heap.size + 1) ov ((List.range t).map (vO aV bs)))) (fun _ tv _ => (16 - intOf tv).toNat)
 case atStart => exact ⟨0, _, rfl, (aN ob).symm, sz, pl (Below.refl _ _), by decide, akd.nil _ _⟩
 case round =>
  obtain ⟨t, y, rfl, rfl, ly, H⟩ := hrel
  by_cases ht : t < 16
  · have htI : (t : Int) < 16 := by omega
    obtain ⟨bl, hbl⟩ : ∃ z, z = (bs.drop (t * 8)).take 8 := ⟨_, rfl⟩
    have HT := Lib.hid (And.intro ht hbl)
    clear hbl
    go_wp2_with fail
    have HY := Lib.hid (And.intro ly H)
    go_loopw [8, 9] (fun xv iv wr => ∃ (i x : Nat), xv = .int .u64 (x : Int) ∧ iv = .int .i64 (i : Int) ∧ wr = y.pin w.heap.size (.cells #[.int .u64 0, .int .u64 64] 106) ∧ Hid (i ≤ 8 ∧ x = beN (bl.take i))) (fun _ iv _ => (8 - intOf iv).toNat)
    case atStart => exact ⟨0, 0, rfl, rfl, rfl, by decide, rfl⟩
    case round =>
     obtain ⟨i, x, rfl, rfl, rfl, J⟩ := hrel
     by_cases hi : i < 8
     · have hbl : bl.length = 8 := by rw [HT.out.2, List.length_take, List.length_drop, HL.out]; have := HT.out.1; omega
       have hbb : ∀ z ∈ bl, z < 256 := fun z hz => rC.out z (by rw [HT.out.2] at hz; exact List.mem_of_mem_drop (List.mem_of_mem_take hz))
       have hxl : x * 256 + 255 < 18446744073709551616 := by
        have h1 := RQ (bl.take i) (fun z hz => hbb z (List.mem_of_mem_take hz))
        rw [← J.out.2] at h1
        have h2 : 256 ^ (bl.take i).length ≤ 256 ^ (8 - 1) := Nat.pow_le_pow_right (by decide) (by have := List.length_take_le i bl; omega)
        have h3 : (256 : Nat) ^ (8 - 1) * 256 = 18446744073709551616 := by decide
        omega
       have hv2 : bl.getD i 0 < 256 := by
        rw [List.getD_eq_getElem?_getD, List.getElem?_eq_getElem (by rw [hbl]; exact hi)]
        exact hbb _ (List.getElem_mem _)
       obtain ⟨j, v, s, hF⟩ := an5 bs bl t i x HT.out.1 hi hxl hv2
       have hcx : y.cell? ⟨gb, off + (t * 8 + i), none⟩ = some (.int .u8 (v : Int)) := by
        rw [hF.hv, (HY.out.2.out.1.cell (p := ⟨gb, off + (t * 8 + i), none⟩) hgb), HCE.out (t * 8 + i) (by have := HT.out.1; have := HL.out; omega)]
        have h9 : bl.getD i 0 = bs.getD (t * 8 + i) 0 := by rw [HT.out.2]; exact an4 bs (t * 8) i 8 hi
        rw [h9, List.getD_eq_getElem?_getD, List.getElem?_eq_getElem (by have := HT.out.1; have := HL.out; omega)]
        rfl
       have OW := hF.iI
       have hjI := hF.jI
       have n3 := hF.n3
       have n5 := hF.n5
       have n4 := hF.n4
       have HF := Lib.hid (And.intro hF (And.intro hi hbl))
       clear hF hi hbl hbb hxl hv2
       go_wp2_with fail
       refine ⟨⟨i + 1, s, rfl, rfl, trivial, Lib.hid ⟨HF.out.2.1, ?_⟩⟩, am5 8 i HF.out.2.1⟩
       have h4 : i < bl.length := by rw [HF.out.2.2]; exact HF.out.2.1
       rw [RS bl i h4, ← J.out.2, HF.out.1.yy, HF.out.1.hv, List.getD_eq_getElem?_getD, List.getElem?_eq_getElem h4]
       rfl
     · obtain rfl : i = 8 := by have := J.out.1; omega
       obtain ⟨xv, hxv⟩ : ∃ z, z = vO aV bs t := ⟨_, rfl⟩
       have hxx : x = xv := by
        rw [hxv, Jd aV bs HT.out.1, J.out.2]
        rw [show bl.take 8 = bl from List.take_of_length_le (by rw [HT.out.2, List.length_take]; exact Nat.min_le_left _ _), HT.out.2]
        rfl
       rw [hxx]
       have HXV := Lib.hid hxv
       clear hxv hxx J hi
       have hlen : ((List.range t).map (vO aV bs)).length + [xv].length ≤ 4000000 := by have := HT.out.1; simp; omega
       have rD := Lib.hid hlen
       clear hlen
       go_wp2_with (at_builtin; refine alH (.tmp 38) (.tmp 40) rfl rfl (w.heap.size + 1) u6 ((List.range t).map (vO aV bs)) [xv] (some ⟨y.heap.size, 0, none⟩) 1 1 rfl rfl rfl (HY.out.2.out.2.2.below (pl (Below.refl _ _)) (Nat.le_refl _)) (aop ob) rD.out (by (try simp only [World.size_alloc, aA]); have := HY.out.1; omega) ?_)
       intro v5 w5 ak3 ahz ak2
       have HN : Hid (Below w.heap.size w w5 ∧ w5.heap[w.heap.size]? = some (.cells #[.int .u64 0, .int .u64 64] 106) ∧ akd w5 (w.heap.size + 1) v5 ((List.range (t + 1)).map (vO aV bs))) := Lib.hid (by
        have hown := HY.out.2.out.2.2.ahC
        have hb : Below w.heap.size w (y.pin w.heap.size (.cells #[.int .u64 0, .int .u64 64] 106)) := pl HY.out.2.out.1
        refine ⟨Below.grown (pl HY.out.2.out.1) ahz (by (try simp only [World.size_alloc, aA]); have := HY.out.1; omega) (fun k h => Nat.le_of_succ_le (hown k h).1), ?_, ?_⟩
        · exact (ahz.block _ (by (try simp only [World.size_alloc, aA]); have := HY.out.1; omega) (fun h => by have := (hown _ h.symm).1; omega)).trans ob
        · rw [List.range_succ, List.map_append, List.map_singleton, ← HXV.out]; exact ak3)
       clear ak3 ahz ak2
       go_wp2_with fail
       go_roundw
       case rel => exact ⟨t + 1, w5, rfl, (aN HN.out.2.1).symm, (Array.getElem?_eq_some_iff.mp HN.out.2.1).1, HN.out.1, HT.out.1, by rw [aN HN.out.2.1]; exact HN.out.2.2⟩
       case measure => exact am5 16 t HT.out.1
  · have h16 : t = 16 := by have := H.out.2.1; omega
    have asi : ((t : Int) < 16) = False := eq_false (by omega)
    have H16 := Lib.hid h16
    have HY := Lib.hid (And.intro ly H)
    clear H ht h16
    go_wp2_with fail
    go_loopw [6, 11] (fun ov tv wr => ∃ (t : Nat), tv = .int .i64 (t : Int) ∧ Hid (Below w.heap.size w wr ∧ (16 ≤ t ∧ t ≤ 80) ∧ wr.heap[w.heap.size]? = some (.cells #[.int .u64 0, .int .u64 64] 106) ∧ akd wr (w.heap.size + 1) ov ((List.range t).map (vO aV bs)))) (fun _ tv _ => (80 - intOf tv).toNat)
    case atStart => exact ⟨16, rfl, Lib.hid ⟨pl HY.out.2.out.1, by decide, eY HY.out.1, by have h := HY.out.2.out.2.2; rw [H16.out] at h; exact h⟩⟩
    case round =>
     obtain ⟨t, rfl, J⟩ := hrel
     by_cases ht : t < 80
     · have htI : (t : Int) < 80 := by omega
       obtain ⟨q, cap, rfl, hqB, hql, hcap, hcells⟩ := J.out.2.2.2.slice (n := t) (by simp) (by have := J.out.2.1.1; omega)
       obtain ⟨i16, i7, i15, i2, v16, v7, v15, v2, s0, s1, q1, q2, q3, hF⟩ := an6 bs t J.out.2.1.1 ht
       have HF := Lib.hid hF
       have HT := Lib.hid (And.intro ht hcap)
       have HQ := Lib.hid hqB
       have hqn : q ≠ w.heap.size := by omega
       have hqb : w.heap.size < q := by omega
       have hce : ∀ i, i < t → wr.cell? ⟨q, i, none⟩ = some (.int .u64 ((vO aV bs i : Nat) : Int)) := fun i hi => by rw [hcells i (by simpa using hi)]; simp [wv]
       have c16 : wr.cell? ⟨q, i16, none⟩ = some (.int .u64 (v16 : Int)) := by rw [hF.w16]; exact hce i16 (by have := hF.d16; omega)
       have c7 : wr.cell? ⟨q, i7, none⟩ = some (.int .u64 (v7 : Int)) := by rw [hF.w7]; exact hce i7 (by have := hF.d7; omega)
       have c15 : wr.cell? ⟨q, i15, none⟩ = some (.int .u64 (v15 : Int)) := by rw [hF.w15]; exact hce i15 (by have := hF.d15; omega)
       have c2 : wr.cell? ⟨q, i2, none⟩ = some (.int .u64 (v2 : Int)) := by rw [hF.w2]; exact hce i2 (by have := hF.d2; omega)
       have HC := Lib.hid (And.intro c15 c2)
       clear hcells hce hF ht hqB hcap c15 c2
       have S0 : Hid (∀ w, Calls Tryz.prog 116 #[.agg #[.int .u64 0, .int .u64 64], .int .u64 v15, .int .u64 1, .int .u64 8, .int .u64 7] w fun e w' => e = .returned (.int .u64 (s0 : Int)) ∧ Below w.heap.size w w') := Lib.hid (by rw [HF.out.z0]; exact aou v15 1 8 7 (by rw [HF.out.w15]; exact NG aV bs rC.out (by decide) (by have := HF.out.d15; have := HT.out.1; show _ < 80; omega)) (by decide))
       have S1 : Hid (∀ w, Calls Tryz.prog 116 #[.agg #[.int .u64 0, .int .u64 64], .int .u64 v2, .int .u64 19, .int .u64 61, .int .u64 6] w fun e w' => e = .returned (.int .u64 (s1 : Int)) ∧ Below w.heap.size w w') := Lib.hid (by rw [HF.out.z1]; exact aou v2 19 61 6 (by rw [HF.out.w2]; exact NG aV bs rC.out (by decide) (by have := HF.out.d2; have := HT.out.1; show _ < 80; omega)) (by decide))
       go_wp2_with fail
       have agP : Hid (Below wr.heap.size wr wr) := Lib.hid (Below.refl _ _)
       have hblk := J.out.2.2.1
       have HBK := Lib.hid hblk
       have e16 := HF.out.e16
       have e7 := HF.out.e7
       have b16 := HF.out.b16
       have b7 := HF.out.b7
       have f1 := HF.out.f1
       refine aac wr [(w.heap.size, .cells #[.int .u64 0, .int .u64 64] 106)] [.is (.slice (some ⟨q, 0, none⟩) t cap), .is (.int .i64 (t : Int)), .is (.int .i64 (i16 : Int)), .is (.pointer (some ⟨q, i16, none⟩)), .is (.int .u64 (v16 : Int)), .is (.slice (some ⟨q, 0, none⟩) t cap), .is (.int .i64 (t : Int)), .is (.int .i64 (i7 : Int)), .is (.pointer (some ⟨q, i7, none⟩)), .is (.int .u64 (v7 : Int)), .is (.int .u64 (q1 : Int)), .is (.int .u64 (q1 : Int))] [some 50, some 51, some 52, some 53, some 54, some 55, some 56, some 57, some 58, some 59, some 60, some 12] [(6, .slice (some ⟨q, 0, none⟩) t cap), (11, .int .i64 (t : Int))] 60 (ak (b := w.heap.size) hblk (aO (pl agP.out))) (fun a0 hc => ⟨abp hc [(6, none)], abp hc [(11, none)], abp hc [(51, some 1)], abp hc [(50, some 0), (52, some 2)], abp hc [(53, some 3)] (h := by intro ρ a w hr hk; simp only [aaf, aan, valOf, Sp.val, aae, List.getElem?_cons_zero, List.getElem?_cons_succ, Nat.reduceBEq, cond_true, cond_false] at hr; (repeat (obtain ⟨_, hr⟩ := hr)); have hA := (hk.1.cell (p := ⟨q, i16, none⟩) hql).trans c16; clear hk; refine ⟨rfl, ?_⟩; go_simp; first | done | rfl), abp hc [(6, none)], abp hc [(11, none)], abp hc [(56, some 6)], abp hc [(55, some 5), (57, some 7)], abp hc [(58, some 8)] (h := by intro ρ a w hr hk; simp only [aaf, aan, valOf, Sp.val, aae, List.getElem?_cons_zero, List.getElem?_cons_succ, Nat.reduceBEq, cond_true, cond_false] at hr; (repeat (obtain ⟨_, hr⟩ := hr)); have hA := (hk.1.cell (p := ⟨q, i7, none⟩) hql).trans c7; clear hk; refine ⟨rfl, ?_⟩; go_simp; first | done | rfl), abp hc [(54, some 4), (59, some 9)], abp hc [(60, some 10)], trivial⟩) ?_ ⟨rfl, rfl, trivial⟩ (by simp) (by kernel_rfl) rfl rfl rfl rfl rfl (by kernel_rfl)
       intro ρ w' HK HO HN aC HW0
       simp only [ae7, ae8, valOf, Sp.val, List.getElem?_cons_zero, List.getElem?_cons_succ, Act.put, List.setIfInBounds_toArray, List.set_cons_zero, List.set_cons_succ]
       clear HO HN
       clear ρ
       have gI : Keeps wr [(w.heap.size, .cells #[.int .u64 0, .int .u64 64] 106)] w' := HK
       obtain ⟨x21, rfl, alK, ai9, ajB⟩ := gI.jE
       have agQ : Hid (Below wr.heap.size wr x21) := alK.below
       clear HK aC gI alK
       clear HW0
       clear e16 e7 b16 b7 f1 c16 c7 hblk
       go_wp2_with fail
       have e15 := HF.out.e15
       have e2 := HF.out.e2
       have b15 := HF.out.b15
       have b2 := HF.out.b2
       have f2 := HF.out.f2
       have f3 := HF.out.f3
       have c15 := HC.out.1
       have c2 := HC.out.2
       refine st1 wr [] 18 (ak (b := w.heap.size) ob (aO (pl (amA agQ.out HBK.out)))) (fun HS => ?_)
       refine tk1 0 (some 81) HS (h := ?_)
       refine tk1 1 (some 82) HS (h := ?_)
       refine tk1 2 (some 83) HS (h := ?_)
       refine tk1 3 (some 84) HS (h := ?_)
       refine tk1 4 (some 85) HS (h := ?_)
       refine tk1 5 (some 86) HS (h := ?_)
       refine tk1 6 (some 87) HS (hy := by (intro v hv; obtain ⟨x, rfl, hk, _, n0⟩ := hv.jE; have hA := (hk.1.cell (p := ⟨q, i15, none⟩) hql).trans c15; clear hk; go_simp; first | done | with_reducible rfl)) (h := ?_)
       refine tk1 9 (some 90) HS (h := ?_)
       refine tk1 10 (some 91) HS (h := ?_)
       refine tk1 11 (some 92) HS (h := ?_)
       refine tk1 12 (some 93) HS (h := ?_)
       refine tk1 13 (some 94) HS (h := ?_)
       refine tk1 14 (some 95) HS (hy := by (intro v hv; obtain ⟨x, rfl, hk, _, n0⟩ := hv.jE; have hA := (hk.1.cell (p := ⟨q, i2, none⟩) hql).trans c2; clear hk; go_simp; first | done | with_reducible rfl)) (h := ?_)
       refine dH 7 (some 88) (h := fun K hK => ?_)
       go_simp
       refine (S0.out _).mono ?_
       rintro e y ⟨rfl, hb⟩
       refine hK.out _ _ (HS.step hb rfl) ?_
       clear HS hb
       intro HS
       refine tk1 8 (some 89) HS (v := (.int .u64 (q2 : Int))) (h := ?_)
       refine dH 15 (some 96) (h := fun K hK => ?_)
       go_simp
       refine (S1.out _).mono ?_
       rintro e y ⟨rfl, hb⟩
       refine hK.out _ _ (HS.step hb rfl) ?_
       clear HS hb
       intro HS
       refine tk1 16 (some 97) HS (v := (.int .u64 (q3 : Int))) (h := ?_)
       refine tk1 17 (some 12) HS (h := ?_)
       obtain ⟨x22, rfl, aok, aja, ajE⟩ := HS.jE
       have agR : Hid (Below wr.heap.size wr x22) := aok.below
       clear HS aok
       refine done_ (by kernel_rfl) ?_
       clear e15 e2 b15 b2 f2 f3 c15 c2 HC
       go_wp2_with fail
       have hlen : ((List.range t).map (vO aV bs)).length + [q3].length ≤ 4000000 := by have := HT.out.1; simp; omega
       have rD := Lib.hid hlen
       clear hlen
       refine (an2 _ _).mono ?_
       rintro e y23 ⟨rfl, ad8⟩
       obtain ⟨x23, rfl, aek, ajb, ajH⟩ := bQ (b := w.heap.size) ad8 rfl ob
       have agS : Hid (Below wr.heap.size wr x23) := Below.trans (pl (amA agR.out HBK.out)) (aek.mono sz)
       clear ad8 aek
       try simp only [eF] at ajb
       go_wp2_with (at_builtin; refine alH (.tmp 98) (.tmp 102) rfl rfl (w.heap.size + 1) (.slice (some ⟨q, 0, none⟩) t cap) ((List.range t).map (vO aV bs)) [q3] (some ⟨x23.heap.size, 0, none⟩) 1 1 rfl rfl rfl (J.out.2.2.2.below (pl (amA agS.out HBK.out) : Below wr.heap.size wr _) (Nat.le_refl _)) (aop ob) rD.out (by (try simp only [World.size_alloc, aA]); have := agS.out.size; have := HQ.out; omega) ?_)
       intro v5 w5 ak3 ahz ak2
       have HN : Hid (Below w.heap.size w w5 ∧ w5.heap[w.heap.size]? = some (.cells #[.int .u64 0, .int .u64 64] 106) ∧ akd w5 (w.heap.size + 1) v5 ((List.range (t + 1)).map (vO aV bs))) := Lib.hid (by
        have hown := J.out.2.2.2.ahC
        have hsz := agS.out.size
        have hwr := J.out.1.size
        have hq := HQ.out
        refine ⟨Below.grown (Below.trans J.out.1 (Below.mono (pl (amA agS.out HBK.out)) hwr)) ahz (by (try simp only [World.size_alloc, aA]); omega) (fun k h => Nat.le_of_succ_le (hown k h).1), ?_, ?_⟩
        · exact (ahz.block _ (by (try simp only [World.size_alloc, aA]); omega) (fun h => by have := (hown _ h.symm).1; omega)).trans ob
        · rw [List.range_succ, List.map_append, List.map_singleton, ← HF.out.res]; exact ak3)
       clear ak3 ahz ak2
       go_wp2_with fail
       go_roundw
       case rel => exact ⟨t + 1, rfl, Lib.hid ⟨HN.out.1, ⟨Nat.le_succ_of_le J.out.2.1.1, HT.out.1⟩, HN.out.2.1, HN.out.2.2⟩⟩
       case measure => exact am5 80 t HT.out.1
     · have h80 : t = 80 := by have := J.out.2.1; omega
       have auv : ((t : Int) < 80) = False := eq_false (by omega)
       have H80 := Lib.hid h80
       clear h80 ht
       go_wp2_with fail
       exact bodyPost_ret (v := u6) (by simp [results, Tryz.results89, go_sem]) rfl ⟨⟨_, rfl, by have h := J.out.2.2.2; rw [H80.out] at h; exact h.less (Nat.le_succ _)⟩, J.out.1⟩
end
end Go.Proofs.YtehfkbaendajbaaGreatDoor
