/-
  Shared, part 53: walks and plain laws; each theorem states its own conditions.
-/
import Derived.Test.YtehfkbaendajbaaGreatDoorB51
import Derived.Test.YtehfkbaendajbaaGreatDoorB52
import Derived.IntWalk
import Derived.Lib.Hide
import Derived.StillTailTactics
namespace Go.Proofs.YtehfkbaendajbaaGreatDoor
set_option linter.unusedSimpArgs false
set_option linter.unusedVariables false
set_option maxRecDepth 100000
set_option maxHeartbeats 8000000
section
open Go.RowKit Go.Proofs.YtehfkbaendajbaaGreatDoorW.PrintLast
def At8 (w : World) (q : Nat) (v : V8) : Prop := q < w.heap.size ∧ ∀ i, i < 8 → w.cell? ⟨q, i, none⟩ = some (.int .u64 ((v.at i : Nat) : Int))
theorem At8.next {w w' : World} {q : Nat} {v : V8} (h : At8 w q v) (hb : Below w.heap.size w w') : At8 w' q v := ⟨Nat.lt_of_lt_of_le h.1 hb.size, fun i hi => (hb.cell (p := ⟨q, i, none⟩) h.1).trans (h.2 i hi)⟩
theorem apo {w : World} {q : Nat} {v : V8} {t : TypeId} (h : w.heap[q]? = some (.cells (v.cs .u64) t)) : At8 w q v := by
 refine ⟨(Array.getElem?_eq_some_iff.mp h).1, fun i hi => ?_⟩
 simp only [World.cell?, h]
 rcases i with _ | _ | _ | _ | _ | _ | _ | _ | i
 all_goals first | omega | rfl
theorem aoG {w : World} {B : Nat} {nv : Value} {v : V8} (h : akd w B nv ((List.range 8).map v.at)) : ∃ q cap, nv = .slice (some ⟨q, 0, none⟩) 8 cap ∧ B ≤ q ∧ At8 w q v := by
 obtain ⟨q, cap, rfl, hB, hq, hcap, hc⟩ := h.slice (n := 8) (by simp) (by decide)
 exact ⟨q, cap, rfl, hB, hq, fun i hi => by rw [hc i (by simpa using hi)]; simp [wv]⟩
structure anb (w0 w : World) (ga gc : Nat) (L : List Nat) : Prop where
 bel : Below w0.heap.size w0 w
 wo : w.heap[w0.heap.size]? = some (.cells #[.int .u64 0, .int .u64 64] 106)
 all : Rd w .u8 (some ⟨ga, 0, none⟩) L
 gcl : gc < w.heap.size
 cs : ∀ i, i < 80 → w.cell? ⟨gc, i, none⟩ = some (.int .u64 ((Lp.getD i 0 : Nat) : Int))
theorem anb.next {w0 w w' : World} {ga gc : Nat} {L : List Nat} (h : anb w0 w ga gc L) (hb : Below w.heap.size w w') : anb w0 w' ga gc L where
 bel := Below.trans h.bel (hb.mono h.bel.size)
 wo := (hb.block _ (Array.getElem?_eq_some_iff.mp h.wo).1).trans h.wo
 all := Rd.mono h.all hb (Nat.le_refl _)
 gcl := Nat.lt_of_lt_of_le h.gcl hb.size
 cs := fun i hi => (hb.cell (p := ⟨gc, i, none⟩) h.gcl).trans (h.cs i hi)
theorem aqc {w : World} {g : Nat} {t : TypeId} (h : w.heap[g]? = some (.cells (ald Lp) t)) : ∀ i, i < 80 → w.cell? ⟨g, i, none⟩ = some (.int .u64 ((Lp.getD i 0 : Nat) : Int)) := by
 intro i hi
 simp only [World.cell?, h, amS]
 have : i < Lp.length := hi
 simp [List.getD_eq_getElem?_getD, List.getElem?_eq_getElem this, wv]
theorem aqw {w : World} {g : Nat} {t : TypeId} (h : w.heap[g]? = some (.cells (ald xM) t)) : At8 w g (fE aV) := by
 refine ⟨(Array.getElem?_eq_some_iff.mp h).1, fun i hi => ?_⟩
 simp only [World.cell?, h, amS]
 rcases i with _ | _ | _ | _ | _ | _ | _ | _ | i
 all_goals first | omega | kernel_rfl
theorem aqB (i : Nat) (h : i < 80) : Lp.getD i 0 < 18446744073709551616 := by
 have : (List.range 80).all (fun i => decide (Lp.getD i 0 < 18446744073709551616)) = true := by decide +kernel
 simpa using List.all_eq_true.1 this i (List.mem_range.2 h)
section
variable {md : Region.Mode} {ops : Array Oper} {Q : Exit → Act → World → Prop} {S : World → Prop} {ds : List Nat}
theorem anx {i : Nat} {oi : Oper} {fuel : Nat} {l : Array Bool} {a : Act} {w : World} (l' : Array Bool) (N : Option Tmp) (s x : Operand) (hi : ops[i]? = some oi) (hN : oi.dst = N) (hc : readyB md ops l l' i = true) (hd : i ∈ ds) (hgd : oi.guard = none) (ho : oi.op = .call { callee := .builtin .append, args := #[s, x], argTypes := #[45, 45] })
 (B : Nat) (v : Value) (xs ys : List Nat) (A : Option Addr) (n c : Nat) (hs : a.eval s = v) (hx : a.eval x = .slice A n c) (hn : n = ys.length) (hown : akd w B v xs) (hrd : Rd w .u64 A ys) (hlen : xs.length + ys.length ≤ 4000000) (hB : B ≤ w.heap.size)
 (h : ∀ v' w', akd w' B v' (xs ++ ys) → w.grownBy w' v.ownBlock → (v'.ownBlock = v.ownBlock ∨ v'.ownBlock = some w.heap.size) → wpAnyLast Tryz.prog md ops Q S ds fuel l' (a.put N v') w') : wpAnyLast Tryz.prog md ops Q S ds (fuel + 1) l a w := by
 subst hn
 subst hN
 refine last_ l' hi rfl hc hd (fun K hK => ?_)
 rw [if_pos (by unfold Region.wanted; rw [hgd])]
 obtain ⟨v', w', hr, h2, h3, h4⟩ := amb w B v xs ys A c hown hrd hlen hB oi.type
 unfold Oper.wp execOp
 simp only [ho, resolve, invoke, builtin, Sem.run_bind, Sem.run_pure, Result.andThen_ok, List.map_toArray, List.map_cons, List.map_nil, hs, hx, hr]
 exact hK.out _ _ (h v' w' h2 h3 h4)
end
theorem anr (bk : List Nat) : kQ aV bk = (List.range 80).map (vO aV bk) := by
 have hl : (kQ aV bk).length = 80 := Je aV bk (by decide)
 refine List.ext_getElem (by simp [hl]) fun i h1 h2 => ?_
 simp [vO, List.getD_eq_getElem?_getD, List.getElem?_eq_getElem h1]
def amU (v : V8) (i : Nat) : List Nat := ((List.range i).map fun j => zI 8 (v.at j)).flatten
theorem ana (v : V8) (i : Nat) : amU v (i + 1) = amU v i ++ zI 8 (v.at i) := by simp [amU, List.range_succ]
theorem anl (v : V8) : ∀ i, (amU v i).length = 8 * i
 | 0 => rfl
 | i + 1 => by rw [ana, List.length_append, anl v i, alk]; omega
theorem aoo (v : V8) : amU v 8 = v.out 8 := by
 rw [ana, ana, ana, ana, ana, ana, ana, ana]
 unfold V8.out
 simp only [amU, List.range_zero, List.map_nil, List.flatten_nil, List.nil_append, List.append_assoc]
 rfl
theorem aoc (a : Nat) : (zI 8 a).take 8 = zI 8 a := List.take_of_length_le (by rw [alk]; decide)
theorem an0 (a k m : Nat) (hk : k < 8) (hm : m + 8 * k = 56) : (zI 8 a).take (k + 1) = (zI 8 a).take k ++ [a / 2 ^ m % 256] := by
 have e : 2 ^ m = 256 ^ (7 - k) := by rw [show m = 8 * (7 - k) by omega, Nat.pow_mul]
 rw [e]
 rcases k with _ | _ | _ | _ | _ | _ | _ | _ | k
 all_goals first | omega | rfl
theorem an1 (a m : Nat) : (a : Int) / 2 ^ m % 256 = ((a / 2 ^ m % 256 : Nat) : Int) := by rw [Int.natCast_emod, Int.natCast_ediv, Int.natCast_pow]; rfl
theorem an7 (m : Nat) : (intOf (.int .i64 ((m : Int) - 8)) + 8).toNat < (intOf (.int .i64 (m : Int)) + 8).toNat := by
 show ((m : Int) - 8 + 8).toNat < ((m : Int) + 8).toNat
 omega
theorem gu.aqG {w : World} {B C : Nat} {v : Value} {ns : List Nat} (h : gu w B v ns) (hC : C ≤ B) : gu w C v ns := by
 unfold gu at h ⊢
 refine ⟨h.1, ?_⟩
 rcases h.2 with hn | ⟨q, cap, cur, rfl, hB, hq, hr⟩
 · exact .inl hn
 · exact .inr ⟨q, cap, cur, rfl, Nat.le_trans hC hB, hq, hr⟩
theorem anH (L : List Nat) (k : Nat) (h : V8) (hl : 128 * (k + 1) ≤ L.length) : (iV aV k L h).add 64 (kJ aV (kQ aV ((L.drop (128 * k)).take 128)) 80 0 (iV aV k L h)) = iV aV (k + 1) L h := by
 rw [Ez aV k 1]
 rfl
theorem aom (n f f2 : Nat) (h : f < f2) (h2 : f2 ≤ n) : ((n : Int) - intOf (.int .i64 (f2 : Int))).toNat < ((n : Int) - intOf (.int .i64 (f : Int))).toNat := by
 show ((n : Int) - (f2 : Int)).toNat < ((n : Int) - (f : Int)).toNat
 omega
theorem anJ (bs : List Nat) (hb : (nK aV bs.length).length = dW aV bs.length) : ∃ N, (bs ++ nK aV bs.length).length = 128 * N := by
 refine ⟨(bs ++ nK aV bs.length).length / 128, ?_⟩
 have h2 : dW aV bs.length = 1 + 64 / 4 + (2 * 64 - (bs.length + (1 + 64 / 4)) % (2 * 64)) % (2 * 64) := rfl
 rw [List.length_append, hb, h2]
 omega
theorem alc (A : Option Addr) (c : Nat) (bs : List Nat) (hl : bs.length ≤ 1048576) (hby : ∀ z ∈ bs, z < 256) (w : World) (hr : Rd w .u8 A bs) :
 Calls Tryz.prog 47 #[.slice A bs.length c, .int .i64 512] w fun e w' => (∃ v, e = .returned (.tuple #[v, .int .i64 0]) ∧ gu w' w.heap.size v (Ai aV bs)) ∧ Below w.heap.size w w' := by
 have hI : ((1048576 : Int) < (bs.length : Int)) = False := eq_false (by omega)
 have HL := Lib.hid (And.intro hl hby)
 have HR := Lib.hid hr
 clear hl hby hr
 go_enter Tryz.func47, Tryz.ntmps47
 go_wp2_with fail
 refine (asI bs.length HL.out.1 _).mono ?_
 rintro e y1 ⟨⟨pv, rfl, hpv⟩, hb1⟩
 obtain ⟨x1, rfl, hc1, hz1, l10⟩ := bQ (b := w.heap.size) hb1 rfl ob
 have HB1 : Hid (Below w.heap.size w x1) := Below.trans (pl (Below.refl _ _)) (hc1.mono sz)
 clear hb1 hc1
 try simp only [eF] at hz1
 obtain ⟨Ap, cp, rfl, _, _, _⟩ := hpv.form
 have HP := Lib.hid hpv
 clear hpv
 go_wp2_with (at_builtin; refine bH (.tmp 36) (.tmp 37) rfl rfl (w.heap.size + 1) (.slice none 0 0) [] bs A bs.length c rfl rfl rfl ?_ ?_ ?_ ?_ ?_)
 case refine_1 => exact gu.nil _ _
 case refine_2 => exact Rd.mono HR.out (pl HB1.out : Below w.heap.size w _) (Nat.le_refl _)
 case refine_3 => have := HL.out.1; simp; omega
 case refine_4 => (try simp only [World.size_alloc, aA]); omega
 intro v1 w1 hrow1 hgrow1 lI
 have HA1 : Hid (Below w.heap.size w w1 ∧ w1.heap[w.heap.size]? = some (.cells #[.int .u64 0, .int .u64 64] 106) ∧ gu w1 (w.heap.size + 1) v1 bs ∧ gu w1 (w.heap.size + 1) (.slice Ap (nK aV bs.length).length cp) (nK aV bs.length)) := Lib.hid (by
  have hb := Below.grown (Below.refl (x1.pin w.heap.size (.cells #[.int .u64 0, .int .u64 64] 106)).heap.size _) hgrow1 (Nat.le_refl _) (fun k h => by simp [Value.ownBlock] at h)
  have hp := HP.out
  rw [World.size_alloc] at hp
  refine ⟨Below.trans (pl HB1.out : Below w.heap.size w (x1.pin w.heap.size (.cells #[.int .u64 0, .int .u64 64] 106))) (hb.mono (by (try simp only [aA]); omega)), ?_, hrow1, hp.below hb (Nat.le_refl _)⟩
  exact (hb.block _ (by (try simp only [aA]); omega)).trans ob)
 clear hrow1 hgrow1 lI
 go_wp2_with (at_builtin; refine bH (.tmp 38) (.tmp 39) rfl rfl (w.heap.size + 1) v1 bs (nK aV bs.length) Ap (nK aV bs.length).length cp rfl rfl rfl ?_ ?_ ?_ ?_ ?_)
 case refine_1 => exact HA1.out.2.2.1
 case refine_2 => exact gu.rdA HA1.out.2.2.2
 case refine_3 => have := HL.out.1; rw [yT]; show _ + (1 + 64 / 4 + (2 * 64 - (bs.length + (1 + 64 / 4)) % (2 * 64)) % (2 * 64)) ≤ 4000000; omega
 case refine_4 => exact (Array.getElem?_eq_some_iff.mp HA1.out.2.1).1
 intro v2 w2 hrow2 hgrow2 wR
 have HA2 : Hid (Below w.heap.size w w2 ∧ w2.heap[w.heap.size]? = some (.cells #[.int .u64 0, .int .u64 64] 106) ∧ gu w2 (w.heap.size + 1) v2 (bs ++ nK aV bs.length)) := Lib.hid (by
  have hown := HA1.out.2.2.1.amm
  have hlt := (Array.getElem?_eq_some_iff.mp HA1.out.2.1).1
  refine ⟨Below.grown HA1.out.1 hgrow2 HA1.out.1.size (fun k h => Nat.le_of_succ_le (hown k h).1), ?_, hrow2⟩
  exact (hgrow2.block _ hlt (fun h => by have := (hown _ h.symm).1; omega)).trans HA1.out.2.1)
 clear hrow2 hgrow2 wR HA1 HP
 go_wp2_with fail
 have HBK := Lib.hid HA2.out.2.1
 have hw0 : w.heap.size < w2.heap.size := (Array.getElem?_eq_some_iff.mp HBK.out).1
 rw [show w2 = w2.pin w.heap.size (.cells #[.int .u64 0, .int .u64 64] 106) from (aN HBK.out).symm]
 have agP : Hid (Below w2.heap.size w2 (w2.pin w.heap.size (.cells #[.int .u64 0, .int .u64 64] 106))) := Lib.hid (amA (Below.refl _ _) HBK.out)
 refine (aoH _).mono ?_
 rintro e y21 ⟨⟨gc, aoj, rfl, ao7⟩, ad6⟩
 have gI : Keeps w2 _ y21 := ak (b := w.heap.size) ((ad6.block _ sz).trans ob) (ak ao7 (aO (Below.trans (pl agP.out) (ad6.mono sz))))
 obtain ⟨x21, rfl, alK, ai9, ajB, ajC⟩ := gI.iL
 have agQ : Hid (Below w2.heap.size w2 x21) := alK.below
 have ars : w2.heap.size ≤ gc := by have := agP.out.size; (try simp only [eF] at aoj); omega
 have aoN : w.heap.size < gc := by (try simp only [eF] at aoj); omega
 clear gI alK ad6 ao7 aoj
 go_wp2_with fail
 refine (aoY _).mono ?_
 rintro e y22 ⟨⟨gh, anN, rfl, ao8⟩, ad7⟩
 have gI : Keeps w2 _ y22 := ak (b := w.heap.size) ((ad7.block _ sz).trans ob) (ak (b := gc) ((ad7.block _ sz).trans ob) (ak ao8 (aO (Below.trans (pl (amA agQ.out HBK.out)) (ad7.mono sz)))))
 obtain ⟨x22, rfl, aok, aja, ajE, ajF, ajG⟩ := gI.eG
 have agR : Hid (Below w2.heap.size w2 x22) := aok.below
 have aru : w2.heap.size ≤ gh := by have := agQ.out.size; (try simp only [eF] at anN); omega
 have aoO : w.heap.size < gh := by (try simp only [eF] at anN); omega
 have aoP : gc < gh := by (try simp only [eF] at anN); omega
 clear gI aok ad7 ao8 anN
 go_wp2_with fail
 refine wp_loop_rounds 1 ?_
 iterate 1 (rw [rounds_succ]; go_wp2)
 have hL0 : ∃ N, (bs ++ nK aV bs.length).length = 128 * N := anJ bs (yT _)
 obtain ⟨L, hLd⟩ : ∃ z, z = bs ++ nK aV bs.length := ⟨_, rfl⟩
 rw [← hLd] at hL0
 obtain ⟨N, hN⟩ := hL0
 have ao9 : gu w2 (w.heap.size + 1) v2 L := by rw [hLd]; exact HA2.out.2.2
 obtain ⟨n, hn⟩ : ∃ z, z = L.length := ⟨_, rfl⟩
 have hpos : 0 < n ∧ n ≤ 1100000 := by
  have h1 := yT bs.length
  have h2 : dW aV bs.length = 1 + 64 / 4 + (2 * 64 - (bs.length + (1 + 64 / 4)) % (2 * 64)) % (2 * 64) := rfl
  have h3 := HL.out.1
  rw [hn, hLd, List.length_append, h1, h2]
  omega
 obtain ⟨ga, ca, rfl, hga, asn, hca, aqv⟩ := ao9.am6 hn.symm hpos.1
 have aqg : ∀ z ∈ L, z < 256 := by
  rw [hLd]
  intro z hz
  rcases List.mem_append.mp hz with h | h
  · exact HL.out.2 z h
  · exact VP _ z h
 have HLL := Lib.hid (And.intro (show n = 128 * N by rw [hn]; exact hN) (And.intro hn.symm (And.intro hLd (And.intro aqg (And.intro hpos hca)))))
 have HSW : Hid (anb w (((x22.pin w.heap.size (.cells #[.int .u64 0, .int .u64 64] 106)).pin gc (.cells (ald Lp) 34)).pin gh (.cells (ald xM) 34)) ga gc L ∧ At8 (((x22.pin w.heap.size (.cells #[.int .u64 0, .int .u64 64] 106)).pin gc (.cells (ald Lp) 34)).pin gh (.cells (ald xM) 34)) gh (fE aV)) := Lib.hid ⟨
  { bel := HA2.out.1.trans ((pl (amA agR.out HBK.out) : Below w2.heap.size w2 (((x22.pin w.heap.size (.cells #[.int .u64 0, .int .u64 64] 106)).pin gc (.cells (ald Lp) 34)).pin gh (.cells (ald xM) 34))).mono HA2.out.1.size), wo := ob, all := Rd.mono aqv (pl (amA agR.out HBK.out) : Below w2.heap.size w2 (((x22.pin w.heap.size (.cells #[.int .u64 0, .int .u64 64] 106)).pin gc (.cells (ald Lp) 34)).pin gh (.cells (ald xM) 34))) (Nat.le_refl _), gcl := by (try simp only [eF]); omega, cs := aqc ob }, aqw ob⟩
 clear hN hn hLd ao9 hpos hga asn hca aqv aqg
 obtain ⟨wS, hwS⟩ : ∃ z, z = ((x22.pin w.heap.size (.cells #[.int .u64 0, .int .u64 64] 106)).pin gc (.cells (ald Lp) 34)).pin gh (.cells (ald xM) 34) := ⟨_, rfl⟩
 rw [← hwS] at HSW ⊢
 clear hwS ajE ajF ajG aja agR aru aoO aoP agQ ars aoN ai9 ajB ajC agP HBK hw0
 go_loopw [11, 13] (fun hv fv wr => ∃ (k q cap : Nat) (v : V8), hv = .slice (some ⟨q, 0, none⟩) 8 cap ∧ fv = .int .i64 ((128 * k : Nat) : Int) ∧ Hid (k ≤ N ∧ v = iV aV k L (fE aV) ∧ anb w wr ga gc L ∧ At8 wr q v)) (fun _ fv _ => ((n : Int) - intOf fv).toNat)
 case atStart => exact ⟨0, gh, 8, _, rfl, rfl, Lib.hid ⟨Nat.zero_le _, rfl, HSW.out.1, HSW.out.2⟩⟩
 case round =>
  obtain ⟨k, q, cap, v, rfl, rfl, H⟩ := hrel
  by_cases hk : k < N
  · obtain ⟨f, hf⟩ : ∃ z, z = 128 * k := ⟨_, rfl⟩
    obtain ⟨f2, hf2⟩ : ∃ z, z = f + 128 := ⟨_, rfl⟩
    rw [← hf]
    have hfn : f2 ≤ n := by have := HLL.out.1; omega
    have hfI : (f : Int) < (n : Int) := by omega
    have hgi : (f : Int) ≤ (f2 : Int) := by omega
    have hhi : (f2 : Int) ≤ (n : Int) := by omega
    have hci : (f2 : Int) ≤ (ca : Int) := by have := HLL.out.2.2.2.2.2; omega
    have e128 : IntKind.i64.wrap ((f : Int) + 128) = (f2 : Int) := (IntWalk.i64_in _ (by have := HLL.out.2.2.2.2.1; omega)).trans (by omega)
    have HF := Lib.hid (And.intro hk (And.intro hf (And.intro hf2 hfn)))
    clear hk hf hf2 hfn
    go_wp2_with fail
    have hblk : wr.heap[w.heap.size]? = some (.cells #[.int .u64 0, .int .u64 64] 106) := H.out.2.2.1.wo
    have HBK := Lib.hid hblk
    have apU : Hid (Below wr.heap.size wr wr) := Lib.hid (Below.refl _ _)
    have asK : IntKind.i64.wrap 128 = 128 := by decide
    have hcf : ¬ ca = f := by have := HF.out.2.2; have := HLL.out.2.2.2.2.2; omega
    have h128 : f2 - f = 128 := by have := HF.out.2.2.1; omega
    obtain ⟨bk, hbk⟩ : ∃ z, z = (L.drop f).take 128 := ⟨_, rfl⟩
    have an9 : Hid (bk.length = 128 ∧ (∀ z ∈ bk, z < 256) ∧ bk = (L.drop f).take 128 ∧ Rd wr .u8 (some ⟨ga, f, none⟩) bk) := Lib.hid ⟨by rw [hbk, List.length_take, List.length_drop, HLL.out.2.1]; have := HF.out.2.2; omega, fun z hz => HLL.out.2.2.2.1 z (by rw [hbk] at hz; exact List.mem_of_mem_drop (List.mem_of_mem_take hz)), hbk, by rw [hbk]; have h := YQ (Rd.drop H.out.2.2.1.all f) 128; rwa [show 0 + f = f by omega] at h⟩
    clear hbk
    refine st1 wr [] 10 (ak (b := w.heap.size) hblk (aO (pl apU.out))) (fun HS => ?_)
    refine tk1 0 (some 68) HS (h := ?_)
    refine tk1 1 (some 69) HS (h := ?_)
    refine tk1 2 (some 70) HS (h := ?_)
    refine tk1 3 (some 71) HS (h := ?_)
    refine tk1 4 (some 72) HS (h := ?_)
    refine tk1 5 (some 73) HS (v := (.int .i64 128)) (h := ?_)
    refine tk1 6 (some 74) HS (v := (.int .i64 (f2 : Int))) (h := ?_)
    refine tk1 7 (some 75) HS (v := (.slice (some ⟨ga, f, none⟩) 128 (ca - f))) (h := ?_)
    refine dH 8 (some 76) (h := fun K hK => ?_)
    go_simp
    refine (aoL (some ⟨ga, f, none⟩) (ca - f) bk an9.out.1 an9.out.2.1 _ (Rd.mono an9.out.2.2.2 HS.1 (Nat.le_refl _))).mono ?_
    rintro e y ⟨⟨xv, rfl, hrow⟩, hb⟩
    refine hK.out _ _ (HS.step hb rfl) ?_
    clear HS hb
    intro HS
    have HX := Lib.hid hrow
    clear hrow
    refine tk1 9 (some 14) HS (h := ?_)
    obtain ⟨x41, rfl, aqo, asz, asC⟩ := HS.jE
    have aoz : Hid (Below wr.heap.size wr x41) := aqo.below
    clear HS aqo
    refine done_ (by kernel_rfl) ?_
    obtain ⟨qx, cx, rfl, hqx, aol, hcx, hxc⟩ := HX.out.slice (n := 80) (by simp) (by decide)
    clear hcx e128 hgi hhi hci asK hcf h128
    have hxw : kQ aV bk = (List.range 80).map (vO aV bk) := anr bk
    obtain ⟨X, hX⟩ : ∃ z, z = kQ aV bk := ⟨_, rfl⟩
    rw [← hX] at hxw
    have HD : Hid (anb w (x41.pin w.heap.size (.cells #[.int .u64 0, .int .u64 64] 106)) ga gc L ∧ At8 (x41.pin w.heap.size (.cells #[.int .u64 0, .int .u64 64] 106)) q v ∧ qx < (x41.pin w.heap.size (.cells #[.int .u64 0, .int .u64 64] 106)).heap.size ∧ (∀ i, i < 80 → (x41.pin w.heap.size (.cells #[.int .u64 0, .int .u64 64] 106)).cell? ⟨qx, i, none⟩ = some (.int .u64 ((X.getD i 0 : Nat) : Int))) ∧ (∀ i, i < 80 → X.getD i 0 < 18446744073709551616) ∧ X = kQ aV bk ∧ Below wr.heap.size wr (x41.pin w.heap.size (.cells #[.int .u64 0, .int .u64 64] 106))) := Lib.hid ⟨H.out.2.2.1.next (pl (amA aoz.out HBK.out)), H.out.2.2.2.next (pl (amA aoz.out HBK.out)), aol, fun i hi => by rw [hxc i (by simpa using hi), hxw]; simp [wv, hi], fun i hi => by rw [hxw]; simp [hi]; exact NG aV bk an9.out.2.1 (by decide) (by show _ < 80; exact hi), hX, pl (amA aoz.out HBK.out)⟩
    clear hX hxw hxc hqx aol HX
    obtain ⟨wB, hwB⟩ : ∃ z, z = x41.pin w.heap.size (.cells #[.int .u64 0, .int .u64 64] 106) := ⟨_, rfl⟩
    rw [← hwB] at HD ⊢
    clear hwB asC asz aoz apU hblk HBK
    go_wp2_with fail
    go_loopw [15, 16] (fun vv tv wq => ∃ (t qv cv : Nat) (u : V8), vv = .slice (some ⟨qv, 0, none⟩) 8 cv ∧ tv = .int .i64 (t : Int) ∧ Hid (t ≤ 80 ∧ kJ aV X (80 - t) t u = kJ aV X 80 0 v ∧ u.lt 64 ∧ Below wB.heap.size wB wq ∧ At8 wq qv u)) (fun _ tv _ => (80 - intOf tv).toNat)
    case atStart => exact ⟨0, q, cap, v, rfl, rfl, Lib.hid ⟨by decide, rfl, by rw [H.out.2.1]; exact BU aV _ _ _ RU, Below.refl _ _, HD.out.2.1⟩⟩
    case round =>
     obtain ⟨t, qv, cv, u, rfl, rfl, J⟩ := hrel
     by_cases ht : t < 80
     · have htI : (t : Int) < 80 := by omega
       have HT := Lib.hid ht
       clear ht
       go_wp2_with fail
       obtain ⟨kv, hkv⟩ : ∃ z, z = Lp.getD t 0 := ⟨_, rfl⟩
       obtain ⟨xv, hxv⟩ : ∃ z, z = X.getD t 0 := ⟨_, rfl⟩
       have hck : wr.cell? ⟨gc, t, none⟩ = some (.int .u64 (kv : Int)) := by rw [hkv]; exact (HD.out.1.next J.out.2.2.2.1).cs t HT.out
       have hcx : wr.cell? ⟨qx, t, none⟩ = some (.int .u64 (xv : Int)) := by rw [hxv]; exact (J.out.2.2.2.1.cell (p := ⟨qx, t, none⟩) HD.out.2.2.1).trans (HD.out.2.2.2.1 t HT.out)
       have aqm : gc < wr.heap.size := (HD.out.1.next J.out.2.2.2.1).gcl
       have aol : qx < wr.heap.size := Nat.lt_of_lt_of_le HD.out.2.2.1 J.out.2.2.2.1.size
       have hblk : wr.heap[w.heap.size]? = some (.cells #[.int .u64 0, .int .u64 64] 106) := (HD.out.1.next J.out.2.2.2.1).wo
       have HKV : Hid (kv < 18446744073709551616 ∧ xv < 18446744073709551616 ∧ kv = Lp.getD t 0 ∧ xv = X.getD t 0) := Lib.hid ⟨by rw [hkv]; exact aqB t HT.out, by rw [hxv]; exact HD.out.2.2.2.2.1 t HT.out, hkv, hxv⟩
       clear hkv hxv
       refine st1 wr [] 12 (ak (b := w.heap.size) hblk (aO (pl (Below.refl _ _)))) (fun HS => ?_)
       refine tk1 0 (some 84) HS (h := ?_)
       refine tk1 1 (some 85) HS (h := ?_)
       refine tk1 2 (some 86) HS (h := ?_)
       refine tk1 3 (some 87) HS (h := ?_)
       refine tk1 4 (some 88) HS (v := (.pointer (some ⟨gc, t, none⟩))) (h := ?_)
       refine tk1 5 (some 89) HS (v := (.int .u64 (kv : Int))) (hy := by (intro v hv; obtain ⟨x, rfl, hk, _, n0⟩ := hv.jE; have hA := (hv.1.cell (p := ⟨gc, t, none⟩) aqm).trans hck; clear hk hv; go_simp; first | done | with_reducible rfl)) (h := ?_)
       refine tk1 6 (some 90) HS (h := ?_)
       refine tk1 7 (some 91) HS (h := ?_)
       refine tk1 8 (some 92) HS (v := (.pointer (some ⟨qx, t, none⟩))) (h := ?_)
       refine tk1 9 (some 93) HS (v := (.int .u64 (xv : Int))) (hy := by (intro v hv; obtain ⟨x, rfl, hk, _, n0⟩ := hv.jE; have hA := (hv.1.cell (p := ⟨qx, t, none⟩) aol).trans hcx; clear hk hv; go_simp; first | done | with_reducible rfl)) (h := ?_)
       refine dH 10 (some 94) (h := fun K hK => ?_)
       go_simp
       refine (apC qv cv u kv xv J.out.2.2.1 HKV.out.1 HKV.out.2.1 _ (Nat.lt_of_lt_of_le J.out.2.2.2.2.1 HS.1.size) (fun i hi => (HS.1.cell (p := ⟨qv, i, none⟩) J.out.2.2.2.2.1).trans (J.out.2.2.2.2.2 i hi))).mono ?_
       rintro e y ⟨⟨bn, hge, rfl, hob⟩, hb⟩
       refine hK.out _ _ (HS.step hb rfl) ?_
       clear HS hb
       intro HS
       have HO := Lib.hid hob
       clear hob hge
       refine tk1 11 (some 15) HS (h := ?_)
       obtain ⟨x51, rfl, aqp, auP, auT⟩ := HS.jE
       have arb : Hid (Below wr.heap.size wr x51) := aqp.below
       clear HS aqp
       refine done_ (by kernel_rfl) ?_
       have arf := Lib.hid hblk
       clear hck hcx hblk aqm aol
       go_wp2_with fail
       go_roundw
       case rel => exact ⟨t + 1, bn, 8, xP aV u kv xv, rfl, rfl, Lib.hid ⟨HT.out, by have := J.out.2.1; rw [show 80 - t = (80 - (t + 1)) + 1 by have := HT.out; omega, Dz] at this; rw [← this, HKV.out.2.2.1, HKV.out.2.2.2]; rfl, Le u J.out.2.2.1 _ _, Below.trans J.out.2.2.2.1 ((amA arb.out arf.out).mono J.out.2.2.2.1.size), apo HO.out⟩⟩
       case measure => exact amr 80 t HT.out
     · have h80 : t = 80 := by have := J.out.1; omega
       have hu : u = kJ aV X 80 0 v := by have h := J.out.2.1; rw [h80] at h; exact h
       have HU := Lib.hid hu
       have htI : ((t : Int) < 80) = False := eq_false (by omega)
       clear ht hu h80
       go_wp2_with fail
       obtain ⟨wC, rfl⟩ : ∃ z, z = wr := ⟨_, rfl⟩
       have HC : Hid (anb w wC ga gc L ∧ At8 wC q v ∧ At8 wC qv u ∧ v.lt 64 ∧ u.lt 64) := Lib.hid ⟨HD.out.1.next J.out.2.2.2.1, HD.out.2.1.next J.out.2.2.2.1, J.out.2.2.2.2, by rw [H.out.2.1]; exact BU aV _ _ _ RU, J.out.2.2.1⟩
       go_loopw [17, 18] (fun nv iv wq => ∃ (i : Nat), iv = .int .i64 (i : Int) ∧ Hid (i ≤ 8 ∧ Below wC.heap.size wC wq ∧ akd wq wC.heap.size nv ((List.range i).map (v.add 64 u).at))) (fun _ iv _ => (8 - intOf iv).toNat)
       case atStart => exact ⟨0, rfl, Lib.hid ⟨by decide, Below.refl _ _, akd.nil _ _⟩⟩
       case round =>
        obtain ⟨i, rfl, G⟩ := hrel
        by_cases hi : i < 8
        · have OW : (i : Int) < 8 := by omega
          have HI := Lib.hid hi
          clear hi
          go_wp2_with fail
          obtain ⟨a1, ha1⟩ : ∃ z, z = v.at i := ⟨_, rfl⟩
          obtain ⟨a2, ha2⟩ : ∃ z, z = u.at i := ⟨_, rfl⟩
          obtain ⟨s, hs⟩ : ∃ z, z = (v.add 64 u).at i := ⟨_, rfl⟩
          have hss : IntKind.u64.wrap ((a1 : Int) + (a2 : Int)) = (s : Int) := by rw [hs, V8.aaM 64 v u HI.out, ha1, ha2]; exact amc _ _
          have HS0 := Lib.hid hs
          have hc1 : wr.cell? ⟨q, i, none⟩ = some (.int .u64 (a1 : Int)) := by rw [ha1]; exact (G.out.2.1.cell (p := ⟨q, i, none⟩) HC.out.2.1.1).trans (HC.out.2.1.2 i HI.out)
          have hc2 : wr.cell? ⟨qv, i, none⟩ = some (.int .u64 (a2 : Int)) := by rw [ha2]; exact (G.out.2.1.cell (p := ⟨qv, i, none⟩) HC.out.2.2.1.1).trans (HC.out.2.2.1.2 i HI.out)
          have hl1 : q < wr.heap.size := Nat.lt_of_lt_of_le HC.out.2.1.1 G.out.2.1.size
          have hl2 : qv < wr.heap.size := Nat.lt_of_lt_of_le HC.out.2.2.1.1 G.out.2.1.size
          have hblk : wr.heap[w.heap.size]? = some (.cells #[.int .u64 0, .int .u64 64] 106) := (HC.out.1.next G.out.2.1).wo
          have apV := Lib.hid hblk
          have hlen : ((List.range i).map (v.add 64 u).at).length + [s].length ≤ 4000000 := by have := HI.out; simp; omega
          have rD := Lib.hid hlen
          clear hlen hs ha1 ha2
          refine st1 wr [12, 13, 14] 15 (ak (b := w.heap.size) hblk (aO (pl (Below.refl _ _)))) (fun HS => ?_)
          refine pure_ #[true, false, false, false, false, false, false, false, false, false, false, false, false, false, false] (i := 0) (N := some 99) (v := ?v21) rfl rfl (by kernel_rfl) (fun _ _ _ h => h) (Or.inl ⟨by rfl, ?aiX⟩) rfl ?_
          case aiX => (intro v; go_simp; first | done | with_reducible rfl)
          simp only [Act.put, List.setIfInBounds_toArray, List.set_cons_zero, List.set_cons_succ]
          refine tk1 1 (some 100) HS (h := ?_)
          refine tk1 2 (some 101) HS (h := ?_)
          refine tk1 3 (some 102) HS (h := ?_)
          refine tk1 4 (some 103) HS (v := (.pointer (some ⟨q, i, none⟩))) (h := ?_)
          refine tk1 5 (some 104) HS (v := (.int .u64 (a1 : Int))) (hy := by (intro v hv; obtain ⟨x, rfl, hk, _, n0⟩ := hv.jE; have hA := (hv.1.cell (p := ⟨q, i, none⟩) hl1).trans hc1; clear hk hv; go_simp; first | done | with_reducible rfl)) (h := ?_)
          refine tk1 6 (some 105) HS (h := ?_)
          refine tk1 7 (some 106) HS (h := ?_)
          refine tk1 8 (some 107) HS (v := (.pointer (some ⟨qv, i, none⟩))) (h := ?_)
          refine tk1 9 (some 108) HS (v := (.int .u64 (a2 : Int))) (hy := by (intro v hv; obtain ⟨x, rfl, hk, _, n0⟩ := hv.jE; have hA := (hv.1.cell (p := ⟨qv, i, none⟩) hl2).trans hc2; clear hk hv; go_simp; first | done | with_reducible rfl)) (h := ?_)
          refine tk1 10 (some 109) HS (v := (.int .u64 (s : Int))) (h := ?_)
          refine dH 11 (some 110) (h := fun K hK => ?_)
          go_simp
          refine (an2 _ _).mono ?_
          rintro e y ⟨rfl, hb⟩
          refine hK.out _ _ (HS.step hb rfl) ?_
          clear HS hb
          intro HS
          obtain ⟨x61, rfl, aqr, auQ, auU⟩ := HS.jE
          have aoA : Hid (Below wr.heap.size wr x61) := aqr.below
          clear HS aqr
          refine pO 12 (some 111) (h := fun K hK => ?_)
          go_simp
          refine hK.out _ _ ?_
          refine anx #[true, true, true, true, true, true, true, true, true, true, true, true, true, true, false] (i := 13) (some 112) (.tmp 99) (.tmp 111) rfl rfl (by kernel_rfl) (by decide) rfl rfl wC.heap.size u17 ((List.range i).map (v.add 64 u).at) [s] (some ⟨x61.heap.size, 0, none⟩) 1 1 rfl rfl rfl (G.out.2.2.below (pl (amA aoA.out apV.out) : Below wr.heap.size wr _) (Nat.le_refl _)) (aop ob) rD.out (by (try simp only [World.size_alloc, aA]); have := aoA.out.size; have := G.out.2.1.size; omega) ?_
          intro v5 w5 ak3 ahz ak2
          have HN : Hid (Below wC.heap.size wC w5 ∧ akd w5 wC.heap.size v5 ((List.range (i + 1)).map (v.add 64 u).at)) := Lib.hid (by
           have hown := G.out.2.2.ahC
           have hsz := aoA.out.size
           have hsc := G.out.2.1.size
           refine ⟨Below.grown (Below.trans G.out.2.1 (Below.mono (pl (amA aoA.out apV.out)) hsc)) ahz (by (try simp only [World.size_alloc, aA]); omega) (fun k h => (hown k h).1), ?_⟩
           rw [List.range_succ, List.map_append, List.map_singleton, ← HS0.out]; exact ak3)
          clear ak3 ahz ak2
          refine pO 14 (some 17) (h := fun K hK => ?_)
          go_simp
          refine hK.out _ _ ?_
          refine done_ (by kernel_rfl) ?_
          clear hc1 hc2 hl1 hl2 hblk hss
          go_wp2_with fail
          go_roundw
          case rel => exact ⟨i + 1, rfl, Lib.hid ⟨HI.out, HN.out.1, HN.out.2⟩⟩
          case measure => exact amr 8 i HI.out
        · have h8 : i = 8 := by have := G.out.1; omega
          have OW : ((i : Int) < 8) = False := eq_false (by omega)
          obtain ⟨q2, c2, hnv, _, ht8⟩ := aoG (by have h := G.out.2.2; rw [h8] at h; exact h)
          clear h8
          subst hnv
          have HQ2 := Lib.hid ht8
          have hf2 : f2 = 128 * (k + 1) := by have := HF.out; omega
          have HF2 := Lib.hid hf2
          have HZ : Hid (128 * (k + 1) ≤ L.length ∧ f < f2 ∧ f2 ≤ n) := Lib.hid ⟨by rw [HLL.out.2.1]; have := HF.out.2.2.2; omega, by have := HF.out.2.2.1; omega, HF.out.2.2.2⟩
          have e128 : IntKind.i64.wrap ((f : Int) + 128) = (f2 : Int) := (IntWalk.i64_in _ (by have := HLL.out.2.2.2.2.1; have := HF.out; omega)).trans (by have := HF.out; omega)
          have e129 : wrap64 ((f : Int) + 128) = (f2 : Int) := by have := HLL.out.2.2.2.2.1; have := HF.out; unfold wrap64; omega
          clear hi ht8 hf2
          go_wp2_with fail
          exact ⟨⟨k + 1, q2, c2, v.add 64 u, rfl, by rw [HF2.out], Lib.hid ⟨HF.out.1, by rw [HU.out, HD.out.2.2.2.2.2.1, an9.out.2.2.1, H.out.2.1, HF.out.2.1]; exact anH L k _ HZ.out.1, HC.out.1.next G.out.2.1, HQ2.out⟩⟩, aom n f f2 HZ.out.2.1 HZ.out.2.2⟩
  · have hkN : k = N := by have := H.out.1; omega
    obtain ⟨f, hf⟩ : ∃ z, z = 128 * k := ⟨_, rfl⟩
    rw [← hf]
    have hfI : ((f : Int) < (n : Int)) = False := eq_false (by have := HLL.out.1; omega)
    have hv : v.out 8 = Ai aV bs := by
     rw [afB, ← HLL.out.2.2.1, H.out.2.1, hkN]
     unfold QM
     rw [HLL.out.2.1, HLL.out.1, Nat.mul_div_cancel_left N (by decide)]
    have HV := Lib.hid hv
    obtain ⟨wC, rfl⟩ : ∃ z, z = wr := ⟨_, rfl⟩
    have HC : Hid (anb w wC ga gc L ∧ At8 wC q v) := Lib.hid H.out.2.2
    clear hkN hf hv hk H
    go_wp2_with fail
    go_loopw [19, 20] (fun ov iv wq => ∃ (i : Nat), iv = .int .i64 (i : Int) ∧ Hid (i ≤ 8 ∧ Below wC.heap.size wC wq ∧ gu wq wC.heap.size ov (amU v i))) (fun _ iv _ => (8 - intOf iv).toNat)
    case atStart => exact ⟨0, rfl, Lib.hid ⟨by decide, Below.refl _ _, gu.nil _ _⟩⟩
    case round =>
     obtain ⟨i, rfl, G⟩ := hrel
     by_cases hi : i < 8
     · have OW : (i : Int) < 8 := by omega
       have HI := Lib.hid hi
       have hdg : wr.cell? ⟨w.heap.size, 1, none⟩ = some (.int .u64 64) := by simp [World.cell?, (HC.out.1.next G.out.2.1).wo]
       clear hi
       go_wp2_with fail
       clear hdg
       obtain ⟨wD, rfl⟩ : ∃ z, z = wr := ⟨_, rfl⟩
       obtain ⟨a, ha⟩ : ∃ z, z = v.at i := ⟨_, rfl⟩
       have HA := Lib.hid ha
       clear ha
       go_loopw [19, 21] (fun ov sv wq => ∃ (k : Nat) (s : Int), sv = .int .i64 s ∧ Hid (s = 56 - 8 * (k : Int) ∧ k ≤ 8 ∧ Below wC.heap.size wC wq ∧ gu wq wC.heap.size ov (amU v i ++ (zI 8 a).take k))) (fun _ sv _ => (intOf sv + 8).toNat)
       case atStart => exact ⟨0, 56, rfl, Lib.hid ⟨rfl, by decide, G.out.2.1, by rw [List.take_zero, List.append_nil]; exact G.out.2.2⟩⟩
       case round =>
        obtain ⟨k, s, rfl, J⟩ := hrel
        by_cases hk : k < 8
        · obtain ⟨m, rfl⟩ : ∃ m : Nat, s = (m : Int) := ⟨56 - 8 * k, by have := J.out.1; omega⟩
          have HM : Hid (m + 8 * k = 56 ∧ k < 8) := Lib.hid ⟨by have := J.out.1; omega, hk⟩
          have hmI : (m : Int) ≤ 56 := by have := HM.out.1; omega
          have hm0 : (0 : Int) ≤ (m : Int) := by omega
          have hwm : eX (m : Int) = (m : Int) := by unfold eX; rw [IntKind.wrap_u64]; omega
          have hcx : wr.cell? ⟨q, i, none⟩ = some (.int .u64 (a : Int)) := by rw [HA.out]; exact (J.out.2.2.1.cell (p := ⟨q, i, none⟩) HC.out.2.1).trans (HC.out.2.2 i HI.out)
          clear hk
          go_wp2_with (at_builtin; refine bH (.tmp 126) (.tmp 135) rfl rfl wC.heap.size u19 (amU v i ++ (zI 8 a).take k) [a / 2 ^ m % 256] (some ⟨wr.heap.size, 0, none⟩) 1 1 rfl rfl rfl (J.out.2.2.2.below (pl (Below.refl _ _) : Below wr.heap.size wr _) (Nat.le_refl _)) (apb ob (an1 a m)) (by have := anl v i; have := List.length_take_le k (zI 8 a); have := HI.out; have := HM.out; simp only [List.length_append, List.length_singleton]; omega) (by (try simp only [World.size_alloc, aA]); have := J.out.2.2.1.size; omega) ?_)
          intro v5 w5 ak3 ahz ak2
          have HN : Hid (Below wC.heap.size wC w5 ∧ gu w5 wC.heap.size v5 (amU v i ++ (zI 8 a).take (k + 1))) := Lib.hid (by
           have hown := J.out.2.2.2.amm
           have hsc := J.out.2.2.1.size
           refine ⟨Below.grown (pl J.out.2.2.1) ahz (by (try simp only [World.size_alloc, aA]); omega) (fun k h => (hown k h).1), ?_⟩
           rw [an0 a k m HM.out.2 HM.out.1]; exact ak3)
          clear ak3 ahz ak2 hcx
          have hw8 : wrap64 ((m : Int) - 8) = (m : Int) - 8 := by unfold wrap64; omega
          have HW8 := Lib.hid hw8
          clear hw8
          go_wp2_with fail
          go_roundw
          case rel => exact ⟨k + 1, (m : Int) - 8, rfl, Lib.hid ⟨by have := HM.out.1; omega, HM.out.2, HN.out.1, HN.out.2⟩⟩
          case measure => exact an7 m
        · have hs : s = -8 := by have := J.out; omega
          have HK : Hid (k = 8) := Lib.hid (by have := J.out; omega)
          subst hs
          clear hk
          go_wp2_with fail
          go_roundw
          case rel => exact ⟨i + 1, rfl, Lib.hid ⟨HI.out, J.out.2.2.1, by have h := J.out.2.2.2; rw [HK.out, aoc] at h; rw [ana, ← HA.out]; exact h⟩⟩
          case measure => exact amr 8 i HI.out
     · have h8 : i = 8 := by have := G.out.1; omega
       have OW : ((i : Int) < 8) = False := eq_false (by omega)
       have H8 := Lib.hid h8
       clear h8 hi
       go_wp2_with fail
       exact bodyPost_ret (v := .tuple #[u19, .int .i64 0]) (by simp [results, Tryz.results47, go_sem]) rfl ⟨⟨u19, rfl, by have h := G.out.2.2; rw [H8.out, aoo, HV.out] at h; exact h.aqG HC.out.1.bel.size⟩, Below.trans HC.out.1.bel (G.out.2.1.mono HC.out.1.bel.size)⟩
end
end Go.Proofs.YtehfkbaendajbaaGreatDoor
