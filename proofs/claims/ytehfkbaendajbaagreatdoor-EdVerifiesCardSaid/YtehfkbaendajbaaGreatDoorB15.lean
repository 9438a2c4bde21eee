/-
  Shared, part 15: walks and plain laws; each theorem states its own conditions.
-/
import Derived.Test.YtehfkbaendajbaaGreatDoorProg
import Derived.Test.YtehfkbaendajbaaGreatDoorB8
import Derived.Test.YtehfkbaendajbaaGreatDoorB9
import Derived.Test.YtehfkbaendajbaaGreatDoorB14
import Derived.ArgAppend
import Derived.Below
import Derived.ChangeOld
import Derived.Laws.BitsLemmas
import Derived.Laws.BytesArg
import Derived.Laws.OwnMore
import Derived.Lib.Hide
import Derived.OpenShut
import Derived.OwnWalk
import Derived.ProofKit
import Derived.ShutString
import Derived.StillTailTactics
namespace Go.Proofs.YtehfkbaendajbaaGreatDoor
set_option linter.unusedSimpArgs false
set_option linter.unusedVariables false
set_option maxRecDepth 100000
set_option maxHeartbeats 8000000
section
open Go.RowKit
def DC (xs : List Nat) : ByteArray := strOfNums (xs.map fun (n : Nat) => (n : Int))
theorem Y4 {xs ys : List Nat} (hx : ∀ b ∈ xs, b < 256) (hy : ∀ b ∈ ys, b < 256) : (DC xs = DC ys) ↔ xs = ys := by
 constructor
 · intro h
   have h1 := congrArg (fun s => s.data.toList) h
   simp only [DC, strOfNums_data, List.map_map] at h1
   have key : ∀ (l m : List Nat), (∀ b ∈ l, b < 256) → (∀ b ∈ m, b < 256) → l.map ((fun n : Int => UInt8.ofNat n.toNat) ∘ fun n : Nat => (n : Int)) = m.map ((fun n : Int => UInt8.ofNat n.toNat) ∘ fun n : Nat => (n : Int)) → l = m := by
    intro l
    induction l with
    | nil => intro m _ _ h; cases m with
     | nil => rfl
     | cons b m => simp at h
    | cons a l ih => intro m hl hm h; cases m with
     | nil => simp at h
     | cons b m =>
      simp only [List.map_cons, List.cons.injEq, Function.comp] at h
      have ha := hl a List.mem_cons_self
      have hb := hm b List.mem_cons_self
      have e : a = b := by
       have h2 := congrArg UInt8.toNat h.1
       simp only [Int.toNat_natCast, UInt8.toNat_ofNat'] at h2
       omega
      rw [e, ih m (fun x hx => hl x (List.mem_cons_of_mem _ hx)) (fun x hx => hm x (List.mem_cons_of_mem _ hx)) h.2]
   exact key xs ys hx hy h1
 · rintro rfl; rfl
theorem MI {w : World} {A : Option Addr} {xs : List Nat} (h : Rd w .u8 A xs) (c : Nat) : (convert 22 9 (.slice A xs.length c)).run Tryz.prog w = .ok (.string (DC xs)) w := by
 cases xs with
 | nil =>
  rw [run_convert_bytes_string w _ _ 5 A _ c (by kernel_rfl) (by kernel_rfl) (by kernel_rfl)]
  cases A with
  | none => rfl
  | some a => exact run_bytesToString w a 0 c [] rfl
 | cons x l =>
  obtain ⟨b, off, rfl, _, hc⟩ := h.place (by simp)
  refine run_convert_bytes_arg w _ 5 (by kernel_rfl) (by kernel_rfl) b off _ c ((x :: l).map fun (n : Nat) => (n : Int)) (by simp) (fun i hi => ?_) _ (by kernel_rfl)
  rw [hc i hi]
  simp only [List.getD, List.getElem?_map, List.getElem?_eq_getElem hi, Option.map_some, Option.getD_some]
end
section
open Go.RowKit Go.Proofs.YtehfkbaendajbaaGreatDoorW.PrintLast
theorem IX {w : World} {base n : Nat} {e : TypeId} {v : Value} {k : IntKind} (xs : List Nat) (h : w.ownsRow base e 1 v n (xs.map fun (b : Nat) => Value.int k (b : Int))) (h0 : 0 < xs.length) :
 ∃ g cap, v = .slice (some ⟨g, 0, none⟩) xs.length cap ∧ xs.length ≤ cap ∧ base ≤ g ∧ Rd w k (some ⟨g, 0, none⟩) xs := by
 have hn : n = xs.length := by have := h.1; simp at this; omega
 subst hn
 rcases h.2 with ⟨_, hz⟩ | ⟨g, cap, cur, rfl, hb, hg, hnc, _, _, _⟩
 · omega
 · refine ⟨g, cap, rfl, hnc, hb, fun i hi => ⟨g, 0, rfl, ?_⟩⟩
   rw [Nat.zero_add, h.cellAt i (by omega)]
   simp [hi]
end
section
open Go.RowKit
theorem sv (n : Nat) : (small n).val % Num.p = n % Num.p := by rw [jh, Nat.mod_mod]
theorem pJ (x y s : Fn) (n : Nat) (hx : x.lt 18446744073709551616) (hy : y.lt 18446744073709551616) (hs : s = small n) (h : (x.val + y.val) % Num.p = n % Num.p) : ∀ w, Calls Tryz.prog 58 #[x.v, y.v] w fun e w' => e = .returned s.v ∧ Below w.heap.size w w' := fun w => by
 have h0 := WM x y hx hy w
 rw [bY h, ← hs] at h0
 exact h0
theorem qI (x y s : Fn) (n : Nat) (hx : x.lt 18446744073709551616) (hy : y.lt 18446744073709551616) (hs : s = small n) (h : dD x.val y.val % Num.p = n % Num.p) : ∀ w, Calls Tryz.prog 56 #[x.v, y.v] w fun e w' => e = .returned s.v ∧ Below w.heap.size w w' := fun w => by
 have h0 := Md x y hx hy w
 rw [bY h, ← hs] at h0
 exact h0
theorem gX (x y s : Fn) (n : Nat) (hx : x.lt 18446744073709551616) (hy : y.lt 18446744073709551616) (hs : s = small n) (h : x.val * y.val % Num.p = n % Num.p) : ∀ w, Calls Tryz.prog 38 #[x.v, y.v] w fun e w' => e = .returned s.v ∧ Below w.heap.size w w' := fun w => by
 have h0 := L6 x y hx hy w
 rw [bY h, ← hs] at h0
 exact h0
theorem jR (x s : Fn) (n : Nat) (hx : x.lt 18446744073709551616) (hs : s = small n) (h : x.val * x.val % Num.p = n % Num.p) : ∀ w, Calls Tryz.prog 54 #[x.v] w fun e w' => e = .returned s.v ∧ Below w.heap.size w w' := fun w => by
 have h0 := Jr x hx w
 rw [bY h, ← hs] at h0
 exact h0
theorem EO (x s : Fn) (n : Nat) (hx : x.lt 18446744073709551616) (hs : s = small n) (h : dD 0 x.val % Num.p = n % Num.p) : ∀ w, Calls Tryz.prog 59 #[x.v] w fun e w' => e = .returned s.v ∧ Below w.heap.size w w' := fun w => by
 have h0 := wz x hx w
 rw [bY h, ← hs] at h0
 exact h0
theorem aaH (x s : Fn) (n : Nat) (hx : x.lt 18446744073709551616) (hs : s = small n) (h : x.val ^ (Num.p - 2) % Num.p = n % Num.p) : ∀ w, Calls Tryz.prog 36 #[x.v] w fun e w' => e = .returned s.v ∧ Below w.heap.size w w' := fun w => by
 have h0 := Xd x hx w
 rw [bY h, ← hs] at h0
 exact h0
theorem Ru (x : Fn) (b : Bool) (hx : x.lt 18446744073709551616) (hb : decide (x.val % Num.p % 2 = 1) = b) : ∀ w, Calls Tryz.prog 39 #[x.v] w fun e w' => e = .returned (.bool b) ∧ Below w.heap.size w w' := fun w => by
 have h0 := aoF x hx w
 rw [hb] at h0
 exact h0
theorem inv_mul {a : Nat} (h : ¬ a % Num.p = 0) : a * a ^ (Num.p - 2) % Num.p = 1 % Num.p := by
 have e : a * a ^ (Num.p - 2) = a ^ (Num.p - 1) := by rw [show Num.p - 1 = (Num.p - 2) + 1 by decide, Nat.pow_succ, Nat.mul_comm]
 rw [e, Num.Vx.J3 a (fun hd => h (Nat.mod_eq_zero_of_dvd hd))]
 decide
end
section
open Go.RowKit
theorem yM (k n : Nat) : bW (dw k n) = n % 256 ^ k := by
 induction k generalizing n with
 | zero => simp [dw, bW, Nat.mod_one]
 | succ k ih =>
  have h := xC (dw (k + 1) n) k (by simp [dw])
  have h1 : (dw (k + 1) n).take k = dw k n := by
   unfold dw
   rw [← List.map_take, List.take_range, Nat.min_eq_left (by omega)]
  have h2 : (dw (k + 1) n).take (k + 1) = dw (k + 1) n := List.take_of_length_le (by simp [dw])
  rw [h2, h1, ih] at h
  rw [h, Nat.mod_pow_succ]
  simp only [dw, List.getElem_map, List.getElem_range, zV]
  rw [Nat.mul_comm]
theorem YG {n : Nat} (h : n < Num.p) : n < 256 ^ 32 := Nat.lt_of_lt_of_le h (by decide)
theorem OM {n : Nat} (h : n < Num.p) : ((List.range 32).map fun j => byteAt n 255 j) = dw 32 n := by
 unfold dw
 refine List.map_congr_left (fun j _ => ?_)
 unfold byteAt zV
 rw [Nat.mod_eq_of_lt (Nat.lt_of_lt_of_le h (by decide))]
def SK (bs : List Nat) : Fn := if bs.length = 32 ∧ bW bs < Num.p then small (bW bs) else ⟨0, 0, 0, 0, 0⟩
def AP (bs : List Nat) : Int := if bs.length = 32 then (if bW bs < Num.p then 0 else 30) else 1
end
section
open Go.RowKit Go.Proofs.YtehfkbaendajbaaGreatDoorW.PrintLast
theorem QD (n : Int) (h₀ : 0 ≤ n) (h₁ : n < 2 ^ 63) : IntKind.i64.wrap n = n := by rw [IntKind.wrap_i64]; omega
theorem XC (l : List Nat) (hb : ∀ b ∈ l, b < 256) (k : Nat) (hk : k / 2 < l.length) : bW l / 16 ^ k % 16 = l[k / 2] / 2 ^ (k * 4 % 8) % 16 := by
 have e : (16 : Nat) ^ k = 256 ^ (k / 2) * 16 ^ (k % 2) := by
  rw [show (256 : Nat) = 16 ^ 2 from rfl, ← Nat.pow_mul, ← Nat.pow_add, Nat.div_add_mod]
 rw [e, ← Nat.div_div_eq_div_mul, xB l _ hb, List.drop_eq_getElem_cons hk]
 simp only [bW]
 generalize l[k / 2] = x
 generalize bW (List.drop (k / 2 + 1) l) = y
 have : k % 2 = 0 ∨ k % 2 = 1 := by omega
 rcases this with h | h
 · rw [h, show k * 4 % 8 = 0 by omega]; simp only [Nat.pow_zero, Nat.div_one]; omega
 · rw [h, show k * 4 % 8 = 4 by omega]; simp only [Nat.pow_one, Nat.reducePow]; omega
theorem SV (l : List Nat) (hb : ∀ b ∈ l, b < 256) (k : Nat) (hk : k / 2 < l.length) (v : Nat) (hv : v = l[k / 2]) : bits .and .i64 (wrap64 ((v : Int) / 2 ^ (k * 4 % 8))) 15 = ((bW l / 16 ^ k % 16 : Nat) : Int) := by
 rw [XC l hb k hk, ← hv]
 have hlt : v < 256 := by rw [hv]; exact hb _ (List.getElem_mem _)
 have e1 : ((v : Int) / 2 ^ (k * 4 % 8)) = ((v / 2 ^ (k * 4 % 8) : Nat) : Int) := by rw [Int.natCast_ediv, Int.natCast_pow]; rfl
 rw [e1]
 have h2 : v / 2 ^ (k * 4 % 8) < 256 := Nat.lt_of_le_of_lt (Nat.div_le_self _ _) hlt
 generalize v / 2 ^ (k * 4 % 8) = n at *
 have h3 : wrap64 (n : Int) = (n : Int) := by unfold wrap64; omega
 rw [h3, show (15 : Int) = 2 ^ 4 - 1 from rfl]
 have h4 := bits_mask .i64 63 (by decide) QD 4 (by decide) (n : Int) (by omega) (by omega)
 rw [h4]
 omega
theorem Ze (l : List Nat) (hb : ∀ b ∈ l, b < 256) (k : Nat) (hk : l.length ≤ k / 2) : bW l / 16 ^ k = 0 := by
 refine Nat.div_eq_of_lt (Nat.lt_of_lt_of_le (oD l hb) ?_)
 rw [show (256 : Nat) = 16 ^ 2 from rfl, ← Nat.pow_mul]
 exact Nat.pow_le_pow_right (by decide) (by omega)
theorem OG (A : Option Addr) (c : Nat) (es : List Nat) (hl : es.length ≤ 1000) (hby : ∀ b ∈ es, b < 256) (k : Nat) (hk2 : k / 2 < es.length) (w : World) (hr : Rd w .u8 A es) :
 Calls Tryz.prog 63 #[.slice A es.length c, .int .i64 k] w fun e w' => e = .returned (.int .i64 ((bW es / 16 ^ k % 16 : Nat) : Int)) ∧ Below w.heap.size w w' := by
 obtain ⟨ev, hev⟩ : ∃ v, v = es[k / 2] := ⟨_, rfl⟩
 obtain ⟨b, off, rfl, hbw, hcell⟩ := hr.place (by omega)
 have hc := hcell (k / 2) hk2
 rw [← hev, show k / 2 = k * 4 / 8 by omega] at hc
 have hi0 : (0 : Int) ≤ (k : Int) * 4 / 8 := by omega
 have hi1 : (k : Int) * 4 / 8 < (es.length : Int) := by omega
 have HE := Lib.hid (SV es hby k hk2 ev hev)
 clear hcell hev hr hby
 go_enter Tryz.func63, Tryz.ntmps63
 go_wp2_with fail
 exact bodyPost_ret (v := .int .i64 _) (by simp [results, Tryz.results63, go_sem]; rfl) rfl ⟨by rw [HE.out], Below.refl _ _⟩
theorem JA (A : Option Addr) (c : Nat) (es : List Nat) (hby : ∀ b ∈ es, b < 256) (k : Nat) (hk : k ≤ 10000) (hk2 : es.length ≤ k / 2) (w : World) :
 Calls Tryz.prog 63 #[.slice A es.length c, .int .i64 k] w fun e w' => e = .returned (.int .i64 ((bW es / 16 ^ k % 16 : Nat) : Int)) ∧ Below w.heap.size w w' := by
 have hi1 : (es.length : Int) ≤ (k : Int) * 4 / 8 := by omega
 go_enter Tryz.func63, Tryz.ntmps63
 go_wp2_with fail
 exact bodyPost_ret (v := .int .i64 0) (by simp [results, Tryz.results63, go_sem]) rfl ⟨by rw [Ze es hby k hk2]; rfl, Below.refl _ _⟩
theorem qM (A : Option Addr) (c : Nat) (es : List Nat) (hl : es.length ≤ 1000) (hby : ∀ b ∈ es, b < 256) (k : Nat) (hk : k ≤ 10000) (d : Nat) (hd : d = bW es / 16 ^ k % 16) (w : World) (hr : Rd w .u8 A es) : Calls Tryz.prog 63 #[.slice A es.length c, .int .i64 k] w fun e w' => e = .returned (.int .i64 (d : Int)) ∧ Below w.heap.size w w' := by
 rw [hd]
 by_cases h : k / 2 < es.length
 · exact OG A c es hl hby k h w hr
 · exact JA A c es hby k hk (by omega) w
theorem afn (v : Nat) (h : v < 128) : bits .or .u8 (v : Int) 128 = ((v + 128 : Nat) : Int) := by
 have h1 := (bits_nat .u8 8 (by decide) wraps_u8 v 128 (by omega) (by omega)).2
 have h2 : v ||| 128 = v + 128 := by
  have := Nat.two_pow_add_eq_or_of_lt (i := 7) (b := v) h 1
  rw [show 2 ^ 7 * 1 = 128 from rfl] at this
  rw [Nat.or_comm]; omega
 rw [← h2]; exact h1
def bF (bs : List Nat) : Array Value := (bs.map fun x => Value.int .u8 ((x : Nat) : Int)).toArray
theorem jr (bs : List Nat) (i : Nat) : (bF bs)[i]? = (bs[i]?).map fun x => Value.int .u8 ((x : Nat) : Int) := by simp [bF]
theorem kU (bs : List Nat) (i x : Nat) : (bF bs).setIfInBounds i (.int .u8 (x : Int)) = bF (bs.set i x) := by
 unfold bF
 rw [List.map_set]
 simp
theorem nS {w : World} {b : Nat} {t : TypeId} {bs : List Nat} (h : w.heap[b]? = some (.cells (bF bs) t)) : Rd w .u8 (some ⟨b, 0, none⟩) bs :=
 jC (b := b) h (fun i hi => by rw [jr, List.getElem?_eq_getElem hi]; rfl)
theorem JY {n : Nat} (h : n < Num.p) : uO n 255 = bF (dw 32 n) := by
 rw [← OM h]
 apply Array.ext_getElem?
 intro i
 rw [jr]
 by_cases hi : i < 32
 · rw [wK _ _ _ hi]; simp [hi]
 · have h1 : (uO n 255).size = 32 := rfl
   rw [Array.getElem?_eq_none (by omega), List.getElem?_eq_none (by simp; omega)]
   rfl
theorem WR (x : Fn) (bs : List Nat) (hx : x.lt 18446744073709551616) (hb : bs = dw 32 (x.val % Num.p)) : ∀ w, Calls Tryz.prog 37 #[x.v] w fun e w' => (∃ b, w.heap.size ≤ b ∧ e = .returned (.slice (some ⟨b, 0, none⟩) 32 32) ∧ w'.heap[b]? = some (.cells (bF bs) 5)) ∧ Below w.heap.size w w' := fun w => by
 have h := Jo x hx w
 rw [JY (Nat.mod_lt _ gJ), ← hb] at h
 exact h
theorem AV (p : Pn) (z y x : Fn) (bs : List Nat) (C1 : Hid (∀ w, Calls Tryz.prog 36 #[p.z.v] w fun e w' => e = .returned z.v ∧ Below w.heap.size w w')) (C2 : Hid (∀ w, Calls Tryz.prog 38 #[p.y.v, z.v] w fun e w' => e = .returned y.v ∧ Below w.heap.size w w')) (C3 : Hid (∀ w, Calls Tryz.prog 37 #[y.v] w fun e w' => (∃ b, w.heap.size ≤ b ∧ e = .returned (.slice (some ⟨b, 0, none⟩) 32 32) ∧ w'.heap[b]? = some (.cells (bF bs) 5)) ∧ Below w.heap.size w w')) (C4 : Hid (∀ w, Calls Tryz.prog 38 #[p.x.v, z.v] w fun e w' => e = .returned x.v ∧ Below w.heap.size w w')) (C5 : Hid (∀ w, Calls Tryz.prog 39 #[x.v] w fun e w' => e = .returned (.bool false) ∧ Below w.heap.size w w')) (w : World) :
 Calls Tryz.prog 13 #[p.v] w fun e w' => (∃ b, w.heap.size ≤ b ∧ e = .returned (.slice (some ⟨b, 0, none⟩) 32 32) ∧ w'.heap[b]? = some (.cells (bF bs) 5)) ∧ Below w.heap.size w w' := by
 go_enter Tryz.func13, Tryz.ntmps13
 go_wp2_with fail
 refine (C1.out _).mono ?_
 rintro e y1 ⟨rfl, hb1⟩
 obtain ⟨x1, rfl, hc1, hz1, l10⟩ := bQ (b := w.heap.size) hb1 rfl ob
 have HB1 : Hid (Below w.heap.size w x1) := Below.trans (pl (Below.refl _ _)) (hc1.mono sz)
 clear hb1 hc1
 try simp only [eF] at hz1
 go_wp2_with fail
 refine (C2.out _).mono ?_
 rintro e y2 ⟨rfl, hb2⟩
 obtain ⟨x2, rfl, hc2, hz2, kD, rQ⟩ := fO (b0 := w.heap.size) (b1 := x1.heap.size) hb2 rfl ob ob
 have HB2 := aZ HB1.out hc2
 clear hb2 hc2
 try simp only [eF] at hz2
 go_wp2_with fail
 refine (C3.out _).mono ?_
 rintro e y3 ⟨⟨gb, zL, rfl, Ie⟩, hb3⟩
 have gI : Keeps w _ y3 := ak (b := w.heap.size) ((hb3.block _ sz).trans ob) (ak (b := x1.heap.size) ((hb3.block _ sz).trans ob) (ak Ie (aO (Below.trans (pl HB2.out) (hb3.mono sz)))))
 obtain ⟨x3, rfl, hk3, hz3, nN, uq, zn⟩ := gI.eG
 have HB3 : Hid (Below w.heap.size w x3) := hk3.below
 have HG3 : w.heap.size ≤ gb := by have := HB2.out.size; simp only [World.size_alloc, aA, World.size_drew, World.size_setCell] at zL; omega
 have abr : w.heap.size < gb := by simp only [World.size_alloc, aA, World.size_drew, World.size_setCell] at zL; omega
 have abt : x1.heap.size < gb := by simp only [World.size_alloc, aA, World.size_drew, World.size_setCell] at zL; omega
 clear gI hk3 hb3 Ie zL
 go_wp2_with fail
 refine (C4.out _).mono ?_
 rintro e y4 ⟨rfl, hb4⟩
 obtain ⟨x4, rfl, hc4, lT, rU, yL, Dj⟩ := bZ (b0 := w.heap.size) (b1 := x1.heap.size) (b2 := gb) hb4 rfl ob ob ob
 have HB4 := aZ HB3.out hc4
 clear hb4 hc4
 try simp only [eF] at lT
 go_wp2_with fail
 refine (C5.out _).mono ?_
 rintro e y5 ⟨rfl, hb5⟩
 obtain ⟨x5, rfl, hc5, rP, Ae, l51, Gi⟩ := bZ (b0 := w.heap.size) (b1 := x1.heap.size) (b2 := gb) hb5 rfl ob ob ob
 have kR := aZ HB4.out hc5
 clear hb5 hc5
 try simp only [eF] at rP
 go_wp2_with fail
 exact bodyPost_ret (v := .slice (some ⟨gb, 0, none⟩) 32 32) (by simp [results, Tryz.results13, go_sem]) rfl ⟨⟨gb, HG3, rfl, ob⟩, (pl kR.out)⟩
theorem AX (p : Pn) (z y x : Fn) (bs : List Nat) (v : Nat) (hv : bs[31]? = some v) (hvl : v < 128) (C1 : Hid (∀ w, Calls Tryz.prog 36 #[p.z.v] w fun e w' => e = .returned z.v ∧ Below w.heap.size w w')) (C2 : Hid (∀ w, Calls Tryz.prog 38 #[p.y.v, z.v] w fun e w' => e = .returned y.v ∧ Below w.heap.size w w')) (C3 : Hid (∀ w, Calls Tryz.prog 37 #[y.v] w fun e w' => (∃ b, w.heap.size ≤ b ∧ e = .returned (.slice (some ⟨b, 0, none⟩) 32 32) ∧ w'.heap[b]? = some (.cells (bF bs) 5)) ∧ Below w.heap.size w w')) (C4 : Hid (∀ w, Calls Tryz.prog 38 #[p.x.v, z.v] w fun e w' => e = .returned x.v ∧ Below w.heap.size w w')) (C5 : Hid (∀ w, Calls Tryz.prog 39 #[x.v] w fun e w' => e = .returned (.bool true) ∧ Below w.heap.size w w')) (w : World) :
 Calls Tryz.prog 13 #[p.v] w fun e w' => (∃ b, w.heap.size ≤ b ∧ e = .returned (.slice (some ⟨b, 0, none⟩) 32 32) ∧ w'.heap[b]? = some (.cells (bF (bs.set 31 (v + 128))) 5)) ∧ Below w.heap.size w w' := by
 have hA : (bF bs)[31]? = some (.int .u8 (v : Int)) := by rw [jr, hv]; rfl
 have HV := Lib.hid hvl
 clear hv hvl
 go_enter Tryz.func13, Tryz.ntmps13
 go_wp2_with fail
 refine (C1.out _).mono ?_
 rintro e y1 ⟨rfl, hb1⟩
 obtain ⟨x1, rfl, hc1, hz1, l10⟩ := bQ (b := w.heap.size) hb1 rfl ob
 have HB1 : Hid (Below w.heap.size w x1) := Below.trans (pl (Below.refl _ _)) (hc1.mono sz)
 clear hb1 hc1
 try simp only [eF] at hz1
 go_wp2_with fail
 refine (C2.out _).mono ?_
 rintro e y2 ⟨rfl, hb2⟩
 obtain ⟨x2, rfl, hc2, hz2, kD, rQ⟩ := fO (b0 := w.heap.size) (b1 := x1.heap.size) hb2 rfl ob ob
 have HB2 := aZ HB1.out hc2
 clear hb2 hc2
 try simp only [eF] at hz2
 go_wp2_with fail
 refine (C3.out _).mono ?_
 rintro e y3 ⟨⟨gb, zL, rfl, Ie⟩, hb3⟩
 have gI : Keeps w _ y3 := ak (b := w.heap.size) ((hb3.block _ sz).trans ob) (ak (b := x1.heap.size) ((hb3.block _ sz).trans ob) (ak Ie (aO (Below.trans (pl HB2.out) (hb3.mono sz)))))
 obtain ⟨x3, rfl, hk3, hz3, nN, uq, zn⟩ := gI.eG
 have HB3 : Hid (Below w.heap.size w x3) := hk3.below
 have HG3 : w.heap.size ≤ gb := by have := HB2.out.size; simp only [World.size_alloc, aA, World.size_drew, World.size_setCell] at zL; omega
 have abr : w.heap.size < gb := by simp only [World.size_alloc, aA, World.size_drew, World.size_setCell] at zL; omega
 have abt : x1.heap.size < gb := by simp only [World.size_alloc, aA, World.size_drew, World.size_setCell] at zL; omega
 clear gI hk3 hb3 Ie zL
 go_wp2_with fail
 refine (C4.out _).mono ?_
 rintro e y4 ⟨rfl, hb4⟩
 obtain ⟨x4, rfl, hc4, lT, rU, yL, Dj⟩ := bZ (b0 := w.heap.size) (b1 := x1.heap.size) (b2 := gb) hb4 rfl ob ob ob
 have HB4 := aZ HB3.out hc4
 clear hb4 hc4
 try simp only [eF] at lT
 go_wp2_with fail
 refine (C5.out _).mono ?_
 rintro e y5 ⟨rfl, hb5⟩
 obtain ⟨x5, rfl, hc5, rP, Ae, l51, Gi⟩ := bZ (b0 := w.heap.size) (b1 := x1.heap.size) (b2 := gb) hb5 rfl ob ob ob
 have kR := aZ HB4.out hc5
 clear hb5 hc5
 try simp only [eF] at rP
 go_wp2_with fail
 rw [afn v HV.out, kU]
 exact bodyPost_ret (v := .slice (some ⟨gb, 0, none⟩) 32 32) (by simp [results, Tryz.results13, go_sem]) rfl ⟨⟨gb, HG3, rfl, ob⟩, (pl kR.out)⟩
end
section
open Go.ChangeShapes Go.WideShapes Go.ChangeAt Go.RowKit
theorem own : ownKnob Tryz.prog.godebug = none := by kernel_rfl
theorem laidOut : laidOutB Tryz.prog = true := by kernel_rfl
section
variable {H : Type} {enc : TypeId × Value → H} {W : World} {base : Nat} {v : Value} {d : DataW H} {p : List MemPlace}
theorem open_bytes (hok : Value.okWide Tryz.prog W .any base 22 v) (h : DataW.Trod enc Tryz.prog W 0 (fun _ => true) true 22 v d p) :
 ∃ (A : Option Addr) (c : Nat) (bs : List Nat), v = .slice A bs.length c ∧ Rd W .u8 A bs ∧ (∀ b ∈ bs, b < 256) ∧ bs.length ≤ c ∧ c ≤ maxLen := by
 obtain ⟨a, len, cap, rfl⟩ := okWide_slice Tryz.underlying22 hok
 obtain ⟨fuel, hf⟩ := h
 rcases open_ints Tryz.underlying22 Tryz.underlying5 (by kernel_rfl) hf with ⟨hcs, _⟩ | ⟨x, l, c, zs, hcs, _, hl, hm, hz, _, hcell, hwz⟩
 · simp [Value.cells] at hcs
   obtain ⟨rfl, rfl, rfl⟩ := hcs
   exact ⟨none, 0, [], rfl, Rd.nil _ _ _, by simp, by simp, by simp [maxLen]⟩
 · simp [Value.cells] at hcs
   obtain ⟨rfl, rfl, rfl⟩ := hcs
   have hzl : zs.length = cap := by simpa using hz
   have hw : ∀ n ∈ zs, 0 ≤ n ∧ n ≤ 255 := fun n hn => by simpa [Lit.wf, IntKind.min, IntKind.max, IntKind.signed, IntKind.bits] using hwz n hn
   have hlen : ((zs.take len).map Int.toNat).length = len := by rw [List.length_map, List.length_take]; omega
   refine ⟨some x, cap, (zs.take len).map Int.toNat, by rw [hlen], ?_, ?_, by rw [hlen]; exact hl, hm⟩
   · intro i hi
     have hi' : i < len := by rw [hlen] at hi; exact hi
     have hc := hcell i (by omega)
     obtain ⟨b, off, spot⟩ := x
     have hspot : spot = none := by simpa [Addr.add] using World.cell?_spot (hcell 0 (by omega))
     subst hspot
     refine ⟨b, off, rfl, ?_⟩
     rw [Addr.add_lit] at hc
     rw [hc]
     have hzi : zs[i]? = some (zs[i]'(by omega)) := List.getElem?_eq_getElem (by omega)
     simp only [List.getD, hzi, Option.getD_some, List.getElem_map, List.getElem_take]
     rw [Int.toNat_of_nonneg (hw _ (List.getElem_mem _)).1]
   · intro b hb
     obtain ⟨n, hn, rfl⟩ := List.mem_map.mp hb
     have := hw n (List.mem_of_mem_take hn)
     omega
end
end
end Go.Proofs.YtehfkbaendajbaaGreatDoor
