/-
  Bytes as a string, and whether two rows of bytes are the same.
-/
import Derived.Test.YtljolpdpblohcaaDoorFg
import Derived.Laws.BytesArg
namespace Go.Proofs.YtljolpdpblohcaaDoor
open Go.RowKit
set_option linter.unusedSimpArgs false

def strN (xs : List Nat) : ByteArray := strOfNums (xs.map fun (n : Nat) => (n : Int))
theorem strN_eq {xs ys : List Nat} (hx : ∀ b ∈ xs, b < 256) (hy : ∀ b ∈ ys, b < 256) : (strN xs = strN ys) ↔ xs = ys := by
  constructor
  · intro h
    have h1 := congrArg (fun s => s.data.toList) h
    simp only [strN, strOfNums_data, List.map_map] at h1
    have key : ∀ (l m : List Nat), (∀ b ∈ l, b < 256) → (∀ b ∈ m, b < 256) → l.map ((fun n : Int => UInt8.ofNat n.toNat) ∘ fun n : Nat => (n : Int)) = m.map ((fun n : Int => UInt8.ofNat n.toNat) ∘ fun n : Nat => (n : Int)) → l = m := by
      intro l
      induction l with
      | nil => intro m _ _ h; cases m with
        | nil => rfl
        | cons b m => simp at h
      | cons a l ih => intro m hl hm h; cases m with
        | nil => simp at h
        | cons b m =>
          simp only [List.map_cons, List.cons.injEq, Function.comp] at h
          have ha := hl a List.mem_cons_self
          have hb := hm b List.mem_cons_self
          have e : a = b := by
            have h2 := congrArg UInt8.toNat h.1
            simp only [Int.toNat_natCast, UInt8.toNat_ofNat'] at h2
            omega
          rw [e, ih m (fun x hx => hl x (List.mem_cons_of_mem _ hx)) (fun x hx => hm x (List.mem_cons_of_mem _ hx)) h.2]
    exact key xs ys hx hy h1
  · rintro rfl; rfl

theorem conv_rd {w : World} {A : Option Addr} {xs : List Nat} (h : Rd w .u8 A xs) (c : Nat) : (convert 22 9 (.slice A xs.length c)).run Tryd.prog w = .ok (.string (strN xs)) w := by
  cases xs with
  | nil =>
    rw [run_convert_bytes_string w _ _ 5 A _ c (by kernel_rfl) (by kernel_rfl) (by kernel_rfl)]
    cases A with
    | none => rfl
    | some a => exact run_bytesToString w a 0 c [] rfl
  | cons x l =>
    obtain ⟨b, off, rfl, _, hc⟩ := h.place (by simp)
    refine run_convert_bytes_arg w _ 5 (by kernel_rfl) (by kernel_rfl) b off _ c ((x :: l).map fun (n : Nat) => (n : Int)) (by simp) (fun i hi => ?_) _ (by kernel_rfl)
    rw [hc i hi]
    simp only [List.getD, List.getElem?_map, List.getElem?_eq_getElem hi, Option.map_some, Option.getD_some]

set_option maxRecDepth 100000 in
set_option maxHeartbeats 1000000 in
theorem SameBytes_any (A B : Option Addr) (c d : Nat) (xs ys : List Nat) (hx : ∀ b ∈ xs, b < 256) (hy : ∀ b ∈ ys, b < 256) (w : World) (hA : Rd w .u8 A xs) (hB : Rd w .u8 B ys) :
    Calls Tryd.prog 11 #[.slice A xs.length c, .slice B ys.length d] w fun e w' => e = .returned (.bool (decide (xs = ys))) ∧ Below w.heap.size w w' := by
  have h1 := conv_rd hA c
  have h2 := conv_rd hB d
  have h3 : ((strN xs).toList == (strN ys).toList) = decide (xs = ys) := by
    have hi : (strN xs).toList = (strN ys).toList ↔ xs = ys := by
      rw [ByteArray.toList_eq, ByteArray.toList_eq, ← strN_eq hx hy]
      exact ⟨fun h => by cases hs : strN xs; cases ht : strN ys; rw [hs, ht] at h; simp only [Array.toList_inj] at h; rw [h], fun h => by rw [h]⟩
    by_cases h : xs = ys
    · rw [decide_eq_true h, hi.mpr h]; simp
    · rw [decide_eq_false h, beq_eq_false_iff_ne]; exact fun h4 => h (hi.mp h4)
  go_enter Tryd.func11, Tryd.ntmps11
  go_wp2_with fail
  go_ret
  exact ⟨rfl, Below.refl _ _⟩
end Go.Proofs.YtljolpdpblohcaaDoor
