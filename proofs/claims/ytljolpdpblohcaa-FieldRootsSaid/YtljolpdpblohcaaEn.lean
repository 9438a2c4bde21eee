/-
  Bytes there and back: Encode, Decode, SameBytes by the names of what they hand back.
-/
import Derived.Test.YtljolpdpblohcaaTo
import Derived.Test.YtljolpdpblohcaaBn
namespace Go.Proofs.Ytljolpdpblohcaa
open Go.RowKit

theorem leN_bytes (k n : Nat) : leN (bytesN k n) = n % 256 ^ k := by
  induction k generalizing n with
  | zero => simp [bytesN, leN, Nat.mod_one]
  | succ k ih =>
    have h := leN_take (bytesN (k + 1) n) k (by simp [bytesN])
    have h1 : (bytesN (k + 1) n).take k = bytesN k n := by
      unfold bytesN
      rw [← List.map_take, List.take_range, Nat.min_eq_left (by omega)]
    have h2 : (bytesN (k + 1) n).take (k + 1) = bytesN (k + 1) n := List.take_of_length_le (by simp [bytesN])
    rw [h2, h1, ih] at h
    rw [h, Nat.mod_pow_succ]
    simp only [bytesN, List.getElem_map, List.getElem_range, byt]
    rw [Nat.mul_comm]
theorem leN_inj : ∀ (l m : List Nat), (∀ b ∈ l, b < 256) → (∀ b ∈ m, b < 256) → l.length = m.length → leN l = leN m → l = m
  | [], [], _, _, _, _ => rfl
  | [], _ :: _, _, _, h, _ => by simp at h
  | _ :: _, [], _, _, h, _ => by simp at h
  | b :: l, c :: m, hl, hm, h, he => by
    have h1 := hl b List.mem_cons_self
    have h2 := hm c List.mem_cons_self
    simp only [leN] at he
    have e : b = c := by omega
    subst e
    rw [leN_inj l m (fun x hx => hl x (List.mem_cons_of_mem _ hx)) (fun x hx => hm x (List.mem_cons_of_mem _ hx)) (by simpa using h) (by omega)]
theorem bytes_leN (bs : List Nat) (hb : ∀ b ∈ bs, b < 256) : bytesN bs.length (leN bs) = bs := by
  refine leN_inj _ _ (bytesN_lt _ _) hb (bytesN_len _ _) ?_
  rw [leN_bytes, Nat.mod_eq_of_lt (leN_lt bs hb)]
theorem p_bytes {n : Nat} (h : n < Num.p) : n < 256 ^ 32 := Nat.lt_of_lt_of_le h (by decide)
theorem enc_bytes {n : Nat} (h : n < Num.p) : ((List.range 32).map fun j => byteAt n 255 j) = bytesN 32 n := by
  unfold bytesN
  refine List.map_congr_left (fun j _ => ?_)
  unfold byteAt byt
  rw [Nat.mod_eq_of_lt (Nat.lt_of_lt_of_le h (by decide))]
theorem Enc_to (x : Fn) (bs : List Nat) (hx : x.lt 18446744073709551616) (hb : bs = bytesN 32 (x.val % Num.p)) : ∀ w, Calls Try.prog 17 #[x.v] w fun e w' => (∃ b, e = .returned (.slice (some ⟨b, 0, none⟩) 32 32) ∧ Rd w' .u8 (some ⟨b, 0, none⟩) bs) ∧ Below w.heap.size w w' := fun w => by
  have h0 := Encode_any x hx w
  rw [enc_bytes (Nat.mod_lt _ p_pos), ← hb] at h0
  exact h0
theorem SameB_to (A B : Option Addr) (c d n : Nat) (xs ys : List Nat) (r : Bool) (hl : xs.length = n) (hx : ∀ b ∈ xs, b < 256) (hy : ∀ b ∈ ys, b < 256) (hr : decide (xs = ys) = r) (w : World) (hA : Rd w .u8 A xs) (hB : Rd w .u8 B ys) :
    Calls Try.prog 16 #[.slice A n c, .slice B ys.length d] w fun e w' => e = .returned (.bool r) ∧ Below w.heap.size w w' := by
  subst hl
  rw [← hr]
  exact SameBytes_any A B c d xs ys hx hy w hA hB
/-- What Decode hands back: the element and the error's number. -/
def decF (bs : List Nat) : Fn := if bs.length = 32 ∧ leN bs < Num.p then small (leN bs) else ⟨0, 0, 0, 0, 0⟩
def decE (bs : List Nat) : Int := if bs.length = 32 then (if leN bs < Num.p then 0 else 30) else 1
theorem Dec_to (A : Option Addr) (c : Nat) (bs : List Nat) (hb : ∀ b ∈ bs, b < 256) (w : World) (hA : Rd w .u8 A bs) :
    Calls Try.prog 13 #[.slice A bs.length c] w fun e w' => e = .returned (.tuple #[(decF bs).v, .int .i64 (decE bs)]) ∧ Below w.heap.size w w' := by
  unfold decF decE
  by_cases hl : bs.length = 32
  · rw [if_pos hl]
    by_cases hp : leN bs < Num.p
    · rw [if_pos ⟨hl, hp⟩, if_pos hp]
      exact Decode_ok A c bs hl hb hp w hA
    · rw [if_neg (fun h => hp h.2), if_neg hp]
      by_cases ht : leN bs < 57896044618658097711785492504343953926634992332820282019728792003956564819968
      · exact Decode_mid A c bs hl hb ⟨by omega, ht⟩ w hA
      · exact Decode_top A c bs hl hb (by omega) w hA
  · rw [if_neg (fun h => hl h.1), if_neg hl]
    exact Decode_no A c bs.length hl w
end Go.Proofs.Ytljolpdpblohcaa
