/-
  Walks: numbers as rows of digits: trim.
-/
import Derived.Test.YtljolpdpblohcaaDoorProg
import Derived.Test.YtljolpdpblohcaaDoorDg
import Derived.Test.YtljolpdpblohcaaDoorReh
import Derived.Lib.Hide
import Derived.StillTailTactics
import Derived.IntWalk
namespace Go.Proofs.YtljolpdpblohcaaDoor
open Go.RowKit Go.Proofs.YtljolpdpblohcaaDoorW.PrintLast
set_option linter.unusedSimpArgs false

set_option maxRecDepth 100000 in
set_option maxHeartbeats 1000000 in
theorem trim_any (A : Option Addr) (c : Nat) (ds : List Nat) (hd : ∀ d ∈ ds, d < BB) (hl : ds.length ≤ 4000000) (hcap : ds.length ≤ c) (w : World) (hA : Rd w .u64 A ds) :
    Calls Tryd.prog 43 #[.slice A ds.length c] w fun e w' => (∃ A' c', e = .returned (.slice A' (dig (leD ds)).length c') ∧ Dn w' A' c' (leD ds)) ∧ Below w.heap.size w w' := by
  have HA := Lib.hid hA
  have HD := Lib.hid hd
  have HL := Lib.hid hl
  clear hA hd hl
  go_enter Tryd.func43, Tryd.ntmps43
  go_wp2_with fail
  go_loop [0] (fun v => ∃ (A' : Option Addr) (c' k : Nat), v = .slice A' k c' ∧ k ≤ c' ∧ Hid (k ≤ ds.length ∧ leD (ds.take k) = leD ds ∧ Rd w .u64 A' (ds.take k))) (fun v => match v with | .slice _ n _ => n | _ => 0)
  case atStart => exact ⟨A, c, ds.length, rfl, hcap, Lib.hid ⟨Nat.le_refl _, by rw [List.take_length], by rw [List.take_length]; exact HA.out⟩⟩
  case round =>
    obtain ⟨A', c', k, rfl, hkc, H⟩ := hrel
    rcases k with _ | n
    · go_wp2
      go_ret
      exact ⟨⟨A', c', by rw [take_dig0 H.out.2.1]; rfl, by rw [take_dig0 H.out.2.1]; exact Rd.nil _ _ _, by rw [take_dig0 H.out.2.1]; exact Nat.zero_le _⟩, Below.refl _ _⟩
    · have hn : n < (ds.take (n + 1)).length := by have := H.out.1; rw [List.length_take]; omega
      obtain ⟨b, off, rfl, hbw, hcell⟩ := H.out.2.2.place (by omega)
      have hc := hcell n hn
      obtain ⟨d, hdd⟩ : ∃ d, d = (ds.take (n + 1))[n] := ⟨_, rfl⟩
      rw [← hdd] at hc
      have HDD := Lib.hid hdd
      clear hdd hcell
      have e1 : wrap64 (n : Int) = (n : Int) := wr64 _ (by have := HL.out; have := H.out.1; omega)
      go_wp2
      · rename_i hz
        have hz' : d = 0 := by simpa using hz
        refine ⟨?_, ?_⟩
        · exact ⟨some ⟨b, off, none⟩, c', n, rfl, by omega, Lib.hid ⟨by have := H.out.1; omega, by rw [take_less hn (by rw [← HDD.out]; exact hz')]; exact H.out.2.1, by have := rd_take H.out.2.2 n; rw [List.take_take] at this; rwa [show min n (n + 1) = n by omega] at this⟩⟩
        · exact Nat.lt_succ_self n
      · have hz : ((d : Int) == 0) = false := by assumption
        have hz' : d ≠ 0 := by simpa using hz
        go_ret
        have ht := take_dig HD.out hn H.out.2.1 (by rw [← HDD.out]; exact hz')
        exact ⟨⟨some ⟨b, off, none⟩, c', by rw [ht.2]; rfl, by rw [ht.1]; exact H.out.2.2, by rw [ht.2]; exact hkc⟩, Below.refl _ _⟩

end Go.Proofs.YtljolpdpblohcaaDoor
