/-
  Shared, part 37: walks and plain laws; each theorem states its own conditions.
-/
import Derived.Test.YtehfkbaendajbaaGreatDoorB35
import Derived.Test.YtehfkbaendajbaaGreatDoorB36
namespace Go.Proofs.YtehfkbaendajbaaGreatDoor
set_option linter.unusedSimpArgs false
set_option linter.unusedVariables false
set_option maxRecDepth 100000
set_option maxHeartbeats 8000000
section
open Go.RowKit Go.Proofs.YtehfkbaendajbaaGreatDoorW.PrintLast
section
variable {P : Program} {ops : Array Oper} {Q : Exit → Act → World → Prop} {md : Region.Mode}
end
theorem wM : yt (bW (iq 253 15)) (bW (iq 251 31)) HP := by
 rw [Qg, Qh]
 exact ⟨by decide +kernel, by decide +kernel, HP2, LH⟩
def qW (bs : List Nat) : Prop := bs.length = 32 ∧ sK (bW (iq 253 15)) (bW (iq 251 31)) (bW bs)
theorem MS (A : Option Addr) (c L : Nat) (bs : List Nat) (hL : L = bs.length) (hc : bs.length ≤ c) (hby : ∀ z ∈ bs, z < 256) (h : qW bs) (w : World) (hr : Rd w .u8 A bs) : Calls Tryz.prog 30 #[.slice A L c] w fun e w' => (∃ o : Dp, e = .returned (.tuple #[o.v, .bool true]) ∧ o.ok w' ∧ o.of (decP h.2)) ∧ Below w.heap.size w w' := by
 obtain ⟨D, hD⟩ : ∃ D, D = 2 ^ 255 := ⟨_, rfl⟩
 have h0 := MJ _ _ D wM hD A c bs (by have := h.1; omega) h.1 hby w hr
 have hL2 : L = 32 := hL.trans h.1
 subst hL2
 refine h0.mono ?_
 rintro e w' ⟨⟨_, o, he, hok, hof⟩ | ⟨hn, _⟩, hb⟩
 · exact ⟨⟨o, he, hok, hof⟩, hb⟩
 · exact absurd h.2 hn
theorem SQ (A : Option Addr) (c : Nat) (bs : List Nat) (hc : bs.length ≤ c) (hby : ∀ z ∈ bs, z < 256) (h : ¬ qW bs) (w : World) (hr : Rd w .u8 A bs) : Calls Tryz.prog 30 #[.slice A bs.length c] w fun e w' => e = .returned (.tuple #[.agg #[.slice none 0 0, .slice none 0 0, .slice none 0 0], .bool false]) ∧ Below w.heap.size w w' := by
 by_cases hl : bs.length = 32
 · obtain ⟨D, hD⟩ : ∃ D, D = 2 ^ 255 := ⟨_, rfl⟩
   have h0 := MJ _ _ D wM hD A c bs (by omega) hl hby w hr
   rw [hl]
   refine h0.mono ?_
   rintro e w' ⟨⟨hy, _⟩ | ⟨_, he⟩, hb⟩
   · exact absurd ⟨hl, hy⟩ h
   · exact ⟨he, hb⟩
 · exact GV A c bs hl w
end
end Go.Proofs.YtehfkbaendajbaaGreatDoor
