/-
  Shared, part 27: walks and plain laws; each theorem states its own conditions.
-/
import Derived.Test.YtehfkbaendajbaaGreatDoorA26
namespace Go.Proofs.YtehfkbaendajbaaGreatDoor
set_option linter.unusedSimpArgs false
set_option linter.unusedVariables false
set_option maxRecDepth 100000
set_option maxHeartbeats 8000000
section
open Go.RowKit Go.Proofs.YtehfkbaendajbaaGreatDoorW.PrintLast
theorem gu.own {w : World} {B : Nat} {v : Value} {bs : List Nat} (h : gu w B v bs) (h0 : 0 < bs.length) : ∃ q cap cur, v = .slice (some ⟨q, 0, none⟩) bs.length cap ∧ B ≤ q ∧ w.heap[q]? = some (.cells cur 5) ∧ ∀ i, (hi : i < bs.length) → cur[i]? = some (.int .u8 ((bs[i] : Nat) : Int)) := by
 unfold gu at h
 rcases h.2 with ⟨_, h2⟩ | ⟨q, cap, cur, rfl, hB, hq, hn, _, hsz, ht⟩
 · omega
 · refine ⟨q, cap, cur, rfl, hB, hq, fun i hi => ?_⟩
   have h1 : (bs.map bv)[i]? = some (bv bs[i]) := by simp [hi]
   rw [← ht, List.getElem?_take_of_lt (by omega)] at h1
   simpa using h1
theorem BI {w : World} {q : Nat} {cur : Array Value} {t : TypeId} {bs : List Nat} (h : w.heap[q]? = some (.cells cur t)) (hc : ∀ i, (hi : i < bs.length) → cur[i]? = some (.int .u8 ((bs[i] : Nat) : Int))) : Rd w .u8 (some ⟨q, 0, none⟩) bs := jC h hc
def kT (w : World) : Prop := 3 < w.heap.size ∧ ∃ gt gf, w.heap[3]? = some (.cells #[.int .u64 929955233495203, .int .u64 466365720129213, .int .u64 1662059464998953, .int .u64 2033849074728123, .int .u64 1442794654840575] gt gf)
theorem kT.next {w w' : World} (h : kT w) (hb : Below w.heap.size w w') : kT w' := by
 obtain ⟨h1, gt, gf, h2⟩ := h
 exact ⟨Nat.lt_of_lt_of_le h1 hb.size, gt, gf, (hb.block 3 h1).trans h2⟩
end
end Go.Proofs.YtehfkbaendajbaaGreatDoor
