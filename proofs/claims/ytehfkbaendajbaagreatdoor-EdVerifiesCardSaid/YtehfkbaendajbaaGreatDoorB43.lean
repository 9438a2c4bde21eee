/-
  Shared, part 43: walks and plain laws; each theorem states its own conditions.
-/
import Derived.Test.YtehfkbaendajbaaGreatDoorB8
import Derived.Test.YtehfkbaendajbaaGreatDoorB42
namespace Go.Proofs.YtehfkbaendajbaaGreatDoor
set_option linter.unusedSimpArgs false
set_option linter.unusedVariables false
set_option maxRecDepth 100000
set_option maxHeartbeats 8000000
section
open Go.RowKit Go.Proofs.YtehfkbaendajbaaGreatDoorW.PrintLast
section
variable {P : Program} {ops : Array Oper} {Q : Exit → Act → World → Prop} {w0 : World} {L : List (Nat × Obj)} {V : List Sp} {D : List (Option Tmp)} {B : Nat} {base : List (Tmp × Value)} {mx : Nat} {a0 : Act} {i : Nat} {oi : Oper}
theorem adg (hc : RC w0 L D B base mx a0) (x : Tmp) (b : Nat) {ty t : TypeId} {c : Array Value} (hop : oi.op = .load ty (.tmp x) := by rfl) (hv : V[i]? = some (.is (.agg c)) := by rfl) (hL : (b, Obj.cells c t) ∈ L := by (repeat (first | exact List.mem_cons_self | apply List.mem_cons_of_mem))) (hx : aan base x = .pointer (some ⟨b, 0, none⟩) := by rfl)
 (hw : ∀ (ρ : Nat → Nat) a, aae a (aaf base V ρ [(x, none)]) → Region.wanted oi (yielded ops a.tmps) = true := by exact fun _ _ _ => rfl) (hu : (P.underlying ty).any TypeDesc.isRow = true := by kernel_rfl) (hi : (P.info? ty).map (·.size) = some c.size := by kernel_rfl)
 (hs : aal i 0 V = [] := by rfl) (hd : D[i]? = some oi.dst := by rfl) (hn : aak base D oi [(x, none)] = true := by rfl) : aah P ops Q w0 L V D B a0 i oi :=
 aah.val hc (.is (.agg c)) [(x, none)] (fun ρ a w hr hk _ => ⟨hw ρ a hr, by
  have h1 := aG (P := P) (w := w) ty (.tmp x) hop b 0 ((show a.tmps.getD x undef = _ from hr.1).trans hx) c.toList c t (hk.2 _ hL) (by simp) hu (by rw [Array.length_toList]; exact hi)
  exact h1⟩) hv rfl rfl hs hd hn
theorem anj (hc : RC w0 L D B base mx a0) (x : Tmp) (b : Nat) (need : List (Tmp × Option Nat)) {ty t : TypeId} {c : Array Value} (hw : ∀ (ρ : Nat → Nat) a, aae a (aaf base V ρ need) → Region.wanted oi (yielded ops a.tmps) = true) (hop : oi.op = .load ty (.tmp x) := by rfl) (hv : V[i]? = some (.is (.agg c)) := by rfl) (hL : (b, Obj.cells c t) ∈ L := by (repeat (first | exact List.mem_cons_self | apply List.mem_cons_of_mem))) (hx : aan base x = .pointer (some ⟨b, 0, none⟩) := by rfl)
 (hu : (P.underlying ty).any TypeDesc.isRow = true := by kernel_rfl) (hi : (P.info? ty).map (·.size) = some c.size := by kernel_rfl) (hq : (need.head?.map fun q => q) = some (x, none) := by rfl)
 (hs : aal i 0 V = [] := by rfl) (hd : D[i]? = some oi.dst := by rfl) (hn : aak base D oi need = true := by rfl) : aah P ops Q w0 L V D B a0 i oi :=
 aah.val hc (.is (.agg c)) need (fun ρ a w hr hk _ => ⟨hw ρ a hr, by
  cases need with
  | nil => simp at hq
  | cons q r =>
   obtain rfl : q = (x, none) := by simpa using hq
   exact aG (P := P) (w := w) ty (.tmp x) hop b 0 ((show a.tmps.getD x undef = _ from hr.1).trans hx) c.toList c t (hk.2 _ hL) (by simp) hu (by rw [Array.length_toList]; exact hi)⟩) hv rfl rfl hs hd hn
theorem ac5 (hc : RC w0 L D B base mx a0) (need : List (Tmp × Option Nat)) {g : Nat → Value} {o : Obj} {ty : TypeId} {n : Nat} {xs : Array (Nat × Operand)} {vs : Array (Nat × Value)} (hop : oi.op = .buildSlice ty n xs := by rfl) (hv : V[i]? = some (.new g o) := by rfl)
 (hev : ∀ (ρ : Nat → Nat) a, aae a (aaf base V ρ need) → Region.wanted oi (yielded ops a.tmps) = true ∧ (xs.map fun p => (p.1, a.eval p.2)) = vs := by (intro ρ a hr; simp only [aaf, aan, valOf, Sp.val, aae, List.getElem?_cons_zero, List.getElem?_cons_succ, Nat.reduceBEq, cond_true, cond_false] at hr; (repeat (obtain ⟨_, hr⟩ := hr)); refine ⟨(by first | exact rfl | (refine aat rfl rfl ?_; assumption)), ?_⟩; simp only [List.map_toArray, List.map_cons, List.map_nil, Act.eval, *]; rfl))
 (hrun : ∀ w, (Instr.buildSlice ty n vs).run P w = .ok (g w.heap.size) (w.alloc o) := by (intro _; kernel_rfl))
 (hs : aal i 0 V = [] := by rfl) (hd : D[i]? = some oi.dst := by rfl) (hn : aak base D oi need = true := by rfl) : aah P ops Q w0 L V D B a0 i oi :=
 aah.make hc need hv rfl (fun ρ a w hr _ => by
  obtain ⟨h1, h2⟩ := hev ρ a hr
  refine ⟨h1, ?_⟩
  unfold execOp
  simp only [hop]
  rw [h2]
  simp only [Sem.run_bind, hrun, Result.andThen_ok, Sem.run_pure, Sp.val]) hs hd hn
end
end
end Go.Proofs.YtehfkbaendajbaaGreatDoor
