/-
  Shared, part 42: walks and plain laws; each theorem states its own conditions.
-/
import Derived.Test.YtehfkbaendajbaaGreatDoorB1
namespace Go.Proofs.YtehfkbaendajbaaGreatDoor
set_option linter.unusedSimpArgs false
set_option linter.unusedVariables false
set_option maxRecDepth 100000
set_option maxHeartbeats 8000000
section
open Go.RowKit Go.Proofs.YtehfkbaendajbaaGreatDoorW.PrintLast
section
variable {P : Program} {ops : Array Oper} {Q : Exit → Act → World → Prop}
theorem Lc {l : Array Bool} (hlow : ∀ (j : Nat) (o : Oper), ops[j]? = some o → ∀ e ∈ o.after, Region.binds .any e = true → e.on < j) (hsz : l.size = ops.size) (h : Region.ready .any ops l = []) : ∀ j, j < ops.size → l.getD j true = true := by
 intro j
 induction j using Nat.strongRecOn with
 | ind j ih =>
  intro hj
  cases hc : l.getD j true with
  | true => rfl
  | false =>
   exfalso
   have hm : j ∈ Region.ready .any ops l := mem_ready.2 ⟨hc, ops[j], Array.getElem?_eq_getElem hj, fun e he hbn => by
    have h1 := hlow j _ (Array.getElem?_eq_getElem hj) e he hbn
    rw [Ed (by omega) false true]
    exact ih e.on h1 (by omega)⟩
   rw [h] at hm
   cases hm
theorem LK {I : Array Bool → Act → World → Prop} (hsz : ∀ l a w, I l a w → l.size = ops.size) (hlow : ∀ (j : Nat) (o : Oper), ops[j]? = some o → ∀ e ∈ o.after, Region.binds .any e = true → e.on < j)
 (hstep : ∀ (i : Nat) (o : Oper), ops[i]? = some o → ∀ l a w, I l a w → l.getD i true = false → (∀ e ∈ o.after, Region.binds .any e = true → l.getD e.on false = true) → ∀ K : Act → World → Prop, Shut (∀ a' w', I (l.setIfInBounds i true) a' w' → K a' w') → if Region.wanted o (yielded ops a.tmps) = true then Oper.wp P o a w K Q else K (a.put o.dst undef) w)
 (hend : ∀ l a w, I l a w → (∀ j, j < ops.size → l.getD j true = true) → Q .normal a w) :
 ∀ (fuel : Nat) (l : Array Bool) (a : Act) (w : World), (∀ k, k = (List.range ops.size).countP (fun j => !l.getD j true) → k ≤ fuel) → I l a w → wpAny P .any ops Q fuel l a w := by
 intro fuel
 induction fuel with
 | zero =>
  intro l a w hf hI
  have h0 := hf _ rfl
  have hall : ∀ j, j < ops.size → l.getD j true = true := by
   intro j hj
   cases hc : l.getD j true with
   | true => rfl
   | false =>
    exfalso
    have : 0 < (List.range ops.size).countP (fun j => !l.getD j true) := List.countP_pos_iff.2 ⟨j, List.mem_range.2 hj, by simp [hc]⟩
    omega
  refine ⟨?_, hend l a w hI hall⟩
  refine List.eq_nil_iff_forall_not_mem.2 fun j hm => ?_
  obtain ⟨h1, o, ho, _⟩ := mem_ready.1 hm
  have hj : j < ops.size := (Array.getElem?_eq_some_iff.1 ho).1
  rw [hall j hj] at h1
  cases h1
 | succ fuel ih =>
  intro l a w hf hI
  refine ⟨fun hr => hend l a w hI (Lc hlow (hsz l a w hI) hr), fun i hi => ?_⟩
  obtain ⟨hun, o, ho, ay⟩ := mem_ready.1 hi
  have hil : i < ops.size := (Array.getElem?_eq_some_iff.1 ho).1
  refine wpOp_step ho fun K hK => hstep i o ho l a w hI hun ay K fun a' w' hI' => hK a' w' (ih _ a' w' ?_ hI')
  intro k hk
  have h0 := hf _ rfl
  have hlt : (List.range ops.size).countP (fun j => !(l.setIfInBounds i true).getD j true) < (List.range ops.size).countP (fun j => !l.getD j true) := by
   have hsz' := hsz l a w hI
   have key : ∀ (L : List Nat), L.Nodup → (∀ j ∈ L, j < l.size) → L.countP (fun j => !(l.setIfInBounds i true).getD j true) + (if i ∈ L then 1 else 0) = L.countP (fun j => !l.getD j true) := by
    intro L
    induction L with
    | nil => intro _ _; simp
    | cons x L ihL =>
     intro hnd hlt
     have hx := (List.nodup_cons.1 hnd)
     have h3 := ihL hx.2 (fun j hj => hlt j (List.mem_cons_of_mem _ hj))
     rw [List.countP_cons, List.countP_cons]
     by_cases hxi : x = i
     · subst hxi
       have e1 : (l.setIfInBounds x true).getD x true = true := by
        have := hlt x List.mem_cons_self
        simp [Array.getD, this]
       have e2 : (if x ∈ L then 1 else 0) = 0 := if_neg hx.1
       rw [e2] at h3
       rw [e1, hun, if_pos List.mem_cons_self]
       simp only [Bool.not_true, Bool.not_false, if_true]
       simp at h3 ⊢
       omega
     · have e1 : (l.setIfInBounds i true).getD x true = l.getD x true := by
        have hl := hlt x List.mem_cons_self
        simp [Array.getD, hl, Array.getElem_setIfInBounds_ne, Ne.symm hxi]
       have e2 : (i ∈ x :: L) ↔ i ∈ L := by simp [Ne.symm hxi]
       rw [e1]
       simp only [e2]
       omega
   have h4 := key (List.range ops.size) List.nodup_range (fun j hj => by rw [hsz']; exact List.mem_range.1 hj)
   rw [if_pos (List.mem_range.2 hil)] at h4
   omega
  omega
end
def aam (lb : Nat → Bool) (val : Nat → Value) : Nat → List (Option Tmp) → Act → Act
 | _, [], a => a
 | i, d :: D, a => aam lb val (i + 1) D (bif lb i then a.put d (val i) else a)
def ae7 : List (Option Tmp × Value) → Act → Act
 | [], a => a
 | (d, v) :: D, a => ae7 D (a.put d v)
def dist : List (Option Tmp) → Bool
 | [] => true
 | d :: D => (d.isNone || !D.contains d) && dist D
section
variable {lb lb' : Nat → Bool} {val val' : Nat → Value}
theorem abo (a : Act) {d e : Option Tmp} (x y : Value) (h : d = none ∨ d ≠ e) : (a.put d x).put e y = (a.put e y).put d x := by
 cases d with
 | none => rfl
 | some t =>
  cases e with
  | none => rfl
  | some s => exact put_comm a x y (fun hh => by rcases h with h | h; exact absurd h (by simp); exact h (by rw [hh]))
theorem aa5 : ∀ (D : List (Option Tmp)) (i : Nat) (a : Act) (d : Option Tmp) (v : Value), (d = none ∨ d ∉ D) → (aam lb val i D a).put d v = aam lb val i D (a.put d v)
 | [], _, _, _, _, _ => rfl
 | e :: D, i, a, d, v, h => by
  have h' : d = none ∨ d ∉ D := h.imp id fun h => fun hm => h (List.mem_cons_of_mem _ hm)
  have h2 : d = none ∨ d ≠ e := h.imp id fun h => fun he => h (he ▸ List.mem_cons_self)
  show (aam lb val (i + 1) D _).put d v = aam lb val (i + 1) D _
  rw [aa5 D (i + 1) _ d v h']
  congr 1
  cases lb i with
  | false => rfl
  | true => exact (abo a v (val i) h2).symm
theorem aaF : ∀ (D : List (Option Tmp)) (i : Nat) (a : Act), (∀ j, i ≤ j → lb' j = lb j ∧ (lb j = true → val' j = val j)) → aam lb' val' i D a = aam lb val i D a
 | [], _, _, _ => rfl
 | e :: D, i, a, h => by
  show aam lb' val' (i + 1) D _ = aam lb val (i + 1) D _
  rw [aaF D (i + 1) _ (fun j hj => h j (by omega))]
  obtain ⟨h1, h2⟩ := h i (Nat.le_refl _)
  rw [h1]
  cases hl : lb i with
  | false => rfl
  | true => rw [h2 hl]
theorem aar : ∀ (D : List (Option Tmp)) (i : Nat) (a : Act) (k : Nat) (d : Option Tmp), D[k]? = some d → dist D = true → lb (i + k) = false → (∀ j, j ≠ i + k → lb' j = lb j) → lb' (i + k) = true → (∀ j, lb j = true → val' j = val j) →
 (aam lb val i D a).put d (val' (i + k)) = aam lb' val' i D a
 | [], _, _, _, _, h, _, _, _, _, _ => by simp at h
 | e :: D, i, a, 0, d, h, hd, hl, hne, hl', hv => by
  simp only [List.getElem?_cons_zero, Option.some.injEq] at h
  subst h
  simp only [dist, Bool.and_eq_true, Bool.or_eq_true, Option.isNone_iff_eq_none, Bool.not_eq_true', List.contains_eq_mem, decide_eq_false_iff_not] at hd
  show (aam lb val (i + 1) D _).put e _ = aam lb' val' (i + 1) D _
  rw [aa5 D (i + 1) _ e _ hd.1, aaF (lb := lb) (val := val) D (i + 1) _ (fun j hj => ⟨hne j (by omega), hv j⟩)]
  rw [show lb i = false from hl, show lb' i = true from hl']
  rfl
 | e :: D, i, a, k + 1, d, h, hd, hl, hne, hl', hv => by
  simp only [List.getElem?_cons_succ] at h
  simp only [dist, Bool.and_eq_true] at hd
  show (aam lb val (i + 1) D _).put d _ = aam lb' val' (i + 1) D _
  have e1 : i + (k + 1) = i + 1 + k := by omega
  rw [e1] at hl hne hl' ⊢
  rw [aar D (i + 1) _ k d h hd.2 hl hne hl' hv, hne i (by omega)]
  congr 1
  cases hb : lb i with
  | false => rfl
  | true => rw [hv i hb]
theorem aau : ∀ (D : List (Option Tmp)) (i : Nat) (a : Act) (t : Tmp), some t ∉ D → (aam lb val i D a).tmps.getD t undef = a.tmps.getD t undef
 | [], _, _, _, _ => rfl
 | e :: D, i, a, t, h => by
  show (aam lb val (i + 1) D _).tmps.getD t undef = _
  rw [aau D (i + 1) _ t (fun hm => h (List.mem_cons_of_mem _ hm))]
  cases lb i with
  | false => rfl
  | true =>
   cases e with
   | none => rfl
   | some s => exact IW a _ (fun hh => h (by rw [hh]; exact List.mem_cons_self))
theorem aa4 : ∀ (D : List (Option Tmp)) (i : Nat) (a : Act) (k : Nat) (t : Tmp), D[k]? = some (some t) → dist D = true → lb (i + k) = true → t < a.tmps.size → (aam lb val i D a).tmps.getD t undef = val (i + k)
 | [], _, _, _, _, h, _, _, _ => by simp at h
 | e :: D, i, a, 0, t, h, hd, hl, ht => by
  simp only [List.getElem?_cons_zero, Option.some.injEq] at h
  subst h
  simp only [dist, Bool.and_eq_true, Bool.or_eq_true, Option.isNone_some, Bool.false_eq_true, false_or, Bool.not_eq_true', List.contains_eq_mem, decide_eq_false_iff_not] at hd
  show (aam lb val (i + 1) D _).tmps.getD t undef = _
  rw [aau D (i + 1) _ t hd.1, show lb i = true from hl]
  simp [Act.put, ht]
 | e :: D, i, a, k + 1, t, h, hd, hl, ht => by
  simp only [List.getElem?_cons_succ] at h
  simp only [dist, Bool.and_eq_true] at hd
  have e1 : i + (k + 1) = i + 1 + k := by omega
  rw [e1] at hl ⊢
  show (aam lb val (i + 1) D _).tmps.getD t undef = _
  refine aa4 D (i + 1) _ k t h hd.2 hl ?_
  cases lb i with
  | false => exact ht
  | true =>
   cases e with
   | none => exact ht
   | some s => rw [show (bif true then a.put (some s) (val i) else a) = a.put (some s) (val i) from rfl, Vz]; exact ht
def ae8 (val : Nat → Value) : Nat → List (Option Tmp) → List (Option Tmp × Value)
 | _, [] => []
 | i, d :: D => (d, val i) :: ae8 val (i + 1) D
theorem aaS : ∀ (D : List (Option Tmp)) (i : Nat) (a : Act), (∀ j, i ≤ j → j < i + D.length → lb j = true) → aam lb val i D a = ae7 (ae8 val i D) a
 | [], _, _, _ => rfl
 | e :: D, i, a, h => by
  show aam lb val (i + 1) D _ = ae7 (ae8 val (i + 1) D) _
  rw [aaS D (i + 1) _ (fun j h1 h2 => h j (by omega) (by simp only [List.length_cons]; omega)), h i (Nat.le_refl _) (by simp only [List.length_cons]; omega)]
  rfl
end
inductive Sp where
 | is (v : Value)
 | own (st : Nat) (z o : Obj)
 | new (f : Nat → Value) (o : Obj)
 | over (j : Nat) (f : Nat → Value)
def Sp.blk : Sp → Option (Option Nat × Obj × Obj)
 | .own st z o => some (some st, z, o)
 | .new _ o => some (none, o, o)
 | _ => none
def Sp.on : Sp → Option Nat
 | .over j _ => some j
 | _ => none
def Sp.val (ρ : Nat → Nat) (i : Nat) : Sp → Value
 | .is v => v
 | .own _ _ _ => .pointer (some ⟨ρ i, 0, none⟩)
 | .new f _ => f (ρ i)
 | .over j f => f (ρ j)
def abQ (V : List Sp) (j : Nat) : Option (Option Nat × Obj × Obj) := match V[j]? with | some s => s.blk | none => none
def valOf (V : List Sp) (ρ : Nat → Nat) (j : Nat) : Value := match V[j]? with | some s => s.val ρ j | none => undef
def aal (i : Nat) : Nat → List Sp → List Nat
 | _, [] => []
 | j, .own st _ _ :: r => bif st == i then j :: aal i (j + 1) r else aal i (j + 1) r
 | j, _ :: r => aal i (j + 1) r
theorem aas {i : Nat} {z o : Obj} : ∀ (V : List Sp) (j k : Nat), abQ V k = some (some i, z, o) → j + k ∈ aal i j V
 | [], _, _, h => by simp [abQ] at h
 | x :: r, j, 0, h => by
  simp only [abQ, List.getElem?_cons_zero] at h
  cases x with
  | is v => simp [Sp.blk] at h
  | new f o => simp [Sp.blk] at h
  | over j f => simp [Sp.blk] at h
  | own st z o =>
   simp only [Sp.blk, Option.some.injEq, Prod.mk.injEq] at h
   simp [aal, h.1]
 | x :: r, j, k + 1, h => by
  have h1 := aas r (j + 1) k (by simpa only [abQ, List.getElem?_cons_succ] using h)
  rw [show j + (k + 1) = j + 1 + k by omega]
  cases x with
  | is v => exact h1
  | new f o => exact h1
  | over j f => exact h1
  | own st z o =>
   show _ ∈ bif st == i then j :: aal i (j + 1) r else aal i (j + 1) r
   cases st == i with
   | true => exact List.mem_cons_of_mem _ h1
   | false => exact h1
def stored (l : Array Bool) : Option Nat → Bool
 | some st => l.getD st false
 | none => true
def aae (a : Act) : List (Tmp × Value) → Prop
 | [] => True
 | (t, v) :: l => a.tmps.getD t undef = v ∧ aae a l
theorem aae.get {a : Act} : ∀ {l : List (Tmp × Value)}, aae a l → ∀ q ∈ l, a.tmps.getD q.1 undef = q.2
 | [], _, q, h => by simp at h
 | (t, v) :: l, h, q, hq => by
  rcases List.mem_cons.1 hq with rfl | hq
  · exact h.1
  · exact aae.get h.2 q hq
def aan : List (Tmp × Value) → Tmp → Value
 | [], _ => undef
 | (t, v) :: l, s => bif t == s then v else aan l s
theorem aaG {a : Act} : ∀ {l : List (Tmp × Value)} {t : Tmp}, aae a l → (l.any fun q => q.1 == t) = true → a.tmps.getD t undef = aan l t
 | [], t, _, h => by simp at h
 | (s, v) :: l, t, h, hm => by
  show _ = bif s == t then v else aan l t
  cases hs : s == t with
  | true => rw [← beq_iff_eq.1 hs]; exact h.1
  | false =>
   simp only [List.any_cons, hs, Bool.false_or] at hm
   exact aaG h.2 hm
def aaf (base : List (Tmp × Value)) (V : List Sp) (ρ : Nat → Nat) : List (Tmp × Option Nat) → List (Tmp × Value)
 | [] => []
 | (t, none) :: r => (t, aan base t) :: aaf base V ρ r
 | (t, some j) :: r => (t, valOf V ρ j) :: aaf base V ρ r
def aak (base : List (Tmp × Value)) (D : List (Option Tmp)) (o : Oper) : List (Tmp × Option Nat) → Bool
 | [] => true
 | (t, none) :: r => (base.any fun q => q.1 == t) && !D.contains (some t) && aak base D o r
 | (t, some j) :: r => (D[j]? == some (some t)) && (o.after.toList.any fun e => e.on == j && Region.binds .any e) && aak base D o r
section
variable {P : Program} {ops : Array Oper} {Q : Exit → Act → World → Prop} {w0 : World} {L : List (Nat × Obj)} {V : List Sp} {D : List (Option Tmp)} {B : Nat} {base : List (Tmp × Value)} {mx : Nat}
theorem abn {α : Type} {l : Array α} {p : α → Bool} (h : l.toList.any p = true) : ∃ e, e ∈ l ∧ p e = true := by
 obtain ⟨e, h1, h2⟩ := List.any_eq_true.1 h
 exact ⟨e, Array.mem_toList_iff.1 h1, h2⟩
structure RI (w0 : World) (L : List (Nat × Obj)) (V : List Sp) (D : List (Option Tmp)) (B : Nat) (a0 : Act) (ρ : Nat → Nat) (l : Array Bool) (a : Act) (w : World) : Prop where
 sz : l.size = D.length
 act : a = aam (fun j => l.getD j false) (valOf V ρ) 0 D a0
 kp : Keeps w0 L w
 hB : B ≤ w.heap.size
 own : ∀ j st z o, abQ V j = some (st, z, o) → l.getD j false = true → B ≤ ρ j ∧ w.heap[ρ j]? = some (bif stored l st then o else z)
 clo : ∀ j st z o, abQ V j = some (some st, z, o) → l.getD st false = true → l.getD j false = true
 inj : ∀ j b j' b', abQ V j = some b → abQ V j' = some b' → l.getD j false = true → l.getD j' false = true → ρ j = ρ j' → j = j'
 ovr : ∀ i s j, V[i]? = some s → s.on = some j → l.getD i false = true → l.getD j false = true
structure RC (w0 : World) (L : List (Nat × Obj)) (D : List (Option Tmp)) (B : Nat) (base : List (Tmp × Value)) (mx : Nat) (a0 : Act) : Prop where
 ds : dist D = true
 lt : ∀ q ∈ L, q.1 < B
 hB : w0.heap.size ≤ B
 ts : (D.all fun d => match d with | some t => decide (t ≤ mx) | none => true) = true
 sz : mx < a0.tmps.size
 bs : aae a0 base
def aah (P : Program) (ops : Array Oper) (Q : Exit → Act → World → Prop) (w0 : World) (L : List (Nat × Obj)) (V : List Sp) (D : List (Option Tmp)) (B : Nat) (a0 : Act) (i : Nat) (o : Oper) : Prop :=
 ∀ ρ l a w, RI w0 L V D B a0 ρ l a w → l.getD i true = false → (∀ e ∈ o.after, Region.binds .any e = true → l.getD e.on false = true) → ∀ K : Act → World → Prop, Shut (∀ ρ' a' w', RI w0 L V D B a0 ρ' (l.setIfInBounds i true) a' w' → K a' w') →
  if Region.wanted o (yielded ops a.tmps) = true then Oper.wp P o a w K Q else K (a.put o.dst undef) w
theorem RI.need {a0 : Act} {ρ : Nat → Nat} {l : Array Bool} {a : Act} {w : World} {o : Oper} (h : RI w0 L V D B a0 ρ l a w) (hc : RC w0 L D B base mx a0) (hd : ∀ e ∈ o.after, Region.binds .any e = true → l.getD e.on false = true) :
 ∀ need : List (Tmp × Option Nat), aak base D o need = true → aae a (aaf base V ρ need)
 | [], _ => trivial
 | (t, none) :: r, hn => by
  simp only [aak, Bool.and_eq_true, Bool.not_eq_true', List.contains_eq_mem, decide_eq_false_iff_not] at hn
  refine ⟨?_, RI.need h hc hd r hn.2⟩
  rw [h.act, aau D 0 a0 t hn.1.2]
  exact aaG hc.bs hn.1.1
 | (t, some j) :: r, hn => by
  simp only [aak, Bool.and_eq_true, beq_iff_eq] at hn
  refine ⟨?_, RI.need h hc hd r hn.2⟩
  obtain ⟨e, he, h2⟩ := abn hn.1.2
  simp only [Bool.and_eq_true, beq_iff_eq] at h2
  have hl := hd e he h2.2
  rw [h2.1] at hl
  have ht : t ≤ mx := by
   have := List.all_eq_true.1 hc.ts (some t) (List.mem_of_getElem? hn.1.1)
   simpa using this
  have h3 := aa4 (lb := fun j => l.getD j false) (val := valOf V ρ) D 0 a0 j t hn.1.1 hc.ds (by rw [Nat.zero_add]; exact hl) (Nat.lt_of_le_of_lt ht hc.sz)
  rw [h.act, h3, Nat.zero_add]
theorem aad {l : Array Bool} {i j : Nat} (hi : i < l.size) : (l.setIfInBounds i true).getD j false = if j = i then true else l.getD j false := by
 by_cases h : j = i
 · subst h; rw [if_pos rfl]; simp [Array.getD, hi]
 · rw [if_neg h]; simp only [Array.getD_eq_getD_getElem?]; rw [Array.getElem?_setIfInBounds_ne (Ne.symm h)]
theorem RI.lt {a0 : Act} {ρ : Nat → Nat} {l : Array Bool} {a : Act} {w : World} {i : Nat} (h : RI w0 L V D B a0 ρ l a w) (hi : l.getD i true = false) : i < l.size ∧ l.getD i false = false := by
 have h1 : i < l.size := by
  by_cases hh : i < l.size
  · exact hh
  · simp [Array.getD, hh] at hi
 exact ⟨h1, by rw [Ed h1 false true]; exact hi⟩
theorem RI.acts {a0 : Act} {ρ ρ' : Nat → Nat} {l : Array Bool} {a : Act} {w : World} {i : Nat} {d : Option Tmp} (h : RI w0 L V D B a0 ρ l a w) (hc : RC w0 L D B base mx a0) (hi : l.getD i true = false) (hd : D[i]? = some d) (hρ : ∀ j, l.getD j false = true → valOf V ρ' j = valOf V ρ j) :
 a.put d (valOf V ρ' i) = aam (fun j => (l.setIfInBounds i true).getD j false) (valOf V ρ') 0 D a0 := by
 obtain ⟨h1, h2⟩ := h.lt hi
 have h3 := aar (lb := fun j => l.getD j false) (lb' := fun j => (l.setIfInBounds i true).getD j false) (val := valOf V ρ) (val' := valOf V ρ') D 0 a0 i d hd hc.ds (by rw [Nat.zero_add]; exact h2)
  (fun j hj => by show (l.setIfInBounds i true).getD j false = _; rw [aad h1, if_neg (by omega)]) (by show (l.setIfInBounds i true).getD _ false = _; rw [aad h1, if_pos (by omega)]) hρ
 rw [Nat.zero_add] at h3
 rw [h.act, ← h3]
theorem abY {l : Array Bool} {i : Nat} (h1 : i < l.size) {st : Option Nat} (h : st ≠ some i) : stored (l.setIfInBounds i true) st = stored l st := by
 cases st with
 | none => rfl
 | some s => show (l.setIfInBounds i true).getD s false = _; rw [aad h1, if_neg (fun e => h (by rw [e]))]; rfl
theorem RI.next {a0 : Act} {ρ : Nat → Nat} {l : Array Bool} {a : Act} {w w' : World} {i : Nat} {d : Option Tmp} (h : RI w0 L V D B a0 ρ l a w) (hc : RC w0 L D B base mx a0) (hi : l.getD i true = false) (hd : D[i]? = some d) {s : Sp} (hv : V[i]? = some s) (hk : s.blk = none) (hs : aal i 0 V = [])
 (ho : ∀ j, s.on = some j → l.getD j false = true) (hb : Below w.heap.size w w') : RI w0 L V D B a0 ρ (l.setIfInBounds i true) (a.put d (s.val ρ i)) w' := by
 obtain ⟨h1, h2⟩ := h.lt hi
 have hn1 : ∀ j b, abQ V j = some b → j ≠ i := fun j b hj hh => by subst hh; simp only [abQ, hv, hk] at hj; cases hj
 have hn2 : ∀ j st z o, abQ V j = some (st, z, o) → st ≠ some i := fun j st z o hj hh => by subst hh; have := aas V 0 j hj; rw [hs] at this; cases this
 refine ⟨by rw [Array.size_setIfInBounds]; exact h.sz, ?_, h.kp.step hb rfl, Nat.le_trans h.hB hb.size, ?_, ?_, ?_, ?_⟩
 · rw [← h.acts hc hi hd (fun _ _ => rfl)]
   congr 1
   simp only [valOf, hv]
 · intro j st z o hj hl
   rw [aad h1, if_neg (hn1 j _ hj)] at hl
   rw [abY h1 (hn2 j st z o hj)]
   obtain ⟨g1, g2⟩ := h.own j st z o hj hl
   exact ⟨g1, (hb.block _ (Array.getElem?_eq_some_iff.mp g2).1).trans g2⟩
 · intro j st z o hj hl
   rw [aad h1, if_neg (fun e => hn2 j _ z o hj (by rw [e]))] at hl
   rw [aad h1, if_neg (hn1 j _ hj)]
   exact h.clo j st z o hj hl
 · intro j b j' b' hj hj' hl hl'
   rw [aad h1, if_neg (hn1 j _ hj)] at hl
   rw [aad h1, if_neg (hn1 j' _ hj')] at hl'
   exact h.inj j b j' b' hj hj' hl hl'
 · intro k s' j hk' hon hl
   rw [aad h1] at hl ⊢
   split
   · rfl
   · by_cases hki : k = i
     · subst hki
       rw [hv] at hk'
       cases hk'
       exact ho j hon
     · rw [if_neg hki] at hl
       exact h.ovr k s' j hk' hon hl
theorem RI.make {a0 : Act} {ρ : Nat → Nat} {l : Array Bool} {a : Act} {w w' : World} {i p : Nat} {st : Option Nat} {z o : Obj} {d : Option Tmp} {s : Sp} (h : RI w0 L V D B a0 ρ l a w) (hc : RC w0 L D B base mx a0) (hi : l.getD i true = false) (hd : D[i]? = some d) (hv : V[i]? = some s) (hk : s.blk = some (st, z, o)) (hs : aal i 0 V = [])
 (hp : w.heap.size ≤ p) (hb : Below w.heap.size w w') (hw : w'.heap[p]? = some z) : RI w0 L V D B a0 (fun j => if j = i then p else ρ j) (l.setIfInBounds i true) (a.put d (s.val (fun j => if j = i then p else ρ j) i)) w' := by
 obtain ⟨h1, h2⟩ := h.lt hi
 have hbi : abQ V i = some (st, z, o) := by simp only [abQ, hv, hk]
 have hn2 : ∀ j st z o, abQ V j = some (st, z, o) → st ≠ some i := fun j st z o hj hh => by subst hh; have := aas V 0 j hj; rw [hs] at this; cases this
 have akC : s.on = none := by cases s <;> simp_all [Sp.blk, Sp.on]
 refine ⟨by rw [Array.size_setIfInBounds]; exact h.sz, ?_, h.kp.step hb rfl, Nat.le_trans h.hB hb.size, ?_, ?_, ?_, ?_⟩
 · rw [← h.acts hc hi hd (ρ' := fun j => if j = i then p else ρ j) ?_]
   · congr 1
     simp only [valOf, hv]
   · intro j hj
     have hji : j ≠ i := fun e => by rw [e, h2] at hj; cases hj
     cases hq : V[j]? with
     | none => simp only [valOf, hq]
     | some q =>
      cases q with
      | is v => simp only [valOf, hq, Sp.val]
      | own st z o => simp only [valOf, hq, Sp.val, if_neg hji]
      | new f o => simp only [valOf, hq, Sp.val, if_neg hji]
      | over k f =>
       have hk' := h.ovr j _ k hq rfl hj
       have hki : k ≠ i := fun e => by rw [e, h2] at hk'; cases hk'
       simp only [valOf, hq, Sp.val, if_neg hki]
 · intro j st' z' o' hj hl
   rw [abY h1 (hn2 j st' z' o' hj)]
   by_cases hji : j = i
   · subst hji
     rw [hbi] at hj
     simp only [Option.some.injEq, Prod.mk.injEq] at hj
     obtain ⟨e1, e2, e3⟩ := hj
     subst e1 e2 e3
     rw [if_pos rfl]
     refine ⟨Nat.le_trans h.hB hp, hw.trans ?_⟩
     cases hst : st with
     | none =>
      subst hst
      have : z = o := by cases s <;> simp only [Sp.blk, Option.some.injEq, Prod.mk.injEq, reduceCtorEq, false_and] at hk <;> exact hk.2.1.symm.trans hk.2.2
      rw [this]
      rfl
     | some q =>
      rw [hst] at hbi
      have : l.getD q false = false := by
       cases hq : l.getD q false with
       | false => rfl
       | true => exact absurd (h.clo j q z o hbi hq) (by rw [h2]; simp)
      simp only [stored, this, cond_false]
   · rw [aad h1, if_neg hji] at hl
     rw [if_neg hji]
     obtain ⟨g1, g2⟩ := h.own j st' z' o' hj hl
     exact ⟨g1, (hb.block _ (Array.getElem?_eq_some_iff.mp g2).1).trans g2⟩
 · intro j st' z' o' hj hl
   rw [aad h1, if_neg (fun e => hn2 j _ z' o' hj (by rw [e]))] at hl
   rw [aad h1]
   split
   · rfl
   · exact h.clo j st' z' o' hj hl
 · rintro j ⟨s1, z1, o1⟩ j' ⟨s2, z2, o2⟩ hj hj' hl hl' he
   rw [aad h1] at hl hl'
   by_cases e1 : j = i <;> by_cases e2 : j' = i
   · rw [e1, e2]
   · rw [if_neg e2] at hl'
     rw [if_pos e1, if_neg e2] at he
     have := (Array.getElem?_eq_some_iff.mp (h.own j' s2 z2 o2 hj' hl').2).1
     omega
   · rw [if_neg e1] at hl
     rw [if_neg e1, if_pos e2] at he
     have := (Array.getElem?_eq_some_iff.mp (h.own j s1 z1 o1 hj hl).2).1
     omega
   · rw [if_neg e1] at hl
     rw [if_neg e2] at hl'
     rw [if_neg e1, if_neg e2] at he
     exact h.inj j _ j' _ hj hj' hl hl' he
 · intro k s' j hk' hon hl
   rw [aad h1] at hl ⊢
   split
   · rfl
   · by_cases hki : k = i
     · subst hki
       rw [hv] at hk'
       cases hk'
       rw [akC] at hon
       cases hon
     · rw [if_neg hki] at hl
       exact h.ovr k s' j hk' hon hl
theorem RI.fill {a0 : Act} {ρ : Nat → Nat} {l : Array Bool} {a : Act} {w : World} {i m : Nat} {z o : Obj} (h : RI w0 L V D B a0 ρ l a w) (hc : RC w0 L D B base mx a0) (hi : l.getD i true = false) (hd : D[i]? = some none) {v : Value} (hv : V[i]? = some (.is v)) (hm : V[m]? = some (.own i z o)) (hs : aal i 0 V = [m])
 (hl : l.getD m false = true) : w.heap[ρ m]? = some z ∧ RI w0 L V D B a0 ρ (l.setIfInBounds i true) a (w.pin (ρ m) o) := by
 obtain ⟨h1, h2⟩ := h.lt hi
 have hbm : abQ V m = some (some i, z, o) := by simp only [abQ, hm, Sp.blk]
 obtain ⟨g1, g2⟩ := h.own m _ z o hbm hl
 simp only [stored, h2, cond_false] at g2
 have hmi : ∀ j b, abQ V j = some b → j ≠ i := fun j b hj hh => by subst hh; simp only [abQ, hv, Sp.blk] at hj; cases hj
 have hmm : ∀ j z o, abQ V j = some (some i, z, o) → j = m := fun j z o hj => by have := aas V 0 j hj; rw [hs, Nat.zero_add] at this; simpa using this
 refine ⟨g2, by rw [Array.size_setIfInBounds]; exact h.sz, ?_, h.kp.pin (Nat.le_trans hc.hB g1) (fun q hq => Nat.ne_of_lt (Nat.lt_of_lt_of_le (hc.lt q hq) g1)), by rw [aA]; exact h.hB, ?_, ?_, ?_, ?_⟩
 · rw [← h.acts hc hi hd (fun _ _ => rfl)]
   rfl
 · intro j st z' o' hj hl'
   rw [aad h1, if_neg (hmi j _ hj)] at hl'
   obtain ⟨k1, k2⟩ := h.own j st z' o' hj hl'
   by_cases e1 : st = some i
   · subst e1
     have := hmm j z' o' hj
     subst this
     rw [hbm] at hj
     simp only [Option.some.injEq, Prod.mk.injEq, true_and] at hj
     obtain ⟨e2, e3⟩ := hj
     subst e2 e3
     refine ⟨g1, ?_⟩
     simp only [stored, aad h1, if_true, cond_true]
     exact eY (Array.getElem?_eq_some_iff.mp g2).1
   · rw [abY h1 e1]
     refine ⟨k1, (je ?_).trans k2⟩
     intro he
     have := h.inj j _ m _ hj hbm hl' hl he
     subst this
     rw [hbm] at hj
     simp only [Option.some.injEq, Prod.mk.injEq] at hj
     exact e1 hj.1.symm
 · intro j st z' o' hj hl'
   rw [aad h1] at hl'
   rw [aad h1, if_neg (hmi j _ hj)]
   by_cases e1 : st = i
   · subst e1
     rw [hmm j z' o' hj]; exact hl
   · rw [if_neg e1] at hl'
     exact h.clo j st z' o' hj hl'
 · intro j b j' b' hj hj' hl hl'
   rw [aad h1, if_neg (hmi j _ hj)] at hl
   rw [aad h1, if_neg (hmi j' _ hj')] at hl'
   exact h.inj j b j' b' hj hj' hl hl'
 · intro k s' j hk' hon hl'
   rw [aad h1] at hl' ⊢
   split
   · rfl
   · by_cases hki : k = i
     · subst hki
       rw [hv] at hk'
       cases hk'
       cases hon
     · rw [if_neg hki] at hl'
       exact h.ovr k s' j hk' hon hl'
theorem ab2 {l : Array Bool} {o : Oper} (hd : ∀ e ∈ o.after, Region.binds .any e = true → l.getD e.on false = true) {t : Tmp} {j : Nat} : ∀ need : List (Tmp × Option Nat), (t, some j) ∈ need → aak base D o need = true → l.getD j false = true
 | [], h, _ => by simp at h
 | (t', none) :: r, h, hn => by
  simp only [aak, Bool.and_eq_true] at hn
  exact ab2 hd r (by simpa using h) hn.2
 | (t', some j') :: r, h, hn => by
  simp only [aak, Bool.and_eq_true] at hn
  rcases List.mem_cons.1 h with h | h
  · simp only [Prod.mk.injEq, Option.some.injEq] at h
    obtain ⟨e, he, h2⟩ := abn hn.1.2
    simp only [Bool.and_eq_true, beq_iff_eq] at h2
    have hl := hd e he h2.2
    rw [h2.1] at hl
    rw [h.2]
    exact hl
  · exact ab2 hd r h hn.2
def held (V : List Sp) (ρ : Nat → Nat) (w : World) : List (Tmp × Option Nat) → Prop
 | [] => True
 | (_, some j) :: r => (match V[j]? with | some (.new _ o) => w.heap[ρ j]? = some o | _ => True) ∧ held V ρ w r
 | (_, none) :: r => held V ρ w r
theorem RI.held {a0 : Act} {ρ : Nat → Nat} {l : Array Bool} {a : Act} {w : World} {o : Oper} (h : RI w0 L V D B a0 ρ l a w) (hd : ∀ e ∈ o.after, Region.binds .any e = true → l.getD e.on false = true) : ∀ need : List (Tmp × Option Nat), aak base D o need = true → held V ρ w need
 | [], _ => trivial
 | (t, none) :: r, hn => by
  simp only [aak, Bool.and_eq_true] at hn
  exact RI.held h hd r hn.2
 | (t, some j) :: r, hn => by
  simp only [aak, Bool.and_eq_true] at hn
  refine ⟨?_, RI.held h hd r hn.2⟩
  obtain ⟨e, he, h2⟩ := abn hn.1.2
  simp only [Bool.and_eq_true, beq_iff_eq] at h2
  have hl := hd e he h2.2
  rw [h2.1] at hl
  split
  · next f o' hq => exact (h.own j none o' o' (by simp only [abQ, hq, Sp.blk]) hl).2
  · trivial
variable {a0 : Act} {i : Nat} {oi : Oper}
theorem aah.val (hc : RC w0 L D B base mx a0) (s : Sp) (need : List (Tmp × Option Nat)) (h : ∀ (ρ : Nat → Nat) a w, aae a (aaf base V ρ need) → Keeps w0 L w → held V ρ w need → Region.wanted oi (yielded ops a.tmps) = true ∧ (execOp a.eval oi).run P w = .ok (.value (s.val ρ i)) w)
 (hv : V[i]? = some s) (hb : s.blk = none) (ho : (match s.on with | some j => need.any fun q => q.2 == some j | none => true) = true) (hs : aal i 0 V = []) (hd : D[i]? = some oi.dst) (hn : aak base D oi need = true) : aah P ops Q w0 L V D B a0 i oi := by
 intro ρ l a w hI hun ay K hK
 obtain ⟨h1, h2⟩ := h ρ a w (hI.need hc ay need hn) hI.kp (hI.held ay need hn)
 refine value_ (w1 := w) h1 rfl h2 (hK.out _ _ _ (hI.next hc hun hd hv hb hs (fun j hj => ?_) (Below.refl _ _)))
 rw [hj] at ho
 obtain ⟨q, hq, hq2⟩ := List.any_eq_true.1 ho
 exact ab2 ay (t := q.1) (j := j) need (by rw [← beq_iff_eq.1 hq2]; exact hq) hn
theorem aah.off (hc : RC w0 L D B base mx a0) (need : List (Tmp × Option Nat)) (h : ∀ (ρ : Nat → Nat) a, aae a (aaf base V ρ need) → Region.wanted oi (yielded ops a.tmps) = false)
 (hv : V[i]? = some (.is undef)) (hs : aal i 0 V = []) (hd : D[i]? = some oi.dst) (hn : aak base D oi need = true) : aah P ops Q w0 L V D B a0 i oi := by
 intro ρ l a w hI hun ay K hK
 rw [h ρ a (hI.need hc ay need hn), if_neg (by simp)]
 exact hK.out _ _ _ (hI.next hc hun hd hv rfl hs (fun j hj => by cases hj) (Below.refl _ _))
theorem aah.call (hc : RC w0 L D B base mx a0) {v : Value} (need : List (Tmp × Option Nat)) {f : FuncId} {fn : Func} (args : (Nat → Nat) → Array Value) (C : ∀ ρ w, Keeps w0 L w → held V ρ w need → Calls P f (args ρ) w fun e w' => e = .returned v ∧ Below w.heap.size w w') {as : Array Operand} {ts : Array TypeId}
 (hf : P.funcs[f]? = some fn) (hname : (fn.name == "runtime.NumGoroutine") = false) (hb : fn.body.isSome = true)
 (hop : oi.op = .call { callee := .value (.func f), args := as, argTypes := ts }) (h : ∀ (ρ : Nat → Nat) a, aae a (aaf base V ρ need) → Region.wanted oi (yielded ops a.tmps) = true ∧ as.map a.eval = args ρ)
 (hv : V[i]? = some (.is v)) (hs : aal i 0 V = []) (hd : D[i]? = some oi.dst) (hn : aak base D oi need = true) : aah P ops Q w0 L V D B a0 i oi := by
 intro ρ l a w hI hun ay K hK
 obtain ⟨h1, h2⟩ := h ρ a (hI.need hc ay need hn)
 refine goes_ hf hname hb (args ρ) h1 rfl hop h2 ((C ρ w hI.kp (hI.held ay need hn)).mono ?_)
 rintro e y ⟨rfl, hbl⟩
 exact ⟨_, rfl, hK.out _ _ _ (hI.next hc hun hd hv rfl hs (fun j hj => by cases hj) hbl)⟩
theorem aah.afS (hc : RC w0 L D B base mx a0) {g : Nat → Value} {o : Obj} (need : List (Tmp × Option Nat)) {f : FuncId} {fn : Func} (args : (Nat → Nat) → Array Value) (C : ∀ ρ w, Keeps w0 L w → held V ρ w need → Calls P f (args ρ) w fun e w' => (∃ b, w.heap.size ≤ b ∧ e = .returned (g b) ∧ w'.heap[b]? = some o) ∧ Below w.heap.size w w') {as : Array Operand} {ts : Array TypeId}
 (hf : P.funcs[f]? = some fn) (hname : (fn.name == "runtime.NumGoroutine") = false) (hb : fn.body.isSome = true)
 (hop : oi.op = .call { callee := .value (.func f), args := as, argTypes := ts }) (h : ∀ (ρ : Nat → Nat) a, aae a (aaf base V ρ need) → Region.wanted oi (yielded ops a.tmps) = true ∧ as.map a.eval = args ρ)
 (hv : V[i]? = some (.new g o)) (hs : aal i 0 V = []) (hd : D[i]? = some oi.dst) (hn : aak base D oi need = true) : aah P ops Q w0 L V D B a0 i oi := by
 intro ρ l a w hI hun ay K hK
 obtain ⟨h1, h2⟩ := h ρ a (hI.need hc ay need hn)
 refine goes_ hf hname hb (args ρ) h1 rfl hop h2 ((C ρ w hI.kp (hI.held ay need hn)).mono ?_)
 rintro e y ⟨⟨b, hge, rfl, hbo⟩, hbl⟩
 have h3 := hI.make hc hun hd hv rfl hs hge hbl hbo
 simp only [Sp.val, if_true] at h3
 exact ⟨_, rfl, hK.out _ _ _ h3⟩
theorem aah.make (hc : RC w0 L D B base mx a0) {s : Sp} {st : Option Nat} {z o : Obj} (need : List (Tmp × Option Nat)) (hv : V[i]? = some s) (hbk : s.blk = some (st, z, o)) (h : ∀ (ρ : Nat → Nat) a w, aae a (aaf base V ρ need) → held V ρ w need → Region.wanted oi (yielded ops a.tmps) = true ∧ (execOp a.eval oi).run P w = .ok (.value (s.val (fun _ => w.heap.size) i)) (w.alloc z))
 (hs : aal i 0 V = []) (hd : D[i]? = some oi.dst) (hn : aak base D oi need = true) : aah P ops Q w0 L V D B a0 i oi := by
 intro ρ l a w hI hun ay K hK
 obtain ⟨h1, h2⟩ := h ρ a w (hI.need hc ay need hn) (hI.held ay need hn)
 have h3 := hI.make hc hun hd hv hbk hs (Nat.le_refl _) (Below.alloc (Below.refl _ _) (Nat.le_refl _) z) (heap_alloc_new w z)
 have h4 : s.val (fun j => if j = i then w.heap.size else ρ j) i = s.val (fun _ => w.heap.size) i := by cases s <;> simp_all [Sp.blk, Sp.val]
 rw [h4] at h3
 exact value_ (w1 := w.alloc z) h1 rfl h2 (hK.out _ _ _ h3)
theorem aah.fill (hc : RC w0 L D B base mx a0) {m : Nat} {z o : Obj} (need : List (Tmp × Option Nat)) (h : ∀ (ρ : Nat → Nat) a w, aae a (aaf base V ρ need) → Keeps w0 L w → w.heap[ρ m]? = some z → Region.wanted oi (yielded ops a.tmps) = true ∧ (execOp a.eval oi).run P w = .ok .skip (w.pin (ρ m) o))
 (hv : V[i]? = some (.is undef)) (hm : V[m]? = some (.own i z o)) (hs : aal i 0 V = [m]) (hd : D[i]? = some none) (hdd : oi.dst = none) (hn : aak base D oi need = true) (hl : (oi.after.toList.any fun e => e.on == m && Region.binds .any e) = true) : aah P ops Q w0 L V D B a0 i oi := by
 intro ρ l a w hI hun ay K hK
 obtain ⟨e, he, h5⟩ := abn hl
 simp only [Bool.and_eq_true, beq_iff_eq] at h5
 have h6 := ay e he h5.2
 rw [h5.1] at h6
 obtain ⟨h3, h4⟩ := hI.fill hc hun hd hv hm hs h6
 obtain ⟨h1, h2⟩ := h ρ a w (hI.need hc ay need hn) hI.kp h3
 rw [hdd]
 exact skip_ h1 hdd h2 (hK.out _ _ _ h4)
def acW (V : List Sp) (B : Nat) (ρ : Nat → Nat) (w' : World) : Prop := ∀ j st z o, abQ V j = some (st, z, o) → B ≤ ρ j ∧ w'.heap[ρ j]? = some o
theorem aac {id : Nat} {a : Act} {w : World} (w0 : World) (L : List (Nat × Obj)) (V : List Sp) (D : List (Option Tmp)) (base : List (Tmp × Value)) (mx : Nat) (hk : Keeps w0 L w.drew)
 (hsteps : ∀ a0, RC w0 L D w.heap.size base mx a0 → nR (aah P ops Q w0 L V D w.heap.size a0) 0 ops.toList)
 (hend : ∀ (ρ : Nat → Nat) w', Keeps w0 L w' → acW V w.heap.size ρ w' → (∀ j b j' b', abQ V j = some b → abQ V j' = some b' → ρ j = ρ j' → j = j') → (∀ q ∈ L, q.1 < w.heap.size) → w0.heap.size ≤ w.heap.size → Q .normal (ae7 (ae8 (valOf V ρ) 0 D) a) w')
 (hbs : aae a base) (hsz : mx < a.tmps.size) (hm : P.follows .mixedOrders = true) (hD : ops.toList.map (·.dst) = D) (hV : (V.all fun s => match s with | .own st _ _ => decide (st < D.length) | _ => true) = true) (hVD : V.length = D.length) (hds : dist D = true) (hts : (D.all fun d => match d with | some t => decide (t ≤ mx) | none => true) = true)
 (hlow : ((List.range ops.size).all fun j => match ops[j]? with | some o => o.after.all fun e => !Region.binds .any e || decide (e.on < j) | none => true) = true) : (Code.region id ops true).wp P Q a w := by
 obtain ⟨k1, k2, k3⟩ := inv_start hk
 have hl : D.length = ops.size := by rw [← hD]; simp
 have hc : RC w0 L D w.heap.size base mx a := ⟨hds, k3, k2, hts, hsz, hbs⟩
 have hrep : ∀ j, (Array.replicate ops.size false).getD j false = false := fun j => by
  rw [Array.getD_eq_getD_getElem?, Array.getElem?_replicate]
  split <;> rfl
 refine wp_region_any hm (LK (I := fun l a' w' => ∃ ρ, RI w0 L V D w.heap.size a ρ l a' w') ?_ ?_ ?_ ?_ ops.size _ a _ ?_ ⟨fun _ => 0, ?_⟩)
 · rintro l a' w' ⟨ρ, h⟩
   exact h.sz.trans hl
 · intro j o ho e he hbn
   have hj : j < ops.size := (Array.getElem?_eq_some_iff.1 ho).1
   have h1 := List.all_eq_true.1 hlow j (List.mem_range.2 hj)
   rw [ho] at h1
   have h2 := Array.all_eq_true_iff_forall_mem.1 h1 e he
   simpa [hbn] using h2
 · rintro i o ho l a' w' ⟨ρ, h⟩ hun ay K hK
   have := (hsteps a hc).get i o (by rw [Array.getElem?_toList]; exact ho)
   rw [Nat.zero_add] at this
   exact this ρ l a' w' h hun ay K fun ρ' a'' w'' hI => hK.out _ _ ⟨ρ', hI⟩
 · rintro l a' w' ⟨ρ, h⟩ hall
   have hal : ∀ j, j < D.length → l.getD j false = true := fun j hj => by rw [Ed (by rw [h.sz]; exact hj) false true]; exact hall j (by omega)
   have hbl : ∀ j b, abQ V j = some b → l.getD j false = true ∧ stored l b.1 = true := fun j b hj => by
    cases hq : V[j]? with
    | none => simp only [abQ, hq] at hj; cases hj
    | some s =>
     have hjl : j < D.length := by rw [← hVD]; exact (List.getElem?_eq_some_iff.1 hq).1
     refine ⟨hal j hjl, ?_⟩
     have h1 := List.all_eq_true.1 hV _ (List.mem_of_getElem? hq)
     simp only [abQ, hq] at hj
     cases s with
     | is v => simp [Sp.blk] at hj
     | over k f => simp [Sp.blk] at hj
     | new f o => simp only [Sp.blk, Option.some.injEq] at hj; subst hj; rfl
     | own st z o => simp only [Sp.blk, Option.some.injEq] at hj; subst hj; exact hal st (by simpa using h1)
   rw [h.act, aaS D 0 a (fun j _ hj => hal j (by omega))]
   refine hend ρ w' h.kp (fun j st z o hj => ?_) (fun j b j' b' hj hj' => h.inj j b j' b' hj hj' (hbl j b hj).1 (hbl j' b' hj').1) k3 k2
   have h1 := h.own j st z o hj (hbl j _ hj).1
   rw [(hbl j _ hj).2] at h1
   exact h1
 · intro k hk
   subst hk
   exact Nat.le_trans List.countP_le_length (by simp)
 · refine ⟨by simp [hl], ?_, hk, k1, (fun j st z o _ h => by rw [hrep] at h; cases h), (fun j st z o _ h => by rw [hrep] at h; cases h), (fun j b j' b' _ _ h => by rw [hrep] at h; cases h), (fun i s j _ _ h => by rw [hrep] at h; cases h)⟩
   have : ∀ (D : List (Option Tmp)) (i : Nat) (a : Act), aam (fun j => (Array.replicate ops.size false).getD j false) (valOf V fun _ => 0) i D a = a := by
    intro D
    induction D with
    | nil => intro i a; rfl
    | cons d D ih =>
     intro i a
     show aam _ _ (i + 1) D _ = a
     rw [ih]
     simp only [hrep]
     rfl
   exact (this D 0 a).symm
theorem aat {a : Act} {o : Oper} {j t : Nat} {b : Bool} (hg : o.guard = some (j, b)) (hj : (ops[j]?).bind (·.dst) = some t) (h : a.tmps.getD t undef = .bool b) : Region.wanted o (yielded ops a.tmps) = true := by
 simp only [Array.getD_eq_getD_getElem?] at h
 cases hq : a.tmps[t]? with
 | none => rw [hq] at h; cases h
 | some v =>
  rw [hq] at h
  have h' : v = .bool b := h
  simp [Region.wanted, hg, yielded, hj, hq, h']
theorem aml {a : Act} {o : Oper} {j t : Nat} {b c : Bool} (hg : o.guard = some (j, b)) (hj : (ops[j]?).bind (·.dst) = some t) (h : a.tmps.getD t undef = .bool c) (hc : (c == b) = false) : Region.wanted o (yielded ops a.tmps) = false := by
 simp only [Array.getD_eq_getD_getElem?] at h
 cases hq : a.tmps[t]? with
 | none => rw [hq] at h; cases h
 | some v =>
  rw [hq] at h
  have h' : v = .bool c := h
  simp [Region.wanted, hg, yielded, hj, hq, h']
  simpa using hc
theorem abp (hc : RC w0 L D B base mx a0) (need : List (Tmp × Option Nat)) {v : Value} (hv : V[i]? = some (.is v) := by rfl)
 (h : ∀ (ρ : Nat → Nat) a w, aae a (aaf base V ρ need) → Keeps w0 L w → Region.wanted oi (yielded ops a.tmps) = true ∧ (execOp a.eval oi).run P w = .ok (.value v) w := by (intro ρ a w hr hk; simp only [aaf, aan, valOf, Sp.val, aae, List.getElem?_cons_zero, List.getElem?_cons_succ, Nat.reduceBEq, cond_true, cond_false] at hr; (repeat (obtain ⟨_, hr⟩ := hr)); (first | (obtain ⟨x, rfl, _, _⟩ := hk.akF) | (obtain ⟨x, rfl, _, _, _⟩ := hk.jE) | (obtain ⟨x, rfl, _, _, _, _⟩ := hk.iL) | (obtain ⟨x, rfl, _, _, _, _, _⟩ := hk.eG) | (obtain ⟨x, rfl, _, _, _, _, _, _⟩ := hk.iO) | (obtain ⟨x, rfl, _, _, _, _, _, _, _⟩ := hk.ji) | (obtain ⟨x, rfl, _, _, _, _, _, _, _, _⟩ := hk.FN) | (obtain ⟨x, rfl, _, _, _, _, _, _, _, _, _⟩ := hk.akG) | (obtain ⟨x, rfl, _, _, _, _, _, _, _, _, _, _⟩ := hk.akH) | (obtain ⟨x, rfl, _, _, _, _, _, _, _, _, _, _, _⟩ := hk.akI) | (obtain ⟨x, rfl, _, _, _, _, _, _, _, _, _, _, _, _⟩ := hk.afY)); refine ⟨(by first | exact rfl | (refine aat rfl rfl ?_; assumption)), ?_⟩; go_simp; first | done | rfl))
 (hs : aal i 0 V = [] := by rfl) (hd : D[i]? = some oi.dst := by rfl) (hn : aak base D oi need = true := by rfl) : aah P ops Q w0 L V D B a0 i oi := aah.val hc (.is v) need (fun ρ a w hr hk _ => h ρ a w hr hk) hv rfl rfl hs hd hn
theorem ar1 (hc : RC w0 L D B base mx a0) (need : List (Tmp × Option Nat)) {j : Nat} {f : Nat → Value} (hv : V[i]? = some (.over j f) := by rfl)
 (h : ∀ (ρ : Nat → Nat) a w, aae a (aaf base V ρ need) → Keeps w0 L w → Region.wanted oi (yielded ops a.tmps) = true ∧ (execOp a.eval oi).run P w = .ok (.value (f (ρ j))) w := by (intro ρ a w hr hk; simp only [aaf, aan, valOf, Sp.val, aae, List.getElem?_cons_zero, List.getElem?_cons_succ, Nat.reduceBEq, cond_true, cond_false] at hr; (repeat (obtain ⟨_, hr⟩ := hr)); (first | (obtain ⟨x, rfl, _, _⟩ := hk.akF) | (obtain ⟨x, rfl, _, _, _⟩ := hk.jE) | (obtain ⟨x, rfl, _, _, _, _⟩ := hk.iL) | (obtain ⟨x, rfl, _, _, _, _, _⟩ := hk.eG) | (obtain ⟨x, rfl, _, _, _, _, _, _⟩ := hk.iO) | (obtain ⟨x, rfl, _, _, _, _, _, _, _⟩ := hk.ji) | (obtain ⟨x, rfl, _, _, _, _, _, _, _, _⟩ := hk.FN) | (obtain ⟨x, rfl, _, _, _, _, _, _, _, _, _⟩ := hk.akG) | (obtain ⟨x, rfl, _, _, _, _, _, _, _, _, _, _⟩ := hk.akH) | (obtain ⟨x, rfl, _, _, _, _, _, _, _, _, _, _, _⟩ := hk.akI) | (obtain ⟨x, rfl, _, _, _, _, _, _, _, _, _, _, _, _⟩ := hk.afY)); refine ⟨(by first | exact rfl | (refine aat rfl rfl ?_; assumption)), ?_⟩; go_simp; first | done | rfl))
 (hs : aal i 0 V = [] := by rfl) (hd : D[i]? = some oi.dst := by rfl) (ho : (need.any fun q => q.2 == some j) = true := by rfl) (hn : aak base D oi need = true := by rfl) : aah P ops Q w0 L V D B a0 i oi := aah.val hc (.over j f) need (fun ρ a w hr hk _ => h ρ a w hr hk) hv rfl ho hs hd hn
theorem abP (hc : RC w0 L D B base mx a0) (need : List (Tmp × Option Nat)) {v : Value} {f : FuncId} {fn : Func} {args : Array Value} {as : Array Operand} {ts : Array TypeId} (hf : P.funcs[f]? = some fn) (C : ∀ w, Keeps w0 L w → Calls P f args w fun e w' => e = .returned v ∧ Below w.heap.size w w')
 (hname : (fn.name == "runtime.NumGoroutine") = false := by kernel_rfl) (hb : fn.body.isSome = true := by rfl) (hv : V[i]? = some (.is v) := by rfl)
 (hop : oi.op = .call { callee := .value (.func f), args := as, argTypes := ts } := by rfl) (h : ∀ (ρ : Nat → Nat) a, aae a (aaf base V ρ need) → Region.wanted oi (yielded ops a.tmps) = true ∧ as.map a.eval = args := by (intro ρ a hr; simp only [aaf, aan, valOf, Sp.val, aae, List.getElem?_cons_zero, List.getElem?_cons_succ, Nat.reduceBEq, cond_true, cond_false] at hr; (repeat (obtain ⟨_, hr⟩ := hr)); refine ⟨(by first | exact rfl | (refine aat rfl rfl ?_; assumption)), ?_⟩; simp [Act.eval, *]))
 (hs : aal i 0 V = [] := by rfl) (hd : D[i]? = some oi.dst := by rfl) (hn : aak base D oi need = true := by rfl) : aah P ops Q w0 L V D B a0 i oi := aah.call hc need (fun _ => args) (fun _ w hk _ => C w hk) hf hname hb hop h hv hs hd hn
theorem ade (hc : RC w0 L D B base mx a0) (need : List (Tmp × Option Nat)) {v : Value} {f : FuncId} {fn : Func} {args : (Nat → Nat) → Array Value} {as : Array Operand} {ts : Array TypeId} (hf : P.funcs[f]? = some fn) (C : ∀ ρ w, Keeps w0 L w → held V ρ w need → Calls P f (args ρ) w fun e w' => e = .returned v ∧ Below w.heap.size w w')
 (hname : (fn.name == "runtime.NumGoroutine") = false := by kernel_rfl) (hb : fn.body.isSome = true := by rfl) (hv : V[i]? = some (.is v) := by rfl)
 (hop : oi.op = .call { callee := .value (.func f), args := as, argTypes := ts } := by rfl) (h : ∀ (ρ : Nat → Nat) a, aae a (aaf base V ρ need) → Region.wanted oi (yielded ops a.tmps) = true ∧ as.map a.eval = args ρ := by (intro ρ a hr; simp only [aaf, aan, valOf, Sp.val, aae, List.getElem?_cons_zero, List.getElem?_cons_succ, Nat.reduceBEq, cond_true, cond_false] at hr; (repeat (obtain ⟨_, hr⟩ := hr)); refine ⟨(by first | exact rfl | (refine aat rfl rfl ?_; assumption)), ?_⟩; simp [Act.eval, *]))
 (hs : aal i 0 V = [] := by rfl) (hd : D[i]? = some oi.dst := by rfl) (hn : aak base D oi need = true := by rfl) : aah P ops Q w0 L V D B a0 i oi := aah.call hc need args C hf hname hb hop h hv hs hd hn
theorem adf (hc : RC w0 L D B base mx a0) (need : List (Tmp × Option Nat)) {g : Nat → Value} {o : Obj} {f : FuncId} {fn : Func} {args : (Nat → Nat) → Array Value} {as : Array Operand} {ts : Array TypeId} (hf : P.funcs[f]? = some fn) (C : ∀ ρ w, Keeps w0 L w → held V ρ w need → Calls P f (args ρ) w fun e w' => (∃ b, w.heap.size ≤ b ∧ e = .returned (g b) ∧ w'.heap[b]? = some o) ∧ Below w.heap.size w w')
 (hname : (fn.name == "runtime.NumGoroutine") = false := by kernel_rfl) (hb : fn.body.isSome = true := by rfl) (hv : V[i]? = some (.new g o) := by rfl)
 (hop : oi.op = .call { callee := .value (.func f), args := as, argTypes := ts } := by rfl) (h : ∀ (ρ : Nat → Nat) a, aae a (aaf base V ρ need) → Region.wanted oi (yielded ops a.tmps) = true ∧ as.map a.eval = args ρ := by (intro ρ a hr; simp only [aaf, aan, valOf, Sp.val, aae, List.getElem?_cons_zero, List.getElem?_cons_succ, Nat.reduceBEq, cond_true, cond_false] at hr; (repeat (obtain ⟨_, hr⟩ := hr)); refine ⟨(by first | exact rfl | (refine aat rfl rfl ?_; assumption)), ?_⟩; simp [Act.eval, *]))
 (hs : aal i 0 V = [] := by rfl) (hd : D[i]? = some oi.dst := by rfl) (hn : aak base D oi need = true := by rfl) : aah P ops Q w0 L V D B a0 i oi := aah.afS hc need args C hf hname hb hop h hv hs hd hn
theorem abR (hc : RC w0 L D B base mx a0) (need : List (Tmp × Option Nat)) {st : Nat} {z o : Obj} (hv : V[i]? = some (.own st z o) := by rfl)
 (h : ∀ (ρ : Nat → Nat) a w, aae a (aaf base V ρ need) → Region.wanted oi (yielded ops a.tmps) = true ∧ (execOp a.eval oi).run P w = .ok (.value (.pointer (some ⟨w.heap.size, 0, none⟩))) (w.alloc z) := by (intro ρ a w hr; (try simp only [aaf, aan, valOf, Sp.val, aae, List.getElem?_cons_zero, List.getElem?_cons_succ, Nat.reduceBEq, cond_true, cond_false] at hr); (repeat (obtain ⟨_, hr⟩ := hr)); refine ⟨(by first | exact rfl | (refine aat rfl rfl ?_; assumption)), ?_⟩; go_simp; first | done | rfl))
 (hs : aal i 0 V = [] := by rfl) (hd : D[i]? = some oi.dst := by rfl) (hn : aak base D oi need = true := by rfl) : aah P ops Q w0 L V D B a0 i oi := aah.make hc need hv rfl (fun ρ a w hr _ => h ρ a w hr) hs hd hn
theorem abX (hc : RC w0 L D B base mx a0) (m : Nat) (need : List (Tmp × Option Nat)) {z o : Obj} (hm : V[m]? = some (.own i z o) := by rfl)
 (h : ∀ (ρ : Nat → Nat) (p : Nat) a (x : World), ρ m = p → aae a (aaf base V ρ need) → p < x.heap.size → Region.wanted oi (yielded ops a.tmps) = true ∧ (execOp a.eval oi).run P (x.pin p z) = .ok .skip (x.pin p o) := by (intro ρ p a x hp hr hx; simp only [aaf, aan, valOf, Sp.val, aae, List.getElem?_cons_zero, List.getElem?_cons_succ, Nat.reduceBEq, cond_true, cond_false, hp] at hr; clear hp; (repeat (obtain ⟨_, hr⟩ := hr)); refine ⟨(by first | exact rfl | (refine aat rfl rfl ?_; assumption)), ?_⟩; go_simp; first | done | rfl))
 (hv : V[i]? = some (.is undef) := by rfl) (hs : aal i 0 V = [m] := by rfl) (hd : D[i]? = some none := by rfl) (hdd : oi.dst = none := by rfl) (hn : aak base D oi need = true := by rfl) (hl : (oi.after.toList.any fun e => e.on == m && Region.binds .any e) = true := by rfl) : aah P ops Q w0 L V D B a0 i oi :=
 aah.fill hc need (fun ρ a w hr hk hz => by
  have hx := (Array.getElem?_eq_some_iff.mp hz).1
  have h1 := h ρ (ρ m) a w rfl hr hx
  rw [aN hz] at h1
  exact h1) hv hm hs hd hdd hn hl
theorem akE (hc : RC w0 L D B base mx a0) (need : List (Tmp × Option Nat)) (hv : V[i]? = some (.is undef) := by rfl)
 (h : ∀ (ρ : Nat → Nat) a, aae a (aaf base V ρ need) → Region.wanted oi (yielded ops a.tmps) = false := by (intro ρ a hr; simp only [aaf, aan, valOf, Sp.val, aae, List.getElem?_cons_zero, List.getElem?_cons_succ, Nat.reduceBEq, cond_true, cond_false] at hr; (repeat (obtain ⟨_, hr⟩ := hr)); refine aml rfl rfl (by assumption) rfl))
 (hs : aal i 0 V = [] := by rfl) (hd : D[i]? = some oi.dst := by rfl) (hn : aak base D oi need = true := by rfl) : aah P ops Q w0 L V D B a0 i oi := aah.off hc need h hv hs hd hn
end
end
end Go.Proofs.YtehfkbaendajbaaGreatDoor
