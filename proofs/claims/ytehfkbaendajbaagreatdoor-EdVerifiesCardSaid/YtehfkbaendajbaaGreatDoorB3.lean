/-
  Shared, part 3: walks and plain laws; each theorem states its own conditions.
-/
import Derived.Test.YtehfkbaendajbaaGreatDoorB1
namespace Go.Proofs.YtehfkbaendajbaaGreatDoor
set_option linter.unusedSimpArgs false
set_option linter.unusedVariables false
set_option maxRecDepth 100000
set_option maxHeartbeats 8000000
section
namespace Num
structure rW (p : Nat) : Prop where
 two : 2 ≤ p
 dvd : ∀ d, d ∣ p → d = 1 ∨ d = p
theorem rW.cop {p a : Nat} (h : rW p) (ha : ¬ p ∣ a) : Nat.Coprime p a := by
 have h1 := h.dvd (Nat.gcd p a) (Nat.gcd_dvd_left p a)
 rcases h1 with h1 | h1
 · exact h1
 · exact absurd (h1 ▸ Nat.gcd_dvd_right p a) ha
theorem rW.Fb {p a b : Nat} (h : rW p) (hd : p ∣ a * b) : p ∣ a ∨ p ∣ b := by
 by_cases ha : p ∣ a
 · exact .inl ha
 · exact .inr ((h.cop ha).dvd_of_dvd_mul_left hd)
theorem wL : ∀ n, 2 ≤ n → ∃ s, rW s ∧ s ∣ n ∧ (s = n ∨ s * s ≤ n) := by
 intro n
 induction n using Nat.strongRecOn with
 | ind n ih =>
  intro hn
  by_cases hp : ∀ d, d ∣ n → d = 1 ∨ d = n
  · exact ⟨n, ⟨hn, hp⟩, Nat.dvd_refl n, .inl rfl⟩
  · obtain ⟨d, hd⟩ := Classical.not_forall.mp hp
    have hdn : d ∣ n := Classical.byContradiction fun h => hd fun h' => absurd h' h
    have hd1 : d ≠ 1 := fun h => hd fun _ => .inl h
    have hd2 : d ≠ n := fun h => hd fun _ => .inr h
    have key : ∃ d, d ∣ n ∧ d ≠ 1 ∧ d < n ∧ d * d ≤ n := by
     obtain ⟨c, hc⟩ := hdn
     have hdp : 0 < d := by rcases Nat.eq_zero_or_pos d with h | h; (subst h; omega); exact h
     have hcp : 0 < c := by rcases Nat.eq_zero_or_pos c with h | h; (subst h; omega); exact h
     by_cases hle : d ≤ c
     · refine ⟨d, ⟨c, hc⟩, hd1, ?_, ?_⟩
       · have := Nat.le_mul_of_pos_right d hcp; omega
       · rw [hc]; exact Nat.mul_le_mul_left d hle
     · refine ⟨c, ⟨d, by rw [Nat.mul_comm]; exact hc⟩, ?_, ?_, ?_⟩
       · intro h; subst h; omega
       · have : c < d := by omega
         have := Nat.le_mul_of_pos_right d hcp; omega
       · rw [hc]; exact Nat.mul_le_mul_right c (by omega)
    obtain ⟨d, hdn, hd1, hlt, hsq⟩ := key
    have h0 : d ≠ 0 := by intro h; subst h; have := Nat.eq_zero_of_zero_dvd hdn; omega
    obtain ⟨s, hs, hsd, hor⟩ := ih d hlt (by omega)
    refine ⟨s, hs, Nat.dvd_trans hsd hdn, .inr ?_⟩
    have aeN : s ≤ d := Nat.le_of_dvd (by omega) hsd
    exact Nat.le_trans (Nat.mul_le_mul aeN aeN) hsq
theorem FV (p : Nat) (f : Nat → Nat) (l : List Nat) : (l.map fun x => f x % p).prod % p = (l.map f).prod % p := by
 induction l with
 | nil => rfl
 | cons x l ih => simp only [List.map_cons, List.prod_cons]; rw [Nat.mul_mod, Nat.mod_mod, ih, ← Nat.mul_mod]
theorem FX (a : Nat) (l : List Nat) : (l.map fun x => a * x).prod = a ^ l.length * l.prod := by
 induction l with
 | nil => simp
 | cons x l ih =>
  simp only [List.map_cons, List.prod_cons, List.length_cons, ih, Nat.pow_succ]
  simp only [Nat.mul_comm, Nat.mul_left_comm, Nat.mul_assoc]
theorem rW.Hw {p : Nat} (h : rW p) : ∀ l : List Nat, p ∣ l.prod → ∃ x ∈ l, p ∣ x
 | [], hd => by
  have := h.two
  have hd' : p ∣ 1 := by simpa using hd
  have := Nat.le_of_dvd (by omega) hd'
  omega
 | x :: l, hd => by
  rw [List.prod_cons] at hd
  rcases h.Fb hd with h1 | h1
  · exact ⟨x, List.mem_cons_self, h1⟩
  · obtain ⟨y, hy, h2⟩ := rW.Hw h l h1
    exact ⟨y, List.mem_cons_of_mem _ hy, h2⟩
theorem Ny {p a x y : Nat} (h : rW p) (ha : ¬ p ∣ a) (hx : x < p) (hy : y < p) (he : a * x % p = a * y % p) : x = y := by
 have aux : ∀ x y, x < p → y < p → x ≤ y → a * x % p = a * y % p → x = y := by
  intro x y _ hy hle he
  have hd : p ∣ a * (y - x) := by
   rw [Nat.mul_sub]
   have hm := Nat.sub_mod_eq_zero_of_mod_eq he.symm
   exact Nat.dvd_of_mod_eq_zero hm
  rcases h.Fb hd with h1 | h1
  · exact absurd h1 ha
  · rcases Nat.eq_zero_or_pos (y - x) with h2 | h2
    · omega
    · have := Nat.le_of_dvd h2 h1; omega
 by_cases hle : x ≤ y
 · exact aux x y hx hy hle he
 · exact (aux y x hy hx (by omega) he.symm).symm
theorem zu : ∀ l' l : List Nat, l'.Nodup → (∀ x, x ∈ l' → x ∈ l) → l.length ≤ l'.length → l'.Perm l
 | [], l, _, _, h => by
  have : l = [] := List.eq_nil_of_length_eq_zero (by simpa using h)
  subst this
  exact List.Perm.refl _
 | x :: l', l, hn, hs, h => by
  have hx : x ∈ l := hs x List.mem_cons_self
  obtain ⟨hxn, hn'⟩ := List.nodup_cons.mp hn
  have hp := List.perm_cons_erase hx
  have hlen := hp.length_eq
  have ih := zu l' (l.erase x) hn' (by
   intro y hy
   exact (List.mem_erase_of_ne (by intro e; subst e; exact hxn hy)).mpr (hs y (List.mem_cons_of_mem _ hy))) (by simp only [List.length_cons] at h hlen; omega)
  exact (List.Perm.cons x ih).trans hp.symm
theorem rW.J3 {p : Nat} (h : rW p) (a : Nat) (ha : ¬ p ∣ a) : a ^ (p - 1) % p = 1 := by
 have h2 := h.two
 let l := (List.range (p - 1)).map (· + 1)
 have hmem : ∀ x, x ∈ l ↔ 1 ≤ x ∧ x < p := by
  intro x
  simp only [l, List.mem_map, List.mem_range]
  constructor
  · rintro ⟨y, hy, rfl⟩; omega
  · intro hx; exact ⟨x - 1, by omega, by omega⟩
 have hnd : l.Nodup := by
  refine (List.pairwise_map).mpr (List.Pairwise.imp ?_ List.nodup_range)
  intro x y hxy he
  exact hxy (by omega)
 have hne : ∀ x, 1 ≤ x → x < p → a * x % p ≠ 0 := by
  intro x h1 hx he
  rcases h.Fb (Nat.dvd_of_mod_eq_zero he) with h3 | h3
  · exact ha h3
  · have := Nat.le_of_dvd (by omega) h3; omega
 have hperm : (l.map fun x => a * x % p).Perm l := by
  have hnd' : (l.map fun x => a * x % p).Nodup := by
   refine (List.pairwise_map).mpr (List.Pairwise.imp_of_mem ?_ hnd)
   intro x y hx hy hxy he
   exact hxy (Ny h ha ((hmem x).mp hx).2 ((hmem y).mp hy).2 he)
  have hsub : ∀ x, x ∈ (l.map fun x => a * x % p) → x ∈ l := by
   intro x hx
   obtain ⟨y, hy, rfl⟩ := List.mem_map.mp hx
   have hy' := (hmem y).mp hy
   have := hne y hy'.1 hy'.2
   exact (hmem _).mpr ⟨by omega, Nat.mod_lt _ (by omega)⟩
  exact zu _ _ hnd' hsub (by simp)
 have hprod := hperm.prod_nat
 have e1 : a ^ (p - 1) * l.prod % p = l.prod % p := by
  have hlen : l.length = p - 1 := by simp [l]
  rw [← hlen, ← FX, ← FV, hprod]
 have hnp : ¬ p ∣ l.prod := by
  intro hd
  obtain ⟨x, hx, hdx⟩ := h.Hw l hd
  have hx' := (hmem x).mp hx
  have := Nat.le_of_dvd (by omega) hdx
  omega
 have hlt : a ^ (p - 1) % p < p := Nat.mod_lt _ (by omega)
 refine Ny h hnp hlt (by omega) ?_
 rw [Nat.mul_one, Nat.mul_mod, Nat.mod_mod, ← Nat.mul_mod, Nat.mul_comm]
 exact e1
theorem YI (s b : Nat) : ∀ m n, b ^ m % s = 1 → b ^ n % s = 1 → b ^ Nat.gcd m n % s = 1 := by
 intro m n
 induction m, n using Nat.gcd.induction with
 | H0 n => intro _ hn; simpa using hn
 | H1 m n hm ih =>
  intro h1 h2
  rw [Nat.gcd_rec]
  refine ih ?_ h1
  have e : b ^ n = b ^ (m * (n / m)) * b ^ (n % m) := by rw [← Nat.pow_add, Nat.div_add_mod]
  rw [e, Nat.pow_mul, Nat.mul_mod, Nat.pow_mod, h1] at h2
  have hs : 1 % s = 1 := by
   by_cases h : s = 1
   · subst h; simp [Nat.mod_one] at h1
   · rcases Nat.eq_zero_or_pos s with h0 | h0
     · subst h0; rfl
     · exact Nat.mod_eq_of_lt (by omega)
  rw [Nat.one_pow, hs, Nat.one_mul, Nat.mod_mod] at h2
  exact h2
def pm (m : Nat) : Nat → Nat → Nat → Nat → Nat
 | 0, _, _, acc => acc
 | f + 1, b, e, acc => pm m f (b * b % m) (e / 2) (cond (Nat.beq (e % 2) 1) (acc * b % m) acc)
theorem Vo (m : Nat) : ∀ f b e acc, e < 2 ^ f → pm m f b e acc % m = acc * b ^ e % m
 | 0, b, e, acc, h => by
  have : e = 0 := by simpa using h
  subst this
  simp [pm]
 | f + 1, b, e, acc, h => by
  have ih := Vo m f (b * b % m) (e / 2) (cond (Nat.beq (e % 2) 1) (acc * b % m) acc) (by rw [Nat.pow_succ] at h; omega)
  rw [pm, ih, Nat.mul_mod, ← Nat.pow_mod, ← Nat.pow_two, ← Nat.pow_mul]
  have hd := Nat.div_add_mod e 2
  rcases Nat.mod_two_eq_zero_or_one e with h2 | h2
  · rw [h2, Nat.add_zero] at hd
    simp only [h2, hd]
    rw [← Nat.mul_mod]
    rfl
  · rw [h2] at hd
    simp only [h2]
    have e2 : acc * b ^ e = acc * b * b ^ (2 * (e / 2)) := by
     conv => lhs; rw [← hd, Nat.pow_succ]
     simp only [Nat.mul_comm, Nat.mul_left_comm, Nat.mul_assoc]
    rw [e2]
    show acc * b % m % m * _ % m = _
    rw [Nat.mod_mod, ← Nat.mul_mod]
theorem S9 {n q a s : Nat} (hq : rW q) (hqn : q ∣ n - 1) (h1 : a ^ (n - 1) % n = 1) (hg : Nat.gcd (a ^ ((n - 1) / q) % n + (n - 1)) n = 1) (hs : rW s) (hsn : s ∣ n) (hn : 2 ≤ n) : q ∣ s - 1 := by
 have hs2 := hs.two
 apply Classical.byContradiction
 intro hqs
 have red : ∀ x, x % n % s = x % s := fun x => Nat.mod_mod_of_dvd x hsn
 have has : a ^ (n - 1) % s = 1 := by rw [← red, h1]; exact Nat.mod_eq_of_lt (by omega)
 have hna : ¬ s ∣ a := by
  intro hd
  have : s ∣ a ^ (n - 1) := Nat.dvd_trans hd (by
   obtain ⟨k, hk⟩ : ∃ k, n - 1 = k + 1 := ⟨n - 2, by omega⟩
   rw [hk, Nat.pow_succ]; exact Nat.dvd_mul_left _ _)
  have := Nat.mod_eq_zero_of_dvd this
  omega
 have hf := hs.J3 a hna
 have hb : (a ^ ((n - 1) / q)) ^ q % s = 1 := by rw [← Nat.pow_mul, Nat.div_mul_cancel hqn]; exact has
 have hb2 : (a ^ ((n - 1) / q)) ^ (s - 1) % s = 1 := by
  rw [← Nat.pow_mul, Nat.mul_comm, Nat.pow_mul, Nat.pow_mod, hf, Nat.one_pow]
  exact Nat.mod_eq_of_lt (by omega)
 have hgc : Nat.gcd q (s - 1) = 1 := hq.cop hqs
 have hb3 := YI s _ q (s - 1) hb hb2
 rw [hgc, Nat.pow_one] at hb3
 have hd : s ∣ Nat.gcd (a ^ ((n - 1) / q) % n + (n - 1)) n := by
  refine Nat.dvd_gcd ?_ hsn
  apply Nat.dvd_of_mod_eq_zero
  have hle : 1 ≤ n := by omega
  obtain ⟨c, hc⟩ := hsn
  have hcp : 0 < c := by rcases Nat.eq_zero_or_pos c with h | h; (subst h; omega); exact h
  rw [Nat.add_mod, red, hb3, Nat.add_mod_mod]
  have : 1 + (n - 1) = s * c := by omega
  rw [this]
  exact Nat.mul_mod_right s c
 rw [hg] at hd
 have := Nat.le_of_dvd (by omega) hd
 omega
theorem Vw {n F : Nat} (hn : 2 ≤ n) (hF : ∀ s, rW s → s ∣ n → F ∣ s - 1) (hb : n < (F + 1) * (F + 1)) : rW n := by
 obtain ⟨s, hs, hsn, hor⟩ := wL n hn
 rcases hor with h | h
 · rw [← h]; exact hs
 · have hd := hF s hs hsn
   have hs2 := hs.two
   have hle := Nat.le_of_dvd (by omega) hd
   have := Nat.mul_le_mul (show F + 1 ≤ s by omega) (show F + 1 ≤ s by omega)
   omega
theorem KU {q r m : Nat} (hc : Nat.Coprime q r) (h1 : q ∣ m) (h2 : r ∣ m) : q * r ∣ m := Nat.Coprime.mul_dvd_of_dvd_of_dvd hc h1 h2
def GL (n q a : Nat) : Bool := Nat.beq ((n - 1) % q) 0 && Nat.beq (pm n 256 a (n - 1) 1) 1 && Nat.beq (Nat.gcd (pm n 256 a ((n - 1) / q) 1 + (n - 1)) n) 1
theorem BD {n q a : Nat} (hn : 2 ≤ n) (hlt : n < 2 ^ 256) (hq : rW q) (h : GL n q a = true) (s : Nat) (hs : rW s) (hsn : s ∣ n) : q ∣ s - 1 := by
 simp only [GL, Bool.and_eq_true] at h
 obtain ⟨⟨h1, h2⟩, h3⟩ := h
 replace h1 := Nat.eq_of_beq_eq_true h1
 replace h2 := Nat.eq_of_beq_eq_true h2
 replace h3 := Nat.eq_of_beq_eq_true h3
 have e1 : ∀ e, e < 2 ^ 256 → pm n 256 a e 1 % n = a ^ e % n := fun e he => by rw [Vo n 256 a e 1 he, Nat.one_mul]
 refine S9 (a := a) hq (Nat.dvd_of_mod_eq_zero h1) ?_ ?_ hs hsn hn
 · rw [← e1 _ (by omega), h2]; exact Nat.mod_eq_of_lt (by omega)
 · have hlt2 : (n - 1) / q < 2 ^ 256 := Nat.lt_of_le_of_lt (Nat.div_le_self _ _) (by omega)
   have key : ∀ x k, Nat.gcd (x % n + k) n = Nat.gcd (x + k) n := fun x k => by
    rw [Nat.gcd_comm, Nat.gcd_rec, Nat.mod_add_mod, ← Nat.gcd_rec, Nat.gcd_comm]
   rw [← e1 _ hlt2, key]
   exact h3
def trial (n : Nat) : Nat → Nat → Bool
 | 0, _ => true
 | f + 1, d => cond (Nat.beq (n % d) 0) false (trial n f (d + 1))
theorem CJ (n : Nat) : ∀ f d, trial n f d = true → ∀ x, d ≤ x → x < d + f → n % x ≠ 0
 | 0, d, _, x, h1, h2 => by omega
 | f + 1, d, h, x, h1, h2 => by
  rw [trial] at h
  by_cases h0 : n % d = 0
  · rw [h0] at h; simp at h
  · have hb : Nat.beq (n % d) 0 = false := by
     cases hc : Nat.beq (n % d) 0 with
     | false => rfl
     | true => exact absurd (Nat.eq_of_beq_eq_true hc) h0
    rw [hb] at h
    rcases Nat.eq_or_lt_of_le h1 with h3 | h3
    · rw [← h3]; exact h0
    · exact CJ n f (d + 1) h x h3 (by omega)
theorem lQ {n f : Nat} (hn : 2 ≤ n) (h : trial n f 2 = true) (hb : n < (f + 2) * (f + 2)) : rW n := by
 obtain ⟨s, hs, hsn, hor⟩ := wL n hn
 rcases hor with h1 | h1
 · rw [← h1]; exact hs
 · have hs2 := hs.two
   have hlt : s < f + 2 := by
    apply Classical.byContradiction
    intro hge
    have := Nat.mul_le_mul (show f + 2 ≤ s by omega) (show f + 2 ≤ s by omega)
    omega
   exact absurd (Nat.mod_eq_zero_of_dvd hsn) (CJ n f 2 h s hs2 (by omega))
def p : Nat := 57896044618658097711785492504343953926634992332820282019728792003956564819949
theorem IV : rW 8574133 := lQ (f := 2930) (by decide) (by decide +kernel) (by decide)
theorem YJ : rW 127 := lQ (f := 12) (by decide) (by decide +kernel) (by decide)
theorem La : rW 569003 := lQ (f := 760) (by decide) (by decide +kernel) (by decide)
theorem KZ : rW 430751 := lQ (f := 660) (by decide) (by decide +kernel) (by decide)
theorem Vu : rW 4153 := lQ (f := 70) (by decide) (by decide +kernel) (by decide)
theorem FU {n q : Nat} (a : Nat) (hn : 2 ≤ n) (hlt : n < 2 ^ 256) (hq : rW q) (h : GL n q a = true) (hb : n < (q + 1) * (q + 1)) : rW n :=
 Vw hn (fun s hs hsn => BD hn hlt hq h s hs hsn) hb
theorem Ah {n q r : Nat} (a : Nat) (hn : 2 ≤ n) (hlt : n < 2 ^ 256) (hq : rW q) (hr : rW r) (hc : Nat.gcd q r = 1) (h : GL n q a = true) (h' : GL n r a = true) (hb : n < (q * r + 1) * (q * r + 1)) : rW n :=
 Vw hn (fun s hs hsn => KU hc (BD hn hlt hq h s hs hsn) (BD hn hlt hr h' s hs hsn)) hb
theorem BG : rW 2773320623 := FU 2 (by decide) (by decide) La (by decide +kernel) (by decide)
theorem zO : rW 72106336199 := FU 2 (by decide) (by decide) BG (by decide +kernel) (by decide)
theorem afv : rW 1919519569386763 := Ah 2 (by decide) (by decide) IV YJ (by decide +kernel) (by decide +kernel) (by decide +kernel) (by decide)
theorem afu : rW 75445702479781427272750846543864801 := Ah 7 (by decide) (by decide) afv zO (by decide +kernel) (by decide +kernel) (by decide +kernel) (by decide)
theorem afw : rW 31757755568855353 := Ah 2 (by decide) (by decide) KZ Vu (by decide +kernel) (by decide +kernel) (by decide +kernel) (by decide)
theorem aft : rW 74058212732561358302231226437062788676166966415465897661863160754340907 := Ah 2 (by decide) (by decide) afu afw (by decide +kernel) (by decide +kernel) (by decide +kernel) (by decide)
theorem Vx : rW p := FU 2 (by decide) (by decide) aft (by decide +kernel) (by decide)
end Num
end
section
open Go.RowKit
def Rd (w : World) (k : IntKind) (A : Option Addr) (xs : List Nat) : Prop :=
 ∀ i, (h : i < xs.length) → ∃ b off, A = some ⟨b, off, none⟩ ∧ w.cell? ⟨b, off + i, none⟩ = some (.int k ((xs[i]'h : Nat) : Int))
theorem Rd.nil (w : World) (k : IntKind) (A : Option Addr) : Rd w k A [] := fun i h => by simp at h
theorem Rd.mono {w w' : World} {k : IntKind} {A : Option Addr} {xs : List Nat} (h : Rd w k A xs) {B : Nat} (hb : Below B w w') (hB : w.heap.size ≤ B) : Rd w' k A xs := fun i hi => by
 obtain ⟨b, off, hA, hc⟩ := h i hi
 have hl := World.block_lt_of_cell? w _ hc
 exact ⟨b, off, hA, (hb.cell (p := ⟨b, off + i, none⟩) (Nat.lt_of_lt_of_le hl hB)).trans hc⟩
theorem Rd.place {w : World} {k : IntKind} {A : Option Addr} {xs : List Nat} (h : Rd w k A xs) (h0 : 0 < xs.length) : ∃ b off, A = some ⟨b, off, none⟩ ∧ b < w.heap.size ∧ ∀ i, (hi : i < xs.length) → w.cell? ⟨b, off + i, none⟩ = some (.int k ((xs[i]'hi : Nat) : Int)) := by
 obtain ⟨b, off, rfl, hc⟩ := h 0 h0
 refine ⟨b, off, rfl, World.block_lt_of_cell? w _ hc, fun i hi => ?_⟩
 obtain ⟨b', off', he, hc'⟩ := h i hi
 simp only [Option.some.injEq, Addr.mk.injEq] at he
 obtain ⟨rfl, rfl, _⟩ := he
 exact hc'
theorem jC {w : World} {k : IntKind} {b : Nat} {cs : Array Value} {t : TypeId} {xs : List Nat} (h : w.heap[b]? = some (.cells cs t)) (hc : ∀ i, (hi : i < xs.length) → cs[i]? = some (.int k ((xs[i]'hi : Nat) : Int))) : Rd w k (some ⟨b, 0, none⟩) xs := fun i hi => by
 refine ⟨b, 0, rfl, ?_⟩
 simp only [World.cell?, h, Nat.zero_add, hc i hi]
 simp
def bW : List Nat → Nat
 | [] => 0
 | b :: l => b + 256 * bW l
theorem oD : ∀ l : List Nat, (∀ b ∈ l, b < 256) → bW l < 256 ^ l.length
 | [], _ => by simp [bW]
 | b :: l, h => by
  have h1 := oD l (fun x hx => h x (List.mem_cons_of_mem _ hx))
  have h2 := h b List.mem_cons_self
  simp only [bW, List.length_cons, Nat.pow_succ]
  omega
theorem xB : ∀ (l : List Nat) (j : Nat), (∀ b ∈ l, b < 256) → bW l / 256 ^ j = bW (l.drop j)
 | l, 0, _ => by simp
 | [], j + 1, _ => by simp [bW]
 | b :: l, j + 1, h => by
  have h1 := xB l j (fun x hx => h x (List.mem_cons_of_mem _ hx))
  have h2 := h b List.mem_cons_self
  rw [List.drop_succ_cons, ← h1, Nat.pow_succ, Nat.mul_comm (256 ^ j) 256, ← Nat.div_div_eq_div_mul]
  congr 1
  simp only [bW]
  omega
theorem Ns (l : List Nat) (h : ∀ b ∈ l, b < 256) : bW l / 2 ^ (8 * l.length) = 0 := by
 rw [Nat.pow_mul]
 exact Nat.div_eq_of_lt (oD l h)
theorem xA (l : List Nat) (h : ∀ b ∈ l, b < 256) (i : Nat) (hi : i / 8 < l.length) : bW l / 2 ^ i % 2 = l[i / 8] / 2 ^ (i % 8) % 2 := by
 have e : 2 ^ i = 256 ^ (i / 8) * 2 ^ (i % 8) := by
  rw [show (256 : Nat) = 2 ^ 8 from rfl, ← Nat.pow_mul, ← Nat.pow_add, Nat.div_add_mod]
 rw [e, ← Nat.div_div_eq_div_mul, xB l _ h, List.drop_eq_getElem_cons hi]
 simp only [bW]
 have hm : i % 8 < 8 := Nat.mod_lt _ (by decide)
 generalize l[i / 8] = x
 generalize bW (List.drop (i / 8 + 1) l) = y
 have : i % 8 = 0 ∨ i % 8 = 1 ∨ i % 8 = 2 ∨ i % 8 = 3 ∨ i % 8 = 4 ∨ i % 8 = 5 ∨ i % 8 = 6 ∨ i % 8 = 7 := by omega
 rcases this with h1 | h1 | h1 | h1 | h1 | h1 | h1 | h1 <;> rw [h1] <;> simp only [Nat.reducePow] <;> omega
end
end Go.Proofs.YtehfkbaendajbaaGreatDoor
