/-
  Plain arithmetic: primality by certificates, Fermat's theorem, powers modulo a number. No program in sight.
-/
namespace Go.Proofs.YtljolpdpblohcaaDoor.Num

/-- A prime number. -/
structure Prm (p : Nat) : Prop where
  two : 2 ≤ p
  dvd : ∀ d, d ∣ p → d = 1 ∨ d = p

theorem Prm.cop {p a : Nat} (h : Prm p) (ha : ¬ p ∣ a) : Nat.Coprime p a := by
  have h1 := h.dvd (Nat.gcd p a) (Nat.gcd_dvd_left p a)
  rcases h1 with h1 | h1
  · exact h1
  · exact absurd (h1 ▸ Nat.gcd_dvd_right p a) ha

theorem Prm.euclid {p a b : Nat} (h : Prm p) (hd : p ∣ a * b) : p ∣ a ∨ p ∣ b := by
  by_cases ha : p ∣ a
  · exact .inl ha
  · exact .inr ((h.cop ha).dvd_of_dvd_mul_left hd)

theorem exists_prime : ∀ n, 2 ≤ n → ∃ s, Prm s ∧ s ∣ n ∧ (s = n ∨ s * s ≤ n) := by
  intro n
  induction n using Nat.strongRecOn with
  | ind n ih =>
    intro hn
    by_cases hp : ∀ d, d ∣ n → d = 1 ∨ d = n
    · exact ⟨n, ⟨hn, hp⟩, Nat.dvd_refl n, .inl rfl⟩
    · obtain ⟨d, hd⟩ := Classical.not_forall.mp hp
      have hdn : d ∣ n := Classical.byContradiction fun h => hd fun h' => absurd h' h
      have hd1 : d ≠ 1 := fun h => hd fun _ => .inl h
      have hd2 : d ≠ n := fun h => hd fun _ => .inr h
      -- a divisor whose square is at most n
      have key : ∃ d, d ∣ n ∧ d ≠ 1 ∧ d < n ∧ d * d ≤ n := by
        obtain ⟨c, hc⟩ := hdn
        have hdp : 0 < d := by rcases Nat.eq_zero_or_pos d with h | h; (subst h; omega); exact h
        have hcp : 0 < c := by rcases Nat.eq_zero_or_pos c with h | h; (subst h; omega); exact h
        by_cases hle : d ≤ c
        · refine ⟨d, ⟨c, hc⟩, hd1, ?_, ?_⟩
          · have := Nat.le_mul_of_pos_right d hcp; omega
          · rw [hc]; exact Nat.mul_le_mul_left d hle
        · refine ⟨c, ⟨d, by rw [Nat.mul_comm]; exact hc⟩, ?_, ?_, ?_⟩
          · intro h; subst h; omega
          · have : c < d := by omega
            have := Nat.le_mul_of_pos_right d hcp; omega
          · rw [hc]; exact Nat.mul_le_mul_right c (by omega)
      obtain ⟨d, hdn, hd1, hlt, hsq⟩ := key
      have h0 : d ≠ 0 := by intro h; subst h; have := Nat.eq_zero_of_zero_dvd hdn; omega
      obtain ⟨s, hs, hsd, hor⟩ := ih d hlt (by omega)
      refine ⟨s, hs, Nat.dvd_trans hsd hdn, .inr ?_⟩
      have hsle : s ≤ d := Nat.le_of_dvd (by omega) hsd
      exact Nat.le_trans (Nat.mul_le_mul hsle hsle) hsq

/-! ### Fermat -/

theorem prod_map_mod (p : Nat) (f : Nat → Nat) (l : List Nat) : (l.map fun x => f x % p).prod % p = (l.map f).prod % p := by
  induction l with
  | nil => rfl
  | cons x l ih => simp only [List.map_cons, List.prod_cons]; rw [Nat.mul_mod, Nat.mod_mod, ih, ← Nat.mul_mod]

theorem prod_map_mul (a : Nat) (l : List Nat) : (l.map fun x => a * x).prod = a ^ l.length * l.prod := by
  induction l with
  | nil => simp
  | cons x l ih =>
    simp only [List.map_cons, List.prod_cons, List.length_cons, ih, Nat.pow_succ]
    simp only [Nat.mul_comm, Nat.mul_left_comm, Nat.mul_assoc]

theorem Prm.dvd_prod {p : Nat} (h : Prm p) : ∀ l : List Nat, p ∣ l.prod → ∃ x ∈ l, p ∣ x
  | [], hd => by
    have := h.two
    have hd' : p ∣ 1 := by simpa using hd
    have := Nat.le_of_dvd (by omega) hd'
    omega
  | x :: l, hd => by
    rw [List.prod_cons] at hd
    rcases h.euclid hd with h1 | h1
    · exact ⟨x, List.mem_cons_self, h1⟩
    · obtain ⟨y, hy, h2⟩ := Prm.dvd_prod h l h1
      exact ⟨y, List.mem_cons_of_mem _ hy, h2⟩

theorem mod_inj {p a x y : Nat} (h : Prm p) (ha : ¬ p ∣ a) (hx : x < p) (hy : y < p) (he : a * x % p = a * y % p) : x = y := by
  have aux : ∀ x y, x < p → y < p → x ≤ y → a * x % p = a * y % p → x = y := by
    intro x y _ hy hle he
    have hd : p ∣ a * (y - x) := by
      rw [Nat.mul_sub]
      have hm := Nat.sub_mod_eq_zero_of_mod_eq he.symm
      exact Nat.dvd_of_mod_eq_zero hm
    rcases h.euclid hd with h1 | h1
    · exact absurd h1 ha
    · rcases Nat.eq_zero_or_pos (y - x) with h2 | h2
      · omega
      · have := Nat.le_of_dvd h2 h1; omega
  by_cases hle : x ≤ y
  · exact aux x y hx hy hle he
  · exact (aux y x hy hx (by omega) he.symm).symm

theorem perm_of_sub : ∀ l' l : List Nat, l'.Nodup → (∀ x, x ∈ l' → x ∈ l) → l.length ≤ l'.length → l'.Perm l
  | [], l, _, _, h => by
    have : l = [] := List.eq_nil_of_length_eq_zero (by simpa using h)
    subst this
    exact List.Perm.refl _
  | x :: l', l, hn, hs, h => by
    have hx : x ∈ l := hs x List.mem_cons_self
    obtain ⟨hxn, hn'⟩ := List.nodup_cons.mp hn
    have hp := List.perm_cons_erase hx
    have hlen := hp.length_eq
    have ih := perm_of_sub l' (l.erase x) hn' (by
      intro y hy
      exact (List.mem_erase_of_ne (by intro e; subst e; exact hxn hy)).mpr (hs y (List.mem_cons_of_mem _ hy))) (by simp only [List.length_cons] at h hlen; omega)
    exact (List.Perm.cons x ih).trans hp.symm

/-- To p less 1, whatever is not 0 is 1. -/
theorem Prm.fermat {p : Nat} (h : Prm p) (a : Nat) (ha : ¬ p ∣ a) : a ^ (p - 1) % p = 1 := by
  have h2 := h.two
  let l := (List.range (p - 1)).map (· + 1)
  have hmem : ∀ x, x ∈ l ↔ 1 ≤ x ∧ x < p := by
    intro x
    simp only [l, List.mem_map, List.mem_range]
    constructor
    · rintro ⟨y, hy, rfl⟩; omega
    · intro hx; exact ⟨x - 1, by omega, by omega⟩
  have hnd : l.Nodup := by
    refine (List.pairwise_map).mpr (List.Pairwise.imp ?_ List.nodup_range)
    intro x y hxy he
    exact hxy (by omega)
  have hne : ∀ x, 1 ≤ x → x < p → a * x % p ≠ 0 := by
    intro x h1 hx he
    rcases h.euclid (Nat.dvd_of_mod_eq_zero he) with h3 | h3
    · exact ha h3
    · have := Nat.le_of_dvd (by omega) h3; omega
  have hperm : (l.map fun x => a * x % p).Perm l := by
    have hnd' : (l.map fun x => a * x % p).Nodup := by
      refine (List.pairwise_map).mpr (List.Pairwise.imp_of_mem ?_ hnd)
      intro x y hx hy hxy he
      exact hxy (mod_inj h ha ((hmem x).mp hx).2 ((hmem y).mp hy).2 he)
    have hsub : ∀ x, x ∈ (l.map fun x => a * x % p) → x ∈ l := by
      intro x hx
      obtain ⟨y, hy, rfl⟩ := List.mem_map.mp hx
      have hy' := (hmem y).mp hy
      have := hne y hy'.1 hy'.2
      exact (hmem _).mpr ⟨by omega, Nat.mod_lt _ (by omega)⟩
    exact perm_of_sub _ _ hnd' hsub (by simp)
  have hprod := hperm.prod_nat
  have e1 : a ^ (p - 1) * l.prod % p = l.prod % p := by
    have hlen : l.length = p - 1 := by simp [l]
    rw [← hlen, ← prod_map_mul, ← prod_map_mod, hprod]
  have hnp : ¬ p ∣ l.prod := by
    intro hd
    obtain ⟨x, hx, hdx⟩ := h.dvd_prod l hd
    have hx' := (hmem x).mp hx
    have := Nat.le_of_dvd (by omega) hdx
    omega
  have hlt : a ^ (p - 1) % p < p := Nat.mod_lt _ (by omega)
  refine mod_inj h hnp hlt (by omega) ?_
  rw [Nat.mul_one, Nat.mul_mod, Nat.mod_mod, ← Nat.mul_mod, Nat.mul_comm]
  exact e1

/-! ### powers modulo a number; certificates -/

theorem pow_gcd (s b : Nat) : ∀ m n, b ^ m % s = 1 → b ^ n % s = 1 → b ^ Nat.gcd m n % s = 1 := by
  intro m n
  induction m, n using Nat.gcd.induction with
  | H0 n => intro _ hn; simpa using hn
  | H1 m n hm ih =>
    intro h1 h2
    rw [Nat.gcd_rec]
    refine ih ?_ h1
    have e : b ^ n = b ^ (m * (n / m)) * b ^ (n % m) := by rw [← Nat.pow_add, Nat.div_add_mod]
    rw [e, Nat.pow_mul, Nat.mul_mod, Nat.pow_mod, h1] at h2
    have hs : 1 % s = 1 := by
      by_cases h : s = 1
      · subst h; simp [Nat.mod_one] at h1
      · rcases Nat.eq_zero_or_pos s with h0 | h0
        · subst h0; rfl
        · exact Nat.mod_eq_of_lt (by omega)
    rw [Nat.one_pow, hs, Nat.one_mul, Nat.mod_mod] at h2
    exact h2

/-- acc times b to e, modulo m: f bits of e are looked at. -/
def pm (m : Nat) : Nat → Nat → Nat → Nat → Nat
  | 0, _, _, acc => acc
  | f + 1, b, e, acc => pm m f (b * b % m) (e / 2) (cond (Nat.beq (e % 2) 1) (acc * b % m) acc)

theorem pm_eq (m : Nat) : ∀ f b e acc, e < 2 ^ f → pm m f b e acc % m = acc * b ^ e % m
  | 0, b, e, acc, h => by
    have : e = 0 := by simpa using h
    subst this
    simp [pm]
  | f + 1, b, e, acc, h => by
    have ih := pm_eq m f (b * b % m) (e / 2) (cond (Nat.beq (e % 2) 1) (acc * b % m) acc) (by rw [Nat.pow_succ] at h; omega)
    rw [pm, ih, Nat.mul_mod, ← Nat.pow_mod, ← Nat.pow_two, ← Nat.pow_mul]
    have hd := Nat.div_add_mod e 2
    rcases Nat.mod_two_eq_zero_or_one e with h2 | h2
    · rw [h2, Nat.add_zero] at hd
      simp only [h2, hd]
      rw [← Nat.mul_mod]
      rfl
    · rw [h2] at hd
      simp only [h2]
      have e2 : acc * b ^ e = acc * b * b ^ (2 * (e / 2)) := by
        conv => lhs; rw [← hd, Nat.pow_succ]
        simp only [Nat.mul_comm, Nat.mul_left_comm, Nat.mul_assoc]
      rw [e2]
      show acc * b % m % m * _ % m = _
      rw [Nat.mod_mod, ← Nat.mul_mod]

/-- A prime q that divides s less 1, for each prime divisor s of n: a to the (n - 1) / q is no 1 modulo any of them. -/
theorem div_pred {n q a s : Nat} (hq : Prm q) (hqn : q ∣ n - 1) (h1 : a ^ (n - 1) % n = 1) (hg : Nat.gcd (a ^ ((n - 1) / q) % n + (n - 1)) n = 1) (hs : Prm s) (hsn : s ∣ n) (hn : 2 ≤ n) : q ∣ s - 1 := by
  have hs2 := hs.two
  apply Classical.byContradiction
  intro hqs
  have red : ∀ x, x % n % s = x % s := fun x => Nat.mod_mod_of_dvd x hsn
  have has : a ^ (n - 1) % s = 1 := by rw [← red, h1]; exact Nat.mod_eq_of_lt (by omega)
  have hna : ¬ s ∣ a := by
    intro hd
    have : s ∣ a ^ (n - 1) := Nat.dvd_trans hd (by
      obtain ⟨k, hk⟩ : ∃ k, n - 1 = k + 1 := ⟨n - 2, by omega⟩
      rw [hk, Nat.pow_succ]; exact Nat.dvd_mul_left _ _)
    have := Nat.mod_eq_zero_of_dvd this
    omega
  have hf := hs.fermat a hna
  -- b = a to the (n - 1) / q
  have hb : (a ^ ((n - 1) / q)) ^ q % s = 1 := by rw [← Nat.pow_mul, Nat.div_mul_cancel hqn]; exact has
  have hb2 : (a ^ ((n - 1) / q)) ^ (s - 1) % s = 1 := by
    rw [← Nat.pow_mul, Nat.mul_comm, Nat.pow_mul, Nat.pow_mod, hf, Nat.one_pow]
    exact Nat.mod_eq_of_lt (by omega)
  have hgc : Nat.gcd q (s - 1) = 1 := hq.cop hqs
  have hb3 := pow_gcd s _ q (s - 1) hb hb2
  rw [hgc, Nat.pow_one] at hb3
  -- s divides both
  have hd : s ∣ Nat.gcd (a ^ ((n - 1) / q) % n + (n - 1)) n := by
    refine Nat.dvd_gcd ?_ hsn
    apply Nat.dvd_of_mod_eq_zero
    have hle : 1 ≤ n := by omega
    obtain ⟨c, hc⟩ := hsn
    have hcp : 0 < c := by rcases Nat.eq_zero_or_pos c with h | h; (subst h; omega); exact h
    rw [Nat.add_mod, red, hb3, Nat.add_mod_mod]
    have : 1 + (n - 1) = s * c := by omega
    rw [this]
    exact Nat.mul_mod_right s c
  rw [hg] at hd
  have := Nat.le_of_dvd (by omega) hd
  omega

/-- A certificate: F divides s less 1 for each prime divisor s of n, and F is great enough. -/
theorem prm_of {n F : Nat} (hn : 2 ≤ n) (hF : ∀ s, Prm s → s ∣ n → F ∣ s - 1) (hb : n < (F + 1) * (F + 1)) : Prm n := by
  obtain ⟨s, hs, hsn, hor⟩ := exists_prime n hn
  rcases hor with h | h
  · rw [← h]; exact hs
  · have hd := hF s hs hsn
    have hs2 := hs.two
    have hle := Nat.le_of_dvd (by omega) hd
    have := Nat.mul_le_mul (show F + 1 ≤ s by omega) (show F + 1 ≤ s by omega)
    omega

theorem mul_dvd_of {q r m : Nat} (hc : Nat.Coprime q r) (h1 : q ∣ m) (h2 : r ∣ m) : q * r ∣ m := Nat.Coprime.mul_dvd_of_dvd_of_dvd hc h1 h2

/-- One prime q of n - 1, and what is to be reckoned. -/
def cert1 (n q a : Nat) : Bool := Nat.beq ((n - 1) % q) 0 && Nat.beq (pm n 256 a (n - 1) 1) 1 && Nat.beq (Nat.gcd (pm n 256 a ((n - 1) / q) 1 + (n - 1)) n) 1

theorem of_cert1 {n q a : Nat} (hn : 2 ≤ n) (hlt : n < 2 ^ 256) (hq : Prm q) (h : cert1 n q a = true) (s : Nat) (hs : Prm s) (hsn : s ∣ n) : q ∣ s - 1 := by
  simp only [cert1, Bool.and_eq_true] at h
  obtain ⟨⟨h1, h2⟩, h3⟩ := h
  replace h1 := Nat.eq_of_beq_eq_true h1
  replace h2 := Nat.eq_of_beq_eq_true h2
  replace h3 := Nat.eq_of_beq_eq_true h3
  have e1 : ∀ e, e < 2 ^ 256 → pm n 256 a e 1 % n = a ^ e % n := fun e he => by rw [pm_eq n 256 a e 1 he, Nat.one_mul]
  refine div_pred (a := a) hq (Nat.dvd_of_mod_eq_zero h1) ?_ ?_ hs hsn hn
  · rw [← e1 _ (by omega), h2]; exact Nat.mod_eq_of_lt (by omega)
  · have hlt2 : (n - 1) / q < 2 ^ 256 := Nat.lt_of_le_of_lt (Nat.div_le_self _ _) (by omega)
    have key : ∀ x k, Nat.gcd (x % n + k) n = Nat.gcd (x + k) n := fun x k => by
      rw [Nat.gcd_comm, Nat.gcd_rec, Nat.mod_add_mod, ← Nat.gcd_rec, Nat.gcd_comm]
    rw [← e1 _ hlt2, key]
    exact h3

/-- Small primes, by trial. -/
def trial (n : Nat) : Nat → Nat → Bool
  | 0, _ => true
  | f + 1, d => cond (Nat.beq (n % d) 0) false (trial n f (d + 1))

theorem trial_spec (n : Nat) : ∀ f d, trial n f d = true → ∀ x, d ≤ x → x < d + f → n % x ≠ 0
  | 0, d, _, x, h1, h2 => by omega
  | f + 1, d, h, x, h1, h2 => by
    rw [trial] at h
    by_cases h0 : n % d = 0
    · rw [h0] at h; simp at h
    · have hb : Nat.beq (n % d) 0 = false := by
        cases hc : Nat.beq (n % d) 0 with
        | false => rfl
        | true => exact absurd (Nat.eq_of_beq_eq_true hc) h0
      rw [hb] at h
      rcases Nat.eq_or_lt_of_le h1 with h3 | h3
      · rw [← h3]; exact h0
      · exact trial_spec n f (d + 1) h x h3 (by omega)

theorem prm_of_trial {n f : Nat} (hn : 2 ≤ n) (h : trial n f 2 = true) (hb : n < (f + 2) * (f + 2)) : Prm n := by
  obtain ⟨s, hs, hsn, hor⟩ := exists_prime n hn
  rcases hor with h1 | h1
  · rw [← h1]; exact hs
  · have hs2 := hs.two
    have hlt : s < f + 2 := by
      apply Classical.byContradiction
      intro hge
      have := Nat.mul_le_mul (show f + 2 ≤ s by omega) (show f + 2 ≤ s by omega)
      omega
    exact absurd (Nat.mod_eq_zero_of_dvd hsn) (trial_spec n f 2 h s hs2 (by omega))

/-- The prime of the field. -/
def p : Nat := 57896044618658097711785492504343953926634992332820282019728792003956564819949

theorem prm_8574133 : Prm 8574133 := prm_of_trial (f := 2930) (by decide) (by decide +kernel) (by decide)
theorem prm_127 : Prm 127 := prm_of_trial (f := 12) (by decide) (by decide +kernel) (by decide)
theorem prm_569003 : Prm 569003 := prm_of_trial (f := 760) (by decide) (by decide +kernel) (by decide)
theorem prm_430751 : Prm 430751 := prm_of_trial (f := 660) (by decide) (by decide +kernel) (by decide)
theorem prm_4153 : Prm 4153 := prm_of_trial (f := 70) (by decide) (by decide +kernel) (by decide)

theorem prm_one {n q : Nat} (a : Nat) (hn : 2 ≤ n) (hlt : n < 2 ^ 256) (hq : Prm q) (h : cert1 n q a = true) (hb : n < (q + 1) * (q + 1)) : Prm n :=
  prm_of hn (fun s hs hsn => of_cert1 hn hlt hq h s hs hsn) hb

theorem prm_two {n q r : Nat} (a : Nat) (hn : 2 ≤ n) (hlt : n < 2 ^ 256) (hq : Prm q) (hr : Prm r) (hc : Nat.gcd q r = 1) (h : cert1 n q a = true) (h' : cert1 n r a = true) (hb : n < (q * r + 1) * (q * r + 1)) : Prm n :=
  prm_of hn (fun s hs hsn => mul_dvd_of hc (of_cert1 hn hlt hq h s hs hsn) (of_cert1 hn hlt hr h' s hs hsn)) hb

theorem prm_2773320623 : Prm 2773320623 := prm_one 2 (by decide) (by decide) prm_569003 (by decide +kernel) (by decide)
theorem prm_72106336199 : Prm 72106336199 := prm_one 2 (by decide) (by decide) prm_2773320623 (by decide +kernel) (by decide)
theorem prm_s : Prm 1919519569386763 := prm_two 2 (by decide) (by decide) prm_8574133 prm_127 (by decide +kernel) (by decide +kernel) (by decide +kernel) (by decide)
theorem prm_r : Prm 75445702479781427272750846543864801 := prm_two 7 (by decide) (by decide) prm_s prm_72106336199 (by decide +kernel) (by decide +kernel) (by decide +kernel) (by decide)
theorem prm_t : Prm 31757755568855353 := prm_two 2 (by decide) (by decide) prm_430751 prm_4153 (by decide +kernel) (by decide +kernel) (by decide +kernel) (by decide)
theorem prm_q : Prm 74058212732561358302231226437062788676166966415465897661863160754340907 := prm_two 2 (by decide) (by decide) prm_r prm_t (by decide +kernel) (by decide +kernel) (by decide +kernel) (by decide)
/-- 2 to the 255 less 19 is a prime. -/
theorem prm_p : Prm p := prm_one 2 (by decide) (by decide) prm_q (by decide +kernel) (by decide)

end Go.Proofs.YtljolpdpblohcaaDoor.Num
