/- Primes: Fermat's little theorem, a test by the divisors of n - 1, and that 2^255 - 19 is one. Plain arithmetic, no program. -/
import Derived.KernelRfl
namespace Go.Proofs.Ytmfobbdgmedhdaa
set_option linter.unusedVariables false

def IsPrime (n : Nat) : Prop := 2 ≤ n ∧ ∀ m, m ∣ n → m = 1 ∨ m = n

theorem IsPrime.coprime {p a : Nat} (hp : IsPrime p) (h : ¬ p ∣ a) : Nat.Coprime p a := by
  have h1 := hp.2 (Nat.gcd p a) (Nat.gcd_dvd_left p a)
  rcases h1 with h1 | h1
  · exact h1
  · exact absurd (h1 ▸ Nat.gcd_dvd_right p a) h
theorem IsPrime.dvd_mul {p a b : Nat} (hp : IsPrime p) (h : p ∣ a * b) : p ∣ a ∨ p ∣ b := by
  by_cases ha : p ∣ a
  · exact .inl ha
  · exact .inr (Nat.Coprime.dvd_of_dvd_mul_left (hp.coprime ha) h)
theorem exists_prime (n : Nat) (h : 2 ≤ n) : ∃ p, IsPrime p ∧ p ∣ n := by
  induction n using Nat.strongRecOn with
  | _ n ih =>
    by_cases hp : IsPrime n
    · exact ⟨n, hp, Nat.dvd_refl n⟩
    · have : ∃ m, m ∣ n ∧ m ≠ 1 ∧ m ≠ n := by
        apply Classical.byContradiction
        intro hc
        apply hp
        refine ⟨h, fun m hm => ?_⟩
        apply Classical.byContradiction
        intro h2
        exact hc ⟨m, hm, fun e => h2 (.inl e), fun e => h2 (.inr e)⟩
      obtain ⟨m, hm, h1, h2⟩ := this
      have hle := Nat.le_of_dvd (by omega) hm
      have h0 : m ≠ 0 := by rintro rfl; have := Nat.eq_zero_of_zero_dvd hm; omega
      obtain ⟨p, q1, q2⟩ := ih m (by omega) (by omega)
      exact ⟨p, q1, Nat.dvd_trans q2 hm⟩

/-! ### Fermat -/
theorem perm_of_sub : ∀ (l' l : List Nat), l'.Nodup → (∀ x ∈ l', x ∈ l) → l.length ≤ l'.length → l.Perm l'
  | [], l, _, _, h => by
    have : l = [] := List.length_eq_zero_iff.1 (by simpa using h)
    rw [this]
  | x :: l', l, hn, hs, h => by
    have hx : x ∈ l := hs x (by simp)
    have h1 := List.perm_cons_erase hx
    refine h1.trans (List.Perm.cons x (perm_of_sub l' (l.erase x) (List.nodup_cons.1 hn).2 ?_ ?_))
    · intro y hy
      have hne : y ≠ x := by rintro rfl; exact (List.nodup_cons.1 hn).1 hy
      exact (List.mem_erase_of_ne hne).2 (hs y (by simp [hy]))
    · rw [List.length_erase_of_mem hx]
      simp at h
      omega
def lprod : List Nat → Nat
  | [] => 1
  | x :: l => x * lprod l
theorem lprod_perm {l l' : List Nat} (h : l.Perm l') : lprod l = lprod l' := by
  induction h with
  | nil => rfl
  | cons x _ ih => simp [lprod, ih]
  | swap x y l => simp only [lprod]; rw [Nat.mul_left_comm]
  | trans _ _ h1 h2 => exact h1.trans h2
theorem lprod_map (r a : Nat) : ∀ l : List Nat, lprod (l.map fun i => a * i % r) % r = a ^ l.length * lprod l % r
  | [] => by simp [lprod]
  | x :: l => by
    simp only [List.map_cons, lprod, List.length_cons]
    rw [Nat.mul_mod, lprod_map r a l, Nat.mod_mod, ← Nat.mul_mod]
    congr 1
    rw [Nat.pow_succ]
    generalize a ^ l.length = A
    generalize lprod l = B
    grind
theorem coprime_lprod {p : Nat} (hp : IsPrime p) : ∀ l : List Nat, (∀ x ∈ l, ¬ p ∣ x) → ¬ p ∣ lprod l
  | [], _, h => by
    have := Nat.le_of_dvd (by decide) h
    have h2 := hp.1
    simp only [lprod] at this
    omega
  | x :: l, hx, h => by
    rcases hp.dvd_mul h with h | h
    · exact hx x (by simp) h
    · exact coprime_lprod hp l (fun y hy => hx y (by simp [hy])) h
theorem mod_eq_dvd {p a b : Nat} (h : a % p = b % p) (hab : b ≤ a) : p ∣ a - b := by
  exact Nat.dvd_of_mod_eq_zero (Nat.sub_mod_eq_zero_of_mod_eq h)
theorem cancel {p a b c : Nat} (hp : IsPrime p) (hc : ¬ p ∣ c) (h : a * c % p = b * c % p) : a % p = b % p := by
  rcases Nat.le_total b a with hab | hab
  · have := mod_eq_dvd h (Nat.mul_le_mul_right c hab)
    rw [← Nat.sub_mul] at this
    rcases hp.dvd_mul this with h' | h'
    · obtain ⟨k, hk⟩ := h'
      have : a = b + p * k := by omega
      rw [this, Nat.add_mul_mod_self_left]
    · exact absurd h' hc
  · have := mod_eq_dvd h.symm (Nat.mul_le_mul_right c hab)
    rw [← Nat.sub_mul] at this
    rcases hp.dvd_mul this with h' | h'
    · obtain ⟨k, hk⟩ := h'
      have : b = a + p * k := by omega
      rw [this, Nat.add_mul_mod_self_left]
    · exact absurd h' hc
theorem fermat {p a : Nat} (hp : IsPrime p) (ha : ¬ p ∣ a) : a ^ (p - 1) % p = 1 := by
  have h2 := hp.1
  have hnot : ∀ i, i ∈ List.range' 1 (p - 1) → ¬ p ∣ i := fun i hi hd => by
    rw [List.mem_range'_1] at hi
    have := Nat.le_of_dvd (by omega) hd
    omega
  have hperm : (List.range' 1 (p - 1)).Perm ((List.range' 1 (p - 1)).map fun i => a * i % p) := by
    refine perm_of_sub _ _ ?_ ?_ (by simp)
    · rw [List.nodup_iff_pairwise_ne, List.pairwise_map]
      refine List.Pairwise.imp_of_mem ?_ (List.nodup_iff_pairwise_ne.1 List.nodup_range')
      intro i j hi hj hij he
      have := cancel hp ha (by rw [Nat.mul_comm i, Nat.mul_comm j]; exact he : i * a % p = j * a % p)
      rw [List.mem_range'_1] at hi hj
      rw [Nat.mod_eq_of_lt (by omega), Nat.mod_eq_of_lt (by omega)] at this
      exact hij this
    · intro x hx
      rw [List.mem_map] at hx
      obtain ⟨i, hi, rfl⟩ := hx
      rw [List.mem_range'_1]
      have h0 : a * i % p ≠ 0 := fun h => by
        rcases hp.dvd_mul (Nat.dvd_of_mod_eq_zero h) with h | h
        · exact ha h
        · exact hnot i hi h
      have := Nat.mod_lt (a * i) (by omega : p > 0)
      omega
  have h3 := lprod_map p a (List.range' 1 (p - 1))
  rw [← lprod_perm hperm, List.length_range'] at h3
  have h4 := cancel (a := 1) (b := a ^ (p - 1)) hp (coprime_lprod hp _ hnot) (by rw [Nat.one_mul]; exact h3)
  rw [← h4]
  exact Nat.mod_eq_of_lt (by omega)

/-! ### The test -/
def powm (n : Nat) : Nat → Nat → Nat → Nat
  | 0, a, k => 1 % n
  | f + 1, a, k => cond (Nat.beq (k % 2) 1) (a * powm n f (a * a % n) (k / 2) % n) (powm n f (a * a % n) (k / 2))
theorem powm_eq (n : Nat) : ∀ (f a k : Nat), k < 2 ^ f → powm n f a k = a ^ k % n
  | 0, a, k, h => by
    have : k = 0 := by simpa using h
    subst this
    simp [powm]
  | f + 1, a, k, h => by
    have ih := powm_eq n f (a * a % n) (k / 2) (by rw [Nat.pow_succ] at h; omega)
    have h2 : (a * a % n) ^ (k / 2) % n = a ^ (2 * (k / 2)) % n := by rw [← Nat.pow_mod, Nat.pow_mul, Nat.pow_two]
    unfold powm
    rw [ih, h2]
    cases hb : Nat.beq (k % 2) 1
    · have : k % 2 ≠ 1 := Nat.ne_of_beq_eq_false hb
      have : 2 * (k / 2) = k := by omega
      rw [this]; rfl
    · have : k % 2 = 1 := Nat.eq_of_beq_eq_true hb
      have e : 2 * (k / 2) + 1 = k := by omega
      show a * (a ^ (2 * (k / 2)) % n) % n = _
      have e2 : a ^ k = a ^ (2 * (k / 2)) * a := by rw [← Nat.pow_succ]; exact congrArg (a ^ ·) e.symm
      rw [Nat.mul_mod, Nat.mod_mod, ← Nat.mul_mod, Nat.mul_comm, e2]

theorem pow_gcd {r b : Nat} (hr : 2 ≤ r) : ∀ (x y : Nat), b ^ x % r = 1 → b ^ y % r = 1 → b ^ Nat.gcd x y % r = 1 := by
  intro x y
  induction x, y using Nat.gcd.induction with
  | H0 y => intro _ h; rw [Nat.gcd_zero_left]; exact h
  | H1 x y hx ih =>
    intro h1 h2
    rw [Nat.gcd_rec]
    refine ih ?_ h1
    have e : b ^ y = b ^ (y % x) * (b ^ x) ^ (y / x) := by rw [← Nat.pow_mul, ← Nat.pow_add, Nat.mod_add_div]
    rw [e, Nat.mul_mod, Nat.pow_mod (b ^ x), h1, Nat.one_pow, Nat.mod_eq_of_lt (by omega : 1 < r), Nat.mul_one, Nat.mod_mod] at h2
    exact h2

theorem dvd_pow_self (a : Nat) {m : Nat} (h : m ≠ 0) : a ∣ a ^ m := by
  cases m with
  | zero => exact absurd rfl h
  | succ m => rw [Nat.pow_succ]; exact Nat.dvd_mul_left a (a ^ m)

theorem pock1 (n q a k : Nat) (hq : IsPrime q) (hn : n = q * k + 1) (hp : a ^ (n - 1) % n = 1) (hg : Nat.gcd (a ^ k % n + (n - 1)) n = 1) (r : Nat) (hr : IsPrime r) (hrn : r ∣ n) : q ∣ r - 1 := by
  have r2 := hr.1
  have h1 : a ^ (n - 1) % r = 1 := by
    have : a ^ (n - 1) % n % r = a ^ (n - 1) % r := Nat.mod_mod_of_dvd _ hrn
    rw [← this, hp]
    exact Nat.mod_eq_of_lt (by omega)
  have ha : ¬ r ∣ a := fun h => by
    have hq0 : q ≠ 0 := fun e => by have := hq.1; omega
    rcases Nat.eq_zero_or_pos k with hk | hk
    · subst hk
      have : n = 1 := by omega
      subst this
      have := Nat.le_of_dvd (by decide) hrn
      omega
    have hpos : n - 1 ≠ 0 := by
      have := Nat.mul_pos (Nat.pos_of_ne_zero hq0) hk
      omega
    have := Nat.dvd_trans h (dvd_pow_self a hpos)
    rw [Nat.dvd_iff_mod_eq_zero] at this
    omega
  have hb1 : ¬ a ^ k % r = 1 := fun h => by
    have hd : r ∣ a ^ k % n + (n - 1) := by
      have e1 : a ^ k % n % r = 1 := by rw [Nat.mod_mod_of_dvd _ hrn]; exact h
      obtain ⟨t, ht⟩ := hrn
      have htp : 1 ≤ t := by
        rcases Nat.eq_zero_or_pos t with h0 | h0
        · subst h0; simp at ht; subst ht; simp at hn
        · exact h0
      have e2 := Nat.div_add_mod (a ^ k % n) r
      rw [e1] at e2
      have e3 : r * 1 ≤ r * t := Nat.mul_le_mul_left r htp
      exact ⟨a ^ k % n / r + t, by rw [Nat.mul_add]; omega⟩
    have := Nat.dvd_gcd hd hrn
    rw [hg] at this
    have := Nat.le_of_dvd (by decide) this
    omega
  have hbq : (a ^ k) ^ q % r = 1 := by
    rw [← Nat.pow_mul, Nat.mul_comm k q]
    have : q * k = n - 1 := by omega
    rw [this]; exact h1
  have hbr : (a ^ k) ^ (r - 1) % r = 1 := fermat hr fun h => by
    have hk : k ≠ 0 := by rintro rfl; rw [Nat.pow_zero] at h; have := Nat.le_of_dvd (by decide) h; omega
    have : r ∣ a := by
      clear hb1 hbq hg hn
      induction k with
      | zero => exact absurd rfl hk
      | succ k ih =>
        rw [Nat.pow_succ] at h
        rcases hr.dvd_mul h with h | h
        · rcases Nat.eq_zero_or_pos k with h0 | h0
          · subst h0; rw [Nat.pow_zero] at h; have := Nat.le_of_dvd (by decide) h; omega
          · exact ih h (by omega)
        · exact h
    exact ha this
  have hgc := pow_gcd r2 _ _ hbq hbr
  rcases hq.2 _ (Nat.gcd_dvd_left q (r - 1)) with h | h
  · rw [h, Nat.pow_one] at hgc
    exact absurd hgc hb1
  · have := Nat.gcd_dvd_right q (r - 1)
    rwa [h] at this

theorem pock (n F : Nat) (hn : 2 ≤ n) (hF : n < F * F) (h : ∀ r, IsPrime r → r ∣ n → F ∣ r - 1) : IsPrime n := by
  refine ⟨hn, fun m hm => ?_⟩
  apply Classical.byContradiction
  intro hc
  have h1 : m ≠ 1 := fun e => hc (.inl e)
  have h2 : m ≠ n := fun e => hc (.inr e)
  obtain ⟨t, ht⟩ := hm
  have m0 : m ≠ 0 := by rintro rfl; simp at ht; omega
  have t0 : t ≠ 0 := by rintro rfl; simp at ht; omega
  have t1 : t ≠ 1 := by rintro rfl; simp at ht; omega
  obtain ⟨r, hr, hrm⟩ := exists_prime m (by omega)
  obtain ⟨s, hs, hst⟩ := exists_prime t (by omega)
  have k1 := Nat.le_of_dvd (by have := hr.1; omega) (h r hr (ht ▸ Nat.dvd_mul_right_of_dvd hrm t))
  have k2 := Nat.le_of_dvd (by have := hs.1; omega) (h s hs (ht ▸ Nat.dvd_mul_left_of_dvd hst m))
  have k3 := Nat.le_of_dvd (by omega) hrm
  have k4 := Nat.le_of_dvd (by omega) hst
  have := Nat.mul_le_mul (by omega : F ≤ m) (by omega : F ≤ t)
  omega

def trial (n : Nat) : Nat → Bool
  | 0 => true
  | m + 1 => cond (Nat.beq (n % (m + 2)) 0) false (trial n m)
theorem trial_spec (n : Nat) : ∀ m, trial n m = true → ∀ d, 2 ≤ d → d < m + 2 → ¬ d ∣ n
  | 0, _, d, h1, h2 => by omega
  | m + 1, h, d, h1, h2 => by
    unfold trial at h
    cases hb : Nat.beq (n % (m + 2)) 0
    · rw [hb] at h
      by_cases hd : d = m + 2
      · subst hd
        intro hdv
        exact Nat.ne_of_beq_eq_false hb (Nat.mod_eq_zero_of_dvd hdv)
      · exact trial_spec n m h d h1 (by omega)
    · rw [hb] at h; cases h
theorem prime_small (n m : Nat) (hn : 2 ≤ n) (hm : n < (m + 2) * (m + 2)) (h : trial n m = true) : IsPrime n := by
  refine ⟨hn, fun d hd => ?_⟩
  apply Classical.byContradiction
  intro hc
  have h1 : d ≠ 1 := fun e => hc (.inl e)
  have h2 : d ≠ n := fun e => hc (.inr e)
  obtain ⟨t, ht⟩ := hd
  have d0 : d ≠ 0 := by rintro rfl; simp at ht; omega
  have t0 : t ≠ 0 := by rintro rfl; simp at ht; omega
  have t1 : t ≠ 1 := by rintro rfl; simp at ht; omega
  have hs := trial_spec n m h
  by_cases hlt : d < m + 2
  · exact hs d (by omega) hlt ⟨t, ht⟩
  · by_cases hlt' : t < m + 2
    · exact hs t (by omega) hlt' ⟨d, by rw [Nat.mul_comm]; exact ht⟩
    · have := Nat.mul_le_mul (by omega : m + 2 ≤ d) (by omega : m + 2 ≤ t)
      omega
theorem cert1 (n q k f : Nat) (hq : IsPrime q) (hn : (n == q * k + 1) = true) (hf : Nat.ble n (2 ^ f) = true) (h2 : Nat.ble 2 n = true) (hp : Nat.beq (powm n f 2 (n - 1)) 1 = true) (hg : Nat.beq (Nat.gcd (powm n f 2 k + (n - 1)) n) 1 = true)
    (r : Nat) (hr : IsPrime r) (hrn : r ∣ n) : q ∣ r - 1 := by
  have hn' : n = q * k + 1 := by simpa using hn
  have hf' := Nat.le_of_ble_eq_true hf
  have h2' := Nat.le_of_ble_eq_true h2
  have hkn : k < n := by
    have h3 := hq.1
    have := Nat.mul_le_mul_right k (by omega : 1 ≤ q)
    omega
  have hp' := Nat.eq_of_beq_eq_true hp
  have hg' := Nat.eq_of_beq_eq_true hg
  rw [powm_eq n f 2 (n - 1) (by omega)] at hp'
  rw [powm_eq n f 2 k (by omega)] at hg'
  exact pock1 n q 2 k hq hn' hp' hg' r hr hrn
theorem prime_by1 (n q k f : Nat) (hq : IsPrime q) (hn : (n == q * k + 1) = true) (hf : Nat.ble n (2 ^ f) = true) (h2 : Nat.ble 2 n = true) (hp : Nat.beq (powm n f 2 (n - 1)) 1 = true) (hg : Nat.beq (Nat.gcd (powm n f 2 k + (n - 1)) n) 1 = true)
    (hF : Nat.blt n (q * q) = true) : IsPrime n :=
  pock n q (Nat.le_of_ble_eq_true h2) (Nat.le_of_ble_eq_true hF) fun r hr hrn => cert1 n q k f hq hn hf h2 hp hg r hr hrn
theorem prime_by2 (n q k q' k' f : Nat) (hq : IsPrime q) (hq' : IsPrime q') (hne : Nat.beq q q' = false) (hn : (n == q * k + 1) = true) (hn' : (n == q' * k' + 1) = true) (hf : Nat.ble n (2 ^ f) = true) (h2 : Nat.ble 2 n = true)
    (hp : Nat.beq (powm n f 2 (n - 1)) 1 = true) (hg : Nat.beq (Nat.gcd (powm n f 2 k + (n - 1)) n) 1 = true) (hg' : Nat.beq (Nat.gcd (powm n f 2 k' + (n - 1)) n) 1 = true)
    (hF : Nat.blt n (q * q' * (q * q')) = true) : IsPrime n :=
  pock n (q * q') (Nat.le_of_ble_eq_true h2) (Nat.le_of_ble_eq_true hF) fun r hr hrn => by
    refine Nat.Coprime.mul_dvd_of_dvd_of_dvd (hq.coprime fun hd => ?_) (cert1 n q k f hq hn hf h2 hp hg r hr hrn) (cert1 n q' k' f hq' hn' hf h2 hp hg' r hr hrn)
    rcases hq'.2 _ hd with e | e
    · have := hq.1; omega
    · exact Nat.ne_of_beq_eq_false hne e

theorem prime991 : IsPrime 991 := prime_small 991 30 (by decide) (by decide) (by kernel_rfl)
theorem prime103 : IsPrime 103 := prime_small 103 10 (by decide) (by decide) (by kernel_rfl)
theorem prime127 : IsPrime 127 := prime_small 127 10 (by decide) (by decide) (by kernel_rfl)
theorem prime569003 : IsPrime 569003 := prime_small 569003 754 (by decide) (by decide) (by kernel_rfl)
theorem prime430751 : IsPrime 430751 := prime_small 430751 656 (by decide) (by decide) (by kernel_rfl)
theorem prime4153 : IsPrime 4153 := prime_small 4153 64 (by decide) (by decide) (by kernel_rfl)
theorem prime8574133 : IsPrime 8574133 := prime_by2 8574133 991 8652 103 83244 24 prime991 prime103 (by kernel_rfl) (by kernel_rfl) (by kernel_rfl) (by kernel_rfl) (by kernel_rfl) (by kernel_rfl) (by kernel_rfl) (by kernel_rfl) (by kernel_rfl)
theorem prime1919519569386763 : IsPrime 1919519569386763 := prime_by2 1919519569386763 8574133 223873314 127 15114327318006 51 prime8574133 prime127 (by kernel_rfl) (by kernel_rfl) (by kernel_rfl) (by kernel_rfl) (by kernel_rfl) (by kernel_rfl) (by kernel_rfl) (by kernel_rfl) (by kernel_rfl)
theorem prime2773320623 : IsPrime 2773320623 := prime_by1 2773320623 569003 4874 32 prime569003 (by kernel_rfl) (by kernel_rfl) (by kernel_rfl) (by kernel_rfl) (by kernel_rfl) (by kernel_rfl)
theorem prime72106336199 : IsPrime 72106336199 := prime_by1 72106336199 2773320623 26 37 prime2773320623 (by kernel_rfl) (by kernel_rfl) (by kernel_rfl) (by kernel_rfl) (by kernel_rfl) (by kernel_rfl)
theorem prime75445702479781427272750846543864801 : IsPrime 75445702479781427272750846543864801 := prime_by2 75445702479781427272750846543864801 1919519569386763 39304471641247389600 72106336199 1046311689884858398375200 116 prime1919519569386763 prime72106336199 (by kernel_rfl) (by kernel_rfl) (by kernel_rfl) (by kernel_rfl) (by kernel_rfl) (by kernel_rfl) (by kernel_rfl) (by kernel_rfl) (by kernel_rfl)
theorem prime31757755568855353 : IsPrime 31757755568855353 := prime_by2 31757755568855353 430751 73726481352 4153 7646943310584 55 prime430751 prime4153 (by kernel_rfl) (by kernel_rfl) (by kernel_rfl) (by kernel_rfl) (by kernel_rfl) (by kernel_rfl) (by kernel_rfl) (by kernel_rfl) (by kernel_rfl)
theorem prime74058212732561358302231226437062788676166966415465897661863160754340907 : IsPrime 74058212732561358302231226437062788676166966415465897661863160754340907 := prime_by2 74058212732561358302231226437062788676166966415465897661863160754340907 75445702479781427272750846543864801 981609426360740691344999861639072106 31757755568855353 2331972502653487852620185443007392165117953542933313402 236 prime75445702479781427272750846543864801 prime31757755568855353 (by kernel_rfl) (by kernel_rfl) (by kernel_rfl) (by kernel_rfl) (by kernel_rfl) (by kernel_rfl) (by kernel_rfl) (by kernel_rfl) (by kernel_rfl)
theorem prime57896044618658097711785492504343953926634992332820282019728792003956564819949 : IsPrime 57896044618658097711785492504343953926634992332820282019728792003956564819949 := prime_by1 57896044618658097711785492504343953926634992332820282019728792003956564819949 74058212732561358302231226437062788676166966415465897661863160754340907 781764 255 prime74058212732561358302231226437062788676166966415465897661863160754340907 (by kernel_rfl) (by kernel_rfl) (by kernel_rfl) (by kernel_rfl) (by kernel_rfl) (by kernel_rfl)
theorem prime_p : IsPrime 57896044618658097711785492504343953926634992332820282019728792003956564819949 := prime57896044618658097711785492504343953926634992332820282019728792003956564819949
end Go.Proofs.Ytmfobbdgmedhdaa
