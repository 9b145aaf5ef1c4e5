/- Plain number theory: primes by their certificates, generators, the small theorem of Fermat. The two primes of curve 25519, with generators: closed computations. The numbers modulo a prime: powers, inverses; the curve's numbers. -/
import Derived.KernelRfl
namespace Go.Proofs.YtjhjjhpfjadjpaaDoor
set_option linter.all false

def PrimeN (p : Nat) : Prop := 2 ≤ p ∧ ∀ m, m ∣ p → m = 1 ∨ m = p
/-- what goes one to one within n numbers reaches each of them -/
theorem surj_of_inj : ∀ (n : Nat) (f : Nat → Nat), (∀ i, i < n → f i < n) → (∀ i j, i < n → j < n → f i = f j → i = j) → ∀ y, y < n → ∃ i, i < n ∧ f i = y
  | 0, _, _, _, y, hy => by omega
  | n + 1, f, hf, hi, y, hy => by
    have hg1 : ∀ i, i < n → (if f i = n then f n else f i) < n := by
      intro i hin
      have h1 := hf i (by omega); have h2 := hf n (by omega)
      split
      · rename_i he
        have : f n ≠ n := fun e => by have := hi i n (by omega) (by omega) (by rw [he, e]); omega
        omega
      · omega
    have hg2 : ∀ i j, i < n → j < n → (if f i = n then f n else f i) = (if f j = n then f n else f j) → i = j := by
      intro i j hin hjn h
      by_cases a : f i = n <;> by_cases b : f j = n
      · exact hi i j (by omega) (by omega) (by rw [a, b])
      · rw [if_pos a, if_neg b] at h
        have := hi n j (by omega) (by omega) h; omega
      · rw [if_neg a, if_pos b] at h
        have := hi i n (by omega) (by omega) h; omega
      · rw [if_neg a, if_neg b] at h
        exact hi i j (by omega) (by omega) h
    have IH := surj_of_inj n (fun i => if f i = n then f n else f i) hg1 hg2
    by_cases hyn : y = n
    · subst hyn
      by_cases hfn : f y = y
      · exact ⟨y, by omega, hfn⟩
      · obtain ⟨i, hin, he⟩ := IH (f y) (by have := hf y (by omega); omega)
        by_cases a : f i = y
        · exact ⟨i, by omega, a⟩
        · simp only [if_neg a] at he
          have := hi i y (by omega) (by omega) he; omega
    · obtain ⟨i, hin, he⟩ := IH y (by omega)
      by_cases a : f i = n
      · simp only [if_pos a] at he
        exact ⟨n, by omega, he⟩
      · simp only [if_neg a] at he
        exact ⟨i, by omega, he⟩
theorem PrimeN.factor : ∀ (e : Nat), 2 ≤ e → ∃ q, PrimeN q ∧ q ∣ e := by
  intro e
  induction e using Nat.strongRecOn with
  | ind e ih =>
    intro he
    by_cases hp : PrimeN e
    · exact ⟨e, hp, Nat.dvd_refl e⟩
    · have : ∃ m, m ∣ e ∧ m ≠ 1 ∧ m ≠ e := Classical.byContradiction fun h => hp ⟨he, fun m hm => Classical.byContradiction fun h2 => h ⟨m, hm, fun e1 => h2 (.inl e1), fun e1 => h2 (.inr e1)⟩⟩
      obtain ⟨m, hm, h1, h2⟩ := this
      have hle := Nat.le_of_dvd (by omega) hm
      have h0 : m ≠ 0 := fun e0 => by subst e0; have := Nat.eq_zero_of_zero_dvd hm; omega
      obtain ⟨q, hq, hqm⟩ := ih m (by omega) (by omega)
      exact ⟨q, hq, Nat.dvd_trans hqm hm⟩
theorem PrimeN.coprime {q a : Nat} (h : PrimeN q) (ha : ¬ q ∣ a) : Nat.Coprime q a := by
  rcases h.2 _ (Nat.gcd_dvd_left q a) with h1 | h1
  · exact h1
  · exact absurd (h1 ▸ Nat.gcd_dvd_right q a) ha
theorem PrimeN.dvd_mul {q a b : Nat} (h : PrimeN q) (hd : q ∣ a * b) : q ∣ a ∨ q ∣ b := by
  by_cases ha : q ∣ a
  · exact .inl ha
  · exact .inr ((h.coprime ha).dvd_of_dvd_mul_left hd)
def prodL : List Nat → Nat
  | [] => 1
  | a :: r => a * prodL r
theorem PrimeN.mem_prod {r : Nat} (hr : PrimeN r) : ∀ (l : List Nat), (∀ q ∈ l, PrimeN q) → r ∣ prodL l → r ∈ l
  | [], _, h => by have := Nat.le_of_dvd (by decide) h; have := hr.1; simp [prodL] at *; omega
  | a :: l, hl, h => by
    rcases hr.dvd_mul h with h | h
    · rcases (hl a List.mem_cons_self).2 r h with e | e
      · have := hr.1; omega
      · exact e ▸ List.mem_cons_self
    · exact List.mem_cons_of_mem _ (PrimeN.mem_prod hr l (fun q hq => hl q (List.mem_cons_of_mem _ hq)) h)
theorem pow_one_mul {a n k : Nat} (hn : 2 ≤ n) (h : a ^ k % n = 1) (e : Nat) : a ^ (k * e) % n = 1 := by
  rw [Nat.pow_mul, Nat.pow_mod, h, Nat.one_pow]; exact Nat.mod_eq_of_lt (by omega)
/-- the order of a is N -/
theorem no_less {a n N : Nat} (hn : 2 ≤ n) (hN : 0 < N) (h1 : a ^ N % n = 1) (hq : ∀ q, PrimeN q → q ∣ N → a ^ (N / q) % n ≠ 1) : ∀ k, 0 < k → k < N → a ^ k % n ≠ 1 := by
  intro k
  induction k using Nat.strongRecOn with
  | ind k ih =>
    intro h0 hk he
    have hr : a ^ (N % k) % n = 1 := by
      have e : N = k * (N / k) + N % k := (Nat.div_add_mod N k).symm
      have : a ^ N % n = a ^ (N % k) % n := by
        conv => lhs; rw [e, Nat.pow_add, Nat.mul_mod, pow_one_mul hn he, Nat.one_mul, Nat.mod_mod]
      rw [← this]; exact h1
    by_cases hz : N % k = 0
    · have hd : k ∣ N := Nat.dvd_of_mod_eq_zero hz
      obtain ⟨e, rfl⟩ := hd
      have he2 : 2 ≤ e := by
        rcases e with _ | _ | e
        · omega
        · omega
        · omega
      obtain ⟨q, hqp, c, rfl⟩ := PrimeN.factor e he2
      refine hq q hqp ⟨k * c, by rw [Nat.mul_left_comm]⟩ ?_
      have hq0 : 0 < q := by have := hqp.1; omega
      rw [show k * (q * c) / q = k * c from by rw [show k * (q * c) = q * (k * c) from by rw [Nat.mul_left_comm]]; exact Nat.mul_div_cancel_left _ hq0]
      exact pow_one_mul hn he c
    · exact ih (N % k) (Nat.mod_lt _ h0) (by omega) (by have := Nat.mod_lt N h0; omega) hr
/-- a is a generator modulo n -/
structure Gen (n a : Nat) : Prop where
  two : 2 ≤ n
  one : a ^ (n - 1) % n = 1
  all : ∀ y, 0 < y → y < n → ∃ i, i < n - 1 ∧ a ^ i % n = y
theorem gen_of {n a : Nat} (hn : 2 ≤ n) (h1 : a ^ (n - 1) % n = 1) (hq : ∀ q, PrimeN q → q ∣ n - 1 → a ^ ((n - 1) / q) % n ≠ 1) : Gen n a := by
  have hno := no_less hn (by omega) h1 hq
  have hpos : ∀ i, i < n - 1 → 0 < a ^ i % n := by
    intro i hi
    apply Nat.pos_of_ne_zero
    intro h
    have : a ^ (n - 1) % n = 0 := by
      rw [show n - 1 = i + (n - 1 - i) by omega, Nat.pow_add, Nat.mul_mod, h, Nat.zero_mul, Nat.zero_mod]
    omega
  refine ⟨hn, h1, fun y h0 hy => ?_⟩
  obtain ⟨i, hi, he⟩ := surj_of_inj (n - 1) (fun i => a ^ i % n - 1) (fun i hi => by
      have := Nat.mod_lt (a ^ i) (by omega : 0 < n); have := hpos i hi; show a ^ i % n - 1 < n - 1; omega) (fun i j hi hj h => by
      have h : a ^ i % n - 1 = a ^ j % n - 1 := h
      have pi := hpos i hi; have pj := hpos j hj
      have h : a ^ i % n = a ^ j % n := by omega
      have key : ∀ i j, i < j → j < n - 1 → a ^ i % n = a ^ j % n → False := by
        intro i j hij hj h
        refine hno (n - 1 - (j - i)) (by omega) (by omega) ?_
        rw [show n - 1 - (j - i) = i + (n - 1 - j) by omega, Nat.pow_add, Nat.mul_mod, h, ← Nat.mul_mod, ← Nat.pow_add, show j + (n - 1 - j) = n - 1 by omega]
        exact h1
      rcases Nat.lt_trichotomy i j with hlt | heq | hlt
      · exact (key i j hlt hj h).elim
      · exact heq
      · exact (key j i hlt hi h.symm).elim) (y - 1) (by omega)
  have he : a ^ i % n - 1 = y - 1 := he
  have := hpos i hi
  exact ⟨i, hi, by omega⟩
theorem Gen.prime {n a : Nat} (h : Gen n a) : PrimeN n := by
  refine ⟨h.two, fun m hm => ?_⟩
  by_cases hmn : m = n
  · exact .inr hmn
  · left
    have h2 := h.two
    have hle := Nat.le_of_dvd (by omega) hm
    have h0 : 0 < m := Nat.pos_of_dvd_of_pos hm (by omega)
    obtain ⟨i, hi, he⟩ := h.all m h0 (by omega)
    have e1 : m * a ^ (n - 1 - i) % n = 1 := by
      rw [← he, ← Nat.mod_mul_mod, Nat.mod_mod] <;> rw [Nat.mod_mul_mod, ← Nat.pow_add, show i + (n - 1 - i) = n - 1 by omega]; exact h.one
    have e2 : m ∣ 1 := by
      have hd : m ∣ m * a ^ (n - 1 - i) % n := by
        exact (Nat.dvd_mod_iff hm).2 (Nat.dvd_mul_right _ _)
      rwa [e1] at hd
    exact Nat.dvd_one.1 e2
theorem Gen.fermat {n a : Nat} (h : Gen n a) {x : Nat} (hx : x % n ≠ 0) : x ^ (n - 1) % n = 1 := by
  have h2 := h.two
  obtain ⟨i, hi, he⟩ := h.all (x % n) (by omega) (Nat.mod_lt _ (by omega))
  rw [Nat.pow_mod, ← he, ← Nat.pow_mod, ← Nat.pow_mul, Nat.mul_comm, pow_one_mul h2 h.one]
/-- powers modulo n, reckoned -/
def pwF (n : Nat) : Nat → Nat → Nat → Nat
  | 0, _, _ => 1 % n
  | f + 1, a, e => bif Nat.beq (e % 2) 1 then a * pwF n f (a * a % n) (e / 2) % n else pwF n f (a * a % n) (e / 2)
theorem pwF_eq (n : Nat) : ∀ (f a e : Nat), e < 2 ^ f → pwF n f a e = a ^ e % n
  | 0, a, e, h => by
    obtain rfl : e = 0 := by simpa using h
    rfl
  | f + 1, a, e, h => by
    have ih := pwF_eq n f (a * a % n) (e / 2) (by rw [Nat.pow_succ] at h; omega)
    have e2 : (a * a % n) ^ (e / 2) % n = a ^ (2 * (e / 2)) % n := by
      rw [← Nat.pow_mod, Nat.pow_mul, Nat.pow_two]
    rw [pwF, ih, e2]
    cases hb : Nat.beq (e % 2) 1 with
    | true =>
      have h1 : e % 2 = 1 := Nat.eq_of_beq_eq_true hb
      simp only [cond_true]
      rw [Nat.mul_mod_mod, ← Nat.pow_succ', show (2 * (e / 2)).succ = e by omega]
    | false =>
      have h1 : ¬ e % 2 = 1 := fun h => by rw [h] at hb; cases hb
      simp only [cond_false]
      rw [show 2 * (e / 2) = e by omega]
/-- a certificate's test -/
def certB (n a : Nat) (qs : List Nat) : Bool := Nat.ble 2 n && Nat.beq (pwF n 300 a (n - 1)) 1 && Nat.beq (prodL qs) (n - 1) && Nat.ble n (2 ^ 300) && qs.all fun q => !(Nat.beq (pwF n 300 a ((n - 1) / q)) 1)
theorem gen_cert {n a : Nat} (qs : List Nat) (hq : ∀ q ∈ qs, PrimeN q) (h : certB n a qs = true) : Gen n a := by
  simp only [certB, Bool.and_eq_true, List.all_eq_true] at h
  obtain ⟨⟨⟨⟨h1, h2⟩, h3⟩, h5⟩, h4⟩ := h
  have h5 := Nat.le_of_ble_eq_true h5
  have h1 := Nat.le_of_ble_eq_true h1
  have h2 := Nat.eq_of_beq_eq_true h2
  have h3 := Nat.eq_of_beq_eq_true h3
  have lt : n - 1 < 2 ^ 300 := by omega
  refine gen_of h1 (by rw [← pwF_eq n 300 a _ lt]; exact h2) fun q hqp hd => ?_
  have := h4 q (hqp.mem_prod qs hq (h3 ▸ hd))
  rw [← pwF_eq n 300 a _ (Nat.lt_of_le_of_lt (Nat.div_le_self _ _) lt)]
  intro e
  rw [e] at this
  cases this
/-- small primes by trial -/
def trialB (n : Nat) : Nat → Nat → Bool
  | 0, _ => false
  | f + 1, d => bif Nat.blt n (d * d) then true else bif Nat.beq (n % d) 0 then false else trialB n f (d + 1)
theorem trial_no (n : Nat) : ∀ (f d : Nat), trialB n f d = true → ∀ m, d ≤ m → m * m ≤ n → ¬ m ∣ n
  | 0, d, h, m, hm, hmn => by cases h
  | f + 1, d, h, m, hm, hmn => by
    rw [trialB] at h
    cases h1 : Nat.blt n (d * d) with
    | true =>
      have h2 : n < d * d := Nat.le_of_ble_eq_true h1
      have : d * d ≤ m * m := Nat.mul_le_mul hm hm
      omega
    | false =>
      rw [h1] at h
      cases h3 : Nat.beq (n % d) 0 with
      | true => rw [h3] at h; cases h
      | false =>
        rw [h3] at h
        by_cases he : m = d
        · subst he
          intro hd
          rw [Nat.mod_eq_zero_of_dvd hd] at h3
          cases h3
        · exact trial_no n f (d + 1) h m (by omega) hmn
theorem prime_trial {n : Nat} (f : Nat) (hn : 2 ≤ n) (h : trialB n f 2 = true) : PrimeN n := by
  refine ⟨hn, fun m hm => ?_⟩
  by_cases h1 : m = 1
  · exact .inl h1
  by_cases h2 : m = n
  · exact .inr h2
  exfalso
  obtain ⟨k, hk⟩ := hm
  have hm0 : m ≠ 0 := fun e => by subst e; omega
  have hk0 : k ≠ 0 := fun e => by subst e; omega
  have hk1 : k ≠ 1 := fun e => by subst e; omega
  rcases Nat.le_total m k with hle | hle
  · exact trial_no n f 2 h m (by omega) (by rw [hk]; exact Nat.mul_le_mul_left _ hle) ⟨k, hk⟩
  · exact trial_no n f 2 h k (by omega) (by rw [hk]; exact Nat.mul_le_mul_right _ hle) ⟨m, by rw [hk, Nat.mul_comm]⟩
end Go.Proofs.YtjhjjhpfjadjpaaDoor

namespace Go.Proofs.YtjhjjhpfjadjpaaDoor
set_option linter.all false
theorem prime_2 : PrimeN 2 := prime_trial 3 (by decide) (by kernel_rfl)
theorem prime_3 : PrimeN 3 := prime_trial 3 (by decide) (by kernel_rfl)
theorem prime_5 : PrimeN 5 := prime_trial 4 (by decide) (by kernel_rfl)
theorem prime_7 : PrimeN 7 := prime_trial 4 (by decide) (by kernel_rfl)
theorem prime_11 : PrimeN 11 := prime_trial 5 (by decide) (by kernel_rfl)
theorem prime_13 : PrimeN 13 := prime_trial 5 (by decide) (by kernel_rfl)
theorem prime_19 : PrimeN 19 := prime_trial 6 (by decide) (by kernel_rfl)
theorem prime_23 : PrimeN 23 := prime_trial 6 (by decide) (by kernel_rfl)
theorem prime_31 : PrimeN 31 := prime_trial 7 (by decide) (by kernel_rfl)
theorem prime_41 : PrimeN 41 := prime_trial 8 (by decide) (by kernel_rfl)
theorem prime_43 : PrimeN 43 := prime_trial 8 (by decide) (by kernel_rfl)
theorem prime_47 : PrimeN 47 := prime_trial 8 (by decide) (by kernel_rfl)
theorem prime_73 : PrimeN 73 := prime_trial 10 (by decide) (by kernel_rfl)
theorem prime_107 : PrimeN 107 := prime_trial 12 (by decide) (by kernel_rfl)
theorem prime_127 : PrimeN 127 := prime_trial 13 (by decide) (by kernel_rfl)
theorem prime_223 : PrimeN 223 := prime_trial 16 (by decide) (by kernel_rfl)
theorem prime_269 : PrimeN 269 := prime_trial 18 (by decide) (by kernel_rfl)
theorem prime_307 : PrimeN 307 := prime_trial 19 (by decide) (by kernel_rfl)
theorem prime_353 : PrimeN 353 := prime_trial 20 (by decide) (by kernel_rfl)
theorem prime_1361 : PrimeN 1361 := prime_trial 38 (by decide) (by kernel_rfl)
theorem prime_2437 : PrimeN 2437 := prime_trial 51 (by decide) (by kernel_rfl)
theorem prime_2851 : PrimeN 2851 := prime_trial 55 (by decide) (by kernel_rfl)
theorem prime_4153 : PrimeN 4153 := prime_trial 66 (by decide) (by kernel_rfl)
theorem prime_5879 : PrimeN 5879 := prime_trial 78 (by decide) (by kernel_rfl)
theorem prime_30703 : PrimeN 30703 := prime_trial 177 (by decide) (by kernel_rfl)
theorem prime_57467 : PrimeN 57467 := prime_trial 241 (by decide) (by kernel_rfl)
theorem prime_65147 : PrimeN 65147 := prime_trial 257 (by decide) (by kernel_rfl)
theorem prime_75707 : PrimeN 75707 := prime_trial 277 (by decide) (by kernel_rfl)
theorem prime_82163 : PrimeN 82163 := prime_trial 288 (by decide) (by kernel_rfl)
theorem prime_132049 : PrimeN 132049 := prime_trial 365 (by decide) (by kernel_rfl)
theorem prime_132667 : PrimeN 132667 := prime_trial 366 (by decide) (by kernel_rfl)
theorem prime_137849 : PrimeN 137849 := prime_trial 373 (by decide) (by kernel_rfl)
theorem prime_409477 : PrimeN 409477 := prime_trial 641 (by decide) (by kernel_rfl)
theorem prime_430751 : PrimeN 430751 := prime_trial 658 (by decide) (by kernel_rfl)
theorem prime_531581 : PrimeN 531581 := prime_trial 731 (by decide) (by kernel_rfl)
theorem prime_569003 : PrimeN 569003 := prime_trial 756 (by decide) (by kernel_rfl)
theorem prime_1224481 : PrimeN 1224481 := prime_trial 1108 (by decide) (by kernel_rfl)
theorem prime_1923133 : PrimeN 1923133 := prime_trial 1388 (by decide) (by kernel_rfl)
theorem prime_8574133 : PrimeN 8574133 := prime_trial 2930 (by decide) (by kernel_rfl)
theorem gen_31757755568855353 : Gen 31757755568855353 10 := gen_cert [2, 2, 2, 3, 31, 107, 223, 4153, 430751] (by
  intro q hq
  simp only [List.mem_cons, List.not_mem_nil, or_false] at hq
  rcases hq with rfl | rfl | rfl | rfl | rfl | rfl | rfl | rfl | rfl
  all_goals first | exact prime_2 | exact prime_3 | exact prime_31 | exact prime_107 | exact prime_223 | exact prime_4153 | exact prime_430751) (by kernel_rfl)
theorem prime_31757755568855353 : PrimeN 31757755568855353 := gen_31757755568855353.prime
theorem gen_2773320623 : Gen 2773320623 5 := gen_cert [2, 2437, 569003] (by
  intro q hq
  simp only [List.mem_cons, List.not_mem_nil, or_false] at hq
  rcases hq with rfl | rfl | rfl
  all_goals first | exact prime_2 | exact prime_2437 | exact prime_569003) (by kernel_rfl)
theorem prime_2773320623 : PrimeN 2773320623 := gen_2773320623.prime
theorem gen_72106336199 : Gen 72106336199 7 := gen_cert [2, 13, 2773320623] (by
  intro q hq
  simp only [List.mem_cons, List.not_mem_nil, or_false] at hq
  rcases hq with rfl | rfl | rfl
  all_goals first | exact prime_2 | exact prime_13 | exact prime_2773320623) (by kernel_rfl)
theorem prime_72106336199 : PrimeN 72106336199 := gen_72106336199.prime
theorem gen_1919519569386763 : Gen 1919519569386763 2 := gen_cert [2, 3, 7, 19, 47, 47, 127, 8574133] (by
  intro q hq
  simp only [List.mem_cons, List.not_mem_nil, or_false] at hq
  rcases hq with rfl | rfl | rfl | rfl | rfl | rfl | rfl | rfl
  all_goals first | exact prime_2 | exact prime_3 | exact prime_7 | exact prime_19 | exact prime_47 | exact prime_127 | exact prime_8574133) (by kernel_rfl)
theorem prime_1919519569386763 : PrimeN 1919519569386763 := gen_1919519569386763.prime
theorem gen_75445702479781427272750846543864801 : Gen 75445702479781427272750846543864801 7 := gen_cert [2, 2, 2, 2, 2, 3, 3, 5, 5, 75707, 72106336199, 1919519569386763] (by
  intro q hq
  simp only [List.mem_cons, List.not_mem_nil, or_false] at hq
  rcases hq with rfl | rfl | rfl | rfl | rfl | rfl | rfl | rfl | rfl | rfl | rfl | rfl
  all_goals first | exact prime_2 | exact prime_3 | exact prime_5 | exact prime_75707 | exact prime_72106336199 | exact prime_1919519569386763) (by kernel_rfl)
theorem prime_75445702479781427272750846543864801 : PrimeN 75445702479781427272750846543864801 := gen_75445702479781427272750846543864801.prime
theorem gen_74058212732561358302231226437062788676166966415465897661863160754340907 : Gen 74058212732561358302231226437062788676166966415465897661863160754340907 2 := gen_cert [2, 3, 353, 57467, 132049, 1923133, 31757755568855353, 75445702479781427272750846543864801] (by
  intro q hq
  simp only [List.mem_cons, List.not_mem_nil, or_false] at hq
  rcases hq with rfl | rfl | rfl | rfl | rfl | rfl | rfl | rfl
  all_goals first | exact prime_2 | exact prime_3 | exact prime_353 | exact prime_57467 | exact prime_132049 | exact prime_1923133 | exact prime_31757755568855353 | exact prime_75445702479781427272750846543864801) (by kernel_rfl)
theorem prime_74058212732561358302231226437062788676166966415465897661863160754340907 : PrimeN 74058212732561358302231226437062788676166966415465897661863160754340907 := gen_74058212732561358302231226437062788676166966415465897661863160754340907.prime
theorem gen_57896044618658097711785492504343953926634992332820282019728792003956564819949 : Gen 57896044618658097711785492504343953926634992332820282019728792003956564819949 2 := gen_cert [2, 2, 3, 65147, 74058212732561358302231226437062788676166966415465897661863160754340907] (by
  intro q hq
  simp only [List.mem_cons, List.not_mem_nil, or_false] at hq
  rcases hq with rfl | rfl | rfl | rfl | rfl
  all_goals first | exact prime_2 | exact prime_3 | exact prime_65147 | exact prime_74058212732561358302231226437062788676166966415465897661863160754340907) (by kernel_rfl)
theorem prime_57896044618658097711785492504343953926634992332820282019728792003956564819949 : PrimeN 57896044618658097711785492504343953926634992332820282019728792003956564819949 := gen_57896044618658097711785492504343953926634992332820282019728792003956564819949.prime
theorem gen_14741173 : Gen 14741173 2 := gen_cert [2, 2, 3, 3, 409477] (by
  intro q hq
  simp only [List.mem_cons, List.not_mem_nil, or_false] at hq
  rcases hq with rfl | rfl | rfl | rfl | rfl
  all_goals first | exact prime_2 | exact prime_3 | exact prime_409477) (by kernel_rfl)
theorem prime_14741173 : PrimeN 14741173 := gen_14741173.prime
theorem gen_58964693 : Gen 58964693 2 := gen_cert [2, 2, 14741173] (by
  intro q hq
  simp only [List.mem_cons, List.not_mem_nil, or_false] at hq
  rcases hq with rfl | rfl | rfl
  all_goals first | exact prime_2 | exact prime_14741173) (by kernel_rfl)
theorem prime_58964693 : PrimeN 58964693 := gen_58964693.prime
theorem gen_3044861653679985063343 : Gen 3044861653679985063343 5 := gen_cert [2, 3, 11, 30703, 82163, 132667, 137849] (by
  intro q hq
  simp only [List.mem_cons, List.not_mem_nil, or_false] at hq
  rcases hq with rfl | rfl | rfl | rfl | rfl | rfl | rfl
  all_goals first | exact prime_2 | exact prime_3 | exact prime_11 | exact prime_30703 | exact prime_82163 | exact prime_132667 | exact prime_137849) (by kernel_rfl)
theorem prime_3044861653679985063343 : PrimeN 3044861653679985063343 := gen_3044861653679985063343.prime
theorem gen_198211423230930754013084525763697 : Gen 198211423230930754013084525763697 5 := gen_cert [2, 2, 2, 2, 3, 23, 58964693, 3044861653679985063343] (by
  intro q hq
  simp only [List.mem_cons, List.not_mem_nil, or_false] at hq
  rcases hq with rfl | rfl | rfl | rfl | rfl | rfl | rfl | rfl
  all_goals first | exact prime_2 | exact prime_3 | exact prime_23 | exact prime_58964693 | exact prime_3044861653679985063343) (by kernel_rfl)
theorem prime_198211423230930754013084525763697 : PrimeN 198211423230930754013084525763697 := gen_198211423230930754013084525763697.prime
theorem gen_292386187 : Gen 292386187 2 := gen_cert [2, 3, 3, 3, 3, 307, 5879] (by
  intro q hq
  simp only [List.mem_cons, List.not_mem_nil, or_false] at hq
  rcases hq with rfl | rfl | rfl | rfl | rfl | rfl | rfl
  all_goals first | exact prime_2 | exact prime_3 | exact prime_307 | exact prime_5879) (by kernel_rfl)
theorem prime_292386187 : PrimeN 292386187 := gen_292386187.prime
theorem gen_213441916511 : Gen 213441916511 13 := gen_cert [2, 5, 73, 292386187] (by
  intro q hq
  simp only [List.mem_cons, List.not_mem_nil, or_false] at hq
  rcases hq with rfl | rfl | rfl | rfl
  all_goals first | exact prime_2 | exact prime_5 | exact prime_73 | exact prime_292386187) (by kernel_rfl)
theorem prime_213441916511 : PrimeN 213441916511 := gen_213441916511.prime
theorem gen_1257559732178653 : Gen 1257559732178653 2 := gen_cert [2, 2, 3, 7, 23, 531581, 1224481] (by
  intro q hq
  simp only [List.mem_cons, List.not_mem_nil, or_false] at hq
  rcases hq with rfl | rfl | rfl | rfl | rfl | rfl | rfl
  all_goals first | exact prime_2 | exact prime_3 | exact prime_7 | exact prime_23 | exact prime_531581 | exact prime_1224481) (by kernel_rfl)
theorem prime_1257559732178653 : PrimeN 1257559732178653 := gen_1257559732178653.prime
theorem gen_4434155615661930479 : Gen 4434155615661930479 17 := gen_cert [2, 41, 43, 1257559732178653] (by
  intro q hq
  simp only [List.mem_cons, List.not_mem_nil, or_false] at hq
  rcases hq with rfl | rfl | rfl | rfl
  all_goals first | exact prime_2 | exact prime_41 | exact prime_43 | exact prime_1257559732178653) (by kernel_rfl)
theorem prime_4434155615661930479 : PrimeN 4434155615661930479 := gen_4434155615661930479.prime
theorem gen_172054593956031949258510691 : Gen 172054593956031949258510691 2 := gen_cert [2, 5, 1361, 2851, 4434155615661930479] (by
  intro q hq
  simp only [List.mem_cons, List.not_mem_nil, or_false] at hq
  rcases hq with rfl | rfl | rfl | rfl | rfl
  all_goals first | exact prime_2 | exact prime_5 | exact prime_1361 | exact prime_2851 | exact prime_4434155615661930479) (by kernel_rfl)
theorem prime_172054593956031949258510691 : PrimeN 172054593956031949258510691 := gen_172054593956031949258510691.prime
theorem gen_19757330305831588566944191468367130476339 : Gen 19757330305831588566944191468367130476339 2 := gen_cert [2, 269, 213441916511, 172054593956031949258510691] (by
  intro q hq
  simp only [List.mem_cons, List.not_mem_nil, or_false] at hq
  rcases hq with rfl | rfl | rfl | rfl
  all_goals first | exact prime_2 | exact prime_269 | exact prime_213441916511 | exact prime_172054593956031949258510691) (by kernel_rfl)
theorem prime_19757330305831588566944191468367130476339 : PrimeN 19757330305831588566944191468367130476339 := gen_19757330305831588566944191468367130476339.prime
theorem gen_276602624281642239937218680557139826668747 : Gen 276602624281642239937218680557139826668747 2 := gen_cert [2, 7, 19757330305831588566944191468367130476339] (by
  intro q hq
  simp only [List.mem_cons, List.not_mem_nil, or_false] at hq
  rcases hq with rfl | rfl | rfl
  all_goals first | exact prime_2 | exact prime_7 | exact prime_19757330305831588566944191468367130476339) (by kernel_rfl)
theorem prime_276602624281642239937218680557139826668747 : PrimeN 276602624281642239937218680557139826668747 := gen_276602624281642239937218680557139826668747.prime
theorem gen_7237005577332262213973186563042994240857116359379907606001950938285454250989 : Gen 7237005577332262213973186563042994240857116359379907606001950938285454250989 2 := gen_cert [2, 2, 3, 11, 198211423230930754013084525763697, 276602624281642239937218680557139826668747] (by
  intro q hq
  simp only [List.mem_cons, List.not_mem_nil, or_false] at hq
  rcases hq with rfl | rfl | rfl | rfl | rfl | rfl
  all_goals first | exact prime_2 | exact prime_3 | exact prime_11 | exact prime_198211423230930754013084525763697 | exact prime_276602624281642239937218680557139826668747) (by kernel_rfl)
theorem prime_7237005577332262213973186563042994240857116359379907606001950938285454250989 : PrimeN 7237005577332262213973186563042994240857116359379907606001950938285454250989 := gen_7237005577332262213973186563042994240857116359379907606001950938285454250989.prime
/-- the prime of the curve, and the order of its base -/
abbrev pP : Nat := 57896044618658097711785492504343953926634992332820282019728792003956564819949
abbrev pL : Nat := 7237005577332262213973186563042994240857116359379907606001950938285454250989
theorem primeP : PrimeN pP := prime_57896044618658097711785492504343953926634992332820282019728792003956564819949
theorem primeL : PrimeN pL := prime_7237005577332262213973186563042994240857116359379907606001950938285454250989
theorem genP : Gen pP 2 := gen_57896044618658097711785492504343953926634992332820282019728792003956564819949
theorem genL : Gen pL 2 := gen_7237005577332262213973186563042994240857116359379907606001950938285454250989
end Go.Proofs.YtjhjjhpfjadjpaaDoor

namespace Go.Proofs.YtjhjjhpfjadjpaaDoor
set_option linter.all false

section
variable {m : Nat} [NeZero m]
theorem val1 : (1 : Fin m).val = 1 % m := rfl
theorem val0 : (0 : Fin m).val = 0 := Nat.zero_mod m
theorem fpow_zero (x : Fin m) : x ^ 0 = 1 := rfl
theorem fpow_succ (x : Fin m) (k : Nat) : x ^ (k + 1) = x ^ k * x := rfl
theorem val_pow (x : Fin m) : ∀ k, (x ^ k).val = x.val ^ k % m
  | 0 => by rw [fpow_zero, Nat.pow_zero]; exact val1
  | k + 1 => by rw [fpow_succ, Fin.val_mul, val_pow x k, Nat.mod_mul_mod, ← Nat.pow_succ]
theorem fpow_one (x : Fin m) : x ^ 1 = x := by rw [show (1 : Nat) = 0 + 1 from rfl, fpow_succ, fpow_zero, Fin.one_mul]
theorem fpow_two (x : Fin m) : x ^ 2 = x * x := by rw [show (2 : Nat) = 1 + 1 from rfl, fpow_succ, fpow_one]
theorem fpow_add (x : Fin m) (i j : Nat) : x ^ (i + j) = x ^ i * x ^ j := by
  apply Fin.ext; rw [Fin.val_mul, val_pow, val_pow, val_pow, Nat.pow_add, Nat.mul_mod]
theorem fpow_mul (x : Fin m) (i j : Nat) : x ^ (i * j) = (x ^ i) ^ j := by
  apply Fin.ext; rw [val_pow, val_pow, val_pow, Nat.pow_mul, Nat.pow_mod]
theorem fmul_pow (x y : Fin m) (i : Nat) : (x * y) ^ i = x ^ i * y ^ i := by
  apply Fin.ext; rw [Fin.val_mul, val_pow, val_pow, val_pow, Fin.val_mul, ← Nat.pow_mod, Nat.mul_pow, Nat.mul_mod]
theorem fval_ne {x : Fin m} (hx : x ≠ 0) : x.val % m ≠ 0 := by
  rw [Nat.mod_eq_of_lt x.isLt]
  exact fun h => hx (Fin.ext (by rw [h]; rfl))
theorem fermatF {g : Nat} (h : Gen m g) {x : Fin m} (hx : x ≠ 0) : x ^ (m - 1) = 1 := by
  apply Fin.ext
  rw [val_pow, h.fermat (fval_ne hx), val1, Nat.mod_eq_of_lt (by have := h.two; omega)]
/-- THE INVERSE; of 0: 0 -/
def finv (x : Fin m) : Fin m := x ^ (m - 2)
theorem mul_finv {g : Nat} (h : Gen m g) {x : Fin m} (hx : x ≠ 0) : x * finv x = 1 := by
  have h2 := h.two
  rw [finv, Fin.mul_comm, ← fpow_succ, show m - 2 + 1 = m - 1 by omega]
  exact fermatF h hx
theorem finv_zero (h3 : 3 ≤ m) : finv (0 : Fin m) = 0 := by
  rw [finv, show m - 2 = m - 3 + 1 by omega, fpow_succ, Fin.mul_zero]
theorem finv_of {g : Nat} (h : Gen m g) {x y : Fin m} (hxy : x * y = 1) : finv x = y := by
  have h2 := h.two
  have hx : x ≠ 0 := by
    rintro rfl
    rw [Fin.zero_mul] at hxy
    have := congrArg Fin.val hxy
    rw [val1, val0, Nat.mod_eq_of_lt (by omega)] at this
    omega
  have := mul_finv h hx
  calc finv x = finv x * (x * y) := by rw [hxy, Fin.mul_one]
    _ = (x * finv x) * y := by rw [← Fin.mul_assoc, Fin.mul_comm (finv x)]
    _ = y := by rw [this, Fin.one_mul]
theorem fmul_zero {g : Nat} (h : Gen m g) {x y : Fin m} (hxy : x * y = 0) : x = 0 ∨ y = 0 := by
  by_cases hx : x = 0
  · exact .inl hx
  · right
    calc y = (x * finv x) * y := by rw [mul_finv h hx, Fin.one_mul]
      _ = finv x * (x * y) := by rw [Fin.mul_comm x, Fin.mul_assoc]
      _ = 0 := by rw [hxy, Fin.mul_zero]
theorem fmul_ne {g : Nat} (h : Gen m g) {x y : Fin m} (hx : x ≠ 0) (hy : y ≠ 0) : x * y ≠ 0 := fun e => (fmul_zero h e).elim hx hy
theorem fone_ne {g : Nat} (h : Gen m g) : (1 : Fin m) ≠ 0 := fun e => by
  have := congrArg Fin.val e
  have h2 := h.two
  rw [val1, val0, Nat.mod_eq_of_lt (by omega)] at this
  omega
theorem fpow_pw (x : Fin m) {k : Nat} (hk : k < 2 ^ 300) : x ^ k = ⟨pwF m 300 x.val k, by rw [pwF_eq _ _ _ _ hk]; exact Nat.mod_lt _ (Nat.pos_of_neZero m)⟩ := by
  apply Fin.ext; rw [val_pow]; exact (pwF_eq m 300 x.val k hk).symm
end
instance : NeZero pP := ⟨by decide⟩
instance : NeZero pL := ⟨by decide⟩
abbrev Fp := Fin pP
/-- the curve's d, and a square root of -1 -/
def dN : Nat := 37095705934669439343138083508754565189542113879843219016388785533085940283555
def iN : Nat := 19681161376707505956807079304988542015446066515923890162744021073123829784752
def cD : Fp := ⟨dN, by decide⟩
def cI : Fp := ⟨iN, by decide⟩
theorem cD_def : cD * 121666 = -121665 := by decide +kernel
theorem cI_sq : cI * cI = -1 := by decide +kernel
theorem cD_pow : cD ^ ((pP - 1) / 2) = -1 := by
  rw [fpow_pw _ (by decide +kernel)]
  decide +kernel
theorem cD_ne : cD ≠ 0 := by decide +kernel
/-- d is no square -/
theorem cD_nosq (z : Fp) : z * z ≠ cD := by
  intro h
  have hz : z ≠ 0 := by
    rintro rfl
    rw [Fin.zero_mul] at h
    exact cD_ne h.symm
  have h1 := cD_pow
  rw [← h, ← fpow_two, ← fpow_mul, show 2 * ((pP - 1) / 2) = pP - 1 by decide, fermatF genP hz] at h1
  exact absurd h1 (by decide +kernel)
end Go.Proofs.YtjhjjhpfjadjpaaDoor
