
/- The field of 256 elements in plain numbers and on bytes; matrices over it; any k rows of a code. -/
namespace Go.Proofs.YtpmnhlbkgeiomaaDoor.Gf
/-- times 2 -/
def xt (x : Nat) : Nat := if x < 128 then 2 * x else (2 * x) ^^^ 285
/-- n bits of y on: out and the products -/
def mulGo : Nat → Nat → Nat → Nat → Nat
  | 0, _, _, out => out
  | n + 1, x, y, out => mulGo n (xt x) (y / 2) (if y % 2 = 1 then out ^^^ x else out)
/-- a product, bit by bit -/
def mul (x y : Nat) : Nat := mulGo 8 x y 0
theorem all256 {p : Nat → Bool} (h : (List.range 256).all p = true) (a : Nat) (ha : a < 256) : p a = true := List.all_eq_true.1 h a (List.mem_range.2 ha)
theorem all2 {p : Nat → Nat → Bool} (h : ((List.range 256).all fun a => (List.range 256).all (p a)) = true) (a b : Nat) (ha : a < 256) (hb : b < 256) : p a b = true := all256 (all256 h a ha) b hb
theorem xt_lt (a : Nat) (h : a < 256) : xt a < 256 := by
  have := all256 (p := fun a => decide (xt a < 256)) (by decide +kernel) a h
  simpa using this
theorem xor_lt {a b : Nat} (ha : a < 256) (hb : b < 256) : a ^^^ b < 256 := Nat.xor_lt_two_pow (n := 8) ha hb
theorem xt_xor (a b : Nat) (ha : a < 256) (hb : b < 256) : xt (a ^^^ b) = xt a ^^^ xt b := by
  have := all2 (p := fun a b => xt (a ^^^ b) == xt a ^^^ xt b) (by decide +kernel) a b ha hb
  simpa using this
theorem x4 (a b c d : Nat) : (a ^^^ b) ^^^ (c ^^^ d) = (a ^^^ c) ^^^ (b ^^^ d) := by
  rw [Nat.xor_assoc, Nat.xor_assoc, ← Nat.xor_assoc b c d, ← Nat.xor_assoc c b d, Nat.xor_comm b c]
theorem mulGo_xor : ∀ (n a b y o p : Nat), a < 256 → b < 256 → mulGo n (a ^^^ b) y (o ^^^ p) = mulGo n a y o ^^^ mulGo n b y p
  | 0, _, _, _, _, _, _, _ => rfl
  | n + 1, a, b, y, o, p, ha, hb => by
    unfold mulGo
    rw [xt_xor a b ha hb]
    by_cases h : y % 2 = 1
    · simp only [if_pos h]
      rw [x4 o p a b]
      exact mulGo_xor n _ _ _ _ _ (xt_lt a ha) (xt_lt b hb)
    · simp only [if_neg h]
      exact mulGo_xor n _ _ _ _ _ (xt_lt a ha) (xt_lt b hb)
theorem mul_xor (a b y : Nat) (ha : a < 256) (hb : b < 256) : mul (a ^^^ b) y = mul a y ^^^ mul b y := mulGo_xor 8 a b y 0 0 ha hb
theorem mulGo_lt : ∀ (n a y o : Nat), a < 256 → o < 256 → mulGo n a y o < 256
  | 0, _, _, _, _, ho => ho
  | n + 1, a, y, o, ha, ho => by
    unfold mulGo
    refine mulGo_lt n _ _ _ (xt_lt a ha) ?_
    split
    · exact xor_lt ho ha
    · exact ho
theorem mul_lt (a y : Nat) (ha : a < 256) : mul a y < 256 := mulGo_lt 8 a y 0 ha (by decide)
/-- What is linear is told by its values at the bits. -/
theorem lin_ext {f g : Nat → Nat} (hf : ∀ a b, a < 256 → b < 256 → f (a ^^^ b) = f a ^^^ f b) (hg : ∀ a b, a < 256 → b < 256 → g (a ^^^ b) = g a ^^^ g b)
    (h : ∀ i, i < 8 → f (2 ^ i) = g (2 ^ i)) (a : Nat) (ha : a < 256) : f a = g a := by
  have f0 : f 0 = 0 := by have := hf 0 0 (by decide) (by decide); simpa using this
  have g0 : g 0 = 0 := by have := hg 0 0 (by decide) (by decide); simpa using this
  have step : ∀ (n : Nat), n ≤ 8 → ∀ x, x < 2 ^ n → f x = g x := by
    intro n
    induction n with
    | zero => intro _ x hx; have : x = 0 := by simpa using hx
              rw [this, f0, g0]
    | succ n ih =>
      intro hn x hx
      have hp : (2 : Nat) ^ n ≤ 128 := by
        have := Nat.pow_le_pow_right (n := 2) (by decide) (show n ≤ 7 by omega)
        simpa using this
      by_cases hlt : x < 2 ^ n
      · exact ih (by omega) x hlt
      · have hb : x = (x - 2 ^ n) ^^^ 2 ^ n := by
          have h1 : x - 2 ^ n < 2 ^ n := by rw [Nat.pow_succ] at hx; omega
          have h2 : 2 ^ n + (x - 2 ^ n) = 2 ^ n ^^^ (x - 2 ^ n) := by
            have := Nat.two_pow_add_eq_or_of_lt h1 1
            rw [Nat.mul_one] at this
            rw [this]
            apply Nat.eq_of_testBit_eq
            intro j
            rw [Nat.testBit_or, Nat.testBit_xor]
            by_cases hj : j < n
            · rw [Nat.testBit_two_pow_of_ne (by omega)]; simp
            · have : (x - 2 ^ n).testBit j = false := Nat.testBit_lt_two_pow (Nat.lt_of_lt_of_le h1 (Nat.pow_le_pow_right (by decide) (by omega)))
              rw [this]; simp
          rw [Nat.xor_comm, ← h2]; omega
        have h1 : x - 2 ^ n < 2 ^ n := by rw [Nat.pow_succ] at hx; omega
        rw [hb, hf _ _ (by omega) (by omega), hg _ _ (by omega) (by omega), ih (by omega) _ h1, h n (by omega)]
  exact step 8 (Nat.le_refl _) a ha
theorem mulGo_xor' : ∀ (n a y z o p : Nat), mulGo n a (y ^^^ z) (o ^^^ p) = mulGo n a y o ^^^ mulGo n a z p
  | 0, _, _, _, _, _ => rfl
  | n + 1, a, y, z, o, p => by
    unfold mulGo
    rw [Nat.xor_div_two]
    have e : (if (y ^^^ z) % 2 = 1 then o ^^^ p ^^^ a else o ^^^ p) = (if y % 2 = 1 then o ^^^ a else o) ^^^ (if z % 2 = 1 then p ^^^ a else p) := by
      by_cases h : y % 2 = 1 <;> by_cases k : z % 2 = 1
      · rw [if_neg (by rw [Nat.xor_mod_two_eq_one]; simp [h, k]), if_pos h, if_pos k, x4, Nat.xor_self, Nat.xor_zero]
      · rw [if_pos (by rw [Nat.xor_mod_two_eq_one]; simp [h, k]), if_pos h, if_neg k, Nat.xor_assoc, Nat.xor_comm p a, Nat.xor_assoc]
      · rw [if_pos (by rw [Nat.xor_mod_two_eq_one]; simp [h, k]), if_neg h, if_pos k, Nat.xor_assoc]
      · rw [if_neg (by rw [Nat.xor_mod_two_eq_one]; simp [h, k]), if_neg h, if_neg k]
    rw [e]
    exact mulGo_xor' n _ _ _ _ _
theorem mul_xor' (a b y : Nat) : mul y (a ^^^ b) = mul y a ^^^ mul y b := mulGo_xor' 8 y a b 0 0
theorem pw8 (i : Nat) (hi : i < 8) : 2 ^ i < 256 := Nat.pow_lt_pow_right (a := 2) (n := 8) (by decide) hi
theorem bits8 {p : Nat → Nat → Bool} (h : ((List.range 8).all fun i => (List.range 8).all (p i)) = true) (i j : Nat) (hi : i < 8) (hj : j < 8) : p i j = true :=
  List.all_eq_true.1 (List.all_eq_true.1 h i (List.mem_range.2 hi)) j (List.mem_range.2 hj)
theorem mul_comm (a b : Nat) (ha : a < 256) (hb : b < 256) : mul a b = mul b a := by
  refine lin_ext (f := fun a => mul a b) (g := fun a => mul b a) (fun x y hx hy => mul_xor x y b hx hy) (fun x y _ _ => mul_xor' x y b) (fun i hi => ?_) a ha
  refine lin_ext (f := fun b => mul (2 ^ i) b) (g := fun b => mul b (2 ^ i)) (fun x y _ _ => mul_xor' x y _) (fun x y hx hy => mul_xor x y _ hx hy) (fun j hj => ?_) b hb
  have := bits8 (p := fun i j => mul (2 ^ i) (2 ^ j) == mul (2 ^ j) (2 ^ i)) (by decide +kernel) i j hi hj
  simpa using this
theorem mul_assoc (a b c : Nat) (ha : a < 256) (hb : b < 256) (hc : c < 256) : mul (mul a b) c = mul a (mul b c) := by
  refine lin_ext (f := fun a => mul (mul a b) c) (g := fun a => mul a (mul b c)) ?_ ?_ ?_ a ha
  · intro x y hx hy
    show mul (mul (x ^^^ y) b) c = _
    rw [mul_xor x y b hx hy, mul_xor _ _ c (mul_lt _ _ hx) (mul_lt _ _ hy)]
  · intro x y hx hy
    exact mul_xor x y _ hx hy
  · intro i hi
    refine lin_ext (f := fun b => mul (mul (2 ^ i) b) c) (g := fun b => mul (2 ^ i) (mul b c)) ?_ ?_ ?_ b hb
    · intro x y hx hy
      show mul (mul (2 ^ i) (x ^^^ y)) c = _
      rw [mul_xor' x y _, mul_xor _ _ c (mul_lt _ _ (pw8 i hi)) (mul_lt _ _ (pw8 i hi))]
    · intro x y hx hy
      show mul (2 ^ i) (mul (x ^^^ y) c) = _
      rw [mul_xor x y c hx hy, mul_xor' _ _ _]
    · intro j hj
      refine lin_ext (f := fun c => mul (mul (2 ^ i) (2 ^ j)) c) (g := fun c => mul (2 ^ i) (mul (2 ^ j) c)) ?_ ?_ ?_ c hc
      · intro x y hx hy
        exact mul_xor' x y _
      · intro x y hx hy
        show mul (2 ^ i) (mul (2 ^ j) (x ^^^ y)) = _
        rw [mul_xor' x y _, mul_xor' _ _ _]
      · intro k hk
        have : ((List.range 8).all fun i => (List.range 8).all fun j => (List.range 8).all fun k => mul (mul (2 ^ i) (2 ^ j)) (2 ^ k) == mul (2 ^ i) (mul (2 ^ j) (2 ^ k))) = true := by decide +kernel
        have := List.all_eq_true.1 this i (List.mem_range.2 hi)
        have := List.all_eq_true.1 this j (List.mem_range.2 hj)
        have := List.all_eq_true.1 this k (List.mem_range.2 hk)
        simpa using this
theorem mul_zero (a : Nat) (ha : a < 256) : mul a 0 = 0 ∧ mul 0 a = 0 := by
  have := all256 (p := fun a => mul a 0 == 0 && mul 0 a == 0) (by decide +kernel) a ha
  simpa using this
theorem mul_one (a : Nat) (ha : a < 256) : mul a 1 = a ∧ mul 1 a = a := by
  have := all256 (p := fun a => mul a 1 == a && mul 1 a == a) (by decide +kernel) a ha
  simpa using this
/-! The tables. -/
/-- powers of 2 -/
def pw : Nat → Nat
  | 0 => 1
  | n + 1 => xt (pw n)
theorem pw_lt : ∀ n, pw n < 256
  | 0 => by decide
  | n + 1 => xt_lt _ (pw_lt n)
theorem pw_add : ∀ n, pw (n + 255) = pw n
  | 0 => by decide +kernel
  | n + 1 => by
    show xt (pw (n + 255)) = xt (pw n)
    rw [pw_add n]
theorem pw_mod (n : Nat) : pw (n % 255) = pw n := by
  have h : ∀ q r, pw (r + 255 * q) = pw r := by
    intro q
    induction q with
    | zero => intro r; rfl
    | succ q ih => intro r; rw [show r + 255 * (q + 1) = (r + 255 * q) + 255 by omega, pw_add, ih]
  have := h (n / 255) (n % 255)
  rw [Nat.mod_add_div] at this
  exact this.symm
def lgGo (a : Nat) : Nat → Nat → Nat → Nat
  | 0, _, _ => 0
  | n + 1, x, i => if x = a then i else lgGo a n (xt x) (i + 1)
/-- the number of a power; 0 of 0 -/
def lg (a : Nat) : Nat := lgGo a 255 1 0
theorem lg_lt (a : Nat) (h : a < 256) : lg a < 255 := by
  have := all256 (p := fun a => decide (lg a < 255)) (by decide +kernel) a h
  simpa using this
theorem pw_lg (a : Nat) (h : a < 256) (h0 : a ≠ 0) : pw (lg a) = a := by
  have := all256 (p := fun a => a == 0 || pw (lg a) == a) (by decide +kernel) a h
  simpa [h0] using this
theorem lg_pw (n : Nat) (h : n < 255) : lg (pw n) = n := by
  have := all256 (p := fun n => n == 255 || lg (pw n) == n) (by decide +kernel) n (by omega)
  have h1 : n ≠ 255 := by omega
  simpa [h1] using this
theorem pw_ne (n : Nat) : pw n ≠ 0 := by
  rw [← pw_mod]
  have := all256 (p := fun n => pw n != 0) (by decide +kernel) (n % 255) (by omega)
  simpa using this
theorem mul_xt (a b : Nat) (ha : a < 256) (hb : b < 256) : mul (xt a) b = xt (mul a b) := by
  refine lin_ext (f := fun a => mul (xt a) b) (g := fun a => xt (mul a b)) (fun x y hx hy => ?_) (fun x y hx hy => ?_) (fun i hi => ?_) a ha
  · show mul (xt (x ^^^ y)) b = _
    rw [xt_xor x y hx hy, mul_xor _ _ b (xt_lt x hx) (xt_lt y hy)]
  · show xt (mul (x ^^^ y) b) = _
    rw [mul_xor x y b hx hy, xt_xor _ _ (mul_lt _ _ hx) (mul_lt _ _ hy)]
  refine lin_ext (f := fun b => mul (xt (2 ^ i)) b) (g := fun b => xt (mul (2 ^ i) b)) (fun x y _ _ => mul_xor' x y _) (fun x y hx hy => ?_) (fun j hj => ?_) b hb
  · show xt (mul (2 ^ i) (x ^^^ y)) = _
    rw [mul_xor' x y _, xt_xor _ _ (mul_lt _ _ (pw8 i hi)) (mul_lt _ _ (pw8 i hi))]
  have := bits8 (p := fun i j => mul (xt (2 ^ i)) (2 ^ j) == xt (mul (2 ^ i) (2 ^ j))) (by decide +kernel) i j hi hj
  simpa using this
theorem mul_pw (j : Nat) : ∀ i, mul (pw i) (pw j) = pw (i + j)
  | 0 => by rw [Nat.zero_add]; exact (mul_one _ (pw_lt j)).2
  | i + 1 => by
    show mul (xt (pw i)) (pw j) = _
    rw [mul_xt _ _ (pw_lt i) (pw_lt j), mul_pw j i, show i + 1 + j = (i + j) + 1 by omega]
    rfl
/-- a product by the tables -/
def fmul (a b : Nat) : Nat := if a = 0 ∨ b = 0 then 0 else pw (lg a + lg b)
theorem fmul_eq (a b : Nat) (ha : a < 256) (hb : b < 256) : fmul a b = mul a b := by
  unfold fmul
  by_cases h0 : a = 0
  · rw [if_pos (.inl h0), h0, (mul_zero b hb).2]
  · by_cases h1 : b = 0
    · rw [if_pos (.inr h1), h1, (mul_zero a ha).1]
    · rw [if_neg (fun h => h.elim h0 h1)]
      have := mul_pw (lg b) (lg a)
      rw [pw_lg a ha h0, pw_lg b hb h1] at this
      exact this.symm
/-- an inverse by the tables -/
def finv (a : Nat) : Nat := pw (255 - lg a)
theorem finv_lt (a : Nat) : finv a < 256 := pw_lt _
theorem finv_ne (a : Nat) : finv a ≠ 0 := pw_ne _
theorem mul_finv (a : Nat) (ha : a < 256) (h0 : a ≠ 0) : mul a (finv a) = 1 := by
  have h := lg_lt a ha
  have := mul_pw (255 - lg a) (lg a)
  rw [pw_lg a ha h0] at this
  unfold finv
  rw [this, show lg a + (255 - lg a) = 0 + 255 by omega, pw_add 0]
  rfl
theorem mul_ne (a b : Nat) (ha : a < 256) (hb : b < 256) (h0 : a ≠ 0) (h1 : b ≠ 0) : mul a b ≠ 0 := by
  rw [← fmul_eq a b ha hb]
  unfold fmul
  rw [if_neg (fun h => h.elim h0 h1)]
  exact pw_ne _
def gmul (a b : UInt8) : UInt8 := UInt8.ofNat (mul a.toNat b.toNat)
def ginv (a : UInt8) : UInt8 := UInt8.ofNat (finv a.toNat)
theorem b_lt (a : UInt8) : a.toNat < 256 := a.toNat_lt
theorem gmul_nat (a b : UInt8) : (gmul a b).toNat = mul a.toNat b.toNat := by
  unfold gmul
  rw [UInt8.toNat_ofNat']
  exact Nat.mod_eq_of_lt (mul_lt _ _ (b_lt a))
theorem ginv_nat (a : UInt8) : (ginv a).toNat = finv a.toNat := by
  unfold ginv
  rw [UInt8.toNat_ofNat']
  exact Nat.mod_eq_of_lt (finv_lt _)
theorem b_ext {a b : UInt8} (h : a.toNat = b.toNat) : a = b := UInt8.toNat_inj.1 h
theorem b_ne {a : UInt8} (h : a ≠ 0) : a.toNat ≠ 0 := fun e => h (b_ext (by rw [e]; rfl))
theorem gmul_comm (a b : UInt8) : gmul a b = gmul b a := b_ext (by rw [gmul_nat, gmul_nat, mul_comm _ _ (b_lt a) (b_lt b)])
theorem gmul_assoc (a b c : UInt8) : gmul (gmul a b) c = gmul a (gmul b c) := b_ext (by rw [gmul_nat, gmul_nat, gmul_nat, gmul_nat, mul_assoc _ _ _ (b_lt a) (b_lt b) (b_lt c)])
theorem gmul_xor (a b c : UInt8) : gmul a (b ^^^ c) = gmul a b ^^^ gmul a c := b_ext (by rw [gmul_nat, UInt8.toNat_xor, UInt8.toNat_xor, gmul_nat, gmul_nat, mul_xor'])
theorem xor_gmul (a b c : UInt8) : gmul (a ^^^ b) c = gmul a c ^^^ gmul b c := by rw [gmul_comm, gmul_xor, gmul_comm c a, gmul_comm c b]
theorem gmul_zero (a : UInt8) : gmul a 0 = 0 := b_ext (by rw [gmul_nat]; exact (mul_zero _ (b_lt a)).1)
theorem zero_gmul (a : UInt8) : gmul 0 a = 0 := by rw [gmul_comm, gmul_zero]
theorem gmul_one (a : UInt8) : gmul a 1 = a := b_ext (by rw [gmul_nat]; exact (mul_one _ (b_lt a)).1)
theorem one_gmul (a : UInt8) : gmul 1 a = a := by rw [gmul_comm, gmul_one]
theorem gmul_ginv (a : UInt8) (h : a ≠ 0) : gmul a (ginv a) = 1 := b_ext (by rw [gmul_nat, ginv_nat]; exact mul_finv _ (b_lt a) (b_ne h))
theorem ginv_ne (a : UInt8) : ginv a ≠ 0 := fun e => finv_ne a.toNat (by rw [← ginv_nat, e]; rfl)
theorem gmul_ne {a b : UInt8} (ha : a ≠ 0) (hb : b ≠ 0) : gmul a b ≠ 0 := fun e => mul_ne _ _ (b_lt a) (b_lt b) (b_ne ha) (b_ne hb) (by rw [← gmul_nat, e]; rfl)
theorem gmul_eq_zero {a b : UInt8} (h : gmul a b = 0) (hb : b ≠ 0) : a = 0 := by
  by_cases ha : a = 0
  · exact ha
  · exact absurd h (gmul_ne ha hb)
theorem bx4 (a b c d : UInt8) : (a ^^^ b) ^^^ (c ^^^ d) = (a ^^^ c) ^^^ (b ^^^ d) := b_ext (by simp only [UInt8.toNat_xor]; exact x4 _ _ _ _)
theorem xor_eq_zero {a b : UInt8} (h : a ^^^ b = 0) : a = b := by
  have : a ^^^ b ^^^ b = 0 ^^^ b := by rw [h]
  rwa [UInt8.xor_assoc, UInt8.xor_self, UInt8.xor_zero, UInt8.zero_xor] at this
theorem xor_ne {a b : UInt8} (h : a ≠ b) : a ^^^ b ≠ 0 := fun e => h (xor_eq_zero e)
/-! Sums over a list. -/
def xs {α : Type} (l : List α) (f : α → UInt8) : UInt8 := l.foldr (fun y s => f y ^^^ s) 0
theorem xs_cons {α : Type} (y : α) (l : List α) (f : α → UInt8) : xs (y :: l) f = f y ^^^ xs l f := rfl
theorem xs_xor {α : Type} (f g : α → UInt8) : ∀ l : List α, xs l (fun y => f y ^^^ g y) = xs l f ^^^ xs l g
  | [] => UInt8.xor_self.symm
  | y :: l => by rw [xs_cons, xs_cons, xs_cons, xs_xor f g l, bx4]
theorem xs_mul {α : Type} (a : UInt8) (f : α → UInt8) : ∀ l : List α, xs l (fun y => gmul a (f y)) = gmul a (xs l f)
  | [] => (gmul_zero a).symm
  | y :: l => by rw [xs_cons, xs_cons, gmul_xor, xs_mul a f l]
theorem xs_congr {α : Type} {f g : α → UInt8} : ∀ {l : List α}, (∀ y, y ∈ l → f y = g y) → xs l f = xs l g
  | [], _ => rfl
  | y :: l, h => by rw [xs_cons, xs_cons, h y List.mem_cons_self, xs_congr (fun z hz => h z (List.mem_cons_of_mem _ hz))]
theorem xs_zero {α : Type} : ∀ l : List α, xs l (fun _ => 0) = 0
  | [] => rfl
  | y :: l => by rw [xs_cons, xs_zero l, UInt8.xor_self]
theorem xs_append {α : Type} (f : α → UInt8) : ∀ l r : List α, xs (l ++ r) f = xs l f ^^^ xs r f
  | [], r => by rw [List.nil_append]; exact (UInt8.zero_xor).symm
  | y :: l, r => by rw [List.cons_append, xs_cons, xs_cons, xs_append f l r, UInt8.xor_assoc]
/-- What stands at y alone. -/
theorem xs_one {α : Type} [DecidableEq α] (f : α → UInt8) (y : α) : ∀ l : List α, l.Nodup → y ∈ l → xs l (fun z => if z = y then f z else 0) = f y
  | [], _, h => by cases h
  | x :: l, hn, h => by
    rw [List.nodup_cons] at hn
    rw [xs_cons]
    by_cases e : x = y
    · subst e
      rw [if_pos rfl, xs_congr (g := fun _ => 0) (fun z hz => if_neg (fun e => hn.1 (by rw [← e]; exact hz))), xs_zero, UInt8.xor_zero]
    · rw [if_neg e, UInt8.zero_xor]
      exact xs_one f y l hn.2 (by rcases List.mem_cons.1 h with h | h; exact absurd h.symm e; exact h)
theorem cancel1 (a i q : UInt8) (h : a ≠ 0) : gmul a (gmul (gmul q i) (ginv a)) = gmul q i := by
  rw [gmul_comm (gmul q i), ← gmul_assoc, gmul_ginv _ h, one_gmul]
theorem cancel2 (a i q : UInt8) (h : a ≠ 0) : gmul a (gmul (gmul q (ginv a)) i) = gmul q i := by
  rw [gmul_comm q, gmul_assoc, ← gmul_assoc a, gmul_ginv _ h, one_gmul]
/-- Cauchy's rows: as many as there are numbers, or more, and all sums are nothing: the numbers are. -/
theorem cauchy : ∀ (ys ps : List UInt8) (v : UInt8 → UInt8), ys.length ≤ ps.length → ps.Nodup → ys.Nodup → (∀ x, x ∈ ps → ∀ y, y ∈ ys → x ≠ y) →
    (∀ x, x ∈ ps → xs ys (fun y => gmul (v y) (ginv (x ^^^ y))) = 0) → ∀ y, y ∈ ys → v y = 0
  | [], _, _, _, _, _, _, _, y, hy => by cases hy
  | y0 :: ys, [], _, hl, _, _, _, _, y, hy => by simp at hl
  | y0 :: ys, x0 :: ps, v, hl, hp, hn, hd, h, y, hy => by
    rw [List.nodup_cons] at hp hn
    have hx0 : ∀ y, y ∈ y0 :: ys → x0 ^^^ y ≠ 0 := fun y hy => xor_ne (hd x0 List.mem_cons_self y hy)
    -- each equation, times x + y0
    have hE : ∀ x, x ∈ x0 :: ps → v y0 ^^^ xs ys v ^^^ xs ys (fun y => gmul (gmul (v y) (y0 ^^^ y)) (ginv (x ^^^ y))) = 0 := by
      intro x hx
      have e := h x hx
      have e2 : gmul (x ^^^ y0) (xs (y0 :: ys) (fun y => gmul (v y) (ginv (x ^^^ y)))) = 0 := by rw [e, gmul_zero]
      rw [xs_cons, gmul_xor, ← xs_mul] at e2
      have h1 : gmul (x ^^^ y0) (gmul (v y0) (ginv (x ^^^ y0))) = v y0 := by
        rw [gmul_comm (v y0), ← gmul_assoc, gmul_ginv _ (xor_ne (hd x hx y0 List.mem_cons_self)), one_gmul]
      have h2 : xs ys (fun y => gmul (x ^^^ y0) (gmul (v y) (ginv (x ^^^ y)))) = xs ys v ^^^ xs ys (fun y => gmul (gmul (v y) (y0 ^^^ y)) (ginv (x ^^^ y))) := by
        rw [← xs_xor]
        refine xs_congr (fun y hy => ?_)
        have hne := xor_ne (hd x hx y (List.mem_cons_of_mem _ hy))
        have hs : x ^^^ y0 = (x ^^^ y) ^^^ (y0 ^^^ y) := by
          rw [bx4, UInt8.xor_self, UInt8.xor_zero]
        rw [hs, xor_gmul, gmul_comm (v y), ← gmul_assoc, gmul_ginv _ hne, one_gmul, gmul_comm (ginv _), ← gmul_assoc (y0 ^^^ y), gmul_comm (y0 ^^^ y)]
      rw [h1, h2, ← UInt8.xor_assoc] at e2
      exact e2
    have hI := cauchy ys ps (fun y => gmul (gmul (v y) (y0 ^^^ y)) (ginv (x0 ^^^ y))) (by simpa using hl) hp.2 hn.2 (fun x hx y hy => hd x (List.mem_cons_of_mem _ hx) y (List.mem_cons_of_mem _ hy)) (fun x hx => by
      have e1 := hE x (List.mem_cons_of_mem _ hx)
      have e0 := hE x0 List.mem_cons_self
      have hxx : x ^^^ x0 ≠ 0 := xor_ne (fun e => hp.1 (by rw [← e]; exact hx))
      have e2 : xs ys (fun y => gmul (gmul (v y) (y0 ^^^ y)) (ginv (x ^^^ y))) = xs ys (fun y => gmul (gmul (v y) (y0 ^^^ y)) (ginv (x0 ^^^ y))) := by
        rw [← xor_eq_zero e1, ← xor_eq_zero e0]
      have e3 : gmul (xs ys (fun y => gmul (gmul (gmul (v y) (y0 ^^^ y)) (ginv (x0 ^^^ y))) (ginv (x ^^^ y)))) (x ^^^ x0) = 0 := by
        rw [gmul_comm, ← xs_mul]
        have e4 := xs_xor (fun y => gmul (gmul (v y) (y0 ^^^ y)) (ginv (x ^^^ y))) (fun y => gmul (gmul (v y) (y0 ^^^ y)) (ginv (x0 ^^^ y))) ys
        rw [e2, UInt8.xor_self] at e4
        rw [← e4]
        refine xs_congr (fun y hy => ?_)
        have n1 := xor_ne (hd x (List.mem_cons_of_mem _ hx) y (List.mem_cons_of_mem _ hy))
        have n0 := hx0 y (List.mem_cons_of_mem _ hy)
        have hs : x ^^^ x0 = (x ^^^ y) ^^^ (x0 ^^^ y) := by rw [bx4, UInt8.xor_self, UInt8.xor_zero]
        generalize gmul (v y) (y0 ^^^ y) = q
        rw [hs, xor_gmul, cancel1 _ _ q n1, cancel2 _ _ q n0]
        exact UInt8.xor_comm _ _
      exact gmul_eq_zero e3 hxx)
    have hys : ∀ y, y ∈ ys → v y = 0 := fun y hy => gmul_eq_zero (gmul_eq_zero (hI y hy) (ginv_ne _)) (xor_ne (fun e => hn.1 (by rw [e]; exact hy)))
    rcases List.mem_cons.1 hy with rfl | hy
    · have e := h x0 List.mem_cons_self
      rw [xs_cons, xs_congr (g := fun _ => 0) (fun z hz => by rw [hys z hz, zero_gmul]), xs_zero, UInt8.xor_zero] at e
      exact gmul_eq_zero e (ginv_ne _)
    · exact hys y hy
abbrev Grid := List (List UInt8)
def rowAt (L : Grid) (i : Nat) : List UInt8 := L.getD i []
def at2 (L : Grid) (i j : Nat) : UInt8 := (rowAt L i).getD j 0
/-- a row times a vector -/
def dotn (n : Nat) (r d : Nat → UInt8) : UInt8 := xs (List.range n) (fun j => gmul (r j) (d j))
theorem dotn_add (n : Nat) (a b d : Nat → UInt8) (x : UInt8) : dotn n (fun j => a j ^^^ gmul x (b j)) d = dotn n a d ^^^ gmul x (dotn n b d) := by
  unfold dotn
  rw [← xs_mul, ← xs_xor]
  exact xs_congr (fun j _ => by rw [xor_gmul, gmul_assoc])
theorem dotn_scale (n : Nat) (b d : Nat → UInt8) (x : UInt8) : dotn n (fun j => gmul x (b j)) d = gmul x (dotn n b d) := by
  unfold dotn
  rw [← xs_mul]
  exact xs_congr (fun j _ => by rw [gmul_assoc])
theorem dotn_congr {n : Nat} {a b d e : Nat → UInt8} (h : ∀ j, j < n → a j = b j) (h2 : ∀ j, j < n → d j = e j) : dotn n a d = dotn n b e :=
  xs_congr (fun j hj => by rw [h j (List.mem_range.1 hj), h2 j (List.mem_range.1 hj)])
theorem nodup_range (n : Nat) : (List.range n).Nodup := List.nodup_range
theorem dotn_unit (n i : Nat) (hi : i < n) (d : Nat → UInt8) : dotn n (fun j => if i = j then 1 else 0) d = d i := by
  unfold dotn
  rw [xs_congr (g := fun j => if j = i then d j else 0) (fun j _ => by
    simp only
    by_cases e : i = j
    · rw [if_pos e, if_pos e.symm, one_gmul]
    · rw [if_neg e, if_neg (fun h => e h.symm), zero_gmul])]
  exact xs_one d i _ (nodup_range n) (List.mem_range.2 hi)
def swapR (L : Grid) (a b : Nat) : Grid := (L.set a (rowAt L b)).set b (rowAt L a)
def scaleR (x : UInt8) (r : List UInt8) : List UInt8 := r.map (gmul x)
def addR (x : UInt8) (from_ to_ : List UInt8) : List UInt8 := List.zipWith (fun t y => t ^^^ gmul x y) to_ from_
def clearC (c : Nat) (L M : Grid) : Grid := M.mapIdx (fun i r => if i = c then r else addR (at2 L i c) (rowAt M c) r)
structure Sq (n : Nat) (L : Grid) : Prop where
  len : L.length = n
  rows : ∀ i, i < n → (rowAt L i).length = n
theorem rowAt_lt {L : Grid} {i : Nat} (h : i < L.length) : rowAt L i = L[i] := by
  unfold rowAt
  rw [List.getD_eq_getElem?_getD, List.getElem?_eq_getElem h]
  rfl
theorem rowAt_set (L : Grid) (c : Nat) (r : List UInt8) (hc : c < L.length) (i : Nat) : rowAt (L.set c r) i = if i = c then r else rowAt L i := by
  unfold rowAt
  rw [List.getD_eq_getElem?_getD, List.getD_eq_getElem?_getD, List.getElem?_set]
  by_cases e : c = i
  · rw [if_pos e, if_pos e.symm, if_pos (by omega)]
    rfl
  · rw [if_neg e, if_neg (fun h => e h.symm)]
theorem rowAt_swap (L : Grid) (a b : Nat) (ha : a < L.length) (hb : b < L.length) (i : Nat) : rowAt (swapR L a b) i = if i = b then rowAt L a else if i = a then rowAt L b else rowAt L i := by
  unfold swapR
  rw [rowAt_set _ b _ (by simpa using hb), rowAt_set _ a _ ha]
theorem rowAt_clear (c : Nat) (L M : Grid) (i : Nat) (hi : i < M.length) : rowAt (clearC c L M) i = if i = c then rowAt M i else addR (at2 L i c) (rowAt M c) (rowAt M i) := by
  rw [rowAt_lt hi]
  unfold clearC
  rw [rowAt_lt (by simpa using hi), List.getElem_mapIdx]
theorem scale_getD (x : UInt8) (r : List UInt8) (j : Nat) : (scaleR x r).getD j 0 = gmul x (r.getD j 0) := by
  unfold scaleR
  rw [List.getD_eq_getElem?_getD, List.getD_eq_getElem?_getD, List.getElem?_map]
  cases h : r[j]? with
  | none => simp [gmul_zero]
  | some y => rfl
theorem add_getD (x : UInt8) (f t : List UInt8) (h : f.length = t.length) (j : Nat) : (addR x f t).getD j 0 = t.getD j 0 ^^^ gmul x (f.getD j 0) := by
  unfold addR
  rw [List.getD_eq_getElem?_getD, List.getD_eq_getElem?_getD, List.getD_eq_getElem?_getD, List.getElem?_zipWith]
  by_cases hj : j < t.length
  · rw [List.getElem?_eq_getElem hj, List.getElem?_eq_getElem (by omega)]
    rfl
  · rw [List.getElem?_eq_none (by omega), List.getElem?_eq_none (by omega)]
    simp [gmul_zero]
/-- pivots -/
def pivotGo (L : Grid) (c : Nat) : Nat → Nat → Nat
  | 0, a => a
  | f + 1, a => if at2 L a c = 0 then pivotGo L c f (a + 1) else a
def pivot (L : Grid) (c : Nat) : Nat := pivotGo L c (L.length - c) c
theorem pivotGo_le (L : Grid) (c : Nat) : ∀ f a, a ≤ pivotGo L c f a ∧ pivotGo L c f a ≤ a + f
  | 0, a => ⟨Nat.le_refl _, Nat.le_refl _⟩
  | f + 1, a => by
    unfold pivotGo
    split
    · have := pivotGo_le L c f (a + 1); omega
    · omega
theorem pivotGo_before (L : Grid) (c : Nat) : ∀ f a i, a ≤ i → i < pivotGo L c f a → at2 L i c = 0
  | 0, a, i, h1, h2 => by unfold pivotGo at h2; omega
  | f + 1, a, i, h1, h2 => by
    unfold pivotGo at h2
    split at h2
    · rename_i h
      by_cases e : a = i
      · rw [← e]; exact h
      · exact pivotGo_before L c f (a + 1) i (by omega) h2
    · omega
theorem pivotGo_at (L : Grid) (c : Nat) : ∀ f a, pivotGo L c f a < a + f → at2 L (pivotGo L c f a) c ≠ 0
  | 0, a, h => by unfold pivotGo at h; omega
  | f + 1, a, h => by
    unfold pivotGo at h ⊢
    split
    · rename_i h0
      rw [if_pos h0] at h
      exact pivotGo_at L c f (a + 1) (by omega)
    · rename_i h0; exact h0
/-- one column made plain -/
def gjL (c : Nat) (L : Grid) : Grid := swapR L c (pivot L c)
def gjBy (c : Nat) (L : Grid) : UInt8 := ginv (at2 (gjL c L) c c)
def gjS (c : Nat) (x : UInt8) (L : Grid) : Grid := L.set c (scaleR x (rowAt L c))
def stepL (c : Nat) (L : Grid) : Grid := clearC c (gjS c (gjBy c L) (gjL c L)) (gjS c (gjBy c L) (gjL c L))
def stepR (c : Nat) (L R : Grid) : Grid := clearC c (gjS c (gjBy c L) (gjL c L)) (gjS c (gjBy c L) (swapR R c (pivot L c)))
/-- from column c on, f columns -/
def gj : Nat → Nat → Grid → Grid → Option Grid
  | 0, _, _, R => some R
  | f + 1, c, L, R => if pivot L c = L.length then none else gj f (c + 1) (stepL c L) (stepR c L R)
def oneG (n : Nat) : Grid := (List.range n).map fun i => (List.range n).map fun j => if i = j then 1 else 0
def inverse (M : Grid) : Option Grid := gj M.length 0 M (oneG M.length)
structure Inv (n c : Nat) (M L R : Grid) : Prop where
  sqL : Sq n L
  sqR : Sq n R
  eq : ∀ d i, i < n → dotn n (at2 L i) d = dotn n (at2 R i) (fun j => dotn n (at2 M j) d)
  unit : ∀ i, i < n → ∀ j, j < c → at2 L i j = if i = j then 1 else 0
  ker : ∀ d, (∀ i, i < n → dotn n (at2 L i) d = 0) → ∀ i, i < n → dotn n (at2 M i) d = 0
theorem at2_swap {n : Nat} {L : Grid} (h : Sq n L) {a b : Nat} (ha : a < n) (hb : b < n) (i : Nat) : at2 (swapR L a b) i = if i = b then at2 L a else if i = a then at2 L b else at2 L i := by
  funext j
  unfold at2
  rw [rowAt_swap L a b (by rw [h.len]; exact ha) (by rw [h.len]; exact hb)]
  split
  · rfl
  · split <;> rfl
theorem sq_swap {n : Nat} {L : Grid} (h : Sq n L) {a b : Nat} (ha : a < n) (hb : b < n) : Sq n (swapR L a b) :=
  ⟨by unfold swapR; simp [h.len], fun i hi => by
    rw [rowAt_swap L a b (by rw [h.len]; exact ha) (by rw [h.len]; exact hb)]
    split
    · exact h.rows a ha
    · split
      · exact h.rows b hb
      · exact h.rows i hi⟩
theorem at2_scale {n : Nat} {L : Grid} (h : Sq n L) {c : Nat} (hc : c < n) (x : UInt8) (i : Nat) : at2 (gjS c x L) i = if i = c then (fun j => gmul x (at2 L c j)) else at2 L i := by
  funext j
  unfold at2 gjS
  rw [rowAt_set _ c _ (by rw [h.len]; exact hc)]
  split
  · rw [scale_getD]
  · rfl
theorem sq_scale {n : Nat} {L : Grid} (h : Sq n L) {c : Nat} (hc : c < n) (x : UInt8) : Sq n (gjS c x L) :=
  ⟨by unfold gjS; simp [h.len], fun i hi => by
    unfold gjS
    rw [rowAt_set _ c _ (by rw [h.len]; exact hc)]
    split
    · unfold scaleR; rw [List.length_map]; exact h.rows c hc
    · exact h.rows i hi⟩
theorem at2_clear {n : Nat} {L M : Grid} (h : Sq n M) {c : Nat} (hc : c < n) (i : Nat) (hi : i < n) : at2 (clearC c L M) i = if i = c then at2 M i else (fun j => at2 M i j ^^^ gmul (at2 L i c) (at2 M c j)) := by
  funext j
  unfold at2
  rw [rowAt_clear c L M i (by rw [h.len]; exact hi)]
  split
  · rfl
  · rw [add_getD _ _ _ (by rw [h.rows c hc, h.rows i hi])]
    rfl
theorem sq_clear {n : Nat} {L M : Grid} (h : Sq n M) {c : Nat} (hc : c < n) : Sq n (clearC c L M) :=
  ⟨by unfold clearC; simp [h.len], fun i hi => by
    rw [rowAt_clear c L M i (by rw [h.len]; exact hi)]
    split
    · exact h.rows i hi
    · unfold addR
      rw [List.length_zipWith, h.rows i hi, h.rows c hc, Nat.min_self]⟩
section
variable {n c : Nat} {M L R : Grid}
theorem Inv.swap (h : Inv n c M L R) {a : Nat} (hc : c < n) (h1 : c ≤ a) (ha : a < n) : Inv n c M (swapR L c a) (swapR R c a) := by
  have hL := at2_swap h.sqL hc ha
  have hR := at2_swap h.sqR hc ha
  refine ⟨sq_swap h.sqL hc ha, sq_swap h.sqR hc ha, fun d i hi => ?_, fun i hi j hj => ?_, fun d hd => h.ker d (fun i hi => ?_)⟩
  · rw [hL, hR]
    split
    · exact h.eq d c hc
    · split
      · exact h.eq d a ha
      · exact h.eq d i hi
  · rw [hL]
    split
    · rename_i e
      rw [h.unit c hc j hj, if_neg (by omega), if_neg (by omega)]
    · split
      · rename_i e
        rw [h.unit a ha j hj, if_neg (by omega), if_neg (by omega)]
      · exact h.unit i hi j hj
  · by_cases e : i = a
    · have := hd c hc
      rw [hL] at this
      by_cases e2 : c = a
      · rw [if_pos e2] at this; rw [e, ← e2]; exact this
      · rw [if_neg e2, if_pos rfl] at this; rw [e]; exact this
    · by_cases e2 : i = c
      · have := hd a ha
        rw [hL, if_pos rfl] at this
        rw [e2]; exact this
      · have := hd i hi
        rw [hL, if_neg e, if_neg e2] at this
        exact this
theorem Inv.scale (h : Inv n c M L R) (hc : c < n) {x : UInt8} (hx : x ≠ 0) : Inv n c M (gjS c x L) (gjS c x R) := by
  have hL := at2_scale h.sqL hc x
  have hR := at2_scale h.sqR hc x
  refine ⟨sq_scale h.sqL hc x, sq_scale h.sqR hc x, fun d i hi => ?_, fun i hi j hj => ?_, fun d hd => h.ker d (fun i hi => ?_)⟩
  · rw [hL, hR]
    split
    · rw [dotn_scale, dotn_scale, h.eq d c hc]
    · exact h.eq d i hi
  · rw [hL]
    split
    · rename_i e
      simp only
      rw [h.unit c hc j hj, if_neg (by omega), if_neg (by omega), gmul_zero]
    · exact h.unit i hi j hj
  · have := hd i hi
    rw [hL] at this
    split at this
    · rename_i e
      rw [dotn_scale, gmul_comm] at this
      rw [e]
      exact gmul_eq_zero this hx
    · exact this
theorem Inv.clear (h : Inv n c M L R) (hc : c < n) (h1 : at2 L c c = 1) : Inv n (c + 1) M (clearC c L L) (clearC c L R) := by
  have hL := fun i hi => at2_clear (L := L) h.sqL hc i hi
  have hR := fun i hi => at2_clear (L := L) h.sqR hc i hi
  refine ⟨sq_clear h.sqL hc, sq_clear h.sqR hc, fun d i hi => ?_, fun i hi j hj => ?_, fun d hd => h.ker d (fun i hi => ?_)⟩
  · rw [hL i hi, hR i hi]
    split
    · exact h.eq d i hi
    · rw [dotn_add, dotn_add, h.eq d i hi, h.eq d c hc]
  · rw [hL i hi]
    by_cases hjc : j < c
    · split
      · exact h.unit i hi j hjc
      · simp only
        rw [h.unit i hi j hjc, h.unit c hc j hjc, if_neg (show ¬ c = j by omega), gmul_zero, UInt8.xor_zero]
    · have hj' : j = c := by omega
      subst hj'
      split
      · rename_i e
        rw [e, h1]
      · rename_i e
        simp only
        rw [h1, gmul_one, UInt8.xor_self]
  · have hcz : dotn n (at2 L c) d = 0 := by
      have := hd c hc
      rwa [hL c hc, if_pos rfl] at this
    have := hd i hi
    rw [hL i hi] at this
    split at this
    · exact this
    · rw [dotn_add, hcz, gmul_zero, UInt8.xor_zero] at this
      exact this
end
theorem one_at (n i : Nat) (hi : i < n) : ∀ j, j < n → at2 (oneG n) i j = if i = j then 1 else 0 := by
  intro j hj
  unfold at2 oneG
  rw [rowAt_lt (by simpa using hi)]
  simp [hj]
theorem one_sq (n : Nat) : Sq n (oneG n) :=
  ⟨by simp [oneG], fun i hi => by
    unfold oneG
    rw [rowAt_lt (by simpa using hi)]
    simp⟩
theorem inv_start {n : Nat} {M : Grid} (h : Sq n M) : Inv n 0 M M (oneG n) :=
  ⟨h, one_sq n, fun d i hi => by
    rw [dotn_congr (b := fun j => if i = j then 1 else 0) (fun j hj => one_at n i hi j hj) (fun _ _ => rfl), dotn_unit n i hi], fun i hi j hj => by omega, fun d hd => hd⟩
/-- Nothing is made but of nothing. -/
def Plain (n : Nat) (M : Grid) : Prop := ∀ d, (∀ i, i < n → dotn n (at2 M i) d = 0) → ∀ j, j < n → d j = 0
theorem Inv.step {n c : Nat} {M L R : Grid} (h : Inv n c M L R) (hc : c < n) (hp : pivot L c ≠ L.length) : Inv n (c + 1) M (stepL c L) (stepR c L R) := by
  have hle := pivotGo_le L c (L.length - c) c
  have hlen := h.sqL.len
  have hpv : c ≤ pivot L c ∧ pivot L c < n := by unfold pivot at *; omega
  have hat := pivotGo_at L c (L.length - c) c (by unfold pivot at *; omega)
  have h1 := h.swap hc hpv.1 hpv.2
  have hne : at2 (gjL c L) c c ≠ 0 := by
    unfold gjL
    rw [at2_swap h.sqL hc hpv.2]
    by_cases e : c = pivot L c
    · rw [if_pos e]
      have hat' : at2 L (pivot L c) c ≠ 0 := hat
      rwa [← e] at hat'
    · rw [if_neg e, if_pos rfl]; exact hat
  have h2 := h1.scale hc (x := gjBy c L) (ginv_ne _)
  have hone : at2 (gjS c (gjBy c L) (gjL c L)) c c = 1 := by
    have e := at2_scale (sq_swap h.sqL hc hpv.2) hc (gjBy c L) c
    rw [if_pos rfl] at e
    have e2 := congrFun e c
    refine Eq.trans e2 ?_
    show gmul (gjBy c L) _ = 1
    rw [gmul_comm]
    exact gmul_ginv _ hne
  exact h2.clear hc hone
theorem Inv.pivots {n c : Nat} {M L R : Grid} (h : Inv n c M L R) (hc : c < n) (hM : Plain n M) : pivot L c ≠ L.length := by
  intro e
  have hz : ∀ i, c ≤ i → i < n → at2 L i c = 0 := fun i h1 h2 => pivotGo_before L c (L.length - c) c i h1 (by have := h.sqL.len; unfold pivot at e; omega)
  have := hM (fun j => if j < c then at2 L j c else if j = c then 1 else 0) (h.ker _ (fun i hi => ?_)) c hc
  · simp only at this
    rw [if_neg (by omega), if_pos trivial] at this
    exact absurd this (by decide)
  · have hs : dotn n (at2 L i) (fun j => if j < c then at2 L j c else if j = c then 1 else 0) = dotn n (fun j => if i = j then 1 else 0) (fun j => if j < c then at2 L j c else 0) ^^^ dotn n (at2 L i) (fun j => if c = j then 1 else 0) := by
      unfold dotn
      rw [← xs_xor]
      refine xs_congr (fun j hj => ?_)
      simp only
      by_cases hj1 : j < c
      · rw [if_pos hj1, if_pos hj1, if_neg (show ¬ c = j by omega), gmul_zero, UInt8.xor_zero, h.unit i hi j hj1]
      · rw [if_neg hj1, if_neg hj1, gmul_zero, UInt8.zero_xor]
        by_cases e : j = c
        · rw [if_pos e, if_pos e.symm]
        · rw [if_neg e, if_neg (fun h => e h.symm)]
    rw [hs, dotn_unit n i hi]
    have h2 : dotn n (at2 L i) (fun j => if c = j then 1 else 0) = at2 L i c := by
      have := dotn_unit n c hc (at2 L i)
      unfold dotn at this ⊢
      rw [← this]
      exact xs_congr (fun j _ => gmul_comm _ _)
    rw [h2]
    by_cases hic : i < c
    · rw [if_pos hic, UInt8.xor_self]
    · rw [if_neg hic, UInt8.zero_xor, hz i (by omega) hi]
theorem gj_from {n : Nat} {M : Grid} (hM : Plain n M) : ∀ f c L R, Inv n c M L R → c + f = n → ∃ R', gj f c L R = some R' ∧ Sq n R' ∧ ∀ d i, i < n → dotn n (at2 R' i) (fun j => dotn n (at2 M j) d) = d i
  | 0, c, L, R, h, e => ⟨R, rfl, h.sqR, fun d i hi => by
      rw [← h.eq d i hi, dotn_congr (b := fun j => if i = j then 1 else 0) (fun j hj => h.unit i hi j (by omega)) (fun _ _ => rfl), dotn_unit n i hi]⟩
  | f + 1, c, L, R, h, e => by
    have hp := h.pivots (by omega) hM
    unfold gj
    rw [if_neg hp]
    exact gj_from hM f (c + 1) _ _ (h.step (by omega) hp) (by omega)
/-- The inverse is there, and undoes. -/
theorem inverse_plain {n : Nat} {M : Grid} (h : Sq n M) (hM : Plain n M) : ∃ R, inverse M = some R ∧ Sq n R ∧ ∀ d i, i < n → dotn n (at2 R i) (fun j => dotn n (at2 M j) d) = d i := by
  unfold inverse
  rw [h.len]
  exact gj_from hM n 0 M _ (inv_start h) (by omega)
/-! A code's rows. -/
def genAt (k r j : Nat) : UInt8 := if r < k then (if r = j then 1 else 0) else ginv (UInt8.ofNat (r ^^^ j))
theorem byte_inj {a b : Nat} (ha : a < 256) (hb : b < 256) (h : UInt8.ofNat a = UInt8.ofNat b) : a = b := by
  have := congrArg UInt8.toNat h
  rwa [UInt8.toNat_ofNat', UInt8.toNat_ofNat', Nat.mod_eq_of_lt ha, Nat.mod_eq_of_lt hb] at this
theorem ofNat_xor (a b : Nat) (ha : a < 256) (hb : b < 256) : UInt8.ofNat (a ^^^ b) = UInt8.ofNat a ^^^ UInt8.ofNat b := b_ext (by
  rw [UInt8.toNat_xor, UInt8.toNat_ofNat', UInt8.toNat_ofNat', UInt8.toNat_ofNat', Nat.mod_eq_of_lt ha, Nat.mod_eq_of_lt hb, Nat.mod_eq_of_lt (xor_lt ha hb)])
/-- The numbers below k that are none of rows. -/
def missing (k : Nat) (rows : List Nat) : List Nat := (List.range k).filter (fun j => !rows.contains j)
theorem missing_len (rows : List Nat) (hn : rows.Nodup) : ∀ k, (missing k rows).length + (rows.filter (· < k)).length = k
  | 0 => by simp [missing]
  | k + 1 => by
    have ih := missing_len rows hn k
    have h1 : (missing (k + 1) rows).length = (missing k rows).length + if k ∈ rows then 0 else 1 := by
      unfold missing
      rw [List.range_succ, List.filter_append, List.length_append]
      congr 1
      by_cases h : k ∈ rows <;> simp [h]
    have h2 : ∀ l : List Nat, l.Nodup → (l.filter (· < k + 1)).length = (l.filter (· < k)).length + if k ∈ l then 1 else 0 := by
      intro l
      induction l with
      | nil => intro _; rfl
      | cons x l ihl =>
        intro hl
        rw [List.nodup_cons] at hl
        have := ihl hl.2
        by_cases e : x = k
        · subst e
          rw [List.filter_cons_of_pos (by simp), List.filter_cons_of_neg (by simp), List.length_cons, this, if_neg hl.1, if_pos List.mem_cons_self]
        · by_cases hlt : x < k
          · rw [List.filter_cons_of_pos (by simp; omega), List.filter_cons_of_pos (by simpa using hlt), List.length_cons, List.length_cons, this]
            have : (k ∈ x :: l) ↔ (k ∈ l) := by rw [List.mem_cons]; constructor <;> intro h; exact h.resolve_left (fun h => e h.symm); exact .inr h
            simp only [this]; omega
          · rw [List.filter_cons_of_neg (by simp; omega), List.filter_cons_of_neg (by simpa using hlt), this]
            have : (k ∈ x :: l) ↔ (k ∈ l) := by rw [List.mem_cons]; constructor <;> intro h; exact h.resolve_left (fun h => e h.symm); exact .inr h
            simp only [this]
    rw [h1, h2 rows hn]
    split <;> omega
theorem nodup_map_of {α β : Type} {f : α → β} : ∀ {l : List α}, (∀ a, a ∈ l → ∀ b, b ∈ l → f a = f b → a = b) → l.Nodup → (l.map f).Nodup
  | [], _, _ => List.nodup_nil
  | x :: l, hf, h => by
    rw [List.nodup_cons] at h
    rw [List.map_cons, List.nodup_cons]
    refine ⟨fun hm => ?_, nodup_map_of (fun a ha b hb => hf a (List.mem_cons_of_mem _ ha) b (List.mem_cons_of_mem _ hb)) h.2⟩
    obtain ⟨y, hy, e⟩ := List.mem_map.1 hm
    have := hf y (List.mem_cons_of_mem _ hy) x List.mem_cons_self e
    exact h.1 (by rw [← this]; exact hy)
theorem filter_len_add {α : Type} (p : α → Bool) : ∀ l : List α, (l.filter p).length + (l.filter (fun x => !p x)).length = l.length
  | [] => rfl
  | x :: l => by
    have := filter_len_add p l
    by_cases h : p x = true
    · rw [List.filter_cons_of_pos h, List.filter_cons_of_neg (by simp [h]), List.length_cons, List.length_cons]; omega
    · rw [List.filter_cons_of_neg h, List.filter_cons_of_pos (by simpa using h), List.length_cons, List.length_cons]; omega
/-- Any k of a code's rows, unlike ones: nothing is made but of nothing. -/
theorem mds (k N : Nat) (hN : N ≤ 256) (rows : List Nat) (hr : ∀ r, r ∈ rows → r < N) (hk : k ≤ N) (hl : rows.length = k) (hn : rows.Nodup) (d : Nat → UInt8)
    (h : ∀ r, r ∈ rows → dotn k (genAt k r) d = 0) : ∀ j, j < k → d j = 0 := by
  have hid : ∀ j, j < k → j ∈ rows → d j = 0 := by
    intro j hj hm
    have := h j hm
    rw [dotn_congr (b := fun i => if j = i then 1 else 0) (fun i _ => by unfold genAt; rw [if_pos hj]) (fun _ _ => rfl), dotn_unit k j hj] at this
    exact this
  have hmiss : ∀ j, j ∈ missing k rows ↔ j < k ∧ j ∉ rows := by intro j; unfold missing; simp
  have hlen := missing_len rows hn k
  have hlen2 := filter_len_add (fun r => decide (r < k)) rows
  have hmain := cauchy ((missing k rows).map UInt8.ofNat) ((rows.filter (fun r => !decide (r < k))).map UInt8.ofNat) (fun y => d y.toNat)
    (by rw [List.length_map, List.length_map]; omega)
    (nodup_map_of (fun a ha b hb e => byte_inj (by have := hr a (List.mem_filter.1 ha).1; omega) (by have := hr b (List.mem_filter.1 hb).1; omega) e) (hn.filter _))
    (nodup_map_of (fun a ha b hb e => byte_inj (by have := (hmiss a).1 ha; omega) (by have := (hmiss b).1 hb; omega) e) ((nodup_range k).filter _))
    (by
      intro x hx y hy e
      obtain ⟨a, ha, rfl⟩ := List.mem_map.1 hx
      obtain ⟨b, hb, rfl⟩ := List.mem_map.1 hy
      have h1 := (List.mem_filter.1 ha)
      have h2 := (hmiss b).1 hb
      have h3 := hr a h1.1
      have := byte_inj (by omega) (by omega) e
      have h4 := h1.2
      simp at h4
      omega)
    (by
      intro x hx
      obtain ⟨a, ha, rfl⟩ := List.mem_map.1 hx
      have h1 := (List.mem_filter.1 ha)
      have h4 := h1.2
      have h3 := hr a h1.1
      simp at h4
      have e := h a h1.1
      have hsplit : ∀ n, n ≤ k → xs (List.range n) (fun j => gmul (genAt k a j) (d j)) = xs ((missing n rows).map UInt8.ofNat) (fun y => gmul (d y.toNat) (ginv (UInt8.ofNat a ^^^ y))) := by
        intro n
        induction n with
        | zero => intro _; rfl
        | succ n ihn =>
          intro hnk
          have hm : missing (n + 1) rows = missing n rows ++ if n ∈ rows then [] else [n] := by
            unfold missing
            rw [List.range_succ, List.filter_append]
            congr 1
            by_cases h : n ∈ rows <;> simp [h]
          rw [List.range_succ, xs_append, ihn (by omega), hm, List.map_append, xs_append]
          congr 1
          by_cases hin : n ∈ rows
          · rw [if_pos hin, xs_cons, hid n (by omega) hin, gmul_zero]
            exact UInt8.xor_self
          · rw [if_neg hin, xs_cons]
            show gmul (genAt k a n) (d n) ^^^ 0 = gmul (d (UInt8.ofNat n).toNat) (ginv (UInt8.ofNat a ^^^ UInt8.ofNat n)) ^^^ 0
            rw [gmul_comm, UInt8.toNat_ofNat', Nat.mod_eq_of_lt (show n < 2 ^ 8 by omega), ← ofNat_xor a n (by omega) (by omega)]
            unfold genAt
            rw [if_neg (by omega)]
      rw [← hsplit k (Nat.le_refl _)]
      exact e)
  intro j hj
  by_cases hm : j ∈ rows
  · exact hid j hj hm
  · have := hmain (UInt8.ofNat j) (List.mem_map.2 ⟨j, (hmiss j).2 ⟨hj, hm⟩, rfl⟩)
    rwa [UInt8.toNat_ofNat', Nat.mod_eq_of_lt (show j < 2 ^ 8 by omega)] at this
end Go.Proofs.YtpmnhlbkgeiomaaDoor.Gf
