/- The stable sort of Go's slices, plain: insertion in blocks, merged in place. (That it sorts; which of two equals comes first is not said.) -/
import Derived.Sort.LotA
set_option linter.unusedVariables false
set_option linter.unusedSectionVars false
set_option linter.unusedSimpArgs false
set_option linter.unnecessarySimpa false
namespace Go.Sp
open Go.Sort
variable {α : Type} [Inhabited α]

/-- Two stretches change places, so many still. -/
def swapR (a b : Nat) : Nat → Nat → Array α → Array α
  | _, 0, d => d
  | i, k + 1, d => swapR a b (i + 1) k (swp d (a + i) (b + i))
theorem swapR_size (a b : Nat) : ∀ (k i : Nat) (d : Array α), (swapR a b i k d).size = d.size
  | 0, _, _ => rfl
  | k + 1, i, d => (swapR_size a b k (i + 1) _).trans (swp_size d _ _)
theorem swapR_get {a b : Nat} : ∀ (k i : Nat) (d : Array α), a + i + k ≤ b → b + i + k ≤ d.size → ∀ x, (swapR a b i k d)[x]! = if a + i ≤ x ∧ x < a + i + k then d[x + (b - a)]! else if b + i ≤ x ∧ x < b + i + k then d[x - (b - a)]! else d[x]!
  | 0, i, d, _, _, x => by
    rw [if_neg (by omega), if_neg (by omega)]; rfl
  | k + 1, i, d, h1, h2, x => by
    have ih := swapR_get (a := a) (b := b) k (i + 1) (swp d (a + i) (b + i)) (by omega) (by rw [swp_size]; omega) x
    have hg := swp_get d (i := a + i) (j := b + i) (by omega) (by omega)
    show (swapR a b (i + 1) k (swp d (a + i) (b + i)))[x]! = _
    rw [ih]
    simp only [hg]
    by_cases c1 : a + i ≤ x ∧ x < a + i + (k + 1)
    · rw [if_pos c1]
      by_cases c2 : x = a + i
      · subst c2
        rw [if_neg (by omega), if_neg (by omega), if_neg (by omega), if_pos rfl, show a + i + (b - a) = b + i by omega]
      · rw [if_pos (by omega), if_neg (by omega), if_neg (by omega)]
    · rw [if_neg c1, if_neg (by omega)]
      by_cases c3 : b + i ≤ x ∧ x < b + i + (k + 1)
      · rw [if_pos c3]
        by_cases c4 : x = b + i
        · subst c4
          rw [if_neg (by omega), if_pos rfl, show b + i - (b - a) = a + i by omega]
        · rw [if_pos (by omega), if_neg (by omega), if_neg (by omega)]
      · rw [if_neg c3, if_neg (by omega), if_neg (by omega), if_neg (by omega)]
theorem swapR_perm {a b lo hi : Nat} : ∀ (k i : Nat) (d : Array α), lo ≤ a + i → a + i + k ≤ hi → lo ≤ b + i → b + i + k ≤ hi → hi ≤ d.size → PermIn lo hi d (swapR a b i k d)
  | 0, i, d, _, _, _, _, _ => permIn_refl _ _ _
  | k + 1, i, d, h1, h2, h3, h4, h5 => permIn_trans _ _ _ _ _ (swp_permIn d lo hi (a + i) (b + i) (by omega) (by omega) (by omega) (by omega) h5)
      (swapR_perm k (i + 1) (swp d (a + i) (b + i)) (by omega) (by omega) (by omega) (by omega) (by rw [swp_size]; exact h5))

/-- Two neighbours of lengths i and j, that meet at m, change places. -/
def rotL (m : Nat) : Nat → Nat → Nat → Array α → Array α
  | 0, _, _, d => d
  | f + 1, i, j, d => if i = j then swapR (m - i) m 0 i d else if i > j then rotL m f (i - j) j (swapR (m - i) m 0 j d) else rotL m f i (j - i) (swapR (m - i) (m + j - i) 0 i d)
theorem rotL_perm {m lo hi : Nat} : ∀ (f i j : Nat) (d : Array α), 0 < i → 0 < j → i ≤ m → lo ≤ m - i → m + j ≤ hi → hi ≤ d.size → PermIn lo hi d (rotL m f i j d)
  | 0, _, _, d, _, _, _, _, _, _ => permIn_refl _ _ _
  | f + 1, i, j, d, h1, h2, h3, h4, h5, h6 => by
    unfold rotL
    split
    · exact swapR_perm _ _ _ (by omega) (by omega) (by omega) (by omega) h6
    · split
      · exact permIn_trans _ _ _ _ _ (swapR_perm j 0 d (by omega) (by omega) (by omega) (by omega) h6) (rotL_perm f (i - j) j _ (by omega) h2 (by omega) (by omega) h5 (by rw [swapR_size]; exact h6))
      · exact permIn_trans _ _ _ _ _ (swapR_perm i 0 d (by omega) (by omega) (by omega) (by omega) h6) (rotL_perm f i (j - i) _ h1 (by omega) h3 h4 (by omega) (by rw [swapR_size]; exact h6))
theorem rotL_get {m : Nat} : ∀ (f i j : Nat) (d : Array α), i + j ≤ f → 0 < i → 0 < j → i ≤ m → m + j ≤ d.size → ∀ x, (rotL m f i j d)[x]! = if m - i ≤ x ∧ x < m - i + j then d[x + i]! else if m - i + j ≤ x ∧ x < m + j then d[x - j]! else d[x]!
  | 0, i, j, d, h, h1, _, _, _, _ => by omega
  | f + 1, i, j, d, h, h1, h2, h3, h4, x => by
    unfold rotL
    split
    · rename_i e
      subst e
      rw [swapR_get i 0 d (by omega) (by omega) x]
      by_cases c1 : m - i ≤ x ∧ x < m - i + i
      · rw [if_pos c1, if_pos (by omega), show x + (m - (m - i)) = x + i by omega]
      · rw [if_neg c1, if_neg (by omega)]
        by_cases c2 : m ≤ x ∧ x < m + i
        · rw [if_pos (by omega), if_pos (by omega), show x - (m - (m - i)) = x - i by omega]
        · rw [if_neg (by omega), if_neg (by omega)]
    · split
      · rw [rotL_get f (i - j) j _ (by omega) (by omega) h2 (by omega) (by rw [swapR_size]; exact h4) x]
        have hg := swapR_get (a := m - i) (b := m) j 0 d (by omega) (by omega)
        simp only [hg]
        by_cases c1 : m - i ≤ x ∧ x < m - i + j
        · rw [if_pos c1, if_neg (by omega), if_neg (by omega), if_pos (by omega), show x + (m - (m - i)) = x + i by omega]
        · rw [if_neg c1]
          by_cases c2 : m - i + j ≤ x ∧ x < m + j
          · rw [if_pos c2]
            by_cases c3 : x < m - i + j + j
            · rw [if_pos (by omega), if_neg (by omega), if_pos (by omega), show x + (i - j) - (m - (m - i)) = x - j by omega]
            · rw [if_neg (by omega), if_pos (by omega), if_neg (by omega), if_neg (by omega)]
          · rw [if_neg c2, if_neg (by omega), if_neg (by omega), if_neg (by omega), if_neg (by omega)]
      · rw [rotL_get f i (j - i) _ (by omega) h1 (by omega) h3 (by rw [swapR_size]; omega) x]
        have hg := swapR_get (a := m - i) (b := m + j - i) i 0 d (by omega) (by omega)
        simp only [hg]
        by_cases c1 : m - i ≤ x ∧ x < m - i + j
        · rw [if_pos c1]
          by_cases c3 : x < m - i + (j - i)
          · rw [if_pos (by omega)]
            by_cases c4 : m + j - i ≤ x + i
            · omega
            · rw [if_neg (by omega), if_neg (by omega)]
          · rw [if_neg (by omega)]
            by_cases c5 : x < m + (j - i)
            · rw [if_pos (by omega), if_pos (by omega), show x - (j - i) + (m + j - i - (m - i)) = x + i by omega]
            · omega
        · rw [if_neg c1]
          by_cases c2 : m - i + j ≤ x ∧ x < m + j
          · rw [if_pos c2, if_neg (by omega), if_neg (by omega), if_neg (by omega), if_pos (by omega), show x - (m + j - i - (m - i)) = x - j by omega]
          · rw [if_neg c2, if_neg (by omega), if_neg (by omega), if_neg (by omega), if_neg (by omega)]

/-- The first place from lo on, up to hi, where p is not so (halving). -/
def bs (p : Nat → Bool) : Nat → Nat → Nat → Nat
  | 0, lo, _ => lo
  | f + 1, lo, hi => if lo < hi then (if p ((lo + hi) / 2) = true then bs p f ((lo + hi) / 2 + 1) hi else bs p f lo ((lo + hi) / 2)) else lo
theorem bs_spec {p : Nat → Bool} {lo0 hi0 : Nat} (hp : ∀ x y, lo0 ≤ x → x < y → y < hi0 → p y = true → p x = true) : ∀ (f lo hi : Nat), hi - lo ≤ f → lo0 ≤ lo → lo ≤ hi → hi ≤ hi0 → (∀ x, lo0 ≤ x → x < lo → p x = true) → (∀ x, hi ≤ x → x < hi0 → p x = false) →
    lo ≤ bs p f lo hi ∧ bs p f lo hi ≤ hi ∧ (∀ x, lo0 ≤ x → x < bs p f lo hi → p x = true) ∧ (∀ x, bs p f lo hi ≤ x → x < hi0 → p x = false)
  | 0, lo, hi, h, _, h2, _, h4, h5 => by
    have e : lo = hi := by omega
    subst e
    exact ⟨Nat.le_refl _, Nat.le_refl _, h4, h5⟩
  | f + 1, lo, hi, h, h1, h2, h3, h4, h5 => by
    unfold bs
    split
    · rename_i hlt
      split
      · rename_i hq
        have := bs_spec hp f ((lo + hi) / 2 + 1) hi (by omega) (by omega) (by omega) h3 (fun x hx hx' => by
          by_cases e : x = (lo + hi) / 2
          · subst e; exact hq
          · exact hp x _ hx (by omega) (by omega) hq) h5
        exact ⟨by omega, this.2.1, this.2.2⟩
      · rename_i hq
        have hq : p ((lo + hi) / 2) = false := by cases h : p ((lo + hi) / 2) <;> simp_all
        have := bs_spec hp f lo ((lo + hi) / 2) (by omega) h1 (by omega) (by omega) h4 (fun x hx hx' => by
          cases h9 : p x with
          | false => rfl
          | true =>
            by_cases e : x = (lo + hi) / 2
            · subst e; rw [hq] at h9; cases h9
            · have := hp ((lo + hi) / 2) x (by omega) (by omega) hx' h9
              rw [hq] at this; cases this)
        exact ⟨this.1, by omega, this.2.2⟩
    · have e : lo = hi := by omega
      subst e
      exact ⟨Nat.le_refl _, Nat.le_refl _, h4, h5⟩

/-- One goes up by neighbours, so many steps. -/
def upR : Nat → Nat → Array α → Array α
  | _, 0, d => d
  | k, n + 1, d => upR (k + 1) n (swp d k (k + 1))
theorem upR_size : ∀ (n k : Nat) (d : Array α), (upR k n d).size = d.size
  | 0, _, _ => rfl
  | n + 1, k, d => (upR_size n (k + 1) _).trans (swp_size d _ _)
theorem upR_perm {lo hi : Nat} : ∀ (n k : Nat) (d : Array α), lo ≤ k → k + n < hi → hi ≤ d.size → PermIn lo hi d (upR k n d)
  | 0, _, _, _, _, _ => permIn_refl _ _ _
  | n + 1, k, d, h1, h2, h3 => permIn_trans _ _ _ _ _ (swp_permIn d lo hi k (k + 1) h1 (by omega) (by omega) (by omega) h3) (upR_perm n (k + 1) _ (by omega) (by omega) (by rw [swp_size]; exact h3))
theorem upR_get : ∀ (n k : Nat) (d : Array α), k + n < d.size → ∀ x, (upR k n d)[x]! = if k ≤ x ∧ x < k + n then d[x + 1]! else if x = k + n then d[k]! else d[x]!
  | 0, k, d, h, x => by
    rw [if_neg (by omega)]
    by_cases e : x = k
    · subst e; rw [if_pos (by omega)]; rfl
    · rw [if_neg (by omega)]; rfl
  | n + 1, k, d, h, x => by
    show (upR (k + 1) n (swp d k (k + 1)))[x]! = _
    rw [upR_get n (k + 1) _ (by rw [swp_size]; omega) x]
    have hg := swp_get d (i := k) (j := k + 1) (by omega) (by omega)
    simp only [hg]
    by_cases c1 : k ≤ x ∧ x < k + (n + 1)
    · rw [if_pos c1]
      by_cases c2 : x = k
      · subst c2; rw [if_neg (by omega), if_neg (by omega), if_neg (by omega), if_pos rfl]
      · rw [if_pos (by omega), if_neg (by omega), if_neg (by omega)]
    · rw [if_neg c1, if_neg (by omega)]
      by_cases c3 : x = k + (n + 1)
      · subst c3; rw [if_pos (by first | omega | trivial), if_pos (by first | omega | trivial), if_pos (by first | omega | trivial)]
      · rw [if_neg (by omega), if_neg c3, if_neg (by omega), if_neg (by omega)]

/-- One goes down by neighbours, so many steps. -/
def dnR : Nat → Nat → Array α → Array α
  | _, 0, d => d
  | k, n + 1, d => dnR (k - 1) n (swp d k (k - 1))
theorem dnR_size : ∀ (n k : Nat) (d : Array α), (dnR k n d).size = d.size
  | 0, _, _ => rfl
  | n + 1, k, d => (dnR_size n (k - 1) _).trans (swp_size d _ _)
theorem dnR_perm {lo hi : Nat} : ∀ (n k : Nat) (d : Array α), lo + n ≤ k → k < hi → hi ≤ d.size → PermIn lo hi d (dnR k n d)
  | 0, _, _, _, _, _ => permIn_refl _ _ _
  | n + 1, k, d, h1, h2, h3 => permIn_trans _ _ _ _ _ (swp_permIn d lo hi k (k - 1) (by omega) (by omega) (by omega) (by omega) h3) (dnR_perm n (k - 1) _ (by omega) (by omega) (by rw [swp_size]; exact h3))
theorem dnR_get : ∀ (n k : Nat) (d : Array α), n ≤ k → k < d.size → ∀ x, (dnR k n d)[x]! = if x = k - n then d[k]! else if k - n < x ∧ x ≤ k then d[x - 1]! else d[x]!
  | 0, k, d, h, hk, x => by
    by_cases e : x = k
    · subst e; rw [if_pos (by omega)]; rfl
    · rw [if_neg (by omega), if_neg (by omega)]; rfl
  | n + 1, k, d, h, hk, x => by
    show (dnR (k - 1) n (swp d k (k - 1)))[x]! = _
    rw [dnR_get n (k - 1) _ (by omega) (by rw [swp_size]; omega) x]
    have hg := swp_get d (i := k) (j := k - 1) (by omega) (by omega)
    simp only [hg]
    by_cases c1 : x = k - (n + 1)
    · rw [if_pos c1, if_pos (by first | omega | trivial), if_pos (by first | omega | trivial)]
    · rw [if_neg c1, if_neg (by omega)]
      by_cases c2 : k - (n + 1) < x ∧ x ≤ k
      · rw [if_pos c2]
        by_cases c3 : x = k
        · subst c3; rw [if_neg (by omega), if_neg (by omega), if_pos rfl]
        · rw [if_pos (by omega), if_neg (by omega), if_neg (by omega)]
      · rw [if_neg c2, if_neg (by omega), if_neg (by omega), if_neg (by omega)]

section
variable (lt : α → α → Bool)
/-- slices' symMerge. -/
def symM : Nat → Nat → Nat → Nat → Array α → Array α
  | 0, _, _, _, d => d
  | f + 1, a, m, b, d =>
    if m - a = 1 then upR a (bs (fun h => lt d[h]! d[a]!) (b - m) m b - 1 - a) d
    else if b - m = 1 then dnR m (m - bs (fun h => !lt d[m]! d[h]!) (m - a) a m) d
    else
      let mid := (a + b) / 2
      let n := mid + m
      let lo := if m > mid then n - b else a
      let hi := if m > mid then mid else m
      let start := bs (fun c => !lt d[n - 1 - c]! d[c]!) (hi - lo) lo hi
      let fin := n - start
      let d1 := if start < m ∧ m < fin then rotL m (m - start + (fin - m)) (m - start) (fin - m) d else d
      let d2 := if a < start ∧ start < mid then symM f a start mid d1 else d1
      if mid < fin ∧ fin < b then symM f mid fin b d2 else d2
end

variable {lt : α → α → Bool}
theorem SortedIn.sub {a b a' b' : Nat} {d : Array α} (h : SortedIn lt a b d) (ha : a ≤ a') (hb : b' ≤ b) : SortedIn lt a' b' d := fun i j h1 h2 h3 => h i j (by omega) h2 (by omega)
theorem le_of (hS : SWO lt) {a b : Nat} {d : Array α} (h : SortedIn lt a b d) {i j : Nat} (hi : a ≤ i) (hij : i ≤ j) (hj : j < b) : lt d[j]! d[i]! = false := by
  by_cases e : i = j
  · subst e; exact hS.irrefl _
  · exact h i j hi (by omega) hj
theorem not_t {x : Bool} (h : (!x) = true) : x = false := by cases x <;> simp_all
theorem not_f {x : Bool} (h : (!x) = false) : x = true := by cases x <;> simp_all

theorem symM_ok (hS : SWO lt) : ∀ (f a m b : Nat) (d : Array α), b - a ≤ f → a < m → m < b → b ≤ d.size → SortedIn lt a m d → SortedIn lt m b d → PermIn a b d (symM lt f a m b d) ∧ SortedIn lt a b (symM lt f a m b d)
  | 0, a, m, b, d, h, h1, h2, _, _, _ => by omega
  | f + 1, a, m, b, d, h, h1, h2, h3, hl, hr => by
    unfold symM
    split
    · rename_i hc
      have hm : m = a + 1 := by omega
      have hb := bs_spec (p := fun h => lt d[h]! d[a]!) (lo0 := m) (hi0 := b) (fun x y hx hxy hy hp => by
        have h9 := le_of hS hr hx (Nat.le_of_lt hxy) hy
        show lt d[x]! d[a]! = true
        cases h8 : lt d[x]! d[a]! with
        | true => rfl
        | false => have hp : lt d[y]! d[a]! = true := hp; have := hS.ntrans _ _ _ h9 h8; rw [this] at hp; cases hp) (b - m) m b (Nat.le_refl _) (Nat.le_refl _) (Nat.le_of_lt h2) (Nat.le_refl _) (fun x hx hx' => by omega) (fun x hx hx' => by omega)
      obtain ⟨b1, b2, b3, b4⟩ := hb
      generalize bs (fun h => lt d[h]! d[a]!) (b - m) m b = i at b1 b2 b3 b4
      refine ⟨upR_perm _ _ _ (Nat.le_refl _) (by omega) h3, fun x y hx hxy hy => ?_⟩
      have hg := upR_get (i - 1 - a) a d (by omega)
      rw [hg, hg, show a + (i - 1 - a) = i - 1 by omega]
      by_cases c1 : y < i - 1
      · rw [if_pos (by omega), if_pos (by omega)]
        exact hr (x + 1) (y + 1) (by omega) (by omega) (by omega)
      · by_cases c2 : y = i - 1
        · subst c2
          rw [if_neg (by omega), if_pos rfl, if_pos (by omega)]
          exact hS.asymmA (b3 (x + 1) (by omega) (by omega))
        · rw [if_neg (by omega), if_neg c2]
          by_cases c3 : x < i - 1
          · rw [if_pos (by omega)]
            exact le_of hS hr (by omega) (by omega) hy
          · rw [if_neg (by omega)]
            by_cases c4 : x = i - 1
            · rw [if_pos c4]
              exact b4 y (by omega) hy
            · rw [if_neg c4]
              exact hr x y (by omega) hxy hy
    · rename_i hma
      split
      · rename_i hc
        have hbm : b = m + 1 := by omega
        have hb := bs_spec (p := fun h => !lt d[m]! d[h]!) (lo0 := a) (hi0 := m) (fun x y hx hxy hy hp => by
          have h9 := le_of hS hl hx (Nat.le_of_lt hxy) hy
          show (!lt d[m]! d[x]!) = true
          rw [hS.ntrans _ _ _ (not_t hp) h9]; rfl) (m - a) a m (Nat.le_refl _) (Nat.le_refl _) (Nat.le_of_lt h1) (Nat.le_refl _) (fun x hx hx' => by omega) (fun x hx hx' => by omega)
        obtain ⟨b1, b2, b3, b4⟩ := hb
        generalize bs (fun h => !lt d[m]! d[h]!) (m - a) a m = i at b1 b2 b3 b4
        refine ⟨dnR_perm _ _ _ (by omega) h2 h3, fun x y hx hxy hy => ?_⟩
        have hg := dnR_get (m - i) m d (by omega) (by omega)
        rw [hg, hg, show m - (m - i) = i by omega]
        by_cases c1 : y < i
        · rw [if_neg (by omega), if_neg (by omega), if_neg (by omega), if_neg (by omega)]
          exact hl x y hx hxy (by omega)
        · by_cases c2 : y = i
          · subst c2
            rw [if_pos rfl, if_neg (by omega), if_neg (by omega)]
            exact not_t (b3 x hx hxy)
          · rw [if_neg c2, if_pos (by omega)]
            by_cases c3 : x = i
            · rw [if_pos c3]
              exact hS.asymmA (not_f (b4 (y - 1) (by omega) (by omega)))
            · rw [if_neg c3]
              by_cases c4 : i < x
              · rw [if_pos (by omega)]
                exact hl (x - 1) (y - 1) (by omega) (by omega) (by omega)
              · rw [if_neg (by omega)]
                exact le_of hS hl hx (by omega) (by omega)
      · rename_i hbm
        obtain ⟨mid, hmid⟩ : ∃ q, q = (a + b) / 2 := ⟨_, rfl⟩
        simp only [← hmid]
        obtain ⟨lo, hlo⟩ : ∃ q, q = (if m > mid then mid + m - b else a) := ⟨_, rfl⟩
        obtain ⟨hi, hhi⟩ : ∃ q, q = (if m > mid then mid else m) := ⟨_, rfl⟩
        simp only [← hlo, ← hhi]
        have q1 : (m > mid ∧ lo = mid + m - b ∧ hi = mid) ∨ (m ≤ mid ∧ lo = a ∧ hi = m) := by
          by_cases c : m > mid
          · rw [if_pos c] at hlo hhi; exact .inl ⟨c, hlo, hhi⟩
          · rw [if_neg c] at hlo hhi; exact .inr ⟨by omega, hlo, hhi⟩
        clear hlo hhi
        have hb := bs_spec (p := fun c => !lt d[mid + m - 1 - c]! d[c]!) (lo0 := lo) (hi0 := hi) (fun x y hx hxy hy hp => by
          have g1 := le_of hS hl (i := x) (j := y) (by omega) (Nat.le_of_lt hxy) (by omega)
          have g2 := le_of hS hr (i := mid + m - 1 - y) (j := mid + m - 1 - x) (by omega) (by omega) (by omega)
          show (!lt d[mid + m - 1 - x]! d[x]!) = true
          rw [hS.ntrans _ _ _ g2 (hS.ntrans _ _ _ (not_t hp) g1)]; rfl) (hi - lo) lo hi (Nat.le_refl _) (Nat.le_refl _) (by omega) (Nat.le_refl _) (fun x hx hx' => by omega) (fun x hx hx' => by omega)
        obtain ⟨b1, b2, b3, b4⟩ := hb
        generalize bs (fun c => !lt d[mid + m - 1 - c]! d[c]!) (hi - lo) lo hi = s at b1 b2 b3 b4
        obtain ⟨e, he⟩ : ∃ q, q = mid + m - s := ⟨_, rfl⟩
        rw [← he]
        -- behind the rotation
        obtain ⟨d1, hd1⟩ : ∃ q, q = (if s < m ∧ m < e then rotL m (m - s + (e - m)) (m - s) (e - m) d else d) := ⟨_, rfl⟩
        rw [← hd1]
        have hg : ∀ x, d1[x]! = if s ≤ x ∧ x < mid then d[x + (m - s)]! else if mid ≤ x ∧ x < e then d[x - (e - m)]! else d[x]! := by
          intro x
          rw [hd1]
          split
          · rename_i hc
            rw [rotL_get _ _ _ _ (Nat.le_refl _) (by omega) (by omega) (by omega) (by omega) x, show m - (m - s) = s by omega, show s + (e - m) = mid by omega, show m + (e - m) = e by omega]
          · rename_i hc
            by_cases c1 : s ≤ x ∧ x < mid
            · rw [if_pos c1]
              rcases Nat.lt_or_ge s m with h9 | h9
              · omega
              · rw [show m - s = 0 by omega]; rfl
            · rw [if_neg c1]
              by_cases c2 : mid ≤ x ∧ x < e
              · rw [if_pos c2]
                rcases Nat.lt_or_ge m e with h9 | h9
                · omega
                · rw [show e - m = 0 by omega]; rfl
              · rw [if_neg c2]
        have hp1 : PermIn a b d d1 := by
          rw [hd1]
          split
          · rename_i hc
            exact rotL_perm _ _ _ _ (by omega) (by omega) (by omega) (by omega) (by omega) h3
          · exact permIn_refl _ _ _
        clear hd1
        have hs1 : d1.size = d.size := hp1.1
        -- the two halves' runs
        have r1 : SortedIn lt a s d1 := fun x y hx hxy hy => by rw [hg, hg, if_neg (by omega), if_neg (by omega), if_neg (by omega), if_neg (by omega)]; exact hl x y hx hxy (by omega)
        have r2 : SortedIn lt s mid d1 := fun x y hx hxy hy => by rw [hg, hg, if_pos (by omega), if_pos (by omega)]; exact hr _ _ (by omega) (by omega) (by omega)
        have r3 : SortedIn lt mid e d1 := fun x y hx hxy hy => by rw [hg, hg, if_neg (by omega), if_pos (by omega), if_neg (by omega), if_pos (by omega)]; exact hl _ _ (by omega) (by omega) (by omega)
        have r4 : SortedIn lt e b d1 := fun x y hx hxy hy => by rw [hg, hg, if_neg (by omega), if_neg (by omega), if_neg (by omega), if_neg (by omega)]; exact hr x y (by omega) hxy (by omega)
        have hcross : ∀ x y, a ≤ x → x < mid → mid ≤ y → y < b → lt d1[y]! d1[x]! = false := by
          intro x y hx hx' hy hy'
          rw [hg, hg]
          by_cases c1 : x < s
          · rw [if_neg (by omega), if_neg (c := s ≤ x ∧ x < mid) (by omega), if_neg (c := mid ≤ x ∧ x < e) (by omega)]
            by_cases c2 : y < e
            · rw [if_pos (by omega)]
              exact le_of hS hl hx (by omega) (by omega)
            · rw [if_neg (by omega)]
              have g1 := not_t (b3 (s - 1) (by omega) (by omega))
              rw [show mid + m - 1 - (s - 1) = e by omega] at g1
              exact hS.ntrans _ _ _ (le_of hS hr (i := e) (j := y) (by omega) (by omega) hy') (hS.ntrans _ _ _ g1 (le_of hS hl (i := x) (j := s - 1) hx (by omega) (by omega)))
          · rw [if_neg (by omega), if_pos (c := s ≤ x ∧ x < mid) (by omega)]
            by_cases c2 : y < e
            · rw [if_pos (by omega)]
              have g1 := hS.asymmA (not_f (b4 s (by omega) (by omega)))
              rw [show mid + m - 1 - s = e - 1 by omega] at g1
              exact hS.ntrans _ _ _ (le_of hS hl (i := s) (j := y - (e - m)) (by omega) (by omega) (by omega)) (hS.ntrans _ _ _ g1 (le_of hS hr (i := x + (m - s)) (j := e - 1) (by omega) (by omega) (by omega)))
            · rw [if_neg (by omega)]
              exact le_of hS hr (by omega) (by omega) hy'
        -- the first half
        obtain ⟨d2, hd2⟩ : ∃ q, q = (if a < s ∧ s < mid then symM lt f a s mid d1 else d1) := ⟨_, rfl⟩
        rw [← hd2]
        have h2' : PermIn a mid d1 d2 ∧ SortedIn lt a mid d2 := by
          rw [hd2]
          split
          · rename_i hc
            exact symM_ok hS f a s mid d1 (by omega) hc.1 hc.2 (by omega) r1 r2
          · rename_i hc
            refine ⟨permIn_refl _ _ _, ?_⟩
            by_cases c : a < s
            · have : s = mid := by omega
              rw [← this]; exact r1
            · have : s = a := by omega
              rw [← this]; exact r2
        clear hd2
        have hk : ∀ x, mid ≤ x → d2[x]! = d1[x]! := fun x hx => h2'.1.2.1 x (.inr hx)
        have r3' : SortedIn lt mid e d2 := fun x y hx hxy hy => by rw [hk x hx, hk y (by omega)]; exact r3 x y hx hxy hy
        have r4' : SortedIn lt e b d2 := fun x y hx hxy hy => by rw [hk x (by omega), hk y (by omega)]; exact r4 x y hx hxy hy
        have hcross2 : ∀ y, mid ≤ y → y < b → ∀ x, a ≤ x → x < mid → lt d2[y]! d2[x]! = false := by
          intro y hy hy'
          rw [hk y hy]
          exact permIn_all d1 d2 a mid (fun v => lt d1[y]! v = false) (by omega) h2'.1 fun i hi hi' => hcross i y hi hi' hy hy'
        have hs2 : d2.size = d.size := h2'.1.1.trans hs1
        -- the second half
        obtain ⟨d3, hd3⟩ : ∃ q, q = (if mid < e ∧ e < b then symM lt f mid e b d2 else d2) := ⟨_, rfl⟩
        rw [← hd3]
        have h3' : PermIn mid b d2 d3 ∧ SortedIn lt mid b d3 := by
          rw [hd3]
          split
          · rename_i hc
            exact symM_ok hS f mid e b d2 (by omega) hc.1 hc.2 (by omega) r3' r4'
          · rename_i hc
            refine ⟨permIn_refl _ _ _, ?_⟩
            by_cases c : mid < e
            · have : e = b := by omega
              rw [← this]; exact r3'
            · have : e = mid := by omega
              rw [← this]; exact r4'
        clear hd3
        have hk3 : ∀ x, x < mid → d3[x]! = d2[x]! := fun x hx => h3'.1.2.1 x (.inl hx)
        refine ⟨permIn_trans _ _ _ _ _ hp1 (permIn_trans _ _ _ _ _ (permIn_mono d1 d2 a mid a b (Nat.le_refl _) (by omega) (by omega) h2'.1) (permIn_mono d2 d3 mid b a b (by omega) (Nat.le_refl _) (by omega) h3'.1)), fun x y hx hxy hy => ?_⟩
        by_cases c1 : y < mid
        · rw [hk3 x (by omega), hk3 y c1]; exact h2'.2 x y hx hxy c1
        · by_cases c2 : x < mid
          · rw [hk3 x c2]
            exact permIn_all d2 d3 mid b (fun v => lt v d2[x]! = false) (by omega) h3'.1 (fun i hi hi' => hcross2 i hi hi' x hx c2) y (by omega) hy
          · exact h3'.2 x y (by omega) hxy hy

end Go.Sp

namespace Go.Sp
open Go.Sort
variable {α : Type} [Inhabited α] {lt : α → α → Bool}

theorem sorted_keep {lo hi x y : Nat} {d d' : Array α} (hP : PermIn lo hi d d') (h : SortedIn lt x y d) (hd : y ≤ lo ∨ hi ≤ x) : SortedIn lt x y d' := by
  intro i j hi' hij hj
  rw [hP.2.1 i (by omega), hP.2.1 j (by omega)]
  exact h i j hi' hij hj

/-- Every stretch of s is in order, up to n. -/
def Runs (lt : α → α → Bool) (s n : Nat) (d : Array α) : Prop := ∀ k, SortedIn lt (k * s) (min (k * s + s) n) d

section
variable (lt : α → α → Bool)
def insB (s n : Nat) : Nat → Nat → Array α → Array α
  | 0, _, d => d
  | f + 1, a, d => if a + s ≤ n then insB s n f (a + s) (insertionSort lt d a (a + s)) else insertionSort lt d a n
def mrg (s n : Nat) : Nat → Nat → Array α → Array α
  | 0, _, d => d
  | f + 1, a, d => if a + 2 * s ≤ n then mrg s n f (a + 2 * s) (symM lt (2 * s) a (a + s) (a + 2 * s) d) else if a + s < n then symM lt (n - a) a (a + s) n d else d
def mrgs (n : Nat) : Nat → Nat → Array α → Array α
  | 0, _, d => d
  | f + 1, s, d => if s < n then mrgs n f (2 * s) (mrg lt s n (n + 1) 0 d) else d
def stable (n : Nat) (d : Array α) : Array α := mrgs lt n n 20 (insB lt 20 n (n + 1) 0 d)
end

theorem insB_ok (hS : SWO lt) {s n : Nat} (hs : 1 ≤ s) : ∀ (f k : Nat) (d : Array α), n + 1 - k * s ≤ f → 1 ≤ f → k * s ≤ n → n ≤ d.size → (∀ q, q < k → SortedIn lt (q * s) (q * s + s) d) → PermIn 0 n d (insB lt s n f (k * s) d) ∧ Runs lt s n (insB lt s n f (k * s) d)
  | 0, k, d, h, h1, _, _, _ => by omega
  | f + 1, k, d, h, _, h2, h3, h4 => by
    unfold insB
    split
    · rename_i hc
      obtain ⟨p1, p2⟩ := insertionSort_holds hS d (k * s) (k * s + s) (by omega) (by omega)
      have e : k * s + s = (k + 1) * s := by rw [Nat.succ_mul]
      have ih := insB_ok hS (s := s) (n := n) hs f (k + 1) (insertionSort lt d (k * s) (k * s + s)) (by rw [← e]; omega) (by omega) (by rw [← e]; omega) (by rw [p1.1]; exact h3) (fun q hq => by
        by_cases c : q = k
        · subst c; exact p2
        · have : (q + 1) * s ≤ k * s := Nat.mul_le_mul_right s (by omega)
          rw [Nat.succ_mul] at this
          exact sorted_keep p1 (h4 q (by omega)) (.inl this))
      rw [← e] at ih
      exact ⟨permIn_trans _ _ _ _ _ (permIn_mono _ _ _ _ 0 n (Nat.zero_le _) (by omega) h3 p1) ih.1, ih.2⟩
    · rename_i hc
      obtain ⟨p1, p2⟩ := insertionSort_holds hS d (k * s) n h2 h3
      refine ⟨permIn_mono _ _ _ _ 0 n (Nat.zero_le _) (Nat.le_refl _) h3 p1, fun q => ?_⟩
      rcases Nat.lt_trichotomy q k with c | c | c
      · have : (q + 1) * s ≤ k * s := Nat.mul_le_mul_right s c
        rw [Nat.succ_mul] at this
        exact SortedIn.sub (sorted_keep p1 (h4 q c) (.inl this)) (Nat.le_refl _) (by omega)
      · subst c
        exact SortedIn.sub p2 (Nat.le_refl _) (by omega)
      · have : (k + 1) * s ≤ q * s := Nat.mul_le_mul_right s c
        rw [Nat.succ_mul] at this
        intro i j h5 h6 h7
        omega

theorem mrg_ok (hS : SWO lt) {s n : Nat} (hs : 1 ≤ s) : ∀ (f k : Nat) (d : Array α), n + 1 - k * (2 * s) ≤ f → 1 ≤ f → k * (2 * s) ≤ n → n ≤ d.size → (∀ q, q < k → SortedIn lt (q * (2 * s)) (q * (2 * s) + 2 * s) d) → (∀ q, 2 * k ≤ q → SortedIn lt (q * s) (min (q * s + s) n) d) →
    PermIn 0 n d (mrg lt s n f (k * (2 * s)) d) ∧ Runs lt (2 * s) n (mrg lt s n f (k * (2 * s)) d)
  | 0, k, d, h, h1, _, _, _, _ => by omega
  | f + 1, k, d, h, _, h2, h3, h4, h5 => by
    have e1 : 2 * k * s = k * (2 * s) := by rw [Nat.mul_comm 2 k, Nat.mul_assoc]
    have e2 : (2 * k + 1) * s = k * (2 * s) + s := by rw [Nat.succ_mul, e1]
    have r1 := h5 (2 * k) (Nat.le_refl _)
    have r2 := h5 (2 * k + 1) (by omega)
    rw [e1] at r1
    rw [e2] at r2
    have hbelow : ∀ q, q < k → q * (2 * s) + 2 * s ≤ k * (2 * s) := fun q hq => by
      have : (q + 1) * (2 * s) ≤ k * (2 * s) := Nat.mul_le_mul_right _ hq
      rwa [Nat.succ_mul] at this
    have habove : ∀ q, 2 * k + 2 ≤ q → k * (2 * s) + 2 * s ≤ q * s := fun q hq => by
      have : (2 * k + 2) * s ≤ q * s := Nat.mul_le_mul_right _ hq
      rw [Nat.add_mul, e1] at this
      exact this
    have habove2 : ∀ q, k < q → k * (2 * s) + 2 * s ≤ q * (2 * s) := fun q hq => by
      have : (k + 1) * (2 * s) ≤ q * (2 * s) := Nat.mul_le_mul_right _ hq
      rwa [Nat.succ_mul] at this
    unfold mrg
    split
    · rename_i hc
      obtain ⟨p1, p2⟩ := symM_ok hS (2 * s) (k * (2 * s)) (k * (2 * s) + s) (k * (2 * s) + 2 * s) d (by omega) (by omega) (by omega) (by omega) (SortedIn.sub r1 (Nat.le_refl _) (by omega)) (SortedIn.sub r2 (Nat.le_refl _) (by omega))
      have e : k * (2 * s) + 2 * s = (k + 1) * (2 * s) := (Nat.succ_mul k (2 * s)).symm
      have ih := mrg_ok hS (s := s) (n := n) hs f (k + 1) (symM lt (2 * s) (k * (2 * s)) (k * (2 * s) + s) (k * (2 * s) + 2 * s) d) (by rw [← e]; omega) (by omega) (by rw [← e]; omega) (by rw [p1.1]; exact h3) (fun q hq => by
        by_cases c : q = k
        · subst c; exact p2
        · exact sorted_keep p1 (h4 q (by omega)) (.inl (hbelow q (by omega))))
        (fun q hq => sorted_keep p1 (h5 q (by omega)) (.inr (habove q (by omega))))
      rw [← e] at ih
      exact ⟨permIn_trans _ _ _ _ _ (permIn_mono _ _ _ _ 0 n (Nat.zero_le _) (by omega) h3 p1) ih.1, ih.2⟩
    · rename_i hc
      have key : ∀ d' : Array α, PermIn (k * (2 * s)) n d d' → SortedIn lt (k * (2 * s)) n d' → PermIn 0 n d d' ∧ Runs lt (2 * s) n d' := by
        intro d' p1 p2
        refine ⟨permIn_mono _ _ _ _ 0 n (Nat.zero_le _) (Nat.le_refl _) h3 p1, fun q => ?_⟩
        rcases Nat.lt_trichotomy q k with c | c | c
        · exact SortedIn.sub (sorted_keep p1 (h4 q c) (.inl (hbelow q c))) (Nat.le_refl _) (by omega)
        · subst c
          exact SortedIn.sub p2 (Nat.le_refl _) (by omega)
        · have := habove2 q c
          intro i j h5 h6 h7
          omega
      split
      · rename_i hc2
        obtain ⟨p1, p2⟩ := symM_ok hS (n - k * (2 * s)) (k * (2 * s)) (k * (2 * s) + s) n d (Nat.le_refl _) (by omega) hc2 h3 (SortedIn.sub r1 (Nat.le_refl _) (by omega)) (SortedIn.sub r2 (Nat.le_refl _) (by omega))
        exact key _ p1 p2
      · rename_i hc2
        exact key _ (permIn_refl _ _ _) (SortedIn.sub r1 (Nat.le_refl _) (by omega))

theorem mrgs_ok (hS : SWO lt) {n : Nat} : ∀ (f s : Nat) (d : Array α), 1 ≤ s → n ≤ s + f → n ≤ d.size → Runs lt s n d → PermIn 0 n d (mrgs lt n f s d) ∧ SortedIn lt 0 n (mrgs lt n f s d)
  | 0, s, d, h1, h2, h3, h4 => by
    have := h4 0
    rw [Nat.zero_mul, Nat.zero_add] at this
    exact ⟨permIn_refl _ _ _, SortedIn.sub this (Nat.le_refl _) (by omega)⟩
  | f + 1, s, d, h1, h2, h3, h4 => by
    unfold mrgs
    split
    · rename_i hc
      have hm := mrg_ok hS h1 (n + 1) 0 d (by omega) (by omega) (by omega) h3 (fun q hq => by omega) (fun q _ => h4 q)
      rw [Nat.zero_mul] at hm
      have ih := mrgs_ok hS f (2 * s) (mrg lt s n (n + 1) 0 d) (by omega) (by omega) (by rw [hm.1.1]; exact h3) hm.2
      exact ⟨permIn_trans _ _ _ _ _ hm.1 ih.1, ih.2⟩
    · rename_i hc
      have := h4 0
      rw [Nat.zero_mul, Nat.zero_add] at this
      exact ⟨permIn_refl _ _ _, SortedIn.sub this (Nat.le_refl _) (by omega)⟩

/-- It sorts. -/
theorem stable_ok (hS : SWO lt) {n : Nat} (d : Array α) (hn : n ≤ d.size) : PermIn 0 n d (stable lt n d) ∧ SortedIn lt 0 n (stable lt n d) := by
  have hi := insB_ok hS (s := 20) (n := n) (by omega) (n + 1) 0 d (by omega) (by omega) (by omega) hn (fun q hq => by omega)
  rw [Nat.zero_mul] at hi
  have hm := mrgs_ok hS n 20 (insB lt 20 n (n + 1) 0 d) (by omega) (by omega) (by rw [hi.1.1]; exact hn) hi.2
  exact ⟨permIn_trans _ _ _ _ _ hi.1 hm.1, hm.2⟩

end Go.Sp
