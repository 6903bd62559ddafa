/- The program's FewestChanges returns what the reference's returns, for all arguments. No condition. -/
import Derived.Test.YtlajnkdokmbpeaaPFnExactFewestChangesx4
namespace Go.Proofs.Ytlajnkdokmbpeaa.Pure
open Go.RowKit Go.Proofs.Ytlajnkdokmbpeaa.PFnExactFewestChanges Go.Proofs.YtlajnkdokmbpeaaW.PrintWords Go.Proofs.YtlajnkdokmbpeaaW.PrintLast Go.Proofs.YtlajnkdokmbpeaaW.PrintMore
set_option linter.unusedVariables false
set_option linter.unusedSimpArgs false

-- block pigeon
theorem pigeon_nat (n : Nat) : ∀ (l : List Nat), l.Nodup → (∀ x ∈ l, x < n) → l.length ≤ n := by
  induction n with
  | zero =>
    intro l _ h
    cases l with
    | nil => simp
    | cons x xs => exact absurd (h x (by simp)) (by omega)
  | succ n ih =>
    intro l hn h
    by_cases hm : n ∈ l
    · have h1 := ih (l.erase n) (hn.erase n) (fun x hx => by
        have h2 := (hn.mem_erase_iff).1 hx
        have h3 := h x h2.2
        have h4 := h2.1
        omega)
      have h2 := List.length_erase_of_mem hm
      omega
    · have := ih l hn (fun x hx => by
        have h3 := h x hx
        by_cases e : x = n
        · subst e; exact absurd hx hm
        · omega)
      omega
theorem pigeon (n : Nat) (l : List Int) (hn : l.Nodup) (h : ∀ x ∈ l, 0 ≤ x ∧ x < n) : l.length ≤ n := by
  have h1 := pigeon_nat n (l.map Int.toNat) (by
    rw [List.Nodup, List.pairwise_map]
    exact hn.imp_of_mem (fun {a b} ha hb hab e => hab (by have := h a ha; have := h b hb; omega)))
    (fun x hx => by
      obtain ⟨y, hy, rfl⟩ := List.mem_map.1 hx
      have := h y hy; omega)
  simpa using h1

-- block walks
/-- A walk along edges E from u to v: the places it leaves, and its cost. -/
inductive Wk (E : Nat → Nat → Nat → Prop) : Nat → Nat → List Nat → Nat → Prop
  | nil (v : Nat) : Wk E v v [] 0
  | cons {u x v : Nat} {vs : List Nat} {c k : Nat} (h : E u x c) (t : Wk E x v vs k) : Wk E u v (u :: vs) (c + k)
theorem Wk.append {E : Nat → Nat → Nat → Prop} {u x v : Nat} {a b : List Nat} {j k : Nat} (h : Wk E u x a j) (t : Wk E x v b k) : Wk E u v (a ++ b) (j + k) := by
  induction h with
  | nil v => simpa using t
  | cons h _ ih => rw [List.cons_append, Nat.add_assoc]; exact .cons h (ih t)
theorem Wk.split {E : Nat → Nat → Nat → Prop} (a : List Nat) {x : Nat} {b : List Nat} : ∀ {u v k : Nat}, Wk E u v (a ++ x :: b) k → ∃ k1 k2, Wk E u x a k1 ∧ Wk E x v (x :: b) k2 ∧ k = k1 + k2 := by
  induction a with
  | nil =>
    intro u v k h
    have e : u = x := by cases h; rfl
    subst e
    exact ⟨0, k, .nil _, h, by omega⟩
  | cons y a ih =>
    intro u v k h
    rw [List.cons_append] at h
    cases h with
    | cons h t =>
      obtain ⟨k1, k2, h1, h2, rfl⟩ := ih t
      exact ⟨_, k2, .cons h h1, h2, by omega⟩
theorem dup_split : ∀ (l : List Nat), ¬ l.Nodup → ∃ a x b c, l = a ++ x :: (b ++ x :: c)
  | [], h => absurd List.nodup_nil h
  | y :: l, h => by
    by_cases m : y ∈ l
    · obtain ⟨b, c, rfl⟩ := List.append_of_mem m
      exact ⟨[], y, b, c, rfl⟩
    · have : ¬ l.Nodup := fun z => h (List.nodup_cons.2 ⟨m, z⟩)
      obtain ⟨a, x, b, c, rfl⟩ := dup_split l this
      exact ⟨y :: a, x, b, c, rfl⟩
theorem Wk.short {E : Nat → Nat → Nat → Prop} {n : Nat} (hE : ∀ u v c, E u v c → u < n) : ∀ (m : Nat) {u v k : Nat} {vs : List Nat}, vs.length ≤ m → Wk E u v vs k → ∃ ws j, ws.length ≤ n ∧ j ≤ k ∧ Wk E u v ws j := by
  intro m
  induction m with
  | zero =>
    intro u v k vs hv h
    exact ⟨vs, k, by omega, Nat.le_refl _, h⟩
  | succ m ih =>
    intro u v k vs hv h
    by_cases d : vs.Nodup
    · refine ⟨vs, k, pigeon_nat n vs d ?_, Nat.le_refl _, h⟩
      clear hv d ih
      induction h with
      | nil v => simp
      | cons h t ih2 =>
        intro y hy
        rcases List.mem_cons.1 hy with e | e
        · subst e; exact hE _ _ _ h
        · exact ih2 y e
    · obtain ⟨a, x, b, c, rfl⟩ := dup_split vs d
      obtain ⟨k1, k2, h1, h2, rfl⟩ := Wk.split a h
      obtain ⟨k3, k4, h3, h4, rfl⟩ := Wk.split (x :: b) (by rw [List.cons_append]; exact h2)
      obtain ⟨ws, j, g1, g2, g3⟩ := ih (vs := a ++ x :: c) (by simp at hv ⊢; omega) (h1.append h4)
      exact ⟨ws, j, g1, by omega, g3⟩
theorem Wk.cost {E : Nat → Nat → Nat → Prop} (hE : ∀ u v c, E u v c → c ≤ 1) {u v k : Nat} {vs : List Nat} (h : Wk E u v vs k) : k ≤ vs.length := by
  induction h with
  | nil v => simp
  | cons h t ih => have := hE _ _ _ h; rw [List.length_cons]; omega
/-- What holds at the start and is handed on along edges holds at the end of a walk. -/
theorem Wk.forth {E : Nat → Nat → Nat → Prop} {f : Nat → Int} (hf : ∀ u v c, E u v c → 0 ≤ f u → 0 ≤ f v ∧ f v ≤ f u + (c : Int)) {u v k : Nat} {vs : List Nat} (h : Wk E u v vs k) : 0 ≤ f u → 0 ≤ f v ∧ f v ≤ f u + (k : Int) := by
  induction h with
  | nil v => intro h0; exact ⟨h0, by omega⟩
  | cons h t ih =>
    intro h0
    obtain ⟨a, b⟩ := hf _ _ _ h h0
    obtain ⟨c, d⟩ := ih a
    exact ⟨c, by omega⟩

-- block w64
theorem w64 {x : Int} (h : -9223372036854775808 ≤ x ∧ x ≤ 9223372036854775807) : wrap64 x = x := by
  unfold wrap64; omega

-- block rdset
theorem rd_set_eq (x : List Int) (a : Nat) (v : Int) (h : a < x.length) : rd (x.set a v) (a : Int) = v := by
  simp [rd, List.getD_eq_getElem?_getD, h]
theorem rd_set_ne (x : List Int) (a j : Nat) (v : Int) (h : j ≠ a) : rd (x.set a v) (j : Int) = rd x (j : Int) := by
  simp [rd, List.getD_eq_getElem?_getD, List.getElem?_set_ne (Ne.symm h)]
theorem rb_set_eq (x : List Bool) (a : Nat) (v : Bool) (h : a < x.length) : rdOf false (x.set a v) (a : Int) = v := by
  simp [rdOf, List.getD_eq_getElem?_getD, h]
theorem rb_set_ne (x : List Bool) (a j : Nat) (v : Bool) (h : j ≠ a) : rdOf false (x.set a v) (j : Int) = rdOf false x (j : Int) := by
  simp [rdOf, List.getD_eq_getElem?_getD, List.getElem?_set_ne (Ne.symm h)]
theorem rd_rep (n i : Nat) : rd (List.replicate n (0 : Int)) (i : Int) = 0 := by
  simp [rd, List.getD_eq_getElem?_getD, List.getElem?_replicate]; split <;> rfl
theorem rb_rep (n i : Nat) : rdOf false (List.replicate n false) (i : Int) = false := by
  simp [rdOf, List.getD_eq_getElem?_getD, List.getElem?_replicate]; split <;> rfl
theorem rd_get {l : List Int} {i : Nat} (h : i < l.length) : rd l (i : Int) = l[i] := by
  simp [rd, List.getD_eq_getElem?_getD, List.getElem?_eq_getElem h]

-- block adj
/-- The sum of f over 0 .. n-1. -/
def sm (f : Nat → Int) : Nat → Int
  | 0 => 0
  | n + 1 => sm f n + f n
/-- The sum of f over a list of whole numbers. -/
def ls (l : List Int) (f : Nat → Int) : Int := match l with
  | [] => 0
  | s :: l => f s.toNat + ls l f
theorem sm_congr {f g : Nat → Int} (n : Nat) (h : ∀ i, i < n → f i = g i) : sm f n = sm g n := by
  induction n with
  | zero => rfl
  | succ n ih => rw [sm, sm, ih (fun i hi => h i (by omega)), h n (by omega)]
theorem sm_add (f g : Nat → Int) (n : Nat) : sm (fun i => f i + g i) n = sm f n + sm g n := by
  induction n with
  | zero => rfl
  | succ n ih => rw [sm, sm, sm, ih]; omega
theorem sm_sub (f g : Nat → Int) (n : Nat) : sm (fun i => f i - g i) n = sm f n - sm g n := by
  induction n with
  | zero => rfl
  | succ n ih => rw [sm, sm, sm, ih]; omega
theorem sm_zero (n : Nat) : sm (fun _ => 0) n = 0 := by
  induction n with
  | zero => rfl
  | succ n ih => rw [sm, ih]; rfl
theorem sm_spike (f : Nat → Int) (k : Nat) (n : Nat) (h : ∀ i, i < n → i ≠ k → f i = 0) : sm f n = if k < n then f k else 0 := by
  induction n with
  | zero => rfl
  | succ n ih =>
    rw [sm, ih (fun i a b => h i (by omega) b)]
    by_cases c : k < n
    · rw [if_pos c, if_pos (by omega), h n (by omega) (by omega)]; omega
    · by_cases e : n = k
      · subst e; rw [if_neg c, if_pos (by omega)]; omega
      · rw [if_neg c, if_neg (by omega), h n (by omega) e]; rfl
theorem ls_congr (l : List Int) {f g : Nat → Int} (h : ∀ s ∈ l, f s.toNat = g s.toNat) : ls l f = ls l g := by
  induction l with
  | nil => rfl
  | cons s l ih => rw [ls, ls, h s (by simp), ih (fun x hx => h x (List.mem_cons_of_mem _ hx))]
theorem ls_mul (l : List Int) (f : Nat → Int) (a : Int) : ls l (fun s => a * f s) = a * ls l f := by
  induction l with
  | nil => simp [ls]
  | cons s l ih => rw [ls, ls, ih, Int.mul_add]
theorem ls_zero (l : List Int) {f : Nat → Int} (h : ∀ s ∈ l, f s.toNat = 0) : ls l f = 0 := by
  induction l with
  | nil => rfl
  | cons s l ih => rw [ls, h s (by simp), ih (fun x hx => h x (List.mem_cons_of_mem _ hx))]; rfl
theorem ls_sub (l : List Int) (f g : Nat → Int) : ls l (fun s => f s - g s) = ls l f - ls l g := by
  induction l with
  | nil => rfl
  | cons s l ih => rw [ls, ls, ls, ih]; omega
theorem sm_ls (l : List Int) (f : Nat → Nat → Int) (n : Nat) : sm (fun i => ls l (f i)) n = ls l (fun s => sm (fun i => f i s) n) := by
  induction l with
  | nil => simp only [ls]; exact sm_zero n
  | cons s l ih => simp only [ls]; rw [sm_add, ih]
theorem sm_shift (g : Nat → Nat → Int) (s n : Nat) : sm (fun j => if s ≤ j then g (j - s) j else 0) n = sm (fun i => if i + s < n then g i (i + s) else 0) n := by
  induction n with
  | zero => rfl
  | succ n ih =>
    have e : sm (fun i => if i + s < n + 1 then g i (i + s) else 0) n = sm (fun i => if i + s < n then g i (i + s) else 0) n + sm (fun i => if i + s = n then g i (i + s) else 0) n := by
      rw [← sm_add]
      refine sm_congr n (fun i hi => ?_)
      by_cases a : i + s < n
      · rw [if_pos a, if_pos (by omega), if_neg (by omega)]; omega
      · by_cases b : i + s = n
        · rw [if_neg a, if_pos b, if_pos (by omega)]; omega
        · rw [if_neg a, if_neg b, if_neg (by omega)]; rfl
    rw [sm, sm, ih, e, sm_spike (fun i => if i + s = n then g i (i + s) else 0) (n - s) n (fun i _ hk => if_neg (by omega))]
    by_cases a : s ≤ n
    · by_cases b : n - s < n
      · rw [if_pos a, if_pos b]
        rw [if_pos (show n - s + s = n from by omega), if_neg (show ¬ n + s < n + 1 from by omega), show n - s + s = n from by omega]; omega
      · have z : s = 0 := by omega
        subst z
        rw [if_pos (by omega), if_neg b, if_pos (by omega)]
        simp only [Nat.sub_zero, Nat.add_zero]; omega
    · rw [if_neg a, if_neg (show ¬ n + s < n + 1 from by omega)]
      by_cases b : n - s < n
      · rw [if_pos b, if_neg (by omega)]; omega
      · rw [if_neg b]; omega
/-- Ways forth (D) and any values V which are nothing where one can't stand. -/
theorem adjoint (N : Nat) (l : List Int) (hl : ∀ s ∈ l, 1 ≤ s) (D V : Nat → Int) (st : Nat → Bool) (hD0 : D 0 = 1)
    (hD : ∀ j, 1 ≤ j → j ≤ N → D j = if st j = true then ls l (fun s => if s ≤ j then D (j - s) else 0) else 0)
    (hV : ∀ j, 1 ≤ j → j ≤ N → st j ≠ true → V j = 0) :
    sm (fun i => D i * (V i - ls l (fun s => if i + s ≤ N then V (i + s) else 0))) (N + 1) = V 0 := by
  have e1 : sm (fun i => D i * V i) (N + 1) = V 0 + sm (fun j => ls l (fun s => if s ≤ j then D (j - s) * V j else 0)) (N + 1) := by
    have e : ∀ j, j < N + 1 → D j * V j = (if j = 0 then V 0 else 0) + ls l (fun s => if s ≤ j then D (j - s) * V j else 0) := by
      intro j hj
      by_cases z : j = 0
      · subst z
        rw [if_pos rfl, hD0, Int.one_mul, ls_zero l (fun s hs => if_neg (by have := hl s hs; omega))]; omega
      · rw [if_neg z]
        by_cases q : st j = true
        · rw [hD j (by omega) (by omega), if_pos q, Int.zero_add, Int.mul_comm, ← ls_mul]
          refine ls_congr l (fun s _ => ?_)
          by_cases c : s.toNat ≤ j
          · rw [if_pos c, if_pos c, Int.mul_comm]
          · rw [if_neg c, if_neg c, Int.mul_zero]
        · rw [hV j (by omega) (by omega) q, Int.mul_zero, ls_zero l (fun s _ => by split <;> simp)]; rfl
    rw [sm_congr (N + 1) e, sm_add, sm_spike (fun j => if j = 0 then V 0 else 0) 0 (N + 1) (fun i _ h => if_neg h), if_pos (by omega), if_pos rfl]
  have e2 : sm (fun j => ls l (fun s => if s ≤ j then D (j - s) * V j else 0)) (N + 1) = sm (fun i => D i * ls l (fun s => if i + s ≤ N then V (i + s) else 0)) (N + 1) := by
    rw [sm_ls l (fun j s => if s ≤ j then D (j - s) * V j else 0)]
    have h : ∀ i, i < N + 1 → D i * ls l (fun s => if i + s ≤ N then V (i + s) else 0) = ls l (fun s => if i + s < N + 1 then D i * V (i + s) else 0) := by
      intro i _
      rw [← ls_mul]
      refine ls_congr l (fun s _ => ?_)
      by_cases c : i + s.toNat ≤ N
      · rw [if_pos c, if_pos (by omega)]
      · rw [if_neg c, if_neg (by omega), Int.mul_zero]
    rw [sm_congr (N + 1) h, sm_ls l (fun i s => if i + s < N + 1 then D i * V (i + s) else 0)]
    exact ls_congr l (fun s _ => sm_shift (fun a j => D a * V j) s.toNat (N + 1))
  have e3 : sm (fun i => D i * (V i - ls l (fun s => if i + s ≤ N then V (i + s) else 0))) (N + 1) = sm (fun i => D i * V i) (N + 1) - sm (fun i => D i * ls l (fun s => if i + s ≤ N then V (i + s) else 0)) (N + 1) := by
    rw [← sm_sub]; exact sm_congr _ (fun i _ => Int.mul_sub _ _ _)
  rw [e3, e1, e2]; omega
theorem adjoint_at (N k : Nat) (l : List Int) (hl : ∀ s ∈ l, 1 ≤ s) (D V : Nat → Int) (st : Nat → Bool) (hD0 : D 0 = 1) (hk : k ≤ N)
    (hD : ∀ j, 1 ≤ j → j ≤ N → D j = if st j = true then ls l (fun s => if s ≤ j then D (j - s) else 0) else 0)
    (hV : ∀ j, 1 ≤ j → j ≤ N → st j ≠ true → V j = 0)
    (h : ∀ i, i ≤ N → i ≠ k → D i * (V i - ls l (fun s => if i + s ≤ N then V (i + s) else 0)) = 0) :
    D k * (V k - ls l (fun s => if k + s ≤ N then V (k + s) else 0)) = V 0 := by
  have e := adjoint N l hl D V st hD0 hD hV
  rw [sm_spike _ k (N + 1) (fun i a b => h i (by omega) b), if_pos (by omega)] at e
  exact e
/-- With step k broken as many ways are lost as lead through it. -/
theorem lost (N k : Nat) (l : List Int) (hl : ∀ s ∈ l, 1 ≤ s) (D U U' : Nat → Int) (st : Nat → Bool) (hD0 : D 0 = 1) (hk : k < N) (hk0 : 1 ≤ k)
    (hD : ∀ j, 1 ≤ j → j ≤ N → D j = if st j = true then ls l (fun s => if s ≤ j then D (j - s) else 0) else 0)
    (hUN : U N = 1) (hUN' : U' N = 1)
    (hU : ∀ i, i < N → U i = if st i = true then ls l (fun s => if i + s ≤ N then U (i + s) else 0) else 0)
    (hU' : ∀ i, i < N → U' i = if st i = true ∧ i ≠ k then ls l (fun s => if i + s ≤ N then U' (i + s) else 0) else 0)
    (hst : st N = true) (hst0 : st 0 = true) :
    D k * U k = U 0 - U' 0 := by
  have hz : ∀ d i, i + d = N → k < i → U' i = U i := by
    intro d
    induction d using Nat.strongRecOn with
    | ind d ih =>
      intro i hd hi
      by_cases z : i = N
      · subst z; rw [hUN, hUN']
      · rw [hU i (by omega), hU' i (by omega)]
        by_cases q : st i = true
        · rw [if_pos q, if_pos ⟨q, by omega⟩]
          refine ls_congr l (fun s hs => ?_)
          have := hl s hs
          by_cases c : i + s.toNat ≤ N
          · rw [if_pos c, if_pos c]; exact ih (N - (i + s.toNat)) (by omega) _ (by omega) (by omega)
          · rw [if_neg c, if_neg c]
        · rw [if_neg q, if_neg (fun x => q x.1)]
  have hdef : ∀ i, ls l (fun s => if i + s ≤ N then U (i + s) - U' (i + s) else 0) = ls l (fun s => if i + s ≤ N then U (i + s) else 0) - ls l (fun s => if i + s ≤ N then U' (i + s) else 0) := by
    intro i
    rw [← ls_sub]
    exact ls_congr l (fun s _ => by split <;> simp)
  have e := adjoint_at N k l hl D (fun i => U i - U' i) st hD0 (by omega) hD (by
    intro j h1 h2 h3
    have : j ≠ N := fun z => h3 (z ▸ hst)
    show U j - U' j = 0
    rw [hU j (by omega), hU' j (by omega), if_neg h3, if_neg (fun x => h3 x.1)]; rfl) (by
    intro i hi hik
    show D i * (U i - U' i - ls l (fun s => if i + s ≤ N then U (i + s) - U' (i + s) else 0)) = 0
    by_cases z : i = N
    · subst z
      rw [hUN, hUN', ls_zero l (fun s hs => if_neg (by have := hl s hs; omega))]; simp
    · by_cases q : st i = true
      · rw [hdef, hU i (by omega), hU' i (by omega), if_pos q, if_pos ⟨q, hik⟩, Int.sub_self, Int.mul_zero]
      · have : D i = 0 := by
          by_cases y : i = 0
          · subst y; exact absurd hst0 q
          · rw [hD i (by omega) (by omega), if_neg q]
        rw [this, Int.zero_mul])
  have e : D k * (U k - U' k - ls l (fun s => if k + s ≤ N then U (k + s) - U' (k + s) else 0)) = U 0 - U' 0 := e
  rw [ls_zero l (fun s hs => by
    have := hl s hs
    by_cases c : k + s.toNat ≤ N
    · rw [if_pos c, hz (N - (k + s.toNat)) _ (by omega) (by omega), Int.sub_self]
    · rw [if_neg c]), hU' k hk, if_neg (fun x => x.2 rfl)] at e
  simpa using e
/-- As many ways lead down from the top as up to it. -/
theorem ways_both (N : Nat) (l : List Int) (hl : ∀ s ∈ l, 1 ≤ s) (D U : Nat → Int) (st : Nat → Bool) (hD0 : D 0 = 1)
    (hD : ∀ j, 1 ≤ j → j ≤ N → D j = if st j = true then ls l (fun s => if s ≤ j then D (j - s) else 0) else 0)
    (hUN : U N = 1)
    (hU : ∀ i, i < N → U i = if st i = true then ls l (fun s => if i + s ≤ N then U (i + s) else 0) else 0)
    (hst : st N = true) (hst0 : st 0 = true) : D N = U 0 := by
  have e := adjoint_at N N l hl D U st hD0 (Nat.le_refl _) hD (by
    intro j h1 h2 h3
    have : j ≠ N := fun z => h3 (z ▸ hst)
    rw [hU j (by omega), if_neg h3]) (by
    intro i hi hik
    by_cases q : st i = true
    · rw [hU i (by omega), if_pos q, Int.sub_self, Int.mul_zero]
    · have : D i = 0 := by
        by_cases y : i = 0
        · subst y; exact absurd hst0 q
        · rw [hD i (by omega) (by omega), if_neg q]
      rw [this, Int.zero_mul])
  rw [ls_zero l (fun s hs => if_neg (by have := hl s hs; omega)), hUN] at e
  simpa using e

-- block l1In
theorem l1In_eq (a b c : Int) : spec_l1In.f a b c = some (decide (b ≤ a ∧ a ≤ c)) := by
  unfold spec_l1In.f
  by_cases h : a ≥ b
  · rw [if_pos h]; simp [show b ≤ a from h]
  · rw [if_neg h]; simp [show ¬ b ≤ a from h]

-- block l1All
theorem l1All_l0 (lo hi : Int) (l : List Int) (hl : l.length ≤ 1000000000) (d : Nat) : ∀ (k i : Nat), i + d = l.length → d < k → spec_l1All.l0 k lo hi l l.length i = some ((l.drop i).all fun n => decide (lo ≤ n ∧ n ≤ hi)) := by
  induction d with
  | zero =>
    intro k i hd hk
    obtain ⟨k, rfl⟩ : ∃ m, k = m + 1 := ⟨k - 1, by omega⟩
    simp only [spec_l1All.l0]; rw [if_neg (by omega), List.drop_eq_nil_of_le (by omega)]; rfl
  | succ d ih =>
    intro k i hd hk
    obtain ⟨k, rfl⟩ : ∃ m, k = m + 1 := ⟨k - 1, by omega⟩
    simp only [spec_l1All.l0]
    have h : i < l.length := by omega
    have e : rd l i = l[i] := by simp [rd, List.getD_eq_getElem?_getD, List.getElem?_eq_getElem h]
    rw [if_pos (by omega), if_pos (by omega), if_pos (by omega), l1In_eq, Option.bind_some, List.drop_eq_getElem_cons h, e, List.all_cons]
    by_cases g : lo ≤ l[i] ∧ l[i] ≤ hi
    · rw [if_pos (decide_eq_true g), w64 (by omega), decide_eq_true g, Bool.true_and]
      exact ih k (i + 1) (by omega) (by omega)
    · rw [if_neg (by simpa using g), decide_eq_false g, Bool.false_and]
theorem l1All_eq {k : Nat} {l : List Int} (lo hi : Int) (hl : l.length ≤ 1000000000) (hk : l.length < k) : spec_l1All.f k l lo hi = some (l.all fun n => decide (lo ≤ n ∧ n ≤ hi)) := by
  unfold spec_l1All.f
  exact l1All_l0 lo hi l hl l.length k 0 (by omega) (by omega)

-- block within
theorem within_eq (a b c : Int) : impl_within.f a b c = some (decide (b ≤ a ∧ a ≤ c)) := by
  unfold impl_within.f
  by_cases h : b ≤ a
  · rw [if_pos h]; simp [h]
  · rw [if_neg h]; simp [h]

-- block hofAny
theorem hofAny_eq (q : Int → Option Bool) (p : Int → Bool) (h : ∀ n, q n = some (p n)) (l : List Int) : hofAny q l = some (l.any p) := by
  induction l with
  | nil => rfl
  | cons x xs ih =>
    unfold hofAny
    rw [h x, Option.bind_some, ih]
    cases hp : p x
    · rw [if_neg (by decide)]; simp [hp]
    · rw [if_pos rfl]; simp [hp]

-- block jumps
def jumpsB (l : List Int) : Bool := decide (1 ≤ l.length ∧ l.length ≤ 30) && l.all fun n => decide (-30 ≤ n ∧ n ≤ 30)
theorem AreJumps_eq (l : List Int) : impl_AreJumps.f l = some (jumpsB l) := by
  unfold impl_AreJumps.f jumpsB
  have hc : ∀ n, impl_AreJumps_1.f n = some (!decide (-30 ≤ n ∧ n ≤ 30)) := fun n => by unfold impl_AreJumps_1.f; rw [within_eq]; rfl
  have hh := hofAny_eq _ _ hc l
  rw [within_eq, Option.bind_some]
  by_cases h : 1 ≤ l.length ∧ l.length ≤ 30
  · rw [if_pos (by simp; omega), decide_eq_true h, Bool.true_and]
    simp only [slices_ContainsFunc_int_int.f, Array.size_empty, and_self, if_true]
    simp [hh, List.not_any_eq_all_not]
  · rw [if_neg (by simp; omega), decide_eq_false h, Bool.false_and]
theorem baGood_eq {k : Nat} {l : List Int} (hk : 30 < k) : spec_baGood.f k l = some (jumpsB l) := by
  unfold spec_baGood.f jumpsB
  rw [l1In_eq, Option.bind_some]
  by_cases h : 1 ≤ l.length ∧ l.length ≤ 30
  · rw [if_pos (by simp; omega), l1All_eq _ _ (by omega) (by omega), decide_eq_true h, Bool.true_and, Option.bind_some]
  · rw [if_neg (by simp; omega), decide_eq_false h, Bool.false_and]
theorem jumpsB_true {l : List Int} (h : jumpsB l = true) : (1 ≤ l.length ∧ l.length ≤ 30) ∧ ∀ x ∈ l, -30 ≤ x ∧ x ≤ 30 := by
  unfold jumpsB at h
  rw [Bool.and_eq_true, decide_eq_true_eq, List.all_eq_true] at h
  exact ⟨h.1, fun x hx => by simpa using h.2 x hx⟩

-- block edges
/-- A jump from u, turned by b, leads to v (or out below: the place behind the last step) at the cost c. -/
def EdB (js : List Int) (u : Nat) (b : Int) (v c : Nat) : Prop := u < js.length ∧ (-1 ≤ b ∧ b ≤ 1) ∧ (-30 ≤ rd js (u : Int) + b ∧ rd js (u : Int) + b ≤ 30) ∧ (v : Int) = min ((u : Int) + (rd js (u : Int) + b)) (js.length : Int) ∧ c = if b = 0 then 0 else 1
def Ed (js : List Int) (u v c : Nat) : Prop := ∃ b, EdB js u b v c
theorem EdB.le {js : List Int} {u : Nat} {b : Int} {v c : Nat} (h : EdB js u b v c) : v ≤ js.length := by have := h.2.2.2.1; omega
theorem EdB.cost {js : List Int} {u : Nat} {b : Int} {v c : Nat} (h : EdB js u b v c) : c ≤ 1 := by
  have := h.2.2.2.2; split at this <;> omega
theorem sm_upd (f g : Nat → Int) (i n : Nat) (hi : i < n) (h : ∀ j, j ≠ i → g j = f j) : sm g n = sm f n + (g i - f i) := by
  induction n with
  | zero => omega
  | succ n ih =>
    rw [sm, sm]
    by_cases e : i = n
    · subst e
      rw [sm_congr (f := g) (g := f) i (fun j hj => h j (by omega))]; omega
    · rw [ih (by omega), h n (fun z => e z.symm)]; omega
theorem sm_ge0 {f : Nat → Int} (n : Nat) (h : ∀ i, i < n → 0 ≤ f i) : 0 ≤ sm f n := by
  induction n with
  | zero => exact Int.le_refl _
  | succ n ih => rw [sm]; have := ih (fun i hi => h i (by omega)); have := h n (by omega); omega
theorem sm_le1 {f : Nat → Int} (n : Nat) (h : ∀ i, i < n → f i ≤ 1) : sm f n ≤ n := by
  induction n with
  | zero => exact Int.le_refl _
  | succ n ih => rw [sm]; have := ih (fun i hi => h i (by omega)); have := h n (by omega); omega
theorem sm_le100 {f : Nat → Int} (n : Nat) (h : ∀ i, i < n → f i ≤ 100) : sm f n ≤ 100 * n := by
  induction n with
  | zero => exact Int.le_refl _
  | succ n ih => rw [sm]; have := ih (fun i hi => h i (by omega)); have := h n (by omega); omega

-- block haveSteps
theorem haveSteps_l0 (js l : List Int) (hj : js.length ≤ 1048576) (hl : l.length ≤ 100) (d : Nat) : ∀ (k i : Nat), i + d = l.length → d < k → impl_haveSteps.l0 k js l l.length i = some (((l.drop i).all fun n => decide (0 ≤ n ∧ n ≤ js.length - 1)) && jumpsB js) := by
  induction d with
  | zero =>
    intro k i hd hk
    obtain ⟨k, rfl⟩ : ∃ m, k = m + 1 := ⟨k - 1, by omega⟩
    simp only [impl_haveSteps.l0]; rw [if_neg (by omega), List.drop_eq_nil_of_le (by omega), AreJumps_eq]; simp
  | succ d ih =>
    intro k i hd hk
    obtain ⟨k, rfl⟩ : ∃ m, k = m + 1 := ⟨k - 1, by omega⟩
    simp only [impl_haveSteps.l0]
    have h : i < l.length := by omega
    have e : rd l i = l[i] := by simp [rd, List.getD_eq_getElem?_getD, List.getElem?_eq_getElem h]
    rw [if_pos (by omega), if_pos (by omega), if_pos (by omega), within_eq, Option.bind_some, w64 (x := (js.length : Int) - 1) (by omega), List.drop_eq_getElem_cons h, e, List.all_cons]
    by_cases g : 0 ≤ l[i] ∧ l[i] ≤ (js.length : Int) - 1
    · rw [if_pos (decide_eq_true g), w64 (by omega), decide_eq_true g, Bool.true_and]
      exact ih k (i + 1) (by omega) (by omega)
    · rw [if_neg (by simpa using g), decide_eq_false g, Bool.false_and, Bool.false_and]
def onB (js : List Int) (s : Int) : Bool := jumpsB js && decide (0 ≤ s ∧ s ≤ js.length - 1)
theorem onB_true {js : List Int} {s : Int} (h : onB js s = true) : jumpsB js = true ∧ (0 ≤ s ∧ s ≤ js.length - 1) := by
  unfold onB at h; rw [Bool.and_eq_true, decide_eq_true_eq] at h; exact h
theorem have_one {k : Nat} (js : List Int) (s : Int) (hj : js.length ≤ 1048576) (hk : 100 < k) : impl_haveSteps.f k js [s] = some (onB js s) := by
  unfold impl_haveSteps.f onB
  have := haveSteps_l0 js [s] hj (by simp) 1 k 0 (by simp) (by omega)
  rw [show ((0 : Nat) : Int) = 0 from rfl] at this
  rw [this, Bool.and_comm]; simp
theorem have_two {k : Nat} (js : List Int) (s t : Int) (hj : js.length ≤ 1048576) (hk : 100 < k) : impl_haveSteps.f k js [s, t] = some (onB js s && onB js t) := by
  unfold impl_haveSteps.f onB
  have := haveSteps_l0 js [s, t] hj (by simp) 2 k 0 (by simp) (by omega)
  rw [show ((0 : Nat) : Int) = 0 from rfl] at this
  rw [this]
  cases jumpsB js <;> simp

-- block baStep
theorem baStep_eq {k : Nat} (js : List Int) (s : Int) (hj : js.length ≤ 1048576) (hk : 100 < k) : spec_baStep.f k js s = some (onB js s) := by
  unfold spec_baStep.f onB
  rw [baGood_eq (by omega), Option.bind_some]
  cases jumpsB js
  · simp
  · rw [if_pos rfl, l1In_eq, w64 (by omega)]; simp

-- block mxmn
theorem mx_eq (a b : Int) : mx a b = max a b := by unfold mx; omega
theorem mn_eq (a b : Int) : mn a b = min a b := by unfold mn; omega

-- block toIntS
theorem toIntS_l0 (l : List Int) (hl : l.length ≤ 1048576) (d : Nat) : ∀ (k i : Nat) (m : List Int), i + d = l.length → d < k → m.length = d → laws_toIntS.l0 k l (l.take i ++ m) i = some l := by
  induction d with
  | zero =>
    intro k i m hd hk hm
    obtain ⟨k, rfl⟩ : ∃ n, k = n + 1 := ⟨k - 1, by omega⟩
    obtain rfl := List.eq_nil_of_length_eq_zero hm
    simp only [laws_toIntS.l0]; rw [if_neg (by omega), List.take_of_length_le (by omega), List.append_nil]
  | succ d ih =>
    intro k i m hd hk hm
    obtain ⟨k, rfl⟩ : ∃ n, k = n + 1 := ⟨k - 1, by omega⟩
    obtain ⟨x, m, rfl⟩ : ∃ x p, m = x :: p := by
      cases m with
      | nil => simp at hm
      | cons x p => exact ⟨x, p, rfl⟩
    simp only [laws_toIntS.l0]
    have hi : i < l.length := by omega
    have hlen : (l.take i ++ x :: m).length = l.length := by simp at hm ⊢; omega
    have e : (l.take i ++ x :: m).set (i : Int).toNat (rd l i) = l.take (i + 1) ++ m := by
      have ht : (l.take i).length = i := by simp; omega
      rw [Int.toNat_natCast, List.set_append_right _ _ (by omega), ht, Nat.sub_self, List.set_cons_zero, List.take_succ_eq_append_getElem hi, List.append_assoc]
      simp [rd, List.getD_eq_getElem?_getD, List.getElem?_eq_getElem hi]
    rw [if_pos (by omega), if_pos (by omega), if_pos (by omega), e, w64 (by omega)]
    exact ih k (i + 1) m (by omega) (by omega) (by simpa using hm)
theorem toIntS_eq {k : Nat} {l : List Int} (hl : l.length ≤ 1048576) (hk : 1048576 < k) : laws_toIntS.f k l = some l := by
  unfold laws_toIntS.f
  rw [if_pos (by omega), if_pos (by omega)]
  have := toIntS_l0 l hl l.length k 0 (List.replicate l.length 0) (by omega) (by omega) (by simp)
  simpa using this

-- block eqIntS
theorem eqIntS_l0 (l : List Int) (hl : l.length ≤ 1000000000) (d : Nat) : ∀ (k i : Nat), i + d = l.length → d < k → laws_eqIntS.l0 k l l i = some true := by
  induction d with
  | zero =>
    intro k i hd hk
    obtain ⟨k, rfl⟩ : ∃ m, k = m + 1 := ⟨k - 1, by omega⟩
    simp only [laws_eqIntS.l0]; rw [if_neg (by omega)]
  | succ d ih =>
    intro k i hd hk
    obtain ⟨k, rfl⟩ : ∃ m, k = m + 1 := ⟨k - 1, by omega⟩
    simp only [laws_eqIntS.l0]
    rw [if_pos (by omega), if_pos (by omega), if_pos (by omega), if_pos trivial, w64 (by omega)]
    exact ih k (i + 1) (by omega) (by omega)
theorem eqIntS_self {k : Nat} {l : List Int} (hl : l.length ≤ 1000000000) (hk : l.length < k) : laws_eqIntS.f k l l = some true := by
  unfold laws_eqIntS.f
  rw [if_pos rfl, show (0 : Int) = ((0 : Nat) : Int) from rfl, eqIntS_l0 l hl l.length k 0 (by omega) hk]

/-! ### the program: from each step backwards -/
def Snd (js x : List Int) : Prop := ∀ u : Nat, u ≤ js.length → (0 ≤ rd x (u : Int) ∧ rd x (u : Int) ≤ 1000) ∧ (rd x (u : Int) < 1000 → ∃ vs, Wk (Ed js) u js.length vs (rd x (u : Int)).toNat)
structure RelU (js : List Int) (u : Nat) (lo : Int) (x x' : List Int) : Prop where
  len : x'.length = x.length
  keep : ∀ j : Nat, j ≠ u → rd x' (j : Int) = rd x (j : Int)
  dec : rd x' (u : Int) ≤ rd x (u : Int)
  rel : ∀ b v c, lo ≤ b → EdB js u b v c → rd x' (u : Int) ≤ rd x (v : Int) + (c : Int)
theorem RelU.step {js x x1 x' : List Int} {u : Nat} {b : Int} (h1 : x1.length = x.length) (h2 : ∀ j : Nat, j ≠ u → rd x1 (j : Int) = rd x (j : Int)) (h3 : rd x1 (u : Int) ≤ rd x (u : Int)) (h4 : ∀ v c, EdB js u b v c → rd x1 (u : Int) ≤ rd x (v : Int) + (c : Int)) (h : RelU js u (b + 1) x1 x') : RelU js u b x x' := by
  refine ⟨h.len.trans h1, fun j e => (h.keep j e).trans (h2 j e), Int.le_trans h.dec h3, fun b' v c hb he => ?_⟩
  by_cases e : b' = b
  · subst e; exact Int.le_trans h.dec (h4 v c he)
  · have a := h.rel b' v c (by omega) he
    by_cases q : v = u
    · subst q; omega
    · rw [h2 v q] at a; exact a
theorem land_eq (js : List Int) (hl : js.length ≤ 30) (u : Nat) (hu : u < js.length) (j b : Int) (hj : -30 ≤ j ∧ j ≤ 30) (hb : -1 ≤ b ∧ b ≤ 1) : impl_land.f js u (wrap64 (j + b)) = some (max (-1) (min ((u : Int) + (j + b)) js.length)) := by
  unfold impl_land.f
  rw [w64 (x := j + b) (by omega), w64 (by omega), mx_eq, mn_eq]
theorem jump_rd {js : List Int} (hj : jumpsB js = true) {u : Nat} (hu : u < js.length) : -30 ≤ rd js (u : Int) ∧ rd js (u : Int) ≤ 30 := by
  rw [rd_get hu]; exact (jumpsB_true hj).2 _ (List.getElem_mem hu)
theorem sq_eq {b : Int} (hb : -1 ≤ b ∧ b ≤ 1) : wrap64 (b * b) = ((if b = 0 then 0 else 1 : Nat) : Int) := by
  have : b = -1 ∨ b = 0 ∨ b = 1 := by omega
  rcases this with rfl | rfl | rfl <;> rw [w64 (by omega)] <;> decide
theorem impl_l2 (js : List Int) (hj : jumpsB js = true) (s N r : Int) (u : Nat) (hu : u < js.length) (d : Nat) : ∀ (k : Nat) (b : Int) (x : List Int), b + d = 2 → -1 ≤ b → d < k → x.length = js.length + 1 → Snd js x →
    ∃ x' m, k ≤ m + d + 1 ∧ impl_FewestChanges.l2 k js s x u (rd js (u : Int)) b N r js js.length u = impl_FewestChanges.l1 m js s x' N r js js.length ((u + 1 : Nat) : Int) ∧ RelU js u b x x' ∧ Snd js x' := by
  have hl := (jumpsB_true hj).1
  have hju := jump_rd hj hu
  induction d with
  | zero =>
    intro k b x hd hb hk hx S
    obtain ⟨k, rfl⟩ : ∃ m, k = m + 1 := ⟨k - 1, by omega⟩
    refine ⟨x, k, by omega, ?_, ⟨rfl, fun _ _ => rfl, Int.le_refl _, fun b' v c h1 h2 => by have := h2.2.1; omega⟩, S⟩
    rw [impl_FewestChanges.l2, if_neg (by omega), w64 (by omega)]; rfl
  | succ d ih =>
    intro k b x hd hb hk hx S
    obtain ⟨k, rfl⟩ : ∃ m, k = m + 1 := ⟨k - 1, by omega⟩
    have hb1 : -1 ≤ b ∧ b ≤ 1 := by omega
    rw [impl_FewestChanges.l2, if_pos (by omega), land_eq js hl.2 u hu _ b hju hb1, Option.bind_some, w64 (x := rd js (u : Int) + b) (by omega), within_eq, Option.bind_some, w64 (x := b + 1) (by omega)]
    have skip : (∀ v c, EdB js u b v c → False) → ∃ x' m, k + 1 ≤ m + (d + 1) + 1 ∧ impl_FewestChanges.l2 k js s x u (rd js (u : Int)) (b + 1) N r js js.length u = impl_FewestChanges.l1 m js s x' N r js js.length ((u + 1 : Nat) : Int) ∧ RelU js u b x x' ∧ Snd js x' := by
      intro hno
      obtain ⟨x', m, g1, g2, g3, g4⟩ := ih k (b + 1) x (by omega) (by omega) (by omega) hx S
      exact ⟨x', m, by omega, g2, RelU.step rfl (fun _ _ => rfl) (Int.le_refl _) (fun v c he => (hno v c he).elim) g3, g4⟩
    by_cases hw : -30 ≤ rd js (u : Int) + b ∧ rd js (u : Int) + b ≤ 30
    · rw [if_pos (decide_eq_true hw)]
      by_cases ht : 0 ≤ min ((u : Int) + (rd js (u : Int) + b)) (js.length : Int)
      · obtain ⟨v, hv⟩ := Int.eq_ofNat_of_zero_le ht
        have hvn : v ≤ js.length := by omega
        rw [show max (-1) (min ((u : Int) + (rd js (u : Int) + b)) (js.length : Int)) = (v : Int) from by omega, if_pos (by omega), if_pos (by omega), if_pos (by omega), if_pos (by omega), if_pos (by omega), sq_eq hb1, Int.toNat_natCast]
        generalize hc : (if b = 0 then 0 else 1 : Nat) = c at *
        have hc1 : c ≤ 1 := by split at hc <;> omega
        have sv := S v hvn
        have su := S u (by omega)
        rw [w64 (x := rd x (v : Int) + (c : Int)) (by omega), mn_eq]
        generalize hz : min (rd x (u : Int)) (rd x (v : Int) + (c : Int)) = z at *
        have he : EdB js u b v c := ⟨hu, hb1, hw, hv.symm, hc.symm⟩
        have q1 : rd (x.set u z) (u : Int) = z := rd_set_eq x u z (by omega)
        have q2 : ∀ j : Nat, j ≠ u → rd (x.set u z) (j : Int) = rd x (j : Int) := fun j e => rd_set_ne _ _ _ _ e
        obtain ⟨x', m, g1, g2, g3, g4⟩ := ih k (b + 1) (x.set u z) (by omega) (by omega) (by omega) (by rw [List.length_set]; exact hx) (fun j hjn => by
          by_cases e : j = u
          · subst e
            rw [q1]
            refine ⟨by omega, fun hlt => ?_⟩
            by_cases y : z = rd x (j : Int)
            · rw [y]; exact su.2 (by omega)
            · have y2 : z = rd x (v : Int) + (c : Int) := by omega
              obtain ⟨vs, hvs⟩ := sv.2 (by omega)
              refine ⟨j :: vs, ?_⟩
              rw [show z.toNat = c + (rd x (v : Int)).toNat from by omega]
              exact .cons ⟨b, he⟩ hvs
          · rw [q2 j e]; exact S j hjn)
        refine ⟨x', m, by omega, g2, RelU.step (by rw [List.length_set]) q2 (by rw [q1]; omega) (fun v' c' h' => ?_) g3, g4⟩
        have e1 : v' = v := by have := h'.2.2.2.1; omega
        have e2 : c' = c := by have := h'.2.2.2.2; rw [this]; exact hc
        subst e1; subst e2
        rw [q1]; omega
      · rw [if_neg (by omega)]
        exact skip (fun v c he => by have := he.2.2.2.1; omega)
    · rw [if_neg (by simpa using hw)]
      exact skip (fun v c he => hw he.2.2.1)
theorem impl_l1 (js : List Int) (hj : jumpsB js = true) (s N r : Int) (d : Nat) : ∀ (k i : Nat) (x : List Int), i + d = js.length → 10 * d + 5 < k → x.length = js.length + 1 → Snd js x →
    ∃ x' m, k ≤ m + 10 * d + 1 ∧ impl_FewestChanges.l1 k js s x N r js js.length i = impl_FewestChanges.l0 m js s x' N (wrap64 (r + 1)) ∧ x'.length = js.length + 1 ∧ Snd js x' ∧ (∀ j : Nat, rd x' (j : Int) ≤ rd x (j : Int)) ∧ rd x' (js.length : Int) = rd x (js.length : Int) ∧ ∀ u, i ≤ u → ∀ v c, Ed js u v c → rd x' (u : Int) ≤ rd x (v : Int) + (c : Int) := by
  have hl := (jumpsB_true hj).1
  induction d with
  | zero =>
    intro k i x hd hk hx S
    obtain ⟨k, rfl⟩ : ∃ m, k = m + 1 := ⟨k - 1, by omega⟩
    refine ⟨x, k, by omega, ?_, hx, S, fun _ => Int.le_refl _, rfl, fun u hu v c he => by obtain ⟨b, he⟩ := he; have := he.1; omega⟩
    rw [impl_FewestChanges.l1, if_neg (by omega)]
  | succ d ih =>
    intro k i x hd hk hx S
    obtain ⟨k, rfl⟩ : ∃ m, k = m + 1 := ⟨k - 1, by omega⟩
    rw [impl_FewestChanges.l1, if_pos (by omega), if_pos (by omega), if_pos (by omega)]
    obtain ⟨x1, m, g1, g2, g3, g4⟩ := impl_l2 js hj s N r i (by omega) 3 k (-1) x (by omega) (by omega) (by omega) hx S
    rw [g2]
    obtain ⟨x', m', p1, p2, p3, p4, p5, p6, p7⟩ := ih m (i + 1) x1 (by omega) (by omega) (by rw [g3.len]; exact hx) g4
    have mono1 : ∀ j : Nat, rd x1 (j : Int) ≤ rd x (j : Int) := fun j => by
      by_cases e : j = i
      · subst e; exact g3.dec
      · rw [g3.keep j e]; exact Int.le_refl _
    refine ⟨x', m', by omega, p2, p3, p4, fun j => Int.le_trans (p5 j) (mono1 j), by rw [p6, g3.keep _ (by omega)], fun u hu v c he => ?_⟩
    by_cases e : u = i
    · subst e
      obtain ⟨b, hb⟩ := he
      exact Int.le_trans (p5 u) (g3.rel b v c hb.2.1.1 hb)
    · have a := p7 u (by omega) v c he
      have b := mono1 v
      omega
def Tr (js x : List Int) (r : Nat) : Prop := ∀ u vs c, Wk (Ed js) u js.length vs c → vs.length ≤ r → rd x (u : Int) ≤ (c : Int)
theorem impl_l0 (js : List Int) (hj : jumpsB js = true) (s : Nat) (hs : s < js.length) (d : Nat) : ∀ (k r : Nat) (x : List Int), r + d = js.length + 1 → 400 * d + 10 < k → x.length = js.length + 1 → Snd js x → rd x (js.length : Int) = 0 → Tr js x r →
    ∃ x', impl_FewestChanges.l0 k js s x ((js.length + 1 : Nat) : Int) r = (if rd x' (s : Int) ≥ 1000 then some (0, false) else some (rd x' (s : Int), true)) ∧ Snd js x' ∧ Tr js x' (js.length + 1) := by
  have hl := (jumpsB_true hj).1
  induction d with
  | zero =>
    intro k r x hd hk hx S h0 T
    obtain ⟨k, rfl⟩ : ∃ m, k = m + 1 := ⟨k - 1, by omega⟩
    have e : r = js.length + 1 := by omega
    subst e
    exact ⟨x, by rw [impl_FewestChanges.l0, if_neg (by omega), if_pos (by omega), if_pos (by omega)], S, T⟩
  | succ d ih =>
    intro k r x hd hk hx S h0 T
    obtain ⟨k, rfl⟩ : ∃ m, k = m + 1 := ⟨k - 1, by omega⟩
    rw [impl_FewestChanges.l0, if_pos (by omega)]
    obtain ⟨x', m, g1, g2, g3, g4, g5, g6, g7⟩ := impl_l1 js hj s ((js.length + 1 : Nat) : Int) r js.length k 0 x (by omega) (by omega) hx S
    rw [show ((0 : Nat) : Int) = 0 from rfl] at g2
    rw [g2, w64 (x := (r : Int) + 1) (by omega)]
    refine ih m (r + 1) x' (by omega) (by omega) g3 g4 (by rw [g6]; exact h0) (fun u vs c hw hlen => ?_)
    generalize hn : js.length = n at hw
    cases hw with
    | nil => rw [← hn, g6, h0]; exact Int.le_refl _
    | cons he t =>
      subst hn
      have a := T _ _ _ t (by simp at hlen; omega)
      have b := g7 u (by omega) _ _ he
      omega
/-! ### the reference: from the step forwards -/
def cntS (y : List Int) (n : Nat) : Int := sm (fun v : Nat => if 0 ≤ rd y (v : Int) then 1 else 0) (n + 1)
def potS (y : List Int) (n : Nat) : Int := sm (fun v : Nat => if rd y (v : Int) < 0 then 100 else rd y (v : Int)) (n + 1)
structure Fw (js : List Int) (s : Nat) (y : List Int) : Prop where
  len : y.length = js.length + 1
  src : rd y (s : Int) = 0
  low : ∀ v : Nat, v ≤ js.length → -1 ≤ rd y (v : Int)
  val : ∀ v : Nat, v ≤ js.length → 0 ≤ rd y (v : Int) → rd y (v : Int) + 1 ≤ cntS y js.length ∧ ∃ vs, Wk (Ed js) s v vs (rd y (v : Int)).toNat
theorem cnt_le (y : List Int) (n : Nat) : cntS y n ≤ (n : Int) + 1 := by
  have := sm_le1 (f := fun v : Nat => if 0 ≤ rd y (v : Int) then 1 else 0) (n + 1) (fun i _ => by show (if 0 ≤ rd y (i : Int) then (1 : Int) else 0) ≤ 1; split <;> omega)
  unfold cntS; omega
theorem pot_ge (y : List Int) (n : Nat) : 0 ≤ potS y n := sm_ge0 _ (fun i _ => by show 0 ≤ (if rd y (i : Int) < 0 then (100 : Int) else rd y (i : Int)); split <;> omega)
theorem Fw.small {js : List Int} {s : Nat} {y : List Int} (h : Fw js s y) (hl : js.length ≤ 30) {v : Nat} (hv : v ≤ js.length) : rd y (v : Int) ≤ 30 := by
  by_cases g : 0 ≤ rd y (v : Int)
  · have := (h.val v hv g).1
    have := cnt_le y js.length
    omega
  · omega
theorem Fw.put {js : List Int} {s : Nat} {y : List Int} (h : Fw js s y) (hl : js.length ≤ 30) {u v c : Nat} (hu : u ≤ js.length) (h0 : 0 ≤ rd y (u : Int)) (he : Ed js u v c) (hz : rd y (v : Int) < 0 ∨ rd y (u : Int) + (c : Int) < rd y (v : Int)) :
    Fw js s (y.set v (rd y (u : Int) + (c : Int))) ∧ potS (y.set v (rd y (u : Int) + (c : Int))) js.length < potS y js.length ∧ ∀ j : Nat, 0 ≤ rd y (j : Int) → 0 ≤ rd (y.set v (rd y (u : Int) + (c : Int))) (j : Int) := by
  have hvn : v ≤ js.length := by obtain ⟨b, hb⟩ := he; exact hb.le
  have hc1 : c ≤ 1 := by obtain ⟨b, hb⟩ := he; exact hb.cost
  have hlen := h.len
  have su := h.small hl hu
  have sv := h.small hl hvn
  have cu := (h.val u hu h0).1
  have cn := cnt_le y js.length
  generalize hzz : rd y (u : Int) + (c : Int) = z at *
  have q1 : rd (y.set v z) (v : Int) = z := rd_set_eq y v z (by omega)
  have q2 : ∀ j : Nat, j ≠ v → rd (y.set v z) (j : Int) = rd y (j : Int) := fun j e => rd_set_ne _ _ _ _ e
  have hvs : v ≠ s := by
    intro e; subst e; have := h.src; omega
  have ec : cntS (y.set v z) js.length = cntS y js.length + ((if 0 ≤ z then 1 else 0) - (if 0 ≤ rd y (v : Int) then 1 else 0)) := by
    unfold cntS
    rw [sm_upd (fun j : Nat => if 0 ≤ rd y (j : Int) then 1 else 0) (fun j : Nat => if 0 ≤ rd (y.set v z) (j : Int) then 1 else 0) v (js.length + 1) (by omega) (fun j e => by simp only [q2 j e])]
    simp only [q1]
  have ep : potS (y.set v z) js.length = potS y js.length + ((if z < 0 then 100 else z) - (if rd y (v : Int) < 0 then 100 else rd y (v : Int))) := by
    unfold potS
    rw [sm_upd (fun j : Nat => if rd y (j : Int) < 0 then 100 else rd y (j : Int)) (fun j : Nat => if rd (y.set v z) (j : Int) < 0 then 100 else rd (y.set v z) (j : Int)) v (js.length + 1) (by omega) (fun j e => by simp only [q2 j e])]
    simp only [q1]
  rw [if_pos (show 0 ≤ z by omega)] at ec
  rw [if_neg (show ¬ z < 0 by omega)] at ep
  refine ⟨⟨by rw [List.length_set]; exact hlen, by rw [q2 s (Ne.symm hvs)]; exact h.src, fun j hj => ?_, fun j hj hj0 => ?_⟩, ?_, fun j hj => ?_⟩
  · by_cases e : j = v
    · subst e; rw [q1]; omega
    · rw [q2 j e]; exact h.low j hj
  · by_cases e : j = v
    · subst e
      rw [q1]
      refine ⟨?_, ?_⟩
      · rw [ec]
        by_cases g : 0 ≤ rd y (j : Int)
        · rw [if_pos g]
          have := (h.val j hj g).1
          omega
        · rw [if_neg g]; omega
      · obtain ⟨vs, hvs2⟩ := (h.val u hu h0).2
        refine ⟨vs ++ [u], ?_⟩
        have w : Wk (Ed js) u j [u] (c + 0) := .cons he (.nil j)
        have := hvs2.append w
        rw [show z.toNat = (rd y (u : Int)).toNat + (c + 0) from by omega]
        exact this
    · rw [q2 j e] at hj0 ⊢
      have a := h.val j hj hj0
      refine ⟨?_, a.2⟩
      rw [ec]
      split <;> omega
  · rw [ep]
    by_cases g : rd y (v : Int) < 0
    · rw [if_pos g]; omega
    · rw [if_neg g]; omega
  · by_cases e : j = v
    · subst e; rw [q1]; omega
    · rw [q2 j e]; exact hj
structure St (js y : List Int) (t : Bool) (y' : List Int) (t' : Bool) : Prop where
  fin : t' = false → t = false ∧ y' = y
  pot : potS y' js.length ≤ potS y js.length
  up : t' = true → t = true ∨ potS y' js.length < potS y js.length
  nn : ∀ j : Nat, 0 ≤ rd y (j : Int) → 0 ≤ rd y' (j : Int)
theorem St.refl (js y : List Int) (t : Bool) : St js y t y t := ⟨fun h => ⟨h, rfl⟩, Int.le_refl _, fun h => .inl h, fun _ h => h⟩
theorem St.trans {js y y1 y2 : List Int} {t t1 t2 : Bool} (h : St js y t y1 t1) (g : St js y1 t1 y2 t2) : St js y t y2 t2 := by
  refine ⟨fun e => ?_, Int.le_trans g.pot h.pot, fun e => ?_, fun j hj => g.nn j (h.nn j hj)⟩
  · obtain ⟨a, b⟩ := g.fin e
    obtain ⟨c, d⟩ := h.fin a
    exact ⟨c, b.trans d⟩
  · have hp := h.pot
    have gp := g.pot
    rcases g.up e with a | a
    · rcases h.up a with b | b
      · exact .inl b
      · exact .inr (by omega)
    · exact .inr (by omega)
theorem abs_eq {b : Int} (hb : -1 ≤ b ∧ b ≤ 1) : spec_l1Abs.f b = some ((if b = 0 then 0 else 1 : Nat) : Int) := by
  have : b = -1 ∨ b = 0 ∨ b = 1 := by omega
  unfold spec_l1Abs.f spec_l1Most.f
  rcases this with rfl | rfl | rfl <;> rw [w64 (by omega)] <;> rfl
theorem least_eq (a b : Int) : spec_l1Least.f a b = some (min a b) := by
  unfold spec_l1Least.f
  by_cases h : a < b
  · rw [if_pos h]; congr 1; omega
  · rw [if_neg h]; congr 1; omega
theorem spec_l3 (js : List Int) (hj : jumpsB js = true) (s u : Nat) (hu : u < js.length) (d : Nat) : ∀ (k : Nat) (b : Int) (y : List Int) (t : Bool), b + d = 2 → -1 ≤ b → 2 * d < k → Fw js s y → 0 ≤ rd y (u : Int) →
    ∃ y' t' m, k ≤ m + 2 * d + 1 ∧ spec_FewestChanges.l3 k js y t u (rd js (u : Int)) b js js.length u = spec_FewestChanges.l2 m js y' t' js js.length ((u + 1 : Nat) : Int) ∧ Fw js s y' ∧ St js y t y' t' ∧ (t' = false → ∀ b' v c, b ≤ b' → EdB js u b' v c → 0 ≤ rd y (v : Int) ∧ rd y (v : Int) ≤ rd y (u : Int) + (c : Int)) := by
  have hl := (jumpsB_true hj).1
  have hju := jump_rd hj hu
  induction d with
  | zero =>
    intro k b y t hd hb hk F h0
    obtain ⟨k, rfl⟩ : ∃ m, k = m + 1 := ⟨k - 1, by omega⟩
    refine ⟨y, t, k, by omega, ?_, F, St.refl _ _ _, fun _ b' v c h1 h2 => by have := h2.2.1; omega⟩
    rw [spec_FewestChanges.l3, if_neg (by omega), w64 (by omega)]; rfl
  | succ d ih =>
    intro k b y t hd hb hk F h0
    obtain ⟨k, rfl⟩ : ∃ m, k = m + 1 + 1 := ⟨k - 2, by omega⟩
    have hb1 : -1 ≤ b ∧ b ≤ 1 := by omega
    have hlen := F.len
    have skip : (∀ v c, EdB js u b v c → 0 ≤ rd y (v : Int) ∧ rd y (v : Int) ≤ rd y (u : Int) + (c : Int)) → ∃ y' t' m, k + 1 + 1 ≤ m + 2 * (d + 1) + 1 ∧ spec_FewestChanges.l3 k js y t u (rd js (u : Int)) (b + 1) js js.length u = spec_FewestChanges.l2 m js y' t' js js.length ((u + 1 : Nat) : Int) ∧ Fw js s y' ∧ St js y t y' t' ∧ (t' = false → ∀ b' v c, b ≤ b' → EdB js u b' v c → 0 ≤ rd y (v : Int) ∧ rd y (v : Int) ≤ rd y (u : Int) + (c : Int)) := by
      intro hno
      obtain ⟨y', t', m, g1, g2, g3, g4, g5⟩ := ih k (b + 1) y t (by omega) (by omega) (by omega) F h0
      refine ⟨y', t', m, by omega, g2, g3, g4, fun e b' v c h1 h2 => ?_⟩
      by_cases q : b' = b
      · subst q; exact hno v c h2
      · exact g5 e b' v c (by omega) h2
    rw [spec_FewestChanges.l3, if_pos (by omega), w64 (x := (u : Int) + rd js (u : Int)) (by omega), w64 (x := (u : Int) + rd js (u : Int) + b) (by omega), least_eq, Option.bind_some, w64 (x := rd js (u : Int) + b) (by omega), Int.add_assoc]
    by_cases ht : min ((u : Int) + (rd js (u : Int) + b)) (js.length : Int) < 0
    · rw [if_pos ht, spec_FewestChanges.j4, if_pos rfl, w64 (x := b + 1) (by omega)]
      exact skip (fun v c he => by have := he.2.2.2.1; omega)
    · rw [if_neg ht, l1In_eq, Option.bind_some]
      by_cases hw : -30 ≤ rd js (u : Int) + b ∧ rd js (u : Int) + b ≤ 30
      · obtain ⟨v, hv⟩ := Int.eq_ofNat_of_zero_le (show 0 ≤ min ((u : Int) + (rd js (u : Int) + b)) (js.length : Int) by omega)
        have hvn : v ≤ js.length := by omega
        rw [decide_eq_true hw, spec_FewestChanges.j4, if_neg (by simp), if_pos (by omega), if_pos (by omega), abs_eq hb1, Option.bind_some, hv, if_pos (by omega), if_pos (by omega), Int.toNat_natCast]
        generalize hc : (if b = 0 then 0 else 1 : Nat) = c at *
        have hc1 : c ≤ 1 := by split at hc <;> omega
        have he : EdB js u b v c := ⟨hu, hb1, hw, hv.symm, hc.symm⟩
        have su := F.small hl.2 (show u ≤ js.length by omega)
        rw [w64 (x := rd y (u : Int) + (c : Int)) (by omega), w64 (x := b + 1) (by omega)]
        have put : (rd y (v : Int) < 0 ∨ rd y (u : Int) + (c : Int) < rd y (v : Int)) → ∃ y' t' m, k + 1 + 1 ≤ m + 2 * (d + 1) + 1 ∧ spec_FewestChanges.l3 k js (y.set v (rd y (u : Int) + (c : Int))) true u (rd js (u : Int)) (b + 1) js js.length u = spec_FewestChanges.l2 m js y' t' js js.length ((u + 1 : Nat) : Int) ∧ Fw js s y' ∧ St js y t y' t' ∧ (t' = false → ∀ b' v c, b ≤ b' → EdB js u b' v c → 0 ≤ rd y (v : Int) ∧ rd y (v : Int) ≤ rd y (u : Int) + (c : Int)) := by
          intro hz
          obtain ⟨F2, p1, p2⟩ := F.put hl.2 (show u ≤ js.length by omega) h0 ⟨b, he⟩ hz
          obtain ⟨y', t', m, g1, g2, g3, g4, g5⟩ := ih k (b + 1) _ true (by omega) (by omega) (by omega) F2 (p2 u h0)
          have s1 : St js y t (y.set v (rd y (u : Int) + (c : Int))) true := ⟨fun e => by simp at e, Int.le_of_lt p1, fun _ => .inr p1, p2⟩
          refine ⟨y', t', m, by omega, g2, g3, s1.trans g4, fun e => ?_⟩
          have := (g4.fin e).1
          simp at this
        by_cases g : rd y (v : Int) < 0
        · rw [if_pos g]; exact put (.inl g)
        · rw [if_neg g]
          by_cases g2 : rd y (u : Int) + (c : Int) < rd y (v : Int)
          · rw [if_pos g2]; exact put (.inr g2)
          · rw [if_neg g2]
            refine skip (fun v' c' h' => ?_)
            have e1 : v' = v := by have := h'.2.2.2.1; omega
            have e2 : c' = c := by have := h'.2.2.2.2; rw [this]; exact hc
            subst e1; subst e2
            exact ⟨by omega, by omega⟩
      · rw [decide_eq_false hw, spec_FewestChanges.j4, if_pos (by simp), w64 (x := b + 1) (by omega)]
        exact skip (fun v c he => absurd he.2.2.1 hw)
theorem spec_l2 (js : List Int) (hj : jumpsB js = true) (s : Nat) (d : Nat) : ∀ (k i : Nat) (y : List Int) (t : Bool), i + d = js.length → 10 * d + 5 < k → Fw js s y →
    ∃ y' t' m, k ≤ m + 10 * d + 1 ∧ spec_FewestChanges.l2 k js y t js js.length i = spec_FewestChanges.l1 m js y' t' ∧ Fw js s y' ∧ St js y t y' t' ∧ (t' = false → ∀ u, i ≤ u → 0 ≤ rd y (u : Int) → ∀ v c, Ed js u v c → 0 ≤ rd y (v : Int) ∧ rd y (v : Int) ≤ rd y (u : Int) + (c : Int)) := by
  have hl := (jumpsB_true hj).1
  induction d with
  | zero =>
    intro k i y t hd hk F
    obtain ⟨k, rfl⟩ : ∃ m, k = m + 1 := ⟨k - 1, by omega⟩
    refine ⟨y, t, k, by omega, ?_, F, St.refl _ _ _, fun _ u hu _ v c he => by obtain ⟨b, he⟩ := he; have := he.1; omega⟩
    rw [spec_FewestChanges.l2, if_neg (by omega)]
  | succ d ih =>
    intro k i y t hd hk F
    obtain ⟨k, rfl⟩ : ∃ m, k = m + 1 := ⟨k - 1, by omega⟩
    have hlen := F.len
    rw [spec_FewestChanges.l2, if_pos (by omega), if_pos (by omega), if_pos (by omega), if_pos (by omega)]
    by_cases h0 : rd y (i : Int) < 0
    · rw [if_pos h0, w64 (by omega)]
      obtain ⟨y', t', m, g1, g2, g3, g4, g5⟩ := ih k (i + 1) y t (by omega) (by omega) F
      refine ⟨y', t', m, by omega, g2, g3, g4, fun e u hu hp v c he => ?_⟩
      by_cases q : u = i
      · subst q; omega
      · exact g5 e u (by omega) hp v c he
    · rw [if_neg h0]
      obtain ⟨y1, t1, m1, p1, p2, p3, p4, p5⟩ := spec_l3 js hj s i (by omega) 3 k (-1) y t (by omega) (by omega) (by omega) F (by omega)
      rw [p2]
      obtain ⟨y', t', m, g1, g2, g3, g4, g5⟩ := ih m1 (i + 1) y1 t1 (by omega) (by omega) p3
      refine ⟨y', t', m, by omega, g2, g3, p4.trans g4, fun e u hu hp v c he => ?_⟩
      have e1 := (g4.fin e).1
      have e2 := (p4.fin e1).2
      by_cases q : u = i
      · subst q
        obtain ⟨b, hb⟩ := he
        exact p5 e1 b v c hb.2.1.1 hb
      · have := g5 e u (by omega) (by rw [e2]; exact hp) v c he
        rw [e2] at this
        exact this
theorem spec_l1 (js : List Int) (hj : jumpsB js = true) (s : Nat) (P : Nat) : ∀ (k : Nat) (y : List Int), potS y js.length ≤ (P : Int) → 400 * P + 1000 < k → Fw js s y →
    ∃ y', spec_FewestChanges.l1 k js y true = (if rd y' (js.length : Int) < 0 then some (0, false) else some (rd y' (js.length : Int), true)) ∧ Fw js s y' ∧ ∀ u v c, Ed js u v c → 0 ≤ rd y' (u : Int) → 0 ≤ rd y' (v : Int) ∧ rd y' (v : Int) ≤ rd y' (u : Int) + (c : Int) := by
  have hl := (jumpsB_true hj).1
  induction P with
  | zero =>
    intro k y hp hk F
    obtain ⟨k, rfl⟩ : ∃ m, k = m + 1 := ⟨k - 1, by omega⟩
    rw [spec_FewestChanges.l1, if_pos rfl]
    obtain ⟨y', t', m, g1, g2, g3, g4, g5⟩ := spec_l2 js hj s js.length k 0 y false (by omega) (by omega) F
    rw [show ((0 : Nat) : Int) = 0 from rfl] at g2
    rw [g2]
    cases t' with
    | true =>
      have a := pot_ge y' js.length
      rcases g4.up rfl with b | b
      · simp at b
      · omega
    | false =>
      have e2 := (g4.fin rfl).2
      subst e2
      have hlen := F.len
      obtain ⟨m, rfl⟩ : ∃ q, m = q + 1 := ⟨m - 1, by omega⟩
      exact ⟨y', by rw [spec_FewestChanges.l1, if_neg (by simp), if_pos (by omega), if_pos (by omega)], g3, fun u v c he h0 => g5 rfl u (by omega) h0 v c he⟩
  | succ P ih =>
    intro k y hp hk F
    obtain ⟨k, rfl⟩ : ∃ m, k = m + 1 := ⟨k - 1, by omega⟩
    rw [spec_FewestChanges.l1, if_pos rfl]
    obtain ⟨y', t', m, g1, g2, g3, g4, g5⟩ := spec_l2 js hj s js.length k 0 y false (by omega) (by omega) F
    rw [show ((0 : Nat) : Int) = 0 from rfl] at g2
    rw [g2]
    cases t' with
    | true =>
      rcases g4.up rfl with b | b
      · simp at b
      · exact ih m y' (by omega) (by omega) g3
    | false =>
      have e2 := (g4.fin rfl).2
      subst e2
      have hlen := F.len
      obtain ⟨m, rfl⟩ : ∃ q, m = q + 1 := ⟨m - 1, by omega⟩
      exact ⟨y', by rw [spec_FewestChanges.l1, if_neg (by simp), if_pos (by omega), if_pos (by omega)], g3, fun u v c he h0 => g5 rfl u (by omega) h0 v c he⟩
theorem spec_l0 (js : List Int) (hl : js.length ≤ 30) (s : Nat) (hs : s < js.length) (d : Nat) : ∀ (k i : Nat) (y : List Int), i + d = js.length + 1 → d < k → y.length = js.length + 1 → (∀ j : Nat, j < i → rd y (j : Int) = -1) →
    ∃ y' m, k ≤ m + d + 1 ∧ spec_FewestChanges.l0 k js s y ((js.length + 1 : Nat) : Int) i = spec_FewestChanges.l1 m js (y'.set s 0) true ∧ y'.length = js.length + 1 ∧ ∀ j : Nat, j ≤ js.length → rd y' (j : Int) = -1 := by
  induction d with
  | zero =>
    intro k i y hd hk hy h
    obtain ⟨k, rfl⟩ : ∃ m, k = m + 1 := ⟨k - 1, by omega⟩
    exact ⟨y, k, by omega, by rw [spec_FewestChanges.l0, if_neg (by omega), if_pos (by omega), if_pos (by omega), Int.toNat_natCast], hy, fun j hj => h j (by omega)⟩
  | succ d ih =>
    intro k i y hd hk hy h
    obtain ⟨k, rfl⟩ : ∃ m, k = m + 1 := ⟨k - 1, by omega⟩
    rw [spec_FewestChanges.l0, if_pos (by omega), if_pos (by omega), if_pos (by omega), w64 (by omega), Int.toNat_natCast]
    obtain ⟨y', m, g1, g2, g3, g4⟩ := ih k (i + 1) (y.set i (-1)) (by omega) (by omega) (by rw [List.length_set]; exact hy) (fun j hj => by
      by_cases e : j = i
      · subst e; exact rd_set_eq _ _ _ (by omega)
      · rw [rd_set_ne _ _ _ _ e]; exact h j (by omega))
    exact ⟨y', m, by omega, g2, g3, g4⟩
theorem FewestChanges_eq {k : Nat} (hk : 2000000 < k) (l : List Int) (hl : l.length ≤ 1048576) (s : Int) : ∃ r, spec_FewestChanges.f k l s = some r ∧ impl_FewestChanges.f k l s = some r := by
  unfold spec_FewestChanges.f impl_FewestChanges.f
  rw [baStep_eq l s hl (by omega), have_one l s hl (by omega), Option.bind_some, Option.bind_some, Option.bind_some]
  by_cases h : onB l s = true
  · have g := onB_true h
    have gl := (jumpsB_true g.1).1
    obtain ⟨s, rfl⟩ := Int.eq_ofNat_of_zero_le g.2.1
    have hs : s < l.length := by omega
    have e : wrap64 ((l.length : Int) + 1) = ((l.length + 1 : Nat) : Int) := by rw [w64 (by omega)]; rfl
    rw [if_pos h, if_pos h, e, if_pos (by omega), if_pos (by omega)]
    -- the program
    have r0 : rd [1000] 0 = 1000 := rfl
    unfold slices_Repeat_int_int.f
    rw [if_pos ⟨rfl, by omega, by omega⟩, Option.bind_some, if_pos (by omega), Int.toNat_natCast, if_pos (by simp; omega), r0]
    have hrep : ∀ j : Nat, j ≤ l.length → rd (List.replicate (l.length + 1) (1000 : Int)) (j : Int) = 1000 := fun j hj => by
      rw [rd_get (by simp; omega)]; simp
    have qn : rd ((List.replicate (l.length + 1) (1000 : Int)).set l.length 0) (l.length : Int) = 0 := rd_set_eq _ _ _ (by simp)
    have qj : ∀ j : Nat, j ≤ l.length → j ≠ l.length → rd ((List.replicate (l.length + 1) (1000 : Int)).set l.length 0) (j : Int) = 1000 := fun j hj e => by rw [rd_set_ne _ _ _ _ e]; exact hrep j hj
    have S : Snd l ((List.replicate (l.length + 1) (1000 : Int)).set l.length 0) := by
      intro u hu
      by_cases e : u = l.length
      · subst e; rw [qn]; exact ⟨by omega, fun _ => ⟨[], .nil _⟩⟩
      · rw [qj u hu e]; exact ⟨by omega, fun z => by omega⟩
    have T : Tr l ((List.replicate (l.length + 1) (1000 : Int)).set l.length 0) 0 := by
      intro u vs c hw hlen
      generalize hn : l.length = n at hw hlen
      cases hw with
      | nil => rw [← hn, qn]; exact Int.le_refl _
      | cons he t => simp at hlen
    obtain ⟨x', i1, i2, i3⟩ := impl_l0 l g.1 s hs (l.length + 1) k 0 _ (by omega) (by omega) (by simp) S qn T
    rw [show ((0 : Nat) : Int) = 0 from rfl] at i1
    rw [Int.toNat_natCast, i1]
    -- the reference
    have yl : (List.replicate (l.length + 1) (0 : Int)).length = l.length + 1 := by simp
    obtain ⟨y0, m, p1, p2, p3, p4⟩ := spec_l0 l gl.2 s hs (l.length + 1) k 0 (List.replicate (l.length + 1) 0) (by omega) (by omega) yl (fun j hj => by omega)
    rw [show ((0 : Nat) : Int) = 0 from rfl] at p2
    (try rw [Int.toNat_natCast])
    rw [yl, p2]
    have z1 : rd (y0.set s 0) (s : Int) = 0 := rd_set_eq _ _ _ (by omega)
    have z2 : ∀ j : Nat, j ≤ l.length → j ≠ s → rd (y0.set s 0) (j : Int) = -1 := fun j hj e => by rw [rd_set_ne _ _ _ _ e]; exact p4 j hj
    have F : Fw l s (y0.set s 0) := by
      refine ⟨by rw [List.length_set]; exact p3, z1, fun v hv => ?_, fun v hv h0 => ?_⟩
      · by_cases q : v = s
        · subst q; omega
        · rw [z2 v hv q]; omega
      · by_cases q : v = s
        · subst q
          rw [z1]
          refine ⟨?_, [], .nil _⟩
          unfold cntS
          rw [sm_upd (fun _ : Nat => (0 : Int)) (fun j : Nat => if 0 ≤ rd (y0.set v 0) (j : Int) ∧ j ≤ l.length then 1 else 0) v (l.length + 1) (by omega) (fun j hj => by
            by_cases w : j ≤ l.length
            · rw [if_neg]; rw [z2 j w hj]; omega
            · rw [if_neg (fun z => w z.2)]) |> fun q => sm_congr (f := fun j : Nat => if 0 ≤ rd (y0.set v 0) (j : Int) then (1 : Int) else 0) (g := fun j : Nat => if 0 ≤ rd (y0.set v 0) (j : Int) ∧ j ≤ l.length then 1 else 0) (l.length + 1) (fun j hj => by
              by_cases w : 0 ≤ rd (y0.set v 0) (j : Int)
              · rw [if_pos w, if_pos ⟨w, by omega⟩]
              · rw [if_neg w, if_neg (fun z => w z.1)]) |>.trans q, sm_zero, z1]
          simp; omega
        · rw [z2 v hv q] at h0; omega
    have hp : potS (y0.set s 0) l.length ≤ 3100 := by
      have := sm_le100 (f := fun v : Nat => if rd (y0.set s 0) (v : Int) < 0 then 100 else rd (y0.set s 0) (v : Int)) (l.length + 1) (fun i hi => by
        by_cases q : i = s
        · subst q; simp only [z1]; split <;> omega
        · simp only [z2 i (by omega) q]; decide)
      unfold potS
      omega
    obtain ⟨y', q1, q2, q3⟩ := spec_l1 l g.1 s 3100 m (y0.set s 0) hp (by omega) F
    rw [q1]
    have up : ∀ {v vs c}, Wk (Ed l) s v vs c → 0 ≤ rd y' (v : Int) ∧ rd y' (v : Int) ≤ (c : Int) := fun {v vs c} hw => by
      have := Wk.forth (f := fun i : Nat => rd y' (i : Int)) (fun u v c he h0 => q3 u v c he h0) hw (by rw [q2.src]; exact Int.le_refl _)
      simp only [q2.src] at this
      omega
    have sx := i2 s (by omega)
    by_cases f : rd y' (l.length : Int) < 0
    · rw [if_pos f]
      by_cases f2 : rd x' (s : Int) ≥ 1000
      · rw [if_pos f2]; exact ⟨_, rfl, rfl⟩
      · obtain ⟨vs, hw⟩ := sx.2 (by omega)
        have := up hw
        omega
    · rw [if_neg f]
      obtain ⟨vs, hw⟩ := (q2.val l.length (Nat.le_refl _) (by omega)).2
      obtain ⟨ws, j, w1, w2, w3⟩ := Wk.short (n := l.length) (fun u v c he => by obtain ⟨b, hb⟩ := he; exact hb.1) vs.length (Nat.le_refl _) hw
      have a := i3 s ws j w3 (by omega)
      have b := q2.small gl.2 (Nat.le_refl l.length)
      have c1 : rd x' (s : Int) ≤ rd y' (l.length : Int) := by omega
      rw [if_neg (by omega)]
      obtain ⟨us, hu⟩ := sx.2 (by omega)
      have c2 := (up hu).2
      have : rd x' (s : Int) = rd y' (l.length : Int) := by omega
      rw [this]
      exact ⟨_, rfl, rfl⟩
  · rw [if_neg h, if_neg h]; exact ⟨_, rfl, rfl⟩
theorem FnExactFewestChanges : laws_FnExactFewestChanges.Pure := by
  intro l s _ _ _ _ 
  obtain ⟨k, hk⟩ : ∃ k, 2000000 < k := ⟨2000001, by omega⟩
  refine ⟨k + 1, ?_⟩
  unfold laws_FnExactFewestChanges.f
  by_cases hs : (l.length : Int) > 1048576
  · rw [if_pos hs]
  · obtain ⟨r, h1, h2⟩ := FewestChanges_eq (k := k + 1) (by omega) l (by omega) s
    rw [if_neg hs, toIntS_eq (by omega) (by omega), Option.bind_some, h1, Option.bind_some, Option.bind_some, h2, Option.bind_some, if_pos rfl, laws_FnExactFewestChanges.j0, if_neg (by simp), toIntS_eq (by omega) (by omega), Option.bind_some, eqIntS_self (by omega) (by omega), Option.bind_some, if_pos rfl]

end Go.Proofs.Ytlajnkdokmbpeaa.Pure
