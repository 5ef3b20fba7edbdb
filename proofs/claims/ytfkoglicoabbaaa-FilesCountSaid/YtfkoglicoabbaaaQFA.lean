import Derived.Test.YtfkoglicoabbaaaPLib
set_option linter.unusedVariables false
set_option linter.unusedSimpArgs false
namespace Go.Fp
structure Opn where
  name : Int
  size : Int
  pos : Int
  refs : Int
deriving DecidableEq
abbrev Tbl := List (Option Nat)
structure St where
  procs : List (Option Tbl)
  opens : List Opn
deriving DecidableEq
structure Op where
  kind : Int
  proc : Int
  name : Int
  size : Int
  fd : Int
  dst : Int
  most : Int
def free (t : Tbl) : Nat := t.findIdx (fun e => e.isNone)
def bump (os : List Opn) (k : Nat) (d : Int) : List Opn := os.modify k fun o => { o with refs := o.refs + d }
def move (os : List Opn) (k : Nat) (p : Int) : List Opn := os.modify k fun o => { o with pos := p }
def tblOf (s : St) (p : Int) : Option Tbl := if 0 ≤ p ∧ p < 4 then s.procs.getD p.toNat none else none
def entOf (t : Tbl) (fd : Int) : Option Nat := if 0 ≤ fd ∧ fd < 16 then t.getD fd.toNat none else none
def opn (os : List Opn) (k : Nat) : Opn := os.getD k ⟨0, 0, 0, 0⟩
def bumps : Tbl → List Opn → List Opn
  | [], os => os
  | none :: t, os => bumps t os
  | some k :: t, os => bumps t (bump os k 1)
def unref (t : Tbl) (fd : Int) (os : List Opn) : List Opn := match entOf t fd with
  | some j => bump os j (-1)
  | none => os
def doOp (s : St) (o : Op) : St × Int × Int :=
  if o.kind < 1 ∨ 7 < o.kind then (s, 5, 0) else
  match tblOf s o.proc with
  | none => (s, 3, 0)
  | some t =>
    if o.kind = 1 then
      if o.size < 0 ∨ 1099511627776 < o.size then (s, 2, 0) else
      if free t = 16 then (s, 4, 0) else
      ({ procs := s.procs.set o.proc.toNat (some (t.set (free t) (some s.opens.length))), opens := s.opens ++ [⟨o.name, o.size, 0, 1⟩] }, 0, free t)
    else if o.kind = 7 then
      if o.dst < 0 ∨ 4 ≤ o.dst ∨ (tblOf s o.dst).isSome then (s, 6, 0) else
      ({ procs := s.procs.set o.dst.toNat (some t), opens := bumps t s.opens }, 0, o.dst)
    else match entOf t o.fd with
    | none => (s, 3, 0)
    | some k =>
      if o.kind = 2 then
        if free t = 16 then (s, 4, 0) else
        ({ procs := s.procs.set o.proc.toNat (some (t.set (free t) (some k))), opens := bump s.opens k 1 }, 0, free t)
      else if o.kind = 3 then
        if o.dst < 0 ∨ 16 ≤ o.dst then (s, 2, 0) else
        if o.dst = o.fd then (s, 0, o.dst) else
        ({ procs := s.procs.set o.proc.toNat (some (t.set o.dst.toNat (some k))), opens := bump (unref t o.dst s.opens) k 1 }, 0, o.dst)
      else if o.kind = 4 then
        ({ procs := s.procs.set o.proc.toNat (some (t.set o.fd.toNat none)), opens := bump s.opens k (-1) }, 0, (opn s.opens k).refs - 1)
      else if o.kind = 6 then
        if o.most < 0 ∨ 1099511627776 < o.most then (s, 2, 0) else
        ({ s with opens := move s.opens k o.most }, 0, o.most)
      else
        if o.most < 1 then (s, 2, 0) else
        ({ s with opens := move s.opens k ((opn s.opens k).pos + min o.most (max ((opn s.opens k).size - (opn s.opens k).pos) 0)) }, 0,
          min o.most (max ((opn s.opens k).size - (opn s.opens k).pos) 0))
def t0 : Tbl := List.replicate 16 none
def s0 : St := { procs := [some t0, none, none, none], opens := [] }
def run : List Op → St → St
  | [], s => s
  | o :: os, s => run os (doOp s o).1
def answers : List Op → St → List (Int × Int)
  | [], _ => []
  | o :: os, s => (doOp s o).2 :: answers os (doOp s o).1
def cell (s : St) (p fd : Nat) : Int := match s.procs.getD p none with
  | none => -1
  | some t => match t.getD fd none with
    | none => -1
    | some k => max (opn s.opens k).name 0
theorem run_append (a b : List Op) (s : St) : run (a ++ b) s = run b (run a s) := by
  induction a generalizing s with
  | nil => rfl
  | cons o a ih => exact ih _
theorem answers_append (a b : List Op) (s : St) : answers (a ++ b) s = answers a s ++ answers b (run a s) := by
  induction a generalizing s with
  | nil => rfl
  | cons o a ih => simp [answers, run, ih]
theorem answers_length (a : List Op) (s : St) : (answers a s).length = a.length := by
  induction a generalizing s with
  | nil => rfl
  | cons o a ih => simp [answers, ih]
def cnt (s : St) (k : Nat) : Nat := (s.procs.map fun t => match t with | some t => t.count (some k) | none => 0).sum
structure Inv (s : St) : Prop where
  len : s.procs.length = 4
  tl : ∀ (p : Nat) (t : Tbl), s.procs[p]? = some (some t) → t.length = 16
  ent : ∀ (p : Nat) (t : Tbl) (fd k : Nat), s.procs[p]? = some (some t) → t[fd]? = some (some k) → k < s.opens.length
  sz : ∀ (k : Nat) (o : Opn), s.opens[k]? = some o → 0 ≤ o.size ∧ o.size ≤ 1099511627776 ∧ 0 ≤ o.pos ∧ o.pos ≤ 1099511627776
  refs : ∀ (k : Nat) (o : Opn), s.opens[k]? = some o → o.refs = cnt s k
theorem tblOf_some {s : St} {p : Int} {t : Tbl} (h : tblOf s p = some t) : 0 ≤ p ∧ p < 4 ∧ s.procs[p.toNat]? = some (some t) := by
  unfold tblOf at h
  split at h
  · rename_i hp
    refine ⟨hp.1, hp.2, ?_⟩
    rw [List.getD_eq_getElem?_getD] at h
    cases hh : s.procs[p.toNat]? with
    | none => rw [hh] at h; simp at h
    | some x => rw [hh] at h; simp at h; rw [h]
  · cases h
theorem entOf_some {t : Tbl} {p : Int} {k : Nat} (h : entOf t p = some k) : 0 ≤ p ∧ p < 16 ∧ t[p.toNat]? = some (some k) := by
  unfold entOf at h
  split at h
  · rename_i hp
    refine ⟨hp.1, hp.2, ?_⟩
    rw [List.getD_eq_getElem?_getD] at h
    cases hh : t[p.toNat]? with
    | none => rw [hh] at h; simp at h
    | some x => rw [hh] at h; simp at h; rw [h]
  · cases h
theorem free_le (t : Tbl) (ht : t.length = 16) : free t ≤ 16 := by
  have := List.findIdx_le_length (p := fun e : Option Nat => e.isNone) (xs := t)
  unfold free; omega
theorem free_none {t : Tbl} (ht : t.length = 16) (h : free t ≠ 16) : free t < 16 ∧ t[free t]? = some none := by
  have hl : free t < 16 := by have := free_le t ht; omega
  refine ⟨hl, ?_⟩
  have h1 : free t < t.length := by omega
  have := List.findIdx_getElem (p := fun e : Option Nat => e.isNone) (xs := t) (w := h1)
  rw [List.getElem?_eq_getElem h1]
  have h2 : (t[free t]'h1).isNone = true := this
  simpa using h2
theorem free_lt {t : Tbl} {j : Nat} (h : j < free t) : ∃ k, t[j]? = some (some k) := by
  have hl := List.findIdx_le_length (p := fun e : Option Nat => e.isNone) (xs := t)
  have hj : j < t.length := by unfold free at h; omega
  have := List.not_of_lt_findIdx (p := fun e : Option Nat => e.isNone) (xs := t) h
  rw [List.getElem?_eq_getElem hj]
  cases hh : t[j] with
  | none => rw [hh] at this; simp at this
  | some k => exact ⟨k, rfl⟩
theorem bump_length (os : List Opn) (k : Nat) (d : Int) : (bump os k d).length = os.length := by simp [bump]
theorem move_length (os : List Opn) (k : Nat) (d : Int) : (move os k d).length = os.length := by simp [move]
theorem bumps_length (t : Tbl) (os : List Opn) : (bumps t os).length = os.length := by
  induction t generalizing os with
  | nil => rfl
  | cons e t ih => cases e <;> simp [bumps, ih, bump_length]
theorem unref_length (t : Tbl) (fd : Int) (os : List Opn) : (unref t fd os).length = os.length := by
  unfold unref; split <;> simp [bump_length]
theorem bump_get (os : List Opn) (k : Nat) (d : Int) (j : Nat) : (bump os k d)[j]? = (os[j]?).map fun o => if j = k then { o with refs := o.refs + d } else o := by
  unfold bump
  rw [List.getElem?_modify]
  cases os[j]? with
  | none => simp
  | some o => by_cases h : k = j <;> simp [h, Ne.symm, eq_comm]
theorem move_get (os : List Opn) (k : Nat) (d : Int) (j : Nat) : (move os k d)[j]? = (os[j]?).map fun o => if j = k then { o with pos := d } else o := by
  unfold move
  rw [List.getElem?_modify]
  cases os[j]? with
  | none => simp
  | some o => by_cases h : k = j <;> simp [h, Ne.symm, eq_comm]
theorem bumps_get (t : Tbl) (os : List Opn) (j : Nat) : (bumps t os)[j]? = (os[j]?).map fun o => { o with refs := o.refs + (t.count (some j) : Nat) } := by
  induction t generalizing os with
  | nil => cases h : os[j]? <;> simp [bumps, h]
  | cons e t ih =>
    cases e with
    | none => rw [bumps, ih]; simp [List.count_cons]
    | some k =>
      rw [bumps, ih, bump_get]
      cases os[j]? with
      | none => simp
      | some o =>
        by_cases h : j = k
        · subst h; simp [List.count_cons]; omega
        · simp [List.count_cons, h, Ne.symm h]
theorem unref_get (t : Tbl) (fd : Int) (os : List Opn) (j : Nat) : (unref t fd os)[j]? = (os[j]?).map fun o => if entOf t fd = some j then { o with refs := o.refs - 1 } else o := by
  unfold unref
  split
  · rename_i k hk
    rw [bump_get, hk]
    cases os[j]? with
    | none => simp
    | some o =>
      by_cases h : j = k
      · subst h; simp; omega
      · simp [h, Ne.symm h]
  · rename_i hk
    rw [hk]
    cases os[j]? <;> simp
theorem opn_name_of {os os' : List Opn} {k : Nat} (h : ∀ o', os'[k]? = some o' → ∃ o, os[k]? = some o ∧ o'.name = o.name) (hl : os'.length = os.length) : (opn os' k).name = (opn os k).name := by
  unfold opn
  rw [List.getD_eq_getElem?_getD, List.getD_eq_getElem?_getD]
  cases hh : os'[k]? with
  | none => have : os[k]? = none := by rw [List.getElem?_eq_none_iff] at hh ⊢; omega
            rw [this]
  | some o' => obtain ⟨o, h1, h2⟩ := h o' hh; rw [h1]; exact h2
theorem bump_name (os : List Opn) (k : Nat) (d : Int) (j : Nat) : (opn (bump os k d) j).name = (opn os j).name := by
  refine opn_name_of (fun o' h => ?_) (bump_length ..)
  rw [bump_get] at h
  cases hh : os[j]? with
  | none => rw [hh] at h; cases h
  | some o => rw [hh] at h; simp at h; refine ⟨o, rfl, ?_⟩; rw [← h]; split <;> rfl
end Go.Fp
namespace Go.Fp
def sumc (ps : List (Option Tbl)) (k : Nat) : Nat := (ps.map fun t => match t with | some t => t.count (some k) | none => 0).sum
theorem sumc_set {ps : List (Option Tbl)} {p : Nat} {t t' : Tbl} (h : ps[p]? = some (some t)) (k : Nat) :
    sumc (ps.set p (some t')) k + t.count (some k) = sumc ps k + t'.count (some k) := by
  induction ps generalizing p with
  | nil => simp at h
  | cons a ps ih =>
    cases p with
    | zero => simp at h; subst h; simp [sumc]; omega
    | succ p =>
      have := ih (p := p) (by simpa using h)
      simp [sumc] at this ⊢
      omega
theorem sumc_new {ps : List (Option Tbl)} {p : Nat} {t' : Tbl} (h : ps[p]? = some none) (k : Nat) :
    sumc (ps.set p (some t')) k = sumc ps k + t'.count (some k) := by
  induction ps generalizing p with
  | nil => simp at h
  | cons a ps ih =>
    cases p with
    | zero => simp at h; subst h; simp [sumc]; omega
    | succ p =>
      have := ih (p := p) (by simpa using h)
      simp [sumc] at this ⊢
      omega
theorem count_le_sumc {ps : List (Option Tbl)} {p : Nat} {t : Tbl} (h : ps[p]? = some (some t)) (k : Nat) : t.count (some k) ≤ sumc ps k := by
  induction ps generalizing p with
  | nil => simp at h
  | cons a ps ih =>
    cases p with
    | zero => simp at h; subst h; simp [sumc]
    | succ p => have := ih (p := p) (by simpa using h); simp [sumc] at this ⊢; omega
theorem sumc_zero {ps : List (Option Tbl)} {k : Nat} (h : ∀ (p : Nat) (t : Tbl), ps[p]? = some (some t) → t.count (some k) = 0) : sumc ps k = 0 := by
  induction ps with
  | nil => rfl
  | cons a ps ih =>
    have h1 := ih fun p t hp => h (p + 1) t hp
    have h2 := h 0
    simp [sumc] at h1 ⊢
    refine ⟨?_, h1⟩
    cases a with
    | none => rfl
    | some t => exact h2 t rfl
theorem count_set {t : Tbl} {fd : Nat} {e0 : Option Nat} (h : t[fd]? = some e0) (e x : Option Nat) :
    (t.set fd e).count x + (if e0 = x then 1 else 0) = t.count x + (if e = x then 1 else 0) := by
  induction t generalizing fd with
  | nil => simp at h
  | cons a t ih =>
    cases fd with
    | zero => simp at h; subst h; simp [List.count_cons]; omega
    | succ fd => have := ih (fd := fd) (by simpa using h); simp [List.count_cons] at this ⊢; omega
theorem count_pos {t : Tbl} {fd : Nat} {k : Nat} (h : t[fd]? = some (some k)) : 1 ≤ t.count (some k) := by
  rw [Nat.succ_le_iff, List.count_pos_iff]
  exact List.mem_of_getElem? h
theorem cnt_sumc (s : St) (k : Nat) : cnt s k = sumc s.procs k := rfl
theorem Inv.new_zero {s : St} (hi : Inv s) {k : Nat} (h : s.opens.length ≤ k) : cnt s k = 0 := by
  refine sumc_zero fun p t hp => ?_
  rw [List.count_eq_zero]
  intro hm
  obtain ⟨fd, hfd⟩ := List.getElem?_of_mem hm
  have := hi.ent p t fd k hp hfd
  omega
theorem Inv.upd {s : St} (hi : Inv s) {p : Nat} {t : Tbl} (hp : s.procs[p]? = some (some t)) {t' : Tbl} {os' : List Opn} (hl : t'.length = 16)
    (ho : s.opens.length ≤ os'.length) (he : ∀ (fd k : Nat), t'[fd]? = some (some k) → k < os'.length)
    (hsz : ∀ (k : Nat) (o : Opn), os'[k]? = some o → 0 ≤ o.size ∧ o.size ≤ 1099511627776 ∧ 0 ≤ o.pos ∧ o.pos ≤ 1099511627776)
    (hr : ∀ (k : Nat) (o : Opn), os'[k]? = some o → o.refs + (t.count (some k) : Nat) = ((cnt s k + t'.count (some k) : Nat) : Int)) : Inv ⟨s.procs.set p (some t'), os'⟩ := by
  have hpl : p < s.procs.length := (List.getElem?_eq_some_iff.1 hp).1
  refine ⟨by simp [hi.len], ?_, ?_, hsz, ?_⟩
  · intro q u hq
    by_cases h : q = p
    · subst h; simp [hpl] at hq; subst hq; exact hl
    · have hq : (s.procs.set p (some t'))[q]? = some (some u) := hq
      rw [List.getElem?_set_ne (Ne.symm h)] at hq; exact hi.tl q u hq
  · intro q u fd k hq hf
    have hq : (s.procs.set p (some t'))[q]? = some (some u) := hq
    by_cases h : q = p
    · subst h; simp [hpl] at hq; subst hq; exact he fd k hf
    · rw [List.getElem?_set_ne (Ne.symm h)] at hq; exact Nat.lt_of_lt_of_le (hi.ent q u fd k hq hf) ho
  · intro k o hk
    have h1 := hr k o hk
    have h2 := sumc_set (t' := t') hp k
    have h3 := cnt_sumc s k
    have h4 : cnt ⟨s.procs.set p (some t'), os'⟩ k = sumc (s.procs.set p (some t')) k := rfl
    omega
theorem Inv.keep {s : St} (hi : Inv s) {os' : List Opn} (ho : s.opens.length = os'.length)
    (hsz : ∀ (k : Nat) (o : Opn), os'[k]? = some o → 0 ≤ o.size ∧ o.size ≤ 1099511627776 ∧ 0 ≤ o.pos ∧ o.pos ≤ 1099511627776)
    (hr : ∀ (k : Nat) (o : Opn), os'[k]? = some o → ∃ o', s.opens[k]? = some o' ∧ o.refs = o'.refs) : Inv ⟨s.procs, os'⟩ := by
  refine ⟨hi.len, hi.tl, fun p t fd k h1 h2 => ho ▸ hi.ent p t fd k h1 h2, hsz, fun k o hk => ?_⟩
  obtain ⟨o', h1, h2⟩ := hr k o hk
  rw [h2, hi.refs k o' h1]; rfl
theorem set_get {α : Type} {l : List α} {i j : Nat} {x y : α} (h : (l.set i x)[j]? = some y) : (j = i ∧ y = x) ∨ (j ≠ i ∧ l[j]? = some y) := by
  by_cases hj : j = i
  · subst hj
    have hl : j < l.length := by
      have := (List.getElem?_eq_some_iff.1 h).1
      simpa using this
    simp [hl] at h
    exact .inl ⟨rfl, h.symm⟩
  · rw [List.getElem?_set_ne (Ne.symm hj)] at h
    exact .inr ⟨hj, h⟩
theorem bump_sz {s : St} (hi : Inv s) (j : Nat) (d : Int) (k : Nat) (o : Opn) (h : (bump s.opens j d)[k]? = some o) : 0 ≤ o.size ∧ o.size ≤ 1099511627776 ∧ 0 ≤ o.pos ∧ o.pos ≤ 1099511627776 := by
  rw [bump_get] at h
  cases hh : s.opens[k]? with
  | none => rw [hh] at h; cases h
  | some o' => rw [hh] at h; simp at h; have := hi.sz k o' hh; rw [← h]; split <;> exact this
theorem inv_do {s : St} (hi : Inv s) (o : Op) : Inv (doOp s o).1 := by
  unfold doOp
  split
  · exact hi
  rename_i hk
  split
  · exact hi
  rename_i t ht
  obtain ⟨hp0, hp1, hp⟩ := tblOf_some ht
  have htl := hi.tl _ _ hp
  split
  · split
    · exact hi
    rename_i hs
    split
    · exact hi
    rename_i hf
    obtain ⟨hfl, hfn⟩ := free_none htl hf
    refine hi.upd hp (by simpa using htl) (by simp) ?_ ?_ ?_
    · intro fd k h
      rcases set_get h with ⟨_, h⟩ | ⟨_, h⟩
      · simp at h; subst h; simp
      · have := hi.ent _ _ _ _ hp h; simp; omega
    · intro k o' h
      rw [List.getElem?_append] at h
      split at h
      · exact hi.sz k o' h
      · rw [List.getElem?_singleton] at h
        split at h
        · simp at h; subst h; simp; omega
        · cases h
    · intro k o' h
      have hc := count_set hfn (some s.opens.length) (some k)
      rw [List.getElem?_append] at h
      split at h
      · rename_i hlt
        have := hi.refs k o' h
        have : ¬ (s.opens.length = k) := by omega
        simp [this] at hc
        omega
      · rename_i hlt
        rw [List.getElem?_singleton] at h
        split at h
        · rename_i hz
          have hk' : s.opens.length = k := by omega
          simp at h; subst h
          have hz := hi.new_zero (k := k) (by omega)
          simp [hk'] at hc
          simp [hk']
          omega
        · cases h
  · split
    · split
      · exact hi
      rename_i hd
      have hd0 : 0 ≤ o.dst := by omega
      have hd1 : o.dst < 4 := by omega
      have hdn : tblOf s o.dst = none := by cases h : tblOf s o.dst with
        | none => rfl
        | some u => exact absurd (Or.inr (Or.inr (by rw [h]; rfl))) hd
      have hdl : o.dst.toNat < s.procs.length := by have := hi.len; omega
      have hdp : s.procs[o.dst.toNat]? = some none := by
        unfold tblOf at hdn
        rw [if_pos ⟨hd0, hd1⟩, List.getD_eq_getElem?_getD, List.getElem?_eq_getElem hdl] at hdn
        rw [List.getElem?_eq_getElem hdl]
        simpa using hdn
      refine ⟨by simp [hi.len], ?_, ?_, ?_, ?_⟩
      · intro q u hq
        rcases set_get hq with ⟨_, h⟩ | ⟨_, h⟩
        · simp at h; subst h; exact htl
        · exact hi.tl q u h
      · intro q u fd k hq hf
        show k < (bumps t s.opens).length
        rw [bumps_length]
        rcases set_get hq with ⟨_, h⟩ | ⟨_, h⟩
        · simp at h; subst h; exact hi.ent _ _ _ _ hp hf
        · exact hi.ent _ _ _ _ h hf
      · intro k o' h
        have h : (bumps t s.opens)[k]? = some o' := h
        rw [bumps_get] at h
        cases hh : s.opens[k]? with
        | none => rw [hh] at h; cases h
        | some o'' => rw [hh] at h; simp at h; have := hi.sz k o'' hh; rw [← h]; exact this
      · intro k o' h
        have h : (bumps t s.opens)[k]? = some o' := h
        rw [bumps_get] at h
        cases hh : s.opens[k]? with
        | none => rw [hh] at h; cases h
        | some o'' =>
          rw [hh] at h; simp at h
          have h1 := hi.refs k o'' hh
          have h2 := sumc_new (t' := t) hdp k
          have h3 : cnt ⟨s.procs.set o.dst.toNat (some t), bumps t s.opens⟩ k = sumc (s.procs.set o.dst.toNat (some t)) k := rfl
          have h4 := cnt_sumc s k
          rw [← h]; simp only []
          omega
    · split
      · exact hi
      rename_i k hk'
      obtain ⟨hf0, hf1, hfe⟩ := entOf_some hk'
      have hkl := hi.ent _ _ _ _ hp hfe
      split
      · split
        · exact hi
        rename_i hf
        obtain ⟨hfl, hfn⟩ := free_none htl hf
        refine hi.upd hp (by simpa using htl) (by simp [bump_length]) ?_ (bump_sz hi _ _) ?_
        · intro fd j h
          rw [bump_length]
          rcases set_get h with ⟨_, h⟩ | ⟨_, h⟩
          · simp at h; subst h; exact hkl
          · exact hi.ent _ _ _ _ hp h
        · intro j o' h
          have hc := count_set hfn (some k) (some j)
          rw [bump_get] at h
          cases hh : s.opens[j]? with
          | none => rw [hh] at h; cases h
          | some o'' =>
            rw [hh] at h; simp at h
            have h1 := hi.refs j o'' hh
            by_cases hjk : j = k
            · subst hjk; simp at h hc; rw [← h]; simp only []; omega
            · simp [hjk, Ne.symm hjk] at h hc; rw [← h]; omega
      · split
        · split
          · exact hi
          rename_i hd
          split
          · exact hi
          rename_i hne
          have hd0 : 0 ≤ o.dst := by omega
          have hd1 : o.dst < 16 := by omega
          have hdl : o.dst.toNat < t.length := by omega
          refine hi.upd hp (by simpa using htl) (by simp [bump_length, unref_length]) ?_ ?_ ?_
          · intro fd j h
            rw [bump_length, unref_length]
            rcases set_get h with ⟨_, h⟩ | ⟨_, h⟩
            · simp at h; subst h; exact hkl
            · exact hi.ent _ _ _ _ hp h
          · intro j o' h
            rw [bump_get, unref_get] at h
            cases hh : s.opens[j]? with
            | none => rw [hh] at h; cases h
            | some o'' => rw [hh] at h; simp at h; have := hi.sz j o'' hh; rw [← h]; split <;> split <;> exact this
          · intro j o' h
            obtain ⟨e0, he0⟩ : ∃ e0, t[o.dst.toNat]? = some e0 := ⟨_, List.getElem?_eq_getElem hdl⟩
            have hent : entOf t o.dst = e0 := by
              unfold entOf
              rw [if_pos ⟨hd0, hd1⟩, List.getD_eq_getElem?_getD, he0]; rfl
            have hc := count_set he0 (some k) (some j)
            rw [bump_get, unref_get, hent] at h
            cases hh : s.opens[j]? with
            | none => rw [hh] at h; cases h
            | some o'' =>
              rw [hh] at h; simp at h
              have h1 := hi.refs j o'' hh
              rw [← h]
              by_cases hjk : j = k <;> by_cases hj0 : e0 = some j
              · simp [hjk, hj0] at hc ⊢; subst hjk; omega
              · have : ¬ (e0 = some k) := by rw [← hjk]; exact hj0
                simp [hjk, this] at hc ⊢; subst hjk; omega
              · have hkj : ¬ (k = j) := fun e => hjk e.symm
                simp [hjk, hkj, hj0] at hc ⊢; omega
              · have hkj : ¬ (k = j) := fun e => hjk e.symm
                simp [hjk, hkj, hj0] at hc ⊢; omega
        · split
          · refine hi.upd hp (by simpa using htl) (by simp [bump_length]) ?_ (bump_sz hi _ _) ?_
            · intro fd j h
              rw [bump_length]
              rcases set_get h with ⟨_, h⟩ | ⟨_, h⟩
              · cases h
              · exact hi.ent _ _ _ _ hp h
            · intro j o' h
              have hc := count_set hfe none (some j)
              rw [bump_get] at h
              cases hh : s.opens[j]? with
              | none => rw [hh] at h; cases h
              | some o'' =>
                rw [hh] at h; simp at h
                have h1 := hi.refs j o'' hh
                by_cases hjk : j = k
                · subst hjk; simp at h hc; rw [← h]; simp only []; omega
                · simp [hjk, Ne.symm hjk] at h hc; rw [← h]; omega
          · have hmv : ∀ q : Int, (0 ≤ q ∧ q ≤ 1099511627776) → Inv ⟨s.procs, move s.opens k q⟩ := by
              intro q hq
              refine hi.keep (move_length ..).symm ?_ ?_
              · intro j o' h
                rw [move_get] at h
                cases hh : s.opens[j]? with
                | none => rw [hh] at h; cases h
                | some o'' =>
                  rw [hh] at h; simp at h
                  have := hi.sz j o'' hh
                  rw [← h]; split
                  · exact ⟨this.1, this.2.1, hq.1, hq.2⟩
                  · exact this
              · intro j o' h
                rw [move_get] at h
                cases hh : s.opens[j]? with
                | none => rw [hh] at h; cases h
                | some o'' => rw [hh] at h; simp at h; refine ⟨o'', rfl, ?_⟩; rw [← h]; split <;> rfl
            split
            · split
              · exact hi
              · exact hmv _ (by omega)
            · split
              · exact hi
              · have hs := hi.sz k _ (List.getElem?_eq_getElem hkl)
                have : opn s.opens k = s.opens[k] := by simp [opn, hkl]
                rw [← this] at hs
                exact hmv _ (by omega)
theorem inv_s0 : Inv s0 := by
  refine ⟨rfl, ?_, ?_, ?_, ?_⟩
  · intro p t h
    match p, h with
    | 0, h => simp [s0, t0] at h; subst h; rfl
    | 1, h => simp [s0] at h
    | 2, h => simp [s0] at h
    | 3, h => simp [s0] at h
    | p + 4, h => simp [s0] at h
  · intro p t fd k h hf
    match p, h with
    | 0, h =>
      have h : some (some t0) = some (some t) := h
      cases h
      unfold t0 at hf
      rw [List.getElem?_replicate] at hf; split at hf <;> simp at hf
    | 1, h => simp [s0] at h
    | 2, h => simp [s0] at h
    | 3, h => simp [s0] at h
    | p + 4, h => simp [s0] at h
  · intro k o h; simp [s0] at h
  · intro k o h; simp [s0] at h
theorem inv_run (os : List Op) {s : St} (hi : Inv s) : Inv (run os s) := by
  induction os generalizing s with
  | nil => exact hi
  | cons o os ih => exact ih (inv_do hi o)
end Go.Fp
namespace Go.Fp
theorem do_err {s : St} {o : Op} (h : (doOp s o).2.1 ≠ 0) : (doOp s o).1 = s ∧ (doOp s o).2.2 = 0 := by
  revert h
  unfold doOp
  repeat' (first | split | exact fun _ => ⟨rfl, rfl⟩ | exact fun h => absurd rfl h)
theorem do_ok_pos {s : St} {o : Op} (h : (doOp s o).2.1 = 0) : ∃ t, tblOf s o.proc = some t := by
  unfold doOp at h
  split at h
  · simp at h
  split at h
  · simp at h
  · rename_i t ht; exact ⟨t, ht⟩
theorem cell_lt {s : St} {p fd : Nat} {t : Tbl} (hp : s.procs[p]? = some (some t)) : cell s p fd = match t.getD fd none with
    | none => -1
    | some k => max (opn s.opens k).name 0 := by
  unfold cell
  rw [List.getD_eq_getElem?_getD, hp]; rfl
theorem cell_nn {s : St} {p fd : Nat} {t : Tbl} {k : Nat} (hp : s.procs[p]? = some (some t)) (h : t[fd]? = some (some k)) : cell s p fd = max (opn s.opens k).name 0 := by
  rw [cell_lt hp, List.getD_eq_getElem?_getD, h]; rfl
theorem cell_neg {s : St} {p fd : Nat} {t : Tbl} (hp : s.procs[p]? = some (some t)) (h : t[fd]? = some none) : cell s p fd = -1 := by
  rw [cell_lt hp, List.getD_eq_getElem?_getD, h]; rfl
theorem cell_upd {s : St} {p : Nat} {t : Tbl} (hp : s.procs[p]? = some (some t)) {fd0 : Nat} {e : Option Nat} {os' : List Opn} (hi : Inv s)
    (hn : ∀ j, j < s.opens.length → (opn os' j).name = (opn s.opens j).name) (q fd : Nat) (hne : ¬ (q = p ∧ fd = fd0)) :
    cell ⟨s.procs.set p (some (t.set fd0 e)), os'⟩ q fd = cell s q fd := by
  have hpl : p < s.procs.length := (List.getElem?_eq_some_iff.1 hp).1
  by_cases hq : q = p
  · subst hq
    have hfd : fd ≠ fd0 := fun h => hne ⟨rfl, h⟩
    have h1 : (s.procs.set q (some (t.set fd0 e)))[q]? = some (some (t.set fd0 e)) := by simp [hpl]
    rw [cell_lt (s := ⟨s.procs.set q (some (t.set fd0 e)), os'⟩) h1, cell_lt hp]
    rw [List.getD_eq_getElem?_getD, List.getElem?_set_ne (Ne.symm hfd), ← List.getD_eq_getElem?_getD]
    cases hh : t.getD fd none with
    | none => rfl
    | some k =>
      have hk : t[fd]? = some (some k) := by
        rw [List.getD_eq_getElem?_getD] at hh
        cases h2 : t[fd]? with
        | none => rw [h2] at hh; cases hh
        | some x => rw [h2] at hh; simp at hh; rw [hh]
      simp only []
      rw [hn k (hi.ent _ _ _ _ hp hk)]
  · unfold cell
    have h1 : (s.procs.set p (some (t.set fd0 e))).getD q none = s.procs.getD q none := by
      rw [List.getD_eq_getElem?_getD, List.getElem?_set_ne (Ne.symm hq), ← List.getD_eq_getElem?_getD]
    simp only [h1]
    split
    · rfl
    rename_i u hu
    split
    · rfl
    rename_i k hk
    have hu' : s.procs[q]? = some (some u) := by
      rw [List.getD_eq_getElem?_getD] at hu
      cases h2 : s.procs[q]? with
      | none => rw [h2] at hu; cases hu
      | some x => rw [h2] at hu; simp at hu; rw [hu]
    have hk' : u[fd]? = some (some k) := by
      rw [List.getD_eq_getElem?_getD] at hk
      cases h2 : u[fd]? with
      | none => rw [h2] at hk; cases hk
      | some x => rw [h2] at hk; simp at hk; rw [hk]
    rw [hn k (hi.ent _ _ _ _ hu' hk')]
theorem opn_append {os : List Opn} {x : Opn} {j : Nat} (h : j < os.length) : opn (os ++ [x]) j = opn os j := by
  unfold opn
  rw [List.getD_eq_getElem?_getD, List.getD_eq_getElem?_getD, List.getElem?_append_left h]
theorem least {s : St} (hi : Inv s) {o : Op} (hk : o.kind = 1 ∨ o.kind = 2) (h : (doOp s o).2.1 = 0) :
    0 ≤ o.proc ∧ o.proc < 4 ∧ 0 ≤ (doOp s o).2.2 ∧ (doOp s o).2.2 < 16 ∧ (∀ fd, fd < (doOp s o).2.2.toNat → 0 ≤ cell s o.proc.toNat fd) ∧
    cell s o.proc.toNat (doOp s o).2.2.toNat < 0 ∧ (∀ fd, fd ≠ (doOp s o).2.2.toNat → cell (doOp s o).1 o.proc.toNat fd = cell s o.proc.toNat fd) ∧
    0 ≤ cell (doOp s o).1 o.proc.toNat (doOp s o).2.2.toNat := by
  obtain ⟨t, ht⟩ := do_ok_pos h
  obtain ⟨hp0, hp1, hp⟩ := tblOf_some ht
  have htl := hi.tl _ _ hp
  have hpl : o.proc.toNat < s.procs.length := (List.getElem?_eq_some_iff.1 hp).1
  have main : ∀ (k : Nat) (os' : List Opn), free t ≠ 16 → (doOp s o) = ({ procs := s.procs.set o.proc.toNat (some (t.set (free t) (some k))), opens := os' }, 0, (free t : Int)) →
      (∀ j, j < s.opens.length → (opn os' j).name = (opn s.opens j).name) → _ := fun k os' hf he hn => by
    obtain ⟨hfl, hfn⟩ := free_none htl hf
    have g1 : 0 ≤ o.proc ∧ o.proc < 4 ∧ 0 ≤ (doOp s o).2.2 ∧ (doOp s o).2.2 < 16 ∧ (∀ fd, fd < (doOp s o).2.2.toNat → 0 ≤ cell s o.proc.toNat fd) ∧
      cell s o.proc.toNat (doOp s o).2.2.toNat < 0 ∧ (∀ fd, fd ≠ (doOp s o).2.2.toNat → cell (doOp s o).1 o.proc.toNat fd = cell s o.proc.toNat fd) ∧
      0 ≤ cell (doOp s o).1 o.proc.toNat (doOp s o).2.2.toNat := by
      rw [he]
      simp only [Int.toNat_natCast]
      refine ⟨hp0, hp1, by omega, by omega, fun fd hfd => ?_, ?_, fun fd hfd => ?_, ?_⟩
      · obtain ⟨j, hj⟩ := free_lt hfd
        rw [cell_nn hp hj]; omega
      · rw [cell_neg hp hfn]; omega
      · exact cell_upd hp hi hn _ _ (fun h => hfd h.2)
      · rw [cell_nn (s := ⟨s.procs.set o.proc.toNat (some (t.set (free t) (some k))), os'⟩) (t := t.set (free t) (some k)) (k := k) (by simp [hpl]) (by simp [htl, hfl])]; omega
    exact g1
  have hb : ¬ (o.kind < 1 ∨ 7 < o.kind) := by omega
  rcases hk with hk | hk
  · have hd : doOp s o = (if o.size < 0 ∨ 1099511627776 < o.size then (s, 2, 0) else
      if free t = 16 then (s, 4, 0) else
      ({ procs := s.procs.set o.proc.toNat (some (t.set (free t) (some s.opens.length))), opens := s.opens ++ [⟨o.name, o.size, 0, 1⟩] }, 0, (free t : Int))) := by
      unfold doOp; rw [if_neg hb, ht]; simp only []; rw [if_pos hk]
    rw [hd] at h
    by_cases h1 : o.size < 0 ∨ 1099511627776 < o.size
    · rw [if_pos h1] at h; simp at h
    by_cases h2 : free t = 16
    · rw [if_neg h1, if_pos h2] at h; simp at h
    rw [if_neg h1, if_neg h2] at hd
    exact main _ _ h2 hd fun j hj => by rw [opn_append hj]
  · have hb1 : ¬ o.kind = 1 := by omega
    have hb7 : ¬ o.kind = 7 := by omega
    cases he : entOf t o.fd with
    | none =>
      have hd : doOp s o = (s, 3, 0) := by unfold doOp; rw [if_neg hb, ht]; simp only []; rw [if_neg hb1, if_neg hb7, he]
      rw [hd] at h; simp at h
    | some k =>
      have hd : doOp s o = (if free t = 16 then (s, 4, 0) else ({procs := s.procs.set o.proc.toNat (some (t.set (free t) (some k))), opens := bump s.opens k 1}, 0, (free t : Int))) := by
        unfold doOp; rw [if_neg hb, ht]; simp only []; rw [if_neg hb1, if_neg hb7, he]; simp only []; rw [if_pos hk]
      rw [hd] at h
      by_cases h2 : free t = 16
      · rw [if_pos h2] at h; simp at h
      rw [if_neg h2] at hd
      exact main _ _ h2 hd fun j hj => bump_name ..
theorem read_of {s : St} {o : Op} (hk : o.kind = 5) {t : Tbl} (ht : tblOf s o.proc = some t) {k : Nat} (he : entOf t o.fd = some k) (hm : 1 ≤ o.most) :
    doOp s o = ({ s with opens := move s.opens k ((opn s.opens k).pos + min o.most (max ((opn s.opens k).size - (opn s.opens k).pos) 0)) }, 0, min o.most (max ((opn s.opens k).size - (opn s.opens k).pos) 0)) := by
  have hb : ¬ (o.kind < 1 ∨ 7 < o.kind) := by omega
  unfold doOp
  rw [if_neg hb, ht]
  simp only []
  rw [if_neg (by omega), if_neg (by omega), he]
  simp only []
  rw [if_neg (by omega), if_neg (by omega), if_neg (by omega), if_neg (by omega), if_neg (by omega)]
theorem read_inv {s : St} {o : Op} (hk : o.kind = 5) (h : (doOp s o).2.1 = 0) : ∃ t k, tblOf s o.proc = some t ∧ entOf t o.fd = some k ∧ 1 ≤ o.most := by
  obtain ⟨t, ht⟩ := do_ok_pos h
  have hb : ¬ (o.kind < 1 ∨ 7 < o.kind) := by omega
  unfold doOp at h
  rw [if_neg hb, ht] at h
  simp only [] at h
  rw [if_neg (by omega), if_neg (by omega)] at h
  cases he : entOf t o.fd with
  | none => rw [he] at h; simp at h
  | some k =>
    refine ⟨t, k, ht, he, ?_⟩
    rw [he] at h
    simp only [] at h
    rw [if_neg (by omega), if_neg (by omega), if_neg (by omega), if_neg (by omega)] at h
    by_cases hm : o.most < 1
    · rw [if_pos hm] at h; simp at h
    · omega
theorem dup_of {s : St} {o : Op} (hk : o.kind = 2) {t : Tbl} (ht : tblOf s o.proc = some t) {k : Nat} (he : entOf t o.fd = some k) :
    doOp s o = (if free t = 16 then (s, 4, 0) else ({procs := s.procs.set o.proc.toNat (some (t.set (free t) (some k))), opens := bump s.opens k 1}, 0, (free t : Int))) := by
  have hb : ¬ (o.kind < 1 ∨ 7 < o.kind) := by omega
  unfold doOp; rw [if_neg hb, ht]; simp only []; rw [if_neg (by omega), if_neg (by omega), he]; simp only []; rw [if_pos hk]
theorem dup_inv {s : St} (hi : Inv s) {o : Op} (hk : o.kind = 2) (h : (doOp s o).2.1 = 0) : ∃ t k, tblOf s o.proc = some t ∧ entOf t o.fd = some k ∧ free t < 16 ∧ t[free t]? = some none ∧
    doOp s o = ({procs := s.procs.set o.proc.toNat (some (t.set (free t) (some k))), opens := bump s.opens k 1}, 0, (free t : Int)) := by
  obtain ⟨t, ht⟩ := do_ok_pos h
  obtain ⟨hp0, hp1, hp⟩ := tblOf_some ht
  cases he : entOf t o.fd with
  | none =>
    exfalso
    have hb : ¬ (o.kind < 1 ∨ 7 < o.kind) := by omega
    unfold doOp at h; rw [if_neg hb, ht] at h; simp only [] at h; rw [if_neg (by omega), if_neg (by omega), he] at h; simp at h
  | some k =>
    have hd := dup_of hk ht he
    by_cases hf : free t = 16
    · rw [hd, if_pos hf] at h; simp at h
    obtain ⟨h1, h2⟩ := free_none (hi.tl _ _ hp) hf
    exact ⟨t, k, ht, he, h1, h2, by rw [hd, if_neg hf]⟩
theorem tblOf_set {s : St} {p : Int} {t t' : Tbl} (h : tblOf s p = some t) (os' : List Opn) : tblOf ⟨s.procs.set p.toNat (some t'), os'⟩ p = some t' := by
  obtain ⟨h0, h1, hp⟩ := tblOf_some h
  have hpl : p.toNat < s.procs.length := (List.getElem?_eq_some_iff.1 hp).1
  unfold tblOf
  rw [if_pos ⟨h0, h1⟩]; simp [List.getD_eq_getElem?_getD, hpl]
theorem entOf_set {t : Tbl} (ht : t.length = 16) {fd : Nat} (h : fd < 16) (e : Option Nat) : entOf (t.set fd e) (fd : Int) = e := by
  unfold entOf
  rw [if_pos (by omega)]; simp [List.getD_eq_getElem?_getD, ht, h]
theorem entOf_set_ne {t : Tbl} {fd : Nat} {x : Int} (h : x.toNat ≠ fd) (e : Option Nat) : entOf (t.set fd e) x = entOf t x := by
  unfold entOf
  split
  · rw [List.getD_eq_getElem?_getD, List.getElem?_set_ne (Ne.symm h), ← List.getD_eq_getElem?_getD]
  · rfl
theorem opn_bump {os : List Opn} {k : Nat} (h : k < os.length) (d : Int) : opn (bump os k d) k = { opn os k with refs := (opn os k).refs + d } := by
  have := bump_get os k d k
  rw [List.getElem?_eq_getElem h] at this
  unfold opn
  rw [List.getD_eq_getElem?_getD, this]; simp [h]
theorem opn_move {os : List Opn} {k : Nat} (h : k < os.length) (d : Int) : opn (move os k d) k = { opn os k with pos := d } := by
  have := move_get os k d k
  rw [List.getElem?_eq_getElem h] at this
  unfold opn
  rw [List.getD_eq_getElem?_getD, this]; simp [h]
theorem shared {s : St} (hi : Inv s) {proc fd a b : Int} (hb1 : 1 ≤ b)
    (hd : (doOp s ⟨2, proc, 0, 0, fd, 0, 0⟩).2.1 = 0) (hr : (doOp (doOp s ⟨2, proc, 0, 0, fd, 0, 0⟩).1 ⟨5, proc, 0, 0, fd, 0, a⟩).2.1 = 0) :
    (doOp (doOp s ⟨2, proc, 0, 0, fd, 0, 0⟩).1 ⟨5, proc, 0, 0, fd, 0, a⟩).2.2 +
      (doOp (doOp (doOp s ⟨2, proc, 0, 0, fd, 0, 0⟩).1 ⟨5, proc, 0, 0, fd, 0, a⟩).1 ⟨5, proc, 0, 0, (doOp s ⟨2, proc, 0, 0, fd, 0, 0⟩).2.2, 0, b⟩).2.2 =
      (doOp s ⟨5, proc, 0, 0, fd, 0, a + b⟩).2.2 ∧ 0 ≤ (doOp s ⟨5, proc, 0, 0, fd, 0, a + b⟩).2.2 ∧ (doOp s ⟨5, proc, 0, 0, fd, 0, a + b⟩).2.2 ≤ 1099511627776 := by
  obtain ⟨t, k, ht, he, hf, hfn, hD⟩ := dup_inv hi rfl hd
  obtain ⟨hp0, hp1, hp⟩ := tblOf_some ht
  obtain ⟨hf0, hf1, hfe⟩ := entOf_some he
  have htl := hi.tl _ _ hp
  have hkl := hi.ent _ _ _ _ hp hfe
  have hne : fd.toNat ≠ free t := by intro h; rw [h, hfn] at hfe; simp at hfe
  rw [hD] at hr ⊢
  simp only [] at hr ⊢ ht he
  have ht1 := tblOf_set (t' := t.set (free t) (some k)) ht (bump s.opens k 1)
  have he1 : entOf (t.set (free t) (some k)) fd = some k := by rw [entOf_set_ne hne]; exact he
  obtain ⟨_, _, h1, h2, ha⟩ := read_inv rfl hr
  have hR := read_of (s := ⟨s.procs.set proc.toNat (some (t.set (free t) (some k))), bump s.opens k 1⟩) (o := ⟨5, proc, 0, 0, fd, 0, a⟩) rfl ht1 he1 ha
  rw [hR]
  simp only []
  have hR2 := read_of (s := ⟨s.procs.set proc.toNat (some (t.set (free t) (some k))), move (bump s.opens k 1) k ((opn (bump s.opens k 1) k).pos + min a (max ((opn (bump s.opens k 1) k).size - (opn (bump s.opens k 1) k).pos) 0))⟩)
    (o := ⟨5, proc, 0, 0, (free t : Int), 0, b⟩) rfl (tblOf_set (t' := t.set (free t) (some k)) ht _) (entOf_set htl hf (some k)) hb1
  rw [hR2]
  have ha : 1 ≤ a := ha
  have hR3 := read_of (s := s) (o := ⟨5, proc, 0, 0, fd, 0, a + b⟩) rfl ht he (by show 1 ≤ a + b; omega)
  rw [hR3]
  simp only []
  rw [opn_move (by rw [bump_length]; exact hkl), opn_bump hkl]
  simp only []
  have hs := hi.sz k _ (List.getElem?_eq_getElem hkl)
  have : opn s.opens k = s.opens[k] := by simp [opn, hkl]
  rw [← this] at hs
  omega
theorem close_of {s : St} {o : Op} (hk : o.kind = 4) {t : Tbl} (ht : tblOf s o.proc = some t) {k : Nat} (he : entOf t o.fd = some k) :
    doOp s o = ({ procs := s.procs.set o.proc.toNat (some (t.set o.fd.toNat none)), opens := bump s.opens k (-1) }, 0, (opn s.opens k).refs - 1) := by
  have hb : ¬ (o.kind < 1 ∨ 7 < o.kind) := by omega
  unfold doOp; rw [if_neg hb, ht]; simp only []; rw [if_neg (by omega), if_neg (by omega), he]; simp only []; rw [if_neg (by omega), if_neg (by omega), if_pos hk]
theorem close_no {s : St} {o : Op} (hk : o.kind = 4) {t : Tbl} (ht : tblOf s o.proc = some t) (he : entOf t o.fd = none) : doOp s o = (s, 3, 0) := by
  have hb : ¬ (o.kind < 1 ∨ 7 < o.kind) := by omega
  unfold doOp; rw [if_neg hb, ht]; simp only []; rw [if_neg (by omega), if_neg (by omega), he]
theorem close_cases {s : St} (hi : Inv s) {o : Op} (hk : o.kind = 4) : ((doOp s o).2.1 ≠ 0 ∧ (doOp s o).1 = s) ∨
    ((doOp s o).2.1 = 0 ∧ ∃ t k, tblOf s o.proc = some t ∧ entOf t o.fd = some k ∧
      doOp s o = ({ procs := s.procs.set o.proc.toNat (some (t.set o.fd.toNat none)), opens := bump s.opens k (-1) }, 0, (opn s.opens k).refs - 1)) := by
  by_cases h : (doOp s o).2.1 = 0
  · right
    obtain ⟨t, ht⟩ := do_ok_pos h
    cases he : entOf t o.fd with
    | none => rw [close_no hk ht he] at h; simp at h
    | some k => exact ⟨h, t, k, ht, he, close_of hk ht he⟩
  · exact .inl ⟨h, (do_err h).1⟩
theorem closed {s : St} (hi : Inv s) {o : Op} (hk : o.kind = 4) :
    (doOp (doOp s o).1 o).2.1 ≠ 0 ∧ (doOp (doOp s o).1 o).1 = (doOp s o).1 ∧ ((doOp s o).2.1 ≠ 0 → (doOp s o).1 = s) ∧
    ((doOp s o).2.1 = 0 → 0 ≤ o.proc ∧ o.proc < 4 ∧ 0 ≤ o.fd ∧ o.fd < 16 ∧ 0 ≤ (doOp s o).2.2 ∧
      ∀ p fd, cell (doOp s o).1 p fd = if p = o.proc.toNat ∧ fd = o.fd.toNat then -1 else cell s p fd) := by
  rcases close_cases hi hk with ⟨h1, h2⟩ | ⟨h0, t, k, ht, he, hd⟩
  · rw [h2]
    exact ⟨h1, h2, fun _ => rfl, fun h => absurd h h1⟩
  · obtain ⟨hp0, hp1, hp⟩ := tblOf_some ht
    obtain ⟨hf0, hf1, hfe⟩ := entOf_some he
    have htl := hi.tl _ _ hp
    have hkl := hi.ent _ _ _ _ hp hfe
    have hpl : o.proc.toNat < s.procs.length := (List.getElem?_eq_some_iff.1 hp).1
    have ht1 : tblOf (doOp s o).1 o.proc = some (t.set o.fd.toNat none) := by rw [hd]; exact tblOf_set ht _
    have he1 : entOf (t.set o.fd.toNat none) o.fd = none := by
      have := entOf_set htl (fd := o.fd.toNat) (by omega) none
      rwa [Int.toNat_of_nonneg hf0] at this
    have h2 := close_no hk ht1 he1
    refine ⟨by rw [h2]; simp, by rw [h2], fun h => absurd h0 h, fun _ => ⟨hp0, hp1, hf0, hf1, ?_, ?_⟩⟩
    · rw [hd]
      simp only []
      have h3 := hi.refs k _ (List.getElem?_eq_getElem hkl)
      have : opn s.opens k = s.opens[k] := by simp [opn, hkl]
      rw [this, h3]
      have h4 := count_le_sumc hp k
      have h5 := count_pos hfe
      have h6 := cnt_sumc s k
      omega
    · intro p fd
      rw [hd]
      split
      · rename_i hc
        obtain ⟨rfl, rfl⟩ := hc
        exact cell_neg (t := t.set o.fd.toNat none) (by simp [hpl]) (by rw [List.getElem?_set_self (by omega)])
      · rename_i hc
        exact cell_upd hp hi (fun j _ => bump_name ..) p fd hc
end Go.Fp
namespace Go.Fp
structure Q (k0 : Nat) (proc : Int) (fds : List Int) (s : St) : Prop where
  inv : Inv s
  tab : ∃ t, tblOf s proc = some t ∧ ∀ fd ∈ fds, entOf t fd = some k0
  nd : fds.Nodup
  lt : k0 < s.opens.length
  refs : (opn s.opens k0).refs = fds.length
theorem open_Q {s : St} (hi : Inv s) {o : Op} (hk : o.kind = 1) (h : (doOp s o).2.1 = 0) : Q s.opens.length o.proc [(doOp s o).2.2] (doOp s o).1 := by
  obtain ⟨t, ht⟩ := do_ok_pos h
  obtain ⟨hp0, hp1, hp⟩ := tblOf_some ht
  have hb : ¬ (o.kind < 1 ∨ 7 < o.kind) := by omega
  have hd : doOp s o = (if o.size < 0 ∨ 1099511627776 < o.size then (s, 2, 0) else
      if free t = 16 then (s, 4, 0) else
      ({ procs := s.procs.set o.proc.toNat (some (t.set (free t) (some s.opens.length))), opens := s.opens ++ [⟨o.name, o.size, 0, 1⟩] }, 0, (free t : Int))) := by
    unfold doOp; rw [if_neg hb, ht]; simp only []; rw [if_pos hk]
  by_cases h1 : o.size < 0 ∨ 1099511627776 < o.size
  · rw [hd, if_pos h1] at h; simp at h
  by_cases h2 : free t = 16
  · rw [hd, if_neg h1, if_pos h2] at h; simp at h
  rw [if_neg h1, if_neg h2] at hd
  obtain ⟨hfl, hfn⟩ := free_none (hi.tl _ _ hp) h2
  refine ⟨inv_do hi o, ⟨t.set (free t) (some s.opens.length), ?_, ?_⟩, by simp, ?_, ?_⟩
  · rw [hd]; exact tblOf_set ht _
  · intro fd hfd
    rw [hd] at hfd
    simp at hfd
    rw [hfd]; exact entOf_set (hi.tl _ _ hp) hfl _
  · rw [hd]; simp
  · rw [hd]; simp [opn]
theorem dup_Q {k0 : Nat} {proc : Int} {fds : List Int} {s : St} (q : Q k0 proc fds s) {o : Op} (hk : o.kind = 2) (hp : o.proc = proc) (hf : o.fd ∈ fds) :
    Q k0 proc (if (doOp s o).2.1 = 0 then fds ++ [(doOp s o).2.2] else fds) (doOp s o).1 := by
  by_cases h : (doOp s o).2.1 = 0
  · rw [if_pos h]
    obtain ⟨t, k, ht, he, hfl, hfn, hd⟩ := dup_inv q.inv hk h
    obtain ⟨t', ht', hall⟩ := q.tab
    subst hp
    rw [ht] at ht'
    cases ht'
    have hk0 := hall _ hf
    rw [he] at hk0
    cases hk0
    obtain ⟨hp0, hp1, hp⟩ := tblOf_some ht
    have htl := q.inv.tl _ _ hp
    have hnot : ((free t : Nat) : Int) ∉ fds := by
      intro hm
      have := hall _ hm
      obtain ⟨_, _, h2⟩ := entOf_some this
      simp only [Int.toNat_natCast] at h2
      rw [hfn] at h2; simp at h2
    refine ⟨inv_do q.inv o, ⟨t.set (free t) (some k0), ?_, ?_⟩, ?_, ?_, ?_⟩
    · rw [hd]; exact tblOf_set ht _
    · intro fd hfd
      rw [hd] at hfd
      simp at hfd
      rcases hfd with hfd | hfd
      · have h0 := entOf_some (hall _ hfd)
        by_cases hx : fd.toNat = free t
        · have : fd = ((free t : Nat) : Int) := by omega
          rw [this]; exact entOf_set htl hfl _
        · rw [entOf_set_ne hx]; exact hall _ hfd
      · rw [hfd]; exact entOf_set htl hfl _
    · rw [hd]
      rw [List.nodup_append]
      refine ⟨q.nd, by simp, ?_⟩
      intro a ha b hb hab
      simp at hb
      subst hab
      rw [hb] at ha
      exact hnot ha
    · rw [hd]; simp only [bump_length]; exact q.lt
    · rw [hd]; simp only [opn_bump q.lt, q.refs]; simp
  · rw [if_neg h, (do_err h).1]; exact q
theorem close_Q {k0 : Nat} {proc : Int} {fd : Int} {fds : List Int} {s : St} (q : Q k0 proc (fd :: fds) s) {o : Op} (hk : o.kind = 4) (hp : o.proc = proc) (hf : o.fd = fd) :
    (doOp s o).2 = (0, (fds.length : Int)) ∧ Q k0 proc fds (doOp s o).1 := by
  obtain ⟨t, ht, hall⟩ := q.tab
  subst hp
  subst hf
  have he := hall _ (List.mem_cons_self)
  obtain ⟨hp0, hp1, hp⟩ := tblOf_some ht
  obtain ⟨hf0, hf1, hfe⟩ := entOf_some he
  have hd := close_of hk ht he
  refine ⟨by rw [hd, q.refs]; simp, inv_do q.inv o, ⟨t.set o.fd.toNat none, by rw [hd]; exact tblOf_set ht _, ?_⟩, (List.nodup_cons.1 q.nd).2, by rw [hd]; simp only [bump_length]; exact q.lt, ?_⟩
  · intro fd hfd
    have hne : fd ≠ o.fd := by intro e; subst e; exact (List.nodup_cons.1 q.nd).1 hfd
    have h0 := entOf_some (hall fd (List.mem_cons_of_mem _ hfd))
    rw [entOf_set_ne (by omega)]
    exact hall fd (List.mem_cons_of_mem _ hfd)
  · rw [hd]; simp only [opn_bump q.lt, q.refs]; simp; omega
def okVals (l : List (Int × Int)) : List Int := (l.filter fun a => a.1 == 0).map (·.2)
theorem dups_Q {k0 : Nat} {proc fd0 : Int} (n : Nat) {fds : List Int} {s : St} (q : Q k0 proc fds s) (hf : fd0 ∈ fds) :
    Q k0 proc (fds ++ okVals (answers (List.replicate n ⟨2, proc, 0, 0, fd0, 0, 0⟩) s)) (run (List.replicate n ⟨2, proc, 0, 0, fd0, 0, 0⟩) s) := by
  induction n generalizing fds s with
  | zero => simpa [answers, run, okVals] using q
  | succ n ih =>
    have h1 := dup_Q q (o := ⟨2, proc, 0, 0, fd0, 0, 0⟩) rfl rfl hf
    rw [List.replicate_succ, run, answers]
    by_cases h : (doOp s ⟨2, proc, 0, 0, fd0, 0, 0⟩).2.1 = 0
    · rw [if_pos h] at h1
      have := ih h1 (by simp [hf])
      simpa [okVals, h, List.append_assoc] using this
    · rw [if_neg h] at h1
      have := ih h1 hf
      have hb : ((doOp s ⟨2, proc, 0, 0, fd0, 0, 0⟩).2.1 == 0) = false := by simpa using h
      simpa [okVals, h, hb] using this
theorem closes_Q {k0 : Nat} {proc : Int} (fds : List Int) {s : St} (q : Q k0 proc fds s) (i : Nat) (hi : i < fds.length) :
    (answers (fds.map fun fd => ⟨4, proc, 0, 0, fd, 0, 0⟩) s)[i]? = some (0, ((fds.length - 1 - i : Nat) : Int)) := by
  induction fds generalizing s i with
  | nil => simp at hi
  | cons fd fds ih =>
    obtain ⟨h1, h2⟩ := close_Q q (o := ⟨4, proc, 0, 0, fd, 0, 0⟩) rfl rfl rfl
    rw [List.map_cons, answers]
    cases i with
    | zero => simp [h1]
    | succ i =>
      have := ih h2 i (by simpa using hi)
      simp only [List.getElem?_cons_succ, this]
      congr 3
      simp at hi ⊢
      omega
theorem count {s : St} (hi : Inv s) {proc : Int} (m : Nat) (h : (doOp s ⟨1, proc, 0, 0, 0, 0, 0⟩).2.1 = 0) :
    let o1 : Op := ⟨1, proc, 0, 0, 0, 0, 0⟩
    let ds := List.replicate m (⟨2, proc, 0, 0, (doOp s o1).2.2, 0, 0⟩ : Op)
    let fds := okVals (answers (o1 :: ds) s)
    fds ≠ [] ∧ ∀ i, i < fds.length → (answers (fds.map fun fd => (⟨4, proc, 0, 0, fd, 0, 0⟩ : Op)) (run (o1 :: ds) s))[i]? = some (0, ((fds.length - 1 - i : Nat) : Int)) := by
  intro o1 ds fds
  have q1 := open_Q hi (o := o1) rfl h
  have q2 := dups_Q (fd0 := (doOp s o1).2.2) m q1 (by simp)
  have hf : fds = [(doOp s o1).2.2] ++ okVals (answers ds (doOp s o1).1) := by
    show okVals (answers (o1 :: ds) s) = _
    rw [answers]
    have hb : ((doOp s o1).2.1 == 0) = true := by simpa using h
    simp [okVals, hb]
  rw [hf]
  exact ⟨by simp, fun i hi => closes_Q _ q2 i hi⟩
end Go.Fp

