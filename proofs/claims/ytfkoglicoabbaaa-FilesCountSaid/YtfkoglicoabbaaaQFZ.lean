import Derived.Test.YtfkoglicoabbaaaQFY
import Derived.Test.YtfkoglicoabbaaaQFE
import Derived.Test.YtfkoglicoabbaaaQFA
set_option linter.unusedVariables false
set_option linter.unusedSimpArgs false
namespace Go.Proofs
open Go.RowKit Go.Fp
def ptrP (ep : Nat → Nat) (p : Nat) : Option Tbl → Value
  | none => .pointer none
  | some _ => .pointer (some ⟨ep p, 0, none⟩)
structure FR (n0 sb : Nat) (ep eo : Nat → Nat) (st : St) (w : World) : Prop where
  ns : n0 ≤ sb
  s : ∃ cs, w.heap[sb]? = some (.cells cs 46 (0, 0)) ∧ cs.size = 4 ∧ ∀ p, p < 4 → cs[p]? = some (ptrP ep p (st.procs.getD p none))
  t : ∀ (p : Nat) (t : Tbl), st.procs[p]? = some (some t) → n0 ≤ ep p ∧ ∃ cs, w.heap[ep p]? = some (.cells cs 49 (0, 0)) ∧ cs.size = 16 ∧ ∀ j, j < 16 → cs[j]? = some (ptrO eo (t.getD j none))
  o : ∀ (i : Nat) (o : Opn), st.opens[i]? = some o → n0 ≤ eo i ∧ w.heap[eo i]? = some (opnV o)
  ip : ∀ (p q : Nat) (t u : Tbl), st.procs[p]? = some (some t) → st.procs[q]? = some (some u) → ep p = ep q → p = q
  io : ∀ a b, a < st.opens.length → b < st.opens.length → eo a = eo b → a = b
def FileBlk (n0 : Nat) (w : World) (k : Nat) : Prop := n0 ≤ k ∧ ∃ cs t, w.heap[k]? = some (.cells cs t (0, 0)) ∧ (t = 46 ∨ t = 49 ∨ t = 52)
section
variable {n0 sb : Nat} {ep eo : Nat → Nat} {st : St} {w w' : World}
theorem FR.keep (h : FR n0 sb ep eo st w) (ho : Only (fun _ => False) w w') : FR n0 sb ep eo st w' := by
  have hb : ∀ {k : Nat} {o : Obj}, w.heap[k]? = some o → w'.heap[k]? = some o := fun {k o} hk => (ho.block k (Array.getElem?_eq_some_iff.1 hk).1 id).trans hk
  refine ⟨h.ns, ?_, ?_, ?_, h.ip, h.io⟩
  · obtain ⟨cs, h1, h2, h3⟩ := h.s; exact ⟨cs, hb h1, h2, h3⟩
  · intro p t hp
    obtain ⟨h0, cs, h1, h2, h3⟩ := h.t p t hp
    exact ⟨h0, cs, hb h1, h2, h3⟩
  · intro i o hi
    obtain ⟨h0, h1⟩ := h.o i o hi
    exact ⟨h0, hb h1⟩
theorem FR.sb_lt (h : FR n0 sb ep eo st w) : sb < w.heap.size := by
  obtain ⟨cs, h1, _⟩ := h.s; exact (Array.getElem?_eq_some_iff.1 h1).1
theorem FR.sb_ep (h : FR n0 sb ep eo st w) {p : Nat} {t : Tbl} (hp : st.procs[p]? = some (some t)) : sb ≠ ep p := by
  intro e
  obtain ⟨cs, h1, _⟩ := h.s
  obtain ⟨_, cs', h2, _⟩ := h.t p t hp
  rw [e, h2] at h1; simp at h1
theorem FR.o' (h : FR n0 sb ep eo st w) {i : Nat} (hi : i < st.opens.length) : n0 ≤ eo i ∧ w.heap[eo i]? = some (opnV (opn st.opens i)) := by
  have := h.o i _ (List.getElem?_eq_getElem hi)
  rwa [show st.opens[i] = opn st.opens i by simp [opn, hi]] at this
theorem FR.sb_eo (h : FR n0 sb ep eo st w) {i : Nat} (hi : i < st.opens.length) : sb ≠ eo i := by
  intro e
  obtain ⟨cs, h1, _⟩ := h.s
  have h2 := (h.o' hi).2
  rw [← e, h1] at h2; simp [opnV] at h2
theorem FR.ep_eo (h : FR n0 sb ep eo st w) {p : Nat} {t : Tbl} (hp : st.procs[p]? = some (some t)) {i : Nat} (hi : i < st.opens.length) : ep p ≠ eo i := by
  intro e
  obtain ⟨_, cs, h1, _⟩ := h.t p t hp
  have h2 := (h.o' hi).2
  rw [← e, h1] at h2; simp [opnV] at h2
theorem FR.cellS (h : FR n0 sb ep eo st w) {p : Nat} (hp : p < 4) : w.cell? ⟨sb, p, none⟩ = some (ptrP ep p (st.procs.getD p none)) := by
  obtain ⟨cs, h1, h2, h3⟩ := h.s
  rw [show w.cell? ⟨sb, p, none⟩ = cs[p]? by simp [World.cell?, h1]]
  exact h3 p hp
theorem FR.upd (h : FR n0 sb ep eo st w) (hi : Inv st) {p : Nat} {t t' : Tbl} (hp : st.procs[p]? = some (some t)) {eo' : Nat → Nat} (he : ∀ i, i < st.opens.length → eo' i = eo i) {os' : List Opn}
    (ho : ∀ (i : Nat) (o : Opn), os'[i]? = some o → n0 ≤ eo' i ∧ w'.heap[eo' i]? = some (opnV o)) (hio : ∀ a b, a < os'.length → b < os'.length → eo' a = eo' b → a = b)
    {cs : Array Value} (h1 : w'.heap[ep p]? = some (.cells cs 49 (0, 0))) (h2 : cs.size = 16) (h3 : ∀ j, j < 16 → cs[j]? = some (ptrO eo' (t'.getD j none)))
    {S : Nat → Prop} (hk : Only S w w') (hS : ∀ k, S k → k = ep p ∨ ∃ i, i < st.opens.length ∧ k = eo i) : FR n0 sb ep eo' ⟨st.procs.set p (some t'), os'⟩ w' := by
  have hpl : p < st.procs.length := (List.getElem?_eq_some_iff.1 hp).1
  have hsb := h.sb_lt
  have hback : ∀ (q : Nat) (u : Tbl), (st.procs.set p (some t'))[q]? = some (some u) → (q = p ∧ u = t') ∨ (q ≠ p ∧ st.procs[q]? = some (some u)) := by
    intro q u hq
    rcases set_get hq with ⟨a, b⟩ | ⟨a, b⟩
    · exact .inl ⟨a, by simpa using b⟩
    · exact .inr ⟨a, b⟩
  have hsome : ∀ (q : Nat) (u : Tbl), (st.procs.set p (some t'))[q]? = some (some u) → ∃ u', st.procs[q]? = some (some u') := by
    intro q u hq
    rcases hback q u hq with ⟨rfl, _⟩ | ⟨_, h⟩
    · exact ⟨t, hp⟩
    · exact ⟨u, h⟩
  refine ⟨h.ns, ?_, ?_, ho, ?_, hio⟩
  · obtain ⟨c, g1, g2, g3⟩ := h.s
    refine ⟨c, ?_, g2, fun q hq => ?_⟩
    · rw [hk.block sb hsb (fun hs => by
        rcases hS _ hs with e | ⟨i, hi, e⟩
        · exact h.sb_ep hp e
        · exact h.sb_eo hi e)]
      exact g1
    · rw [g3 q hq]
      by_cases hqp : q = p
      · subst hqp
        have a1 : st.procs.getD q none = some t := by rw [List.getD_eq_getElem?_getD, hp]; rfl
        have a2 : (st.procs.set q (some t')).getD q none = some t' := by simp [List.getD_eq_getElem?_getD, hpl]
        rw [a1, a2]; rfl
      · have a2 : (st.procs.set p (some t')).getD q none = st.procs.getD q none := by rw [List.getD_eq_getElem?_getD, List.getElem?_set_ne (Ne.symm hqp), ← List.getD_eq_getElem?_getD]
        rw [a2]
  · intro q u hq
    rcases hback q u hq with ⟨rfl, rfl⟩ | ⟨hqp, hq'⟩
    · exact ⟨(h.t q t hp).1, cs, h1, h2, h3⟩
    · obtain ⟨g0, c, g1, g2, g3⟩ := h.t q u hq'
      refine ⟨g0, c, ?_, g2, fun j hj => ?_⟩
      · rw [hk.block (ep q) (Array.getElem?_eq_some_iff.1 g1).1 (fun hs => by
          rcases hS _ hs with e | ⟨i, hi, e⟩
          · exact hqp (h.ip q p u t hq' hp e)
          · exact h.ep_eo hq' hi e)]
        exact g1
      · rw [g3 j hj]
        cases hu : u.getD j none with
        | none => rfl
        | some k =>
          have : u[j]? = some (some k) := by
            rw [List.getD_eq_getElem?_getD] at hu
            cases h9 : u[j]? with
            | none => rw [h9] at hu; cases hu
            | some x => rw [h9] at hu; simp at hu; rw [hu]
          show some (ptrO eo (some k)) = some (ptrO eo' (some k))
          rw [ptrO, ptrO, he k (hi.ent q u j k hq' this)]
  · intro a b u v ha hb he
    obtain ⟨u', ha'⟩ := hsome a u ha
    obtain ⟨v', hb'⟩ := hsome b v hb
    exact h.ip a b u' v' ha' hb' he
theorem set_same {ps : List (Option Tbl)} {p : Nat} {t : Tbl} (h : ps[p]? = some (some t)) : ps.set p (some t) = ps := by
  apply List.ext_getElem?
  intro q
  by_cases hq : q = p
  · subst hq
    have hl : q < ps.length := (List.getElem?_eq_some_iff.1 h).1
    rw [h]; simp [hl]
  · rw [List.getElem?_set_ne (Ne.symm hq)]
theorem FR.blk (h : FR n0 sb ep eo st w) {p : Nat} {t : Tbl} (hp : st.procs[p]? = some (some t)) {S : Nat → Prop} (hk : Only S w w') (hS : ∀ k, S k → k = ep p ∨ ∃ i, i < st.opens.length ∧ k = eo i) : Only (FileBlk n0 w) w w' :=
  hk.mono fun k _ hs => by
    rcases hS k hs with rfl | ⟨i, hi, rfl⟩
    · obtain ⟨g0, c, g1, _⟩ := h.t p t hp
      exact ⟨g0, c, 49, g1, .inr (.inl rfl)⟩
    · have := h.o' hi
      exact ⟨this.1, _, 52, this.2, .inr (.inr rfl)⟩
theorem sumc_le {ps : List (Option Tbl)} (h : ∀ (p : Nat) (t : Tbl), ps[p]? = some (some t) → t.length = 16) (k : Nat) : sumc ps k ≤ 16 * ps.length := by
  induction ps with
  | nil => simp [sumc]
  | cons a ps ih =>
    have h1 := ih fun p t hp => h (p + 1) t hp
    cases a with
    | none => simp [sumc] at h1 ⊢; omega
    | some t =>
      have h2 := h 0 t rfl
      have h3 : t.count (some k) ≤ t.length := List.count_le_length
      simp [sumc] at h1 ⊢; omega
theorem refs_of (hi : Inv st) {k : Nat} {o : Opn} (h : st.opens[k]? = some o) : 0 ≤ o.refs ∧ o.refs ≤ 64 := by
  have h1 := hi.refs k o h
  have h2 := sumc_le hi.tl k
  have h3 := cnt_sumc st k
  have h4 := hi.len
  omega
theorem FR.ptr (h : FR n0 sb ep eo st w) {p : Int} {t : Tbl} (ht : tblOf st p = some t) : ∃ q : Nat, p = q ∧ q < 4 ∧ st.procs[q]? = some (some t) ∧ w.cell? ⟨sb, q, none⟩ = some (.pointer (some ⟨ep q, 0, none⟩)) := by
  obtain ⟨h0, h1, hp⟩ := tblOf_some ht
  refine ⟨p.toNat, by omega, by omega, hp, ?_⟩
  have := h.cellS (p := p.toNat) (by omega)
  rwa [show st.procs.getD p.toNat none = some t by rw [List.getD_eq_getElem?_getD, hp]; rfl] at this
theorem FR.fdp (h : FR n0 sb ep eo st w) (hi : Inv st) {q : Nat} {t : Tbl} (hp : st.procs[q]? = some (some t)) {fd : Int} {k : Nat} (he : entOf t fd = some k) :
    ∃ f : Nat, fd = f ∧ f < 16 ∧ t[f]? = some (some k) ∧ k < st.opens.length ∧ w.cell? ⟨ep q, f, none⟩ = some (.pointer (some ⟨eo k, 0, none⟩)) := by
  obtain ⟨h0, h1, ht⟩ := entOf_some he
  obtain ⟨_, cs, g1, g2, g3⟩ := h.t q t hp
  refine ⟨fd.toNat, by omega, by omega, ht, hi.ent q t _ k hp ht, ?_⟩
  rw [show w.cell? ⟨ep q, fd.toNat, none⟩ = cs[fd.toNat]? by simp [World.cell?, g1], g3 _ (by omega), show t.getD fd.toNat none = some k by rw [List.getD_eq_getElem?_getD, ht]; rfl]
  rfl
theorem FR.fdn (h : FR n0 sb ep eo st w) {q : Nat} {t : Tbl} (hp : st.procs[q]? = some (some t)) {fd : Int} (h0 : 0 ≤ fd) (h1 : fd < 16) (he : entOf t fd = none) :
    ∃ f : Nat, fd = f ∧ f < 16 ∧ w.cell? ⟨ep q, f, none⟩ = some (.pointer none) := by
  obtain ⟨_, cs, g1, g2, g3⟩ := h.t q t hp
  refine ⟨fd.toNat, by omega, by omega, ?_⟩
  rw [show w.cell? ⟨ep q, fd.toNat, none⟩ = cs[fd.toNat]? by simp [World.cell?, g1], g3 _ (by omega)]
  unfold entOf at he
  rw [if_pos ⟨h0, h1⟩] at he
  rw [he]; rfl
theorem FR.tabc (h : FR n0 sb ep eo st w) {q : Nat} {t : Tbl} (hp : st.procs[q]? = some (some t)) (j : Nat) (hj : j < 16) : w.cell? ⟨ep q, j, none⟩ = some (ptrO eo (t.getD j none)) := by
  obtain ⟨_, cs, g1, g2, g3⟩ := h.t q t hp
  rw [show w.cell? ⟨ep q, j, none⟩ = cs[j]? by simp [World.cell?, g1]]
  exact g3 j hj
theorem FR.tab_lt (h : FR n0 sb ep eo st w) {q : Nat} {t : Tbl} (hp : st.procs[q]? = some (some t)) : ep q < w.heap.size := by
  obtain ⟨_, cs, g1, g2, g3⟩ := h.t q t hp
  exact (Array.getElem?_eq_some_iff.1 g1).1
theorem FR.opn_lt (h : FR n0 sb ep eo st w) {k : Nat} (hk : k < st.opens.length) : eo k < w.heap.size := (Array.getElem?_eq_some_iff.1 (h.o' hk).2).1
theorem ent_set {cs : Array Value} {t : Tbl} {eo : Nat → Nat} (h2 : cs.size = 16) (ht : t.length = 16) (h3 : ∀ j, j < 16 → cs[j]? = some (ptrO eo (t.getD j none))) {n : Nat} (hn : n < 16) (e : Option Nat) (j : Nat) (hj : j < 16) :
    (cs.setIfInBounds n (ptrO eo e))[j]? = some (ptrO eo ((t.set n e).getD j none)) := by
  by_cases hjn : n = j
  · subst hjn
    rw [Array.getElem?_setIfInBounds, if_pos rfl, if_pos (by omega)]
    simp [List.getD_eq_getElem?_getD, ht, hn]
  · rw [Array.getElem?_setIfInBounds, if_neg hjn, h3 j hj, List.getD_eq_getElem?_getD, List.getD_eq_getElem?_getD, List.getElem?_set_ne hjn]
theorem bump_o (h : FR n0 sb ep eo st w) {S : Nat → Prop} (hk : Only S w w') {k : Nat} (hkl : k < st.opens.length) {d r : Int} (hr : (opn st.opens k).refs + d = r)
    (h1 : w'.heap[eo k]? = some (.cells #[.int .i64 (opn st.opens k).name, .int .i64 (opn st.opens k).size, .int .i64 (opn st.opens k).pos, .int .i64 r] 52 (0, 0)))
    (hS : ∀ i, i < st.opens.length → i ≠ k → ¬ S (eo i)) : ∀ (i : Nat) (o : Opn), (bump st.opens k d)[i]? = some o → n0 ≤ eo i ∧ w'.heap[eo i]? = some (opnV o) := by
  intro i o hi
  rw [bump_get] at hi
  by_cases hik : i = k
  · subst hik
    rw [List.getElem?_eq_getElem hkl] at hi
    simp at hi
    have : opn st.opens i = st.opens[i] := by simp [opn, hkl]
    rw [this] at h1 hr
    rw [← hi]
    exact ⟨(h.o' hkl).1, by rw [h1, ← hr]; rfl⟩
  · cases hh : st.opens[i]? with
    | none => rw [hh] at hi; cases hi
    | some oo =>
      rw [hh] at hi
      simp [hik] at hi
      subst hi
      have hil := (List.getElem?_eq_some_iff.1 hh).1
      obtain ⟨g0, g1⟩ := h.o i oo hh
      exact ⟨g0, (hk.block (eo i) (h.opn_lt hil) (hS i hil hik)).trans g1⟩
end
end Go.Proofs
namespace Go.Proofs
open Go.RowKit Go.Fp
def DoPost (n0 sb : Nat) (st : St) (o : Fp.Op) (w : World) (x : Ending) (w' : World) : Prop :=
  x = .returned (ansV (doOp st o).2.1 (doOp st o).2.2) ∧ ∃ ep' eo', FR n0 sb ep' eo' (doOp st o).1 w' ∧ Only (FileBlk n0 w) w w'
section
variable {n0 sb : Nat} {ep eo : Nat → Nat} {st : St} {w w' : World} {o : Fp.Op}
theorem post_err (h : FR n0 sb ep eo st w) {e : Int} (hd : doOp st o = (st, e, 0)) {x : Ending} (hp : x = .returned (ansV e 0) ∧ Only (fun _ => False) w w') : DoPost n0 sb st o w x w' := by
  unfold DoPost
  rw [hd]
  exact ⟨hp.1, ep, eo, h.keep hp.2, hp.2.up⟩
theorem post_same (h : FR n0 sb ep eo st w) {v : Int} (hd : doOp st o = (st, 0, v)) {x : Ending} (hp : x = .returned (ansV 0 v) ∧ Only (fun _ => False) w w') : DoPost n0 sb st o w x w' := by
  unfold DoPost
  rw [hd]
  exact ⟨hp.1, ep, eo, h.keep hp.2, hp.2.up⟩
theorem free_facts {t : Tbl} (ht : t.length = 16) : (∀ j, j < free t → (t.getD j none).isSome = true) ∧ (free t < 16 → t.getD (free t) none = none) := by
  refine ⟨fun j hj => ?_, fun hf => ?_⟩
  · obtain ⟨k, hk⟩ := free_lt hj
    rw [List.getD_eq_getElem?_getD, hk]; rfl
  · obtain ⟨_, h⟩ := free_none ht (by omega)
    rw [List.getD_eq_getElem?_getD, h]; rfl
def opArg (o : Fp.Op) : Value := .agg #[.int .i64 o.kind, .int .i64 o.proc, .int .i64 o.name, .int .i64 o.size, .int .i64 o.fd, .int .i64 o.dst, .int .i64 o.most]
theorem getD_of {t : Tbl} {f : Nat} {e : Option Nat} (h : t[f]? = some e) : t.getD f none = e := by rw [List.getD_eq_getElem?_getD, h]; rfl
def ext (eo : Nat → Nat) (n b : Nat) (i : Nat) : Nat := if i = n then b else eo i
theorem ext_lt {eo : Nat → Nat} {n b i : Nat} (h : i < n) : ext eo n b i = eo i := by unfold ext; rw [if_neg (by omega)]
theorem ext_eq {eo : Nat → Nat} {n b : Nat} : ext eo n b n = b := by unfold ext; rw [if_pos rfl]
theorem toNat_of {x : Int} {p : Nat} (h : x = p) : x.toNat = p := by omega
theorem open_of {t : Tbl} (hk : o.kind = 1) (ht : tblOf st o.proc = some t) : doOp st o = (if o.size < 0 ∨ 1099511627776 < o.size then (st, 2, 0) else
      if free t = 16 then (st, 4, 0) else
      ({ procs := st.procs.set o.proc.toNat (some (t.set (free t) (some st.opens.length))), opens := st.opens ++ [⟨o.name, o.size, 0, 1⟩] }, 0, (free t : Int))) := by
  have hb : ¬ (o.kind < 1 ∨ 7 < o.kind) := by omega
  unfold doOp; rw [if_neg hb, ht]; simp only []; rw [if_pos hk]
theorem fork_of {t : Tbl} (hk : o.kind = 7) (ht : tblOf st o.proc = some t) : doOp st o = (if o.dst < 0 ∨ 4 ≤ o.dst ∨ (tblOf st o.dst).isSome then (st, 6, 0) else
      ({ procs := st.procs.set o.dst.toNat (some t), opens := bumps t st.opens }, 0, o.dst)) := by
  have hb : ¬ (o.kind < 1 ∨ 7 < o.kind) := by omega
  unfold doOp; rw [if_neg hb, ht]; simp only []; rw [if_neg (by omega), if_pos hk]
theorem ent_no {t : Tbl} (h0 : ¬ o.kind < 1) (h1 : ¬ 7 < o.kind) (hk : o.kind ≠ 1) (hk7 : o.kind ≠ 7) (ht : tblOf st o.proc = some t) (he : entOf t o.fd = none) : doOp st o = (st, 3, 0) := by
  have hb : ¬ (o.kind < 1 ∨ 7 < o.kind) := by omega
  unfold doOp; rw [if_neg hb, ht]; simp only []; rw [if_neg hk, if_neg hk7, he]
theorem over_of {t : Tbl} {k : Nat} (hk : o.kind = 3) (ht : tblOf st o.proc = some t) (he : entOf t o.fd = some k) : doOp st o = (if o.dst < 0 ∨ 16 ≤ o.dst then (st, 2, 0) else
        if o.dst = o.fd then (st, 0, o.dst) else
        ({ procs := st.procs.set o.proc.toNat (some (t.set o.dst.toNat (some k))), opens := bump (unref t o.dst st.opens) k 1 }, 0, o.dst)) := by
  have hb : ¬ (o.kind < 1 ∨ 7 < o.kind) := by omega
  unfold doOp; rw [if_neg hb, ht]; simp only []; rw [if_neg (by omega), if_neg (by omega), he]; simp only []; rw [if_neg (by omega), if_pos hk]
theorem seek_of {t : Tbl} {k : Nat} (hk : o.kind = 6) (ht : tblOf st o.proc = some t) (he : entOf t o.fd = some k) : doOp st o = (if o.most < 0 ∨ 1099511627776 < o.most then (st, 2, 0) else ({ st with opens := Fp.move st.opens k o.most }, 0, o.most)) := by
  have hb : ¬ (o.kind < 1 ∨ 7 < o.kind) := by omega
  unfold doOp; rw [if_neg hb, ht]; simp only []; rw [if_neg (by omega), if_neg (by omega), he]; simp only []; rw [if_neg (by omega), if_neg (by omega), if_neg (by omega), if_pos hk]
theorem read_no {t : Tbl} {k : Nat} (hk : o.kind = 5) (ht : tblOf st o.proc = some t) (he : entOf t o.fd = some k) (hm : o.most < 1) : doOp st o = (st, 2, 0) := by
  have hb : ¬ (o.kind < 1 ∨ 7 < o.kind) := by omega
  unfold doOp; rw [if_neg hb, ht]; simp only []; rw [if_neg (by omega), if_neg (by omega), he]; simp only []; rw [if_neg (by omega), if_neg (by omega), if_neg (by omega), if_neg (by omega), if_pos hm]
theorem Try.do_open (h : FR n0 sb ep eo st w) (hn : n0 ≤ w.heap.size) (hi : Inv st) {t : Tbl} (ht : tblOf st o.proc = some t) (hk : o.kind = 1) :
    Calls Try.prog 13 #[.pointer (some ⟨sb, 0, none⟩), opArg o] w (DoPost n0 sb st o w) := by
  obtain ⟨p, hpe, hp4, hp, hcs⟩ := h.ptr ht
  have htl := hi.tl p t hp
  obtain ⟨hlt, hat⟩ := free_facts htl
  have hsb := h.sb_lt
  have htb := h.tab_lt hp
  have hd := open_of hk ht
  rw [toNat_of hpe] at hd
  unfold opArg
  rw [hk, hpe]
  by_cases h1 : o.size < 0
  · refine (Try.open_size0 sb (ep p) p o.name o.size o.fd o.dst o.most w hp4 hsb hcs h1).mono fun x w' hx => post_err h (e := 2) ?_ hx
    rw [hd, if_pos (.inl h1)]
  by_cases h2 : 1099511627776 < o.size
  · refine (Try.open_size1 sb (ep p) p o.name o.size o.fd o.dst o.most w hp4 hsb hcs h2).mono fun x w' hx => post_err h (e := 2) ?_ hx
    rw [hd, if_pos (.inr h2)]
  rw [if_neg (by omega)] at hd
  by_cases hf : free t = 16
  · rw [hf] at hlt
    refine (Try.open_full sb (ep p) p 16 o.name o.size o.fd o.dst o.most eo (fun j => t.getD j none) w hp4 hsb hcs htb (by omega) (by omega) (h.tabc hp) rfl hlt).mono fun x w' hx => post_err h (e := 4) ?_ hx
    rw [hd, if_pos hf]
  · rw [if_neg hf] at hd
    obtain ⟨hfl, hfn⟩ := free_none htl hf
    obtain ⟨g0, cs, g1, g2, g3⟩ := h.t p t hp
    refine (Try.open_ok sb (ep p) p (free t) o.name o.size o.fd o.dst o.most eo (fun j => t.getD j none) cs w hp4 hsb hcs (by omega) (by omega) g1 htb g2 (h.tabc hp) hfl hlt (hat hfl)).mono ?_
    rintro x w' ⟨rfl, ob, k0, k1, k2, k3⟩
    unfold DoPost
    rw [hd]
    refine ⟨rfl, ep, ext eo st.opens.length ob, ?_, h.blk hp k3 fun k e => .inl e⟩
    refine h.upd hi hp (fun i hi => ext_lt hi) ?_ ?_ k2 (by simpa using g2) ?_ k3 (fun k e => .inl e)
    · intro i oo hoo
      rw [List.getElem?_append] at hoo
      split at hoo
      · rename_i hil
        rw [ext_lt hil]
        obtain ⟨a, b⟩ := h.o i oo hoo
        exact ⟨a, (k3.block (eo i) (h.opn_lt hil) (fun e => h.ep_eo hp hil e.symm)).trans b⟩
      · rename_i hil
        rw [List.getElem?_singleton] at hoo
        split at hoo
        · simp at hoo
          subst hoo
          have hie : i = st.opens.length := by omega
          rw [hie, ext_eq]
          exact ⟨by omega, k1⟩
        · cases hoo
    · intro a b ha hb he
      simp only [List.length_append, List.length_singleton] at ha hb
      rcases Nat.lt_or_ge a st.opens.length with h3 | h3 <;> rcases Nat.lt_or_ge b st.opens.length with h4 | h4
      · rw [ext_lt h3, ext_lt h4] at he
        exact h.io a b h3 h4 he
      · obtain rfl : b = st.opens.length := by omega
        rw [ext_lt h3, ext_eq] at he
        have := h.opn_lt h3
        omega
      · obtain rfl : a = st.opens.length := by omega
        rw [ext_lt h4, ext_eq] at he
        have := h.opn_lt h4
        omega
      · omega
    · have g3' : ∀ j, j < 16 → cs[j]? = some (ptrO (ext eo st.opens.length ob) (t.getD j none)) := by
        intro j hj
        rw [g3 j hj]
        cases hu : t.getD j none with
        | none => rfl
        | some k =>
          have hjl : j < t.length := by omega
          have : t[j]? = some (some k) := by
            rw [List.getD_eq_getElem?_getD, List.getElem?_eq_getElem hjl] at hu
            rw [List.getElem?_eq_getElem hjl]; simpa using hu
          have := hi.ent p t j k hp this
          rw [ptrO, ptrO, ext_lt this]
      have := ent_set g2 htl g3' hfl (some st.opens.length)
      simpa only [ptrO, ext_eq] using this
theorem Try.do_fd (h : FR n0 sb ep eo st w) (hi : Inv st) {t : Tbl} (ht : tblOf st o.proc = some t) (h0 : ¬ o.kind < 1) (h1 : ¬ 7 < o.kind) (hk : o.kind ≠ 1) (hk7 : o.kind ≠ 7) (he : entOf t o.fd = none) :
    Calls Try.prog 13 #[.pointer (some ⟨sb, 0, none⟩), opArg o] w (DoPost n0 sb st o w) := by
  obtain ⟨p, hpe, hp4, hp, hcs⟩ := h.ptr ht
  have hsb := h.sb_lt
  have htb := h.tab_lt hp
  have hd := ent_no h0 h1 hk hk7 ht he
  unfold opArg
  rw [hpe]
  by_cases h2 : o.fd < 0
  · exact (Try.fd0 sb (ep p) p o.kind o.name o.size o.fd o.dst o.most w h0 h1 hk hk7 hp4 hsb hcs h2).mono fun x w' hx => post_err h (e := 3) hd hx
  by_cases h3 : 16 ≤ o.fd
  · exact (Try.fd16 sb (ep p) p o.kind o.name o.size o.fd o.dst o.most w h0 h1 hk hk7 hp4 hsb hcs h3).mono fun x w' hx => post_err h (e := 3) hd hx
  obtain ⟨f, hfe, hf, hce⟩ := h.fdn hp (by omega) (by omega) he
  rw [hfe]
  exact (Try.fd_none sb (ep p) p f o.kind o.name o.size o.dst o.most w h0 h1 hk hk7 hp4 hsb hcs htb hf hce).mono fun x w' hx => post_err h (e := 3) hd hx
theorem Try.do_dup (h : FR n0 sb ep eo st w) (hi : Inv st) {t : Tbl} (ht : tblOf st o.proc = some t) (hk : o.kind = 2) {k : Nat} (he : entOf t o.fd = some k) :
    Calls Try.prog 13 #[.pointer (some ⟨sb, 0, none⟩), opArg o] w (DoPost n0 sb st o w) := by
  obtain ⟨p, hpe, hp4, hp, hcs⟩ := h.ptr ht
  obtain ⟨f, hfe, hf, hft, hkl, hce⟩ := h.fdp hi hp he
  have htl := hi.tl p t hp
  obtain ⟨hlt, hat⟩ := free_facts htl
  have hsb := h.sb_lt
  have htb := h.tab_lt hp
  have hd := dup_of hk ht he
  rw [toNat_of hpe] at hd
  unfold opArg
  rw [hk, hpe, hfe]
  by_cases hfr : free t = 16
  · rw [hfr] at hlt
    refine (Try.dup_full sb (ep p) (eo k) p f 16 o.name o.size o.dst o.most eo (fun j => t.getD j none) w hp4 hsb hcs htb (h.tabc hp) rfl hlt hf hce).mono fun x w' hx => post_err h (e := 4) ?_ hx
    rw [hd, if_pos hfr]
  · rw [if_neg hfr] at hd
    obtain ⟨hfl, hfn⟩ := free_none htl hfr
    obtain ⟨g0, cs, g1, g2, g3⟩ := h.t p t hp
    have hrf := refs_of hi (List.getElem?_eq_getElem hkl)
    rw [show st.opens[k] = opn st.opens k by simp [opn, hkl]] at hrf
    refine (Try.dup_ok sb (ep p) (eo k) p f (free t) o.name o.size o.dst o.most _ _ _ _ eo (fun j => t.getD j none) cs w hp4 hsb hcs g1 htb g2 (h.tabc hp) hfl hlt (hat hfl) hf hce (h.o' hkl).2 (h.opn_lt hkl) ⟨hrf.1, by omega⟩).mono ?_
    rintro x w' ⟨rfl, k1, k2, k3⟩
    unfold DoPost
    rw [hd]
    have hS : ∀ b, b = eo k ∨ b = ep p → b = ep p ∨ ∃ i, i < st.opens.length ∧ b = eo i := by
      rintro b (e | e)
      · exact .inr ⟨k, hkl, e⟩
      · exact .inl e
    refine ⟨rfl, ep, eo, ?_, h.blk hp k3 hS⟩
    refine h.upd hi hp (fun i _ => rfl) (bump_o h k3 hkl rfl k1 ?_) (fun a b ha hb => h.io a b (by rwa [bump_length] at ha) (by rwa [bump_length] at hb)) k2 (by simpa using g2) (ent_set g2 htl g3 hfl (some k)) k3 hS
    rintro i hil hik (e | e)
    · exact hik (h.io i k hil hkl e)
    · exact h.ep_eo hp hil e.symm
theorem Try.do_close (h : FR n0 sb ep eo st w) (hi : Inv st) {t : Tbl} (ht : tblOf st o.proc = some t) (hk : o.kind = 4) {k : Nat} (he : entOf t o.fd = some k) :
    Calls Try.prog 13 #[.pointer (some ⟨sb, 0, none⟩), opArg o] w (DoPost n0 sb st o w) := by
  obtain ⟨p, hpe, hp4, hp, hcs⟩ := h.ptr ht
  obtain ⟨f, hfe, hf, hft, hkl, hce⟩ := h.fdp hi hp he
  have htl := hi.tl p t hp
  have hsb := h.sb_lt
  have htb := h.tab_lt hp
  have hd := close_of hk ht he
  rw [toNat_of hpe, toNat_of hfe] at hd
  unfold opArg
  rw [hk, hpe, hfe]
  obtain ⟨g0, cs, g1, g2, g3⟩ := h.t p t hp
  have hrf := refs_of hi (List.getElem?_eq_getElem hkl)
  rw [show st.opens[k] = opn st.opens k by simp [opn, hkl]] at hrf
  have hcf : cs[f]? = some (.pointer (some ⟨eo k, 0, none⟩)) := by rw [g3 f hf, getD_of hft]; rfl
  refine (Try.close_ok sb (ep p) (eo k) p f o.name o.size o.dst o.most _ _ _ _ cs w hp4 hsb hcs g1 htb g2 hf hce (h.o' hkl).2 (h.opn_lt hkl) ⟨hrf.1, by omega⟩ hcf).mono ?_
  rintro x w' ⟨rfl, k1, k2, k3⟩
  unfold DoPost
  rw [hd]
  have hS : ∀ b, b = eo k ∨ b = ep p → b = ep p ∨ ∃ i, i < st.opens.length ∧ b = eo i := by
    rintro b (e | e)
    · exact .inr ⟨k, hkl, e⟩
    · exact .inl e
  refine ⟨rfl, ep, eo, ?_, h.blk hp k3 hS⟩
  refine h.upd hi hp (fun i _ => rfl) (bump_o h k3 hkl (by omega) k1 ?_) (fun a b ha hb => h.io a b (by rwa [bump_length] at ha) (by rwa [bump_length] at hb)) k2 (by simpa using g2) (ent_set g2 htl g3 hf none) k3 hS
  rintro i hil hik (e | e)
  · exact hik (h.io i k hil hkl e)
  · exact h.ep_eo hp hil e.symm
end
end Go.Proofs
namespace Go.Proofs
open Go.RowKit Go.Fp
section
variable {n0 sb : Nat} {ep eo : Nat → Nat} {st : St} {w w' : World} {o : Fp.Op}
theorem move_o (h : FR n0 sb ep eo st w) {k : Nat} (hk : Only (fun b => b = eo k) w w') (hkl : k < st.opens.length) {q : Int}
    (h1 : w'.heap[eo k]? = some (.cells #[.int .i64 (opn st.opens k).name, .int .i64 (opn st.opens k).size, .int .i64 q, .int .i64 (opn st.opens k).refs] 52 (0, 0))) :
    ∀ (i : Nat) (o : Opn), (Fp.move st.opens k q)[i]? = some o → n0 ≤ eo i ∧ w'.heap[eo i]? = some (opnV o) := by
  intro i o hi
  rw [move_get] at hi
  by_cases hik : i = k
  · subst hik
    rw [List.getElem?_eq_getElem hkl] at hi
    simp at hi
    have : opn st.opens i = st.opens[i] := by simp [opn, hkl]
    rw [this] at h1
    rw [← hi]
    exact ⟨(h.o' hkl).1, by rw [h1]; rfl⟩
  · cases hh : st.opens[i]? with
    | none => rw [hh] at hi; cases hi
    | some oo =>
      rw [hh] at hi
      simp [hik] at hi
      subst hi
      have hil := (List.getElem?_eq_some_iff.1 hh).1
      obtain ⟨g0, g1⟩ := h.o i oo hh
      exact ⟨g0, (hk.block (eo i) (h.opn_lt hil) (fun e => hik (h.io i k hil hkl e))).trans g1⟩
theorem FR.opens (h : FR n0 sb ep eo st w) (hi : Inv st) {p : Nat} {t : Tbl} (hp : st.procs[p]? = some (some t)) {k : Nat} (hkl : k < st.opens.length) (hk : Only (fun b => b = eo k) w w') {os' : List Opn} (hl : os'.length = st.opens.length)
    (ho : ∀ (i : Nat) (o : Opn), os'[i]? = some o → n0 ≤ eo i ∧ w'.heap[eo i]? = some (opnV o)) : FR n0 sb ep eo ⟨st.procs, os'⟩ w' ∧ Only (FileBlk n0 w) w w' := by
  obtain ⟨g0, cs, g1, g2, g3⟩ := h.t p t hp
  have hS : ∀ b, b = eo k → b = ep p ∨ ∃ i, i < st.opens.length ∧ b = eo i := fun b e => .inr ⟨k, hkl, e⟩
  have := h.upd hi hp (t' := t) (fun i _ => rfl) ho (fun a b ha hb => h.io a b (by rwa [hl] at ha) (by rwa [hl] at hb)) ((hk.block (ep p) (h.tab_lt hp) (h.ep_eo hp hkl)).trans g1) g2 g3 hk hS
  rw [set_same hp] at this
  exact ⟨this, h.blk hp hk hS⟩
theorem Try.do_seek (h : FR n0 sb ep eo st w) (hi : Inv st) {t : Tbl} (ht : tblOf st o.proc = some t) (hk : o.kind = 6) {k : Nat} (he : entOf t o.fd = some k) :
    Calls Try.prog 13 #[.pointer (some ⟨sb, 0, none⟩), opArg o] w (DoPost n0 sb st o w) := by
  obtain ⟨p, hpe, hp4, hp, hcs⟩ := h.ptr ht
  obtain ⟨f, hfe, hf, hft, hkl, hce⟩ := h.fdp hi hp he
  have hsb := h.sb_lt
  have htb := h.tab_lt hp
  have hd := seek_of hk ht he
  unfold opArg
  rw [hk, hpe, hfe]
  by_cases h1 : o.most < 0
  · refine (Try.seek_no0 sb (ep p) (eo k) p f o.name o.size o.dst o.most w hp4 hsb hcs htb hf hce h1).mono fun x w' hx => post_err h (e := 2) ?_ hx
    rw [hd, if_pos (.inl h1)]
  by_cases h2 : 1099511627776 < o.most
  · refine (Try.seek_no1 sb (ep p) (eo k) p f o.name o.size o.dst o.most w hp4 hsb hcs htb hf hce h2).mono fun x w' hx => post_err h (e := 2) ?_ hx
    rw [hd, if_pos (.inr h2)]
  rw [if_neg (by omega)] at hd
  have hrf := refs_of hi (List.getElem?_eq_getElem hkl)
  rw [show st.opens[k] = opn st.opens k by simp [opn, hkl]] at hrf
  refine (Try.seek_ok sb (ep p) (eo k) p f o.name o.size o.dst o.most _ _ _ _ w hp4 hsb hcs htb hf hce (h.o' hkl).2 (h.opn_lt hkl) ⟨hrf.1, by omega⟩ (by omega) (by omega)).mono ?_
  rintro x w' ⟨rfl, k1, k2⟩
  unfold DoPost
  rw [hd]
  obtain ⟨r1, r2⟩ := h.opens hi hp hkl k2 (move_length _ _ _) (move_o h k2 hkl k1)
  exact ⟨rfl, ep, eo, r1, r2⟩
theorem Try.do_read (h : FR n0 sb ep eo st w) (hi : Inv st) (hm : o.most ≤ 9223372036854775807) {t : Tbl} (ht : tblOf st o.proc = some t) (hk : o.kind = 5) {k : Nat} (he : entOf t o.fd = some k) :
    Calls Try.prog 13 #[.pointer (some ⟨sb, 0, none⟩), opArg o] w (DoPost n0 sb st o w) := by
  obtain ⟨p, hpe, hp4, hp, hcs⟩ := h.ptr ht
  obtain ⟨f, hfe, hf, hft, hkl, hce⟩ := h.fdp hi hp he
  have hsb := h.sb_lt
  have htb := h.tab_lt hp
  by_cases h1 : o.most < 1
  · have hd := _root_.Go.Proofs.read_no hk ht he h1
    unfold opArg
    rw [hk, hpe, hfe]
    exact (Try.read_no sb (ep p) (eo k) p f o.name o.size o.dst o.most w hp4 hsb hcs htb hf hce h1).mono fun x w' hx => post_err h (e := 2) hd hx
  have hd := read_of hk ht he (by omega)
  unfold opArg
  rw [hk, hpe, hfe]
  have hrf := refs_of hi (List.getElem?_eq_getElem hkl)
  have hsz := hi.sz k _ (List.getElem?_eq_getElem hkl)
  rw [show st.opens[k] = opn st.opens k by simp [opn, hkl]] at hrf hsz
  have hfin : ∀ {v q : Int} {x : Ending} {w' : World}, min o.most (max ((opn st.opens k).size - (opn st.opens k).pos) 0) = v → (opn st.opens k).pos + v = q →
      (x = .returned (ansV 0 v) ∧ w'.heap[eo k]? = some (.cells #[.int .i64 (opn st.opens k).name, .int .i64 (opn st.opens k).size, .int .i64 q, .int .i64 (opn st.opens k).refs] 52 (0, 0)) ∧ Only (fun b => b = eo k) w w') → DoPost n0 sb st o w x w' := by
    rintro v q x w' hv hq ⟨rfl, k1, k2⟩
    unfold DoPost
    rw [hd, hv, hq]
    obtain ⟨r1, r2⟩ := h.opens hi hp hkl k2 (move_length _ _ _) (move_o h k2 hkl k1)
    exact ⟨rfl, ep, eo, r1, r2⟩
  by_cases h2 : (opn st.opens k).size - (opn st.opens k).pos < 0
  · exact (Try.read_none sb (ep p) (eo k) p f o.name o.size o.dst o.most _ _ _ _ w hp4 hsb hcs htb hf hce (h.o' hkl).2 (h.opn_lt hkl) ⟨hrf.1, by omega⟩ (by omega) hm hsz.1 hsz.2.1 hsz.2.2.1 hsz.2.2.2 h2).mono fun x w' hx => hfin (by omega) (by omega) hx
  by_cases h3 : o.most ≤ (opn st.opens k).size - (opn st.opens k).pos
  · exact (Try.read_all sb (ep p) (eo k) p f o.name o.size o.dst o.most _ _ _ _ w hp4 hsb hcs htb hf hce (h.o' hkl).2 (h.opn_lt hkl) ⟨hrf.1, by omega⟩ (by omega) hm hsz.1 hsz.2.1 hsz.2.2.1 hsz.2.2.2 (by omega) h3).mono fun x w' hx => hfin (by omega) rfl hx
  · exact (Try.read_some sb (ep p) (eo k) p f o.name o.size o.dst o.most _ _ _ _ w hp4 hsb hcs htb hf hce (h.o' hkl).2 (h.opn_lt hkl) ⟨hrf.1, by omega⟩ (by omega) hm hsz.1 hsz.2.1 hsz.2.2.1 hsz.2.2.2 (by omega) (by omega)).mono fun x w' hx => hfin (by omega) rfl hx
theorem setset {cs : Array Value} {d : Nat} {x y : Value} : (cs.setIfInBounds d x).setIfInBounds d y = cs.setIfInBounds d y := by
  apply Array.ext_getElem?
  intro i
  simp only [Array.getElem?_setIfInBounds]
  by_cases h : d = i <;> simp [h]
theorem Try.do_over (h : FR n0 sb ep eo st w) (hi : Inv st) {t : Tbl} (ht : tblOf st o.proc = some t) (hk : o.kind = 3) {k : Nat} (he : entOf t o.fd = some k) :
    Calls Try.prog 13 #[.pointer (some ⟨sb, 0, none⟩), opArg o] w (DoPost n0 sb st o w) := by
  obtain ⟨p, hpe, hp4, hp, hcs⟩ := h.ptr ht
  obtain ⟨f, hfe, hf, hft, hkl, hce⟩ := h.fdp hi hp he
  have htl := hi.tl p t hp
  have hsb := h.sb_lt
  have htb := h.tab_lt hp
  have hd := over_of hk ht he
  rw [toNat_of hpe] at hd
  unfold opArg
  rw [hk, hpe, hfe]
  by_cases h1 : o.dst < 0
  · refine (Try.over_dst0 sb (ep p) (eo k) p f o.name o.size o.dst o.most w hp4 hsb hcs htb hf hce h1).mono fun x w' hx => post_err h (e := 2) ?_ hx
    rw [hd, if_pos (.inl h1)]
  by_cases h2 : 16 ≤ o.dst
  · refine (Try.over_dst16 sb (ep p) (eo k) p f o.name o.size o.dst o.most w hp4 hsb hcs htb hf hce h2).mono fun x w' hx => post_err h (e := 2) ?_ hx
    rw [hd, if_pos (.inr h2)]
  rw [if_neg (by omega)] at hd
  by_cases h3 : o.dst = o.fd
  · rw [if_pos h3] at hd
    rw [h3, hfe] at hd ⊢
    exact (Try.over_same sb (ep p) (eo k) p f o.name o.size o.most w hp4 hsb hcs htb hf hce).mono fun x w' hx => post_same h hd hx
  rw [if_neg h3] at hd
  obtain ⟨d, hde⟩ : ∃ d : Nat, o.dst = d := ⟨o.dst.toNat, by omega⟩
  have hd16 : d < 16 := by omega
  have hdf : d ≠ f := by omega
  rw [toNat_of hde, hde] at hd
  rw [hde]
  obtain ⟨g0, cs, g1, g2, g3⟩ := h.t p t hp
  have hrf := refs_of hi (List.getElem?_eq_getElem hkl)
  rw [show st.opens[k] = opn st.opens k by simp [opn, hkl]] at hrf
  cases hj : entOf t (d : Int) with
  | none =>
    obtain ⟨d', hd', _, hcd⟩ := h.fdn hp (by omega) (by omega) hj
    obtain rfl : d = d' := by omega
    have hun : unref t (d : Int) st.opens = st.opens := by unfold unref; rw [hj]
    rw [hun] at hd
    refine (Try.over_none sb (ep p) (eo k) p f d o.name o.size o.most _ _ _ _ cs w hp4 hsb hcs g1 htb g2 hf hce (h.o' hkl).2 (h.opn_lt hkl) ⟨hrf.1, by omega⟩ hd16 hdf hcd).mono ?_
    rintro x w' ⟨rfl, k1, k2, k3⟩
    unfold DoPost
    rw [hd]
    have hS : ∀ b, b = eo k ∨ b = ep p → b = ep p ∨ ∃ i, i < st.opens.length ∧ b = eo i := by
      rintro b (e | e)
      · exact .inr ⟨k, hkl, e⟩
      · exact .inl e
    refine ⟨rfl, ep, eo, ?_, h.blk hp k3 hS⟩
    refine h.upd hi hp (fun i _ => rfl) (bump_o h k3 hkl rfl k1 ?_) (fun a b ha hb => h.io a b (by rwa [bump_length] at ha) (by rwa [bump_length] at hb)) k2 (by simpa using g2) (ent_set g2 htl g3 hd16 (some k)) k3 hS
    rintro i hil hik (e | e)
    · exact hik (h.io i k hil hkl e)
    · exact h.ep_eo hp hil e.symm
  | some j =>
    obtain ⟨d', hd', _, hdt, hjl, hcd⟩ := h.fdp hi hp hj
    obtain rfl : d = d' := by omega
    have hun : unref t (d : Int) st.opens = bump st.opens j (-1) := by unfold unref; rw [hj]
    rw [hun] at hd
    have hcf : cs[d]? = some (.pointer (some ⟨eo j, 0, none⟩)) := by rw [g3 d hd16, getD_of hdt]; rfl
    have hS : ∀ b, b = eo k ∨ b = eo j ∨ b = ep p → b = ep p ∨ ∃ i, i < st.opens.length ∧ b = eo i := by
      rintro b (e | e | e)
      · exact .inr ⟨k, hkl, e⟩
      · exact .inr ⟨j, hjl, e⟩
      · exact .inl e
    by_cases hjk : j = k
    · subst hjk
      have hr1 : 1 ≤ (opn st.opens j).refs := by
        have h4 := hi.refs j _ (List.getElem?_eq_getElem hkl)
        rw [show st.opens[j] = opn st.opens j by simp [opn, hkl]] at h4
        have h5 := count_le_sumc hp j
        have h6 := count_pos hdt
        have h7 := cnt_sumc st j
        omega
      refine (Try.over_one sb (ep p) (eo j) p f d o.name o.size o.most _ _ _ _ cs w hp4 hsb hcs g1 htb g2 hf hce (h.o' hkl).2 (h.opn_lt hkl) ⟨hrf.1, by omega⟩ hd16 hdf hcd hcf hr1).mono ?_
      rintro x w' ⟨rfl, k1, k2, k3⟩
      rw [setset] at k2
      unfold DoPost
      rw [hd]
      have hS' : ∀ b, b = eo j ∨ b = ep p → b = ep p ∨ ∃ i, i < st.opens.length ∧ b = eo i := by
        rintro b (e | e)
        · exact .inr ⟨j, hkl, e⟩
        · exact .inl e
      refine ⟨rfl, ep, eo, ?_, h.blk hp k3 hS'⟩
      refine h.upd hi hp (fun i _ => rfl) ?_ (fun a b ha hb => h.io a b (by rwa [bump_length, bump_length] at ha) (by rwa [bump_length, bump_length] at hb)) k2 (by simpa using g2) (ent_set g2 htl g3 hd16 (some j)) k3 hS'
      intro i oo hoo
      rw [bump_get, bump_get] at hoo
      by_cases hij : i = j
      · subst hij
        rw [List.getElem?_eq_getElem hkl] at hoo
        simp at hoo
        have h8 : opn st.opens i = st.opens[i] := by simp [opn, hkl]
        rw [h8] at k1
        rw [← hoo]
        refine ⟨(h.o' hkl).1, k1.trans ?_⟩
        simp only [opnV]
        rw [show st.opens[i].refs - 1 + 1 = st.opens[i].refs + -1 + 1 by omega]
      · cases hh : st.opens[i]? with
        | none => rw [hh] at hoo; cases hoo
        | some o2 =>
          rw [hh] at hoo
          simp [hij] at hoo
          subst hoo
          have hil := (List.getElem?_eq_some_iff.1 hh).1
          obtain ⟨q0, q1⟩ := h.o i o2 hh
          refine ⟨q0, (k3.block (eo i) (h.opn_lt hil) ?_).trans q1⟩
          rintro (e | e)
          · exact hij (h.io i j hil hkl e)
          · exact h.ep_eo hp hil e.symm
    · have hrj := refs_of hi (List.getElem?_eq_getElem hjl)
      rw [show st.opens[j] = opn st.opens j by simp [opn, hjl]] at hrj
      refine (Try.over_two sb (ep p) (eo k) (eo j) p f d o.name o.size o.most _ _ _ _ _ _ _ _ cs w hp4 hsb hcs g1 htb g2 hf hce (h.o' hkl).2 (h.opn_lt hkl) ⟨hrf.1, by omega⟩ hd16 hdf hcd (h.o' hjl).2 (h.opn_lt hjl) ⟨hrj.1, by omega⟩ hcf (fun e => hjk (h.io j k hjl hkl e))).mono ?_
      rintro x w' ⟨rfl, k1, k1', k2, k3⟩
      rw [setset] at k2
      unfold DoPost
      rw [hd]
      refine ⟨rfl, ep, eo, ?_, h.blk hp k3 hS⟩
      refine h.upd hi hp (fun i _ => rfl) ?_ (fun a b ha hb => h.io a b (by rwa [bump_length, bump_length] at ha) (by rwa [bump_length, bump_length] at hb)) k2 (by simpa using g2) (ent_set g2 htl g3 hd16 (some k)) k3 hS
      intro i oo hoo
      rw [bump_get, bump_get] at hoo
      cases hh : st.opens[i]? with
      | none => rw [hh] at hoo; cases hoo
      | some o2 =>
        rw [hh] at hoo
        have hil := (List.getElem?_eq_some_iff.1 hh).1
        have h8 : opn st.opens i = o2 := by simp [opn, hh]
        obtain ⟨q0, q1⟩ := h.o i o2 hh
        by_cases hik : i = k
        · subst hik
          have hij : ¬ (i = j) := fun e => hjk e.symm
          simp [hij] at hoo
          rw [h8] at k1
          rw [← hoo]
          exact ⟨q0, k1⟩
        · by_cases hij : i = j
          · subst hij
            simp [hik] at hoo
            rw [h8] at k1'
            rw [← hoo]
            refine ⟨q0, k1'.trans ?_⟩
            simp only [opnV]
            rw [show o2.refs - 1 = o2.refs + -1 by omega]
          · simp [hik, hij] at hoo
            subst hoo
            refine ⟨q0, (k3.block (eo i) (h.opn_lt hil) ?_).trans q1⟩
            rintro (e | e | e)
            · exact hik (h.io i k hil hkl e)
            · exact hij (h.io i j hil hjl e)
            · exact h.ep_eo hp hil e.symm
end
end Go.Proofs
namespace Go.Proofs
open Go.RowKit Go.Fp
section
variable {n0 sb : Nat} {ep eo : Nat → Nat} {st : St} {w w' : World} {o : Fp.Op}
theorem tblOf_none {d : Nat} (hd : d < 4) (hi : Inv st) (h : tblOf st (d : Int) = none) : st.procs[d]? = some none := by
  unfold tblOf at h
  rw [if_pos (by omega)] at h
  have hl : d < st.procs.length := by have := hi.len; omega
  rw [Int.toNat_natCast, List.getD_eq_getElem?_getD, List.getElem?_eq_getElem hl] at h
  rw [List.getElem?_eq_getElem hl]
  simpa using h
theorem Try.do_fork (h : FR n0 sb ep eo st w) (hn : n0 ≤ w.heap.size) (hi : Inv st) {t : Tbl} (ht : tblOf st o.proc = some t) (hk : o.kind = 7) :
    Calls Try.prog 13 #[.pointer (some ⟨sb, 0, none⟩), opArg o] w (DoPost n0 sb st o w) := by
  obtain ⟨p, hpe, hp4, hp, hcs⟩ := h.ptr ht
  have htl := hi.tl p t hp
  have hsb := h.sb_lt
  have htb := h.tab_lt hp
  have hd := fork_of hk ht
  unfold opArg
  rw [hk, hpe]
  by_cases h1 : o.dst < 0
  · refine (Try.fork_dst0 sb (ep p) p o.name o.size o.fd o.dst o.most w hp4 hsb hcs h1).mono fun x w' hx => post_err h (e := 6) ?_ hx
    rw [hd, if_pos (.inl h1)]
  by_cases h2 : 4 ≤ o.dst
  · refine (Try.fork_dst4 sb (ep p) p o.name o.size o.fd o.dst o.most w hp4 hsb hcs h2).mono fun x w' hx => post_err h (e := 6) ?_ hx
    rw [hd, if_pos (.inr (.inl h2))]
  obtain ⟨d, hde⟩ : ∃ d : Nat, o.dst = d := ⟨o.dst.toNat, by omega⟩
  have hd4 : d < 4 := by omega
  rw [hde] at hd ⊢
  cases hu : tblOf st (d : Int) with
  | some u =>
    obtain ⟨d', hd', _, _, hcu⟩ := h.ptr hu
    obtain rfl : d = d' := by omega
    refine (Try.fork_held sb (ep p) p d o.name o.size o.fd o.most (ep d) w hp4 hsb hcs hd4 hcu).mono fun x w' hx => post_err h (e := 6) ?_ hx
    rw [hd, if_pos (.inr (.inr (by rw [hu]; rfl)))]
  | none =>
    rw [hu, if_neg (by simp; omega), toNat_of rfl] at hd
    have hpd := tblOf_none hd4 hi hu
    have hcu : w.cell? ⟨sb, d, none⟩ = some (.pointer none) := by
      rw [h.cellS hd4, show st.procs.getD d none = none by rw [List.getD_eq_getElem?_getD, hpd]; rfl]; rfl
    obtain ⟨g0, cs, g1, g2, g3⟩ := h.t p t hp
    obtain ⟨cS, s1, s2, s3⟩ := h.s
    have hte : ∀ (j i : Nat), t[j]? = some (some i) → i < st.opens.length := fun j i hji => hi.ent p t j i hp hji
    refine (Try.fork_ok sb (ep p) p d o.name o.size o.fd o.most eo t st.opens cs cS w hp4 hsb hcs g1 htb (h.tabc hp) htl s1 hd4 hcu (fun i oo hoo => (h.o i oo hoo).2) (fun i oo hoo => by have := refs_of hi hoo; exact ⟨this.1, by omega⟩) hte h.io).mono ?_
    rintro x w' ⟨rfl, cb, ct, c0, c1, c2, c3, c4, c5, c6⟩
    unfold DoPost
    rw [hd]
    have hpl : d < st.procs.length := by have := hi.len; omega
    have hep : ∀ q, q ≠ d → ext ep d cb q = ep q := fun q hq => by unfold ext; rw [if_neg hq]
    have hback : ∀ (q : Nat) (u : Tbl), (st.procs.set d (some t))[q]? = some (some u) → (q = d ∧ u = t) ∨ (q ≠ d ∧ st.procs[q]? = some (some u)) := by
      intro q u hq
      rcases set_get hq with ⟨a, b⟩ | ⟨a, b⟩
      · exact .inl ⟨a, by simpa using b⟩
      · exact .inr ⟨a, b⟩
    refine ⟨rfl, ext ep d cb, eo, ⟨h.ns, ⟨_, c5, by simpa using s2, ?_⟩, ?_, ?_, ?_, ?_⟩, ?_⟩
    · intro q hq
      by_cases hqd : d = q
      · subst hqd
        rw [Array.getElem?_setIfInBounds, if_pos rfl, if_pos (by omega)]
        rw [show (st.procs.set d (some t)).getD d none = some t by simp [List.getD_eq_getElem?_getD, hpl]]
        unfold ptrP ext
        simp only [if_true]
      · rw [Array.getElem?_setIfInBounds, if_neg hqd, s3 q hq]
        rw [show (st.procs.set d (some t)).getD q none = st.procs.getD q none by rw [List.getD_eq_getElem?_getD, List.getElem?_set_ne hqd, ← List.getD_eq_getElem?_getD]]
        unfold ptrP
        split
        · rfl
        · rw [hep q (Ne.symm hqd)]
    · intro q u hq
      rcases hback q u hq with ⟨rfl, rfl⟩ | ⟨hqd, hq'⟩
      · rw [ext_eq]
        exact ⟨by omega, ct, c1, c2, c3⟩
      · rw [hep q hqd]
        obtain ⟨a0, a, a1, a2, a3⟩ := h.t q u hq'
        refine ⟨a0, a, ?_, a2, a3⟩
        refine (c6.block (ep q) (Array.getElem?_eq_some_iff.1 a1).1 ?_).trans a1
        rintro (e | ⟨i, hil, e⟩)
        · exact h.sb_ep hq' e.symm
        · exact h.ep_eo hq' hil e
    · intro i oo hoo
      have hoo : (bumps t st.opens)[i]? = some oo := hoo
      refine ⟨?_, c4 i oo hoo⟩
      have hil : i < st.opens.length := by have := (List.getElem?_eq_some_iff.1 hoo).1; rwa [bumps_length] at this
      exact (h.o' hil).1
    · intro a b u v ha hb he
      rcases hback a u ha with ⟨rfl, rfl⟩ | ⟨had, ha'⟩ <;> rcases hback b v hb with ⟨rfl, rfl⟩ | ⟨hbd, hb'⟩
      · rfl
      · rw [ext_eq, hep b hbd] at he
        have := h.tab_lt hb'
        omega
      · rw [ext_eq, hep a had] at he
        have := h.tab_lt ha'
        omega
      · rw [hep a had, hep b hbd] at he
        exact h.ip a b u v ha' hb' he
    · intro a b ha hb he
      exact h.io a b (by rwa [bumps_length] at ha) (by rwa [bumps_length] at hb) he
    · refine c6.mono fun k _ hs => ?_
      rcases hs with rfl | ⟨i, hil, rfl⟩
      · exact ⟨h.ns, cS, 46, s1, .inl rfl⟩
      · have := h.o' hil
        exact ⟨this.1, _, 52, this.2, .inr (.inr rfl)⟩
theorem Try.do_ok (h : FR n0 sb ep eo st w) (hn : n0 ≤ w.heap.size) (hi : Inv st) (hm : o.most ≤ 9223372036854775807) :
    Calls Try.prog 13 #[.pointer (some ⟨sb, 0, none⟩), opArg o] w (DoPost n0 sb st o w) := by
  have hsb := h.sb_lt
  by_cases h0 : o.kind < 1
  · refine (Try.do_kind0 sb o.kind o.proc o.name o.size o.fd o.dst o.most w h0).mono fun x w' hx => post_err h (e := 5) ?_ hx
    unfold doOp; rw [if_pos (.inl h0)]
  by_cases h1 : 7 < o.kind
  · refine (Try.do_kind8 sb o.kind o.proc o.name o.size o.fd o.dst o.most w h1).mono fun x w' hx => post_err h (e := 5) ?_ hx
    unfold doOp; rw [if_pos (.inr h1)]
  cases ht : tblOf st o.proc with
  | none =>
    have hd : doOp st o = (st, 3, 0) := by unfold doOp; rw [if_neg (by omega), ht]
    by_cases h2 : o.proc < 0
    · exact (Try.do_proc0 sb o.kind o.proc o.name o.size o.fd o.dst o.most w h0 h1 h2).mono fun x w' hx => post_err h (e := 3) hd hx
    by_cases h3 : 4 ≤ o.proc
    · exact (Try.do_proc4 sb o.kind o.proc o.name o.size o.fd o.dst o.most w h0 h1 h3).mono fun x w' hx => post_err h (e := 3) hd hx
    obtain ⟨p, hpe⟩ : ∃ p : Nat, o.proc = p := ⟨o.proc.toNat, by omega⟩
    have hp4 : p < 4 := by omega
    rw [hpe] at ht
    have hpn := tblOf_none hp4 hi ht
    have hcu : w.cell? ⟨sb, p, none⟩ = some (.pointer none) := by
      rw [h.cellS hp4, show st.procs.getD p none = none by rw [List.getD_eq_getElem?_getD, hpn]; rfl]; rfl
    unfold opArg
    rw [hpe]
    exact (Try.do_nobody sb p o.kind o.name o.size o.fd o.dst o.most w h0 h1 hp4 hsb hcu).mono fun x w' hx => post_err h (e := 3) hd hx
  | some t =>
    by_cases k1 : o.kind = 1
    · exact Try.do_open h hn hi ht k1
    by_cases k7 : o.kind = 7
    · exact Try.do_fork h hn hi ht k7
    cases he : entOf t o.fd with
    | none => exact Try.do_fd h hi ht h0 h1 k1 k7 he
    | some k =>
      by_cases k2 : o.kind = 2
      · exact Try.do_dup h hi ht k2 he
      by_cases k3 : o.kind = 3
      · exact Try.do_over h hi ht k3 he
      by_cases k4 : o.kind = 4
      · exact Try.do_close h hi ht k4 he
      by_cases k6 : o.kind = 6
      · exact Try.do_seek h hi ht k6 he
      · exact Try.do_read h hi hm ht (by omega) he
end
end Go.Proofs

