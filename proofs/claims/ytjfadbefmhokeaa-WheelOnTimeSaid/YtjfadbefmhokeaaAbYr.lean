/- The evaluator for the kernel: a loop over a map that only looks. -/
import Derived.Test.YtjfadbefmhokeaaAbYm
import Derived.Laws.IdiomRangeMap
import Derived.Maps.RangeRun
set_option linter.unusedVariables false
set_option linter.unusedSimpArgs false
namespace Go.Ab
open Go.RowKit

variable {P : Program} {T : Tab} {α : Type} {A : Env}

/-- From here on. -/
def Env.here (A : Env) (σ : AS) (ι : Emb) (R : Nat → Prop) : Env := ⟨R, fun k => ∃ id b c, σ.heap id = some b ∧ ι id = some (some (k, c)), A.κ, A.tabs⟩

theorem St.Of.here {W w : World} {a : Act} {σ : AS} {ι : Emb} {R : Nat → Prop} (h : St.Of A W w a σ ι R) : St.Of (A.here σ ι R) w w a σ ι R where
  below := BelowB.refl _ _ _
  size := h.size
  defers := h.defers
  seen := h.seen
  slots := h.slots
  heap := h.heap
  inj := h.inj
  new := fun id b g c h1 h2 => .inr ⟨id, b, c, h1, h2⟩
  lt := h.lt
  out := h.out
  arg := fun k hk _ => .inl hk
  pin := h.pin
  glob := fun x hx => by
    obtain ⟨⟨h1, h2⟩, h3⟩ := h.glob x hx
    refine ⟨⟨Nat.lt_of_lt_of_le h1 h.below.size, fun j hj => ?_⟩, ?_⟩
    · rw [← h2 j hj]
      exact World.cell?_of_block (w := W) (h.below.block x.1 h1 h3)
    · rintro ⟨id, b, c, e1, e2⟩
      rcases h.new id b _ c e1 e2 with h4 | h4
      · omega
      · exact h3 h4

theorem St.Of.back {W w w' : World} {a a' : Act} {σ σ' : AS} {ι ι' : Emb} {R R' : Nat → Prop} (h : St.Of A W w a σ ι R) (k : St.Of (A.here σ ι R) w w' a' σ' ι' R') : St.Of A W w' a' σ' ι' R' where
  below := h.below.trans (k.below.mono h.below.size fun g hg ⟨id, b, c, e1, e2⟩ => (h.new id b g c e1 e2).resolve_left (by omega))
  size := k.size
  defers := k.defers
  seen := k.seen
  slots := k.slots
  heap := k.heap
  inj := k.inj
  new := fun id b g c h1 h2 => by
    rcases k.new id b g c h1 h2 with h3 | ⟨id0, b0, c0, e1, e2⟩
    · exact .inl (Nat.le_trans h.below.size h3)
    · exact h.new id0 b0 g c0 e1 e2
  lt := k.lt
  out := k.out
  arg := fun g hg hw => by
    rcases k.arg g hg (Nat.lt_of_lt_of_le hw h.below.size) with h3 | ⟨id0, b0, c0, e1, e2⟩
    · exact h.arg g h3 hw
    · exact .inr ((h.new id0 b0 g c0 e1 e2).resolve_left (by omega))
  pin := k.pin
  glob := fun x hx => h.glob x hx

/-- A block that is not in hand is as it was. -/
theorem St.Of.kept {w w' : World} {a' : Act} {σ σ' : AS} {ι ι' : Emb} {R R' : Nat → Prop} (k : St.Of (A.here σ ι R) w w' a' σ' ι' R') {g : Nat} (hg : g < w.heap.size) (hn : ∀ id b c, σ.heap id = some b → ι id ≠ some (some (g, c))) (hR : ¬ R g) :
    w'.heap[g]? = w.heap[g]? ∧ ¬ R' g ∧ (∀ id b c, σ'.heap id = some b → ι' id ≠ some (some (g, c))) := by
  have hB : ¬ (A.here σ ι R).B g := fun ⟨id, b, c, e1, e2⟩ => hn id b c e1 e2
  refine ⟨k.below.block g hg hB, fun h => ?_, fun id b c e1 e2 => ?_⟩
  · rcases k.arg g h hg with h3 | h3
    · exact hR h3
    · exact hB h3
  · rcases k.new id b g c e1 e2 with h3 | h3
    · omega
    · exact hB h3

/-- The state with a map taken out: its slots hold the bare pointer. -/
def outM (ms : List Nat) (gm : Nat) (mid : Nat) (σ : AS) : AS := { σ with slots := fun t => if ms.contains t then .raw (.map (some gm)) else σ.slots t, heap := fun i => if Nat.beq i mid then none else σ.heap i }
/-- .. and put back under a name of its own. -/
def inM (ms : List Nat) (f : Nat) (b : Blk) (σ : AS) : AS := { σ with slots := fun t => if ms.contains t then .map f else σ.slots t, heap := upd σ.heap f (some b), seen := upd σ.seen f true }

theorem St.Of.outM {W w : World} {a : Act} {σ : AS} {ι : Emb} {R : Nat → Prop} (h : St.Of A W w a σ ι R) {ms : List Nat} {mid gm : Nat} {c : Cp} (hi : ι mid = some (some (gm, c))) (hms : ∀ t ∈ ms, σ.slots t = .map mid) : St.Of A W w a (outM ms gm mid σ) ι R := by
  refine { h with size := h.size, seen := h.seen, slots := fun t => ?_, heap := fun id b hb => ?_, inj := fun id id' b b' g c c' h1 h2 => ?_, new := fun id b g c h1 => ?_, out := fun id b g c h1 => ?_, pin := h.pin }
  · show RelA ι R w (if ms.contains t then _ else _) _
    split
    · rename_i ht
      have hs := h.slots t
      rw [hms t (by simpa using ht)] at hs
      simp only [RelA] at hs
      obtain ⟨g, c', h1, h2⟩ := hs
      rw [hi] at h1
      obtain ⟨rfl, rfl⟩ : gm = g ∧ c = c' := by simpa using h1
      rw [h2]
      simp only [RelA, RelP]
    · exact h.slots t
  all_goals
    have key : ∀ {i b}, (Go.Ab.outM ms gm mid σ).heap i = some b → σ.heap i = some b := by
      intro i b hb
      simp only [Go.Ab.outM] at hb
      split at hb
      · cases hb
      · exact hb
  · exact h.heap id b (key hb)
  · exact h.inj id id' b b' g c c' (key h1) (key h2)
  · exact h.new id b g c (key h1)
  · exact h.out id b g c (key h1)

theorem St.Of.inM {W w : World} {a : Act} {σ : AS} {ι : Emb} {R : Nat → Prop} (h : St.Of A W w a σ ι R) {ms : List Nat} {f gm : Nat} {c : Cp} {b : Blk} (hf : σ.seen f = false) (hms : ∀ t ∈ ms, σ.slots t = .raw (.map (some gm)))
    (hb : RelB (upd ι f (some (some (gm, c)))) R w f b) (hne : ∀ id b c, σ.heap id = some b → ι id ≠ some (some (gm, c))) (hnew : W.heap.size ≤ gm ∨ A.B gm) (hout : ¬ R gm) :
    St.Of A W w a (inM ms f b σ) (upd ι f (some (some (gm, c)))) R := by
  have hif : ι f = none := by
    cases hι : ι f with
    | none => rfl
    | some x => rw [h.seen f x hι] at hf; cases hf
  have hmono : ∀ id x, ι id = some x → upd ι f (some (some (gm, c))) id = some x := by
    intro id x hx
    simp only [upd]
    split
    · rename_i he; rw [he, hif] at hx; cases hx
    · exact hx
  have hH : ∀ {i b'}, (Go.Ab.inM ms f b σ).heap i = some b' → (i = f ∧ b' = b) ∨ (i ≠ f ∧ σ.heap i = some b') := by
    intro i b' hb'
    simp only [Go.Ab.inM, upd] at hb'
    split at hb'
    · rename_i he; exact .inl ⟨he, (Option.some.inj hb').symm⟩
    · rename_i he; exact .inr ⟨he, hb'⟩
  have hE : ∀ {i g c'}, i ≠ f → upd ι f (some (some (gm, c))) i = some (some (g, c')) → ι i = some (some (g, c')) := by
    intro i g c' hi h1
    simp only [upd, if_neg hi] at h1; exact h1
  have hF : ∀ {g c'}, upd ι f (some (some (gm, c))) f = some (some (g, c')) → g = gm ∧ c' = c := by
    intro g c' h1
    simp only [upd, if_true, Option.some.injEq, Prod.mk.injEq] at h1
    exact ⟨h1.1.symm, h1.2.symm⟩
  refine { h with size := h.size, seen := fun id x hx => ?_, slots := fun t => ?_, heap := fun id b hb => ?_, inj := fun id id' b b' g c c' h1 h2 h3 h4 => ?_, new := fun id b g c h1 h2 => ?_, out := fun id b g c h1 h2 => ?_, pin := fun i x hi hx => hmono _ _ (h.pin i x hi hx) }
  · simp only [upd] at hx
    simp only [Go.Ab.inM, upd]
    split
    · rfl
    · rename_i he; rw [if_neg he] at hx; exact h.seen id x hx
  · show RelA _ R w (if ms.contains t then _ else _) _
    split
    · rename_i ht
      have hs := h.slots t
      rw [hms t (by simpa using ht)] at hs
      rw [raw_inv hs]
      simp only [RelA]
      exact ⟨gm, c, by simp [upd], rfl⟩
    · exact RelA.mono hmono (fun _ e => e) (fun _ _ => rfl) _ _ (h.slots t)
  · rcases hH hb with ⟨rfl, rfl⟩ | ⟨hi, hb'⟩
    · assumption
    · exact (h.heap id b hb').mono hmono (fun _ e => e) (fun _ _ => rfl) (fun _ _ _ => rfl)
  · rcases hH h1 with ⟨rfl, rfl⟩ | ⟨hi, h1'⟩ <;> rcases hH h2 with ⟨rfl, rfl⟩ | ⟨hi', h2'⟩
    · rfl
    · obtain ⟨rfl, rfl⟩ := hF h3
      exact absurd (hE hi' h4) (hne _ _ _ h2')
    · obtain ⟨rfl, rfl⟩ := hF h4
      exact absurd (hE hi h3) (hne _ _ _ h1')
    · exact h.inj id id' b b' g c c' h1' h2' (hE hi h3) (hE hi' h4)
  · rcases hH h1 with ⟨rfl, rfl⟩ | ⟨hi, h1'⟩
    · obtain ⟨rfl, rfl⟩ := hF h2; exact hnew
    · exact h.new id b g c h1' (hE hi h2)
  · rcases hH h1 with ⟨rfl, rfl⟩ | ⟨hi, h1'⟩
    · obtain ⟨rfl, rfl⟩ := hF h2; exact hout
    · exact h.out id b g c h1' (hE hi h2)

theorem wpOps_step {ops : Array Oper} {Q : Exit → Act → World → Prop} {i : Nat} {l : List Nat} {a : Act} {w w' : World} {o : Oper} {u : Value} (ho : ops[i]? = some o) (hg : o.guard = none)
    (hr : (execOp a.eval o).run P w = .ok (.value u) w') (hk : wpOps P ops Q l (a.put o.dst u) w') : wpOps P ops Q (i :: l) a w := by
  rw [wpOps_cons]
  unfold wpOp
  simp only [ho, Region.wanted, hg, if_true]
  refine .inl ?_
  unfold Oper.wp
  rw [hr, Oper.upon_value]
  exact hk

/-- The five operations of a walk over a map. -/
structure RngOps (o1 o2 o3 o4 o5 : Oper) (t1 d nd xd ed : Nat) (x : Operand) (t : TypeId) : Prop where
  d1 : o1.dst = some t1
  p1 : o1.op = .move x
  g1 : o1.guard = none
  d2 : o2.dst = some d
  p2 : o2.op = .range t (.tmp t1)
  g2 : o2.guard = none
  d3 : o3.dst = some nd
  p3 : o3.op = .next (.tmp d) false
  g3 : o3.guard = none
  d4 : o4.dst = some xd
  p4 : o4.op = .extract (.tmp nd) 0
  g4 : o4.guard = none
  d5 : o5.dst = some ed
  p5 : o5.op = .entry (.tmp d)
  g5 : o5.guard = none

def rngCode (o1 o2 o3 o4 o5 : Oper) (rest : List Oper) (i1 b i2 c i3 xd : Nat) (body : Code) : Code :=
  .seq (.region i1 #[o1, o2] false) (.block b (.loop (.seq (.region i2 #[o3, o4] false) (.seq (.cond (.tmp xd) .skip (.exit b)) (.block c (.seq (.region i3 (o5 :: rest).toArray false) body))))))

theorem exec_move {o : Oper} {x : Operand} (h : o.op = .move x) (a : Act) (w : World) : (execOp a.eval o).run P w = .ok (.value (a.eval x)) w := by
  simp only [execOp, h]; rfl
theorem exec_v {o : Oper} {a : Act} {w w' : World} {m : Sem Value} {u : Value} (h : execOp a.eval o = (do pure (Next.value (← m)))) (hm : m.run P w = .ok u w') : (execOp a.eval o).run P w = .ok (.value u) w' := by
  rw [h, Sem.run_bind, hm]; rfl

/-- A block that the state does not know. -/
structure Free (σ : AS) (ι : Emb) (R : Nat → Prop) (w : World) (g : Nat) : Prop where
  lt : g < w.heap.size
  ne : ∀ id b c, σ.heap id = some b → ι id ≠ some (some (g, c))
  out : ¬ R g

theorem Free.adv {w w' : World} {a' : Act} {σ σ' : AS} {ι ι' : Emb} {R R' : Nat → Prop} {g : Nat} (hf : Free σ ι R w g) (k : St.Of (A.here σ ι R) w w' a' σ' ι' R') : Free σ' ι' R' w' g ∧ w'.heap[g]? = w.heap[g]? := by
  obtain ⟨h1, h2, h3⟩ := k.kept hf.lt hf.ne hf.out
  exact ⟨⟨Nat.lt_of_lt_of_le hf.lt k.below.size, h3, h2⟩, h1⟩

/-- The iterator's object, or the tape, moves on: the state stands. -/
theorem St.Of.setFree {W w w' : World} {a : Act} {σ : AS} {ι : Emb} {R : Nat → Prop} (h : St.Of A W w a σ ι R) {g : Nat} (hf : Free σ ι R w g) (hW : W.heap.size ≤ g) (ho : w'.os = w.os) (ht : w'.tape = w.tape) (hp : w'.output = w.output) (hz : w'.heap.size = w.heap.size)
    (hh : ∀ k, k ≠ g → w'.heap[k]? = w.heap[k]?) : St.Of A W w' a σ ι R ∧ Free σ ι R w' g := by
  have hR : ∀ k, R k → w'.heap[k]? = w.heap[k]? := fun k hk => hh k fun e => hf.out (e ▸ hk)
  refine ⟨{ h with below := h.below.trans ⟨ho, ht, hp, by rw [hz]; exact Nat.le_refl _, fun k hk _ => hh k (by omega)⟩, slots := fun t => RelA.mono (fun _ _ e => e) (fun _ e => e) hR _ _ (h.slots t), heap := fun id b hb => ?_, lt := fun k hk => by rw [hz]; exact h.lt k hk }, ⟨by rw [hz]; exact hf.lt, hf.ne, hf.out⟩⟩
  exact (h.heap id b hb).mono (fun _ _ e => e) (fun _ e => e) hR fun g' c e => hh g' fun e' => hf.ne id b c hb (e' ▸ e)

theorem St.Of.put_junk {W w : World} {a : Act} {σ : AS} {ι : Emb} {R : Nat → Prop} (h : St.Of A W w a σ ι R) {t : Nat} (u : Value) (ht : t < σ.n) (hj : σ.slots t = .junk) : St.Of A W w (a.put (some t) u) σ ι R := by
  have := h.put (dst := some t) (v := .junk) (u := u) (by rintro d ⟨⟩; exact ht) (by simp only [RelA])
  have e : putS σ.slots (some t) .junk = σ.slots := by
    funext k
    simp only [putS, upd]
    split
    · rename_i hk; rw [hk, hj]
    · rfl
  rw [e] at this
  exact this

/-- A block of nobody's is laid. -/
theorem St.Of.allocFree {W w : World} {a : Act} {σ : AS} {ι : Emb} {R : Nat → Prop} (h : St.Of A W w a σ ι R) (o : Obj) : St.Of A W (w.alloc o) a σ ι R ∧ Free σ ι R (w.alloc o) w.heap.size := by
  have hR : ∀ k, R k → (w.alloc o).heap[k]? = w.heap[k]? := fun k hk => heap_alloc_old w o (h.lt k hk)
  have hz : (w.alloc o).heap.size = w.heap.size + 1 := by show (w.heap.push o).size = _; simp
  have hn : ∀ id b c, σ.heap id = some b → ι id ≠ some (some (w.heap.size, c)) := fun id b c hb hi => Nat.lt_irrefl _ ((h.heap id b hb).lt hi)
  refine ⟨{ h with below := h.below.trans ⟨rfl, rfl, rfl, by rw [hz]; omega, fun k hk _ => heap_alloc_old w o (Nat.lt_of_lt_of_le hk h.below.size)⟩, slots := fun t => RelA.mono (fun _ _ e => e) (fun _ e => e) hR _ _ (h.slots t), heap := fun id b hb => ?_, lt := fun k hk => by rw [hz]; exact Nat.lt_succ_of_lt (h.lt k hk) }, ⟨by rw [hz]; omega, hn, fun hk => Nat.lt_irrefl _ (h.lt _ hk)⟩⟩
  exact (h.heap id b hb).mono (fun _ _ e => e) (fun _ e => e) hR fun g c hi => heap_alloc_old w o ((h.heap id b hb).lt hi)

structure Rng where
  x : Operand
  t1 : Nat
  d : Nat
  nd : Nat
  xd : Nat
  ed : Nat
  b : Nat
  c : Nat
  t : TypeId
  all : Array Oper
  rest : List Oper
  body : Code
  k : List Fr

/-- A loop over a map, taken apart. -/
def rngOf (T : Tab) (l : Lf) : Option Rng :=
  match l.k, l.e with
  | .code (.seq (.region _ ⟨[⟨some t1, .move x, _, _, _, none⟩, ⟨some d, .range t (.tmp u1), _, _, _, none⟩]⟩ false) (.block b (.loop (.seq (.region _ ⟨[⟨some nd, .next (.tmp u2) false, _, _, _, none⟩, ⟨some xd, .extract (.tmp u3) 0, _, _, _, none⟩]⟩ false) (.seq (.cond (.tmp u4) .skip (.exit b')) (.block c (.seq (.region _ ⟨⟨some ed, .entry (.tmp u5), p1, p2, p3, none⟩ :: rest⟩ false) body))))))) :: r, .normal =>
    match T t with
    | some { under := .map _ _, .. } => bif Nat.beq u1 t1 && (Nat.beq u2 d && (Nat.beq u3 nd && (Nat.beq u4 xd && (Nat.beq u5 d && Nat.beq b' b)))) then some ⟨x, t1, d, nd, xd, ed, b, c, t, ⟨⟨some ed, .entry (.tmp u5), p1, p2, p3, none⟩ :: rest⟩, rest, body, r⟩ else none
    | _ => none
  | _, _ => none

noncomputable def Lf.rng (T : Tab) (l : Lf) : Rng := (rngOf T l).getD ⟨.tmp 0, 0, 0, 0, 0, 0, 0, 0, 0, #[], [], .skip, []⟩

def slotsAre (σ : AS) (v : AV) : List Nat → Prop
  | [] => True
  | t :: ts => σ.slots t = v ∧ slotsAre σ v ts

theorem slotsAre_get {σ : AS} {v : AV} : ∀ {l : List Nat}, slotsAre σ v l → ∀ t ∈ l, σ.slots t = v
  | x :: l, h, t, ht => by
    rcases List.mem_cons.1 ht with rfl | ht
    · exact h.1
    · exact slotsAre_get h.2 t ht

/-- The numbers of the slots, and the map. -/
noncomputable def rngV (T : Tab) (l : Lf) : Option (Nat × Nat × Nat × Nat × Nat × Nat) :=
  match rngOf T l with
  | some g => match l.σ.ev g.x with
    | .map mid => some (g.t1, g.d, g.nd, g.xd, g.ed, mid)
    | _ => none
  | none => none

/-- The state at the loop's beginning. -/
def rngIn (σ : AS) (t1 d mid gm it : Nat) (ms : List Nat) : AS :=
  outM ms gm mid ((σ.put (some t1) (.map mid)).put (some d) (.raw (.pointer (some ⟨it, 0, none⟩))))

/-- What is told of an entry: the j-th. -/
def EntOk {α : Type} (E : Elem α) (p : Int × α) (e : MapEntry) : Prop := e.key = .int .i64 p.1 ∧ E.cf p.2 0 = .raw e.val

theorem mapEnts {E : Elem α} (hraw : E.Raw) {ι : Emb} {R : Nat → Prop} {w : World} : ∀ {m : List (Int × α)} {es : List MapEntry}, es.map (·.key) = mK m → RelL ι R w (E.mX m) (es.map (·.val)) →
    es.length = m.length ∧ ∀ (j : Nat) (p : Int × α) (e : MapEntry), m[j]? = some p → es[j]? = some e → EntOk E p e
  | [], [], _, _ => ⟨rfl, fun j p e h => by simp at h⟩
  | [], e :: es, hk, _ => by simp [mK] at hk
  | p :: m, [], hk, _ => by simp [mK] at hk
  | p :: m, e :: es, hk, hv => by
    simp only [mK, List.map_cons, List.cons.injEq] at hk
    simp only [Elem.mX, List.map_cons, RelL, RelA] at hv
    obtain ⟨h1, h2⟩ := mapEnts hraw (m := m) (es := es) hk.2 hv.2
    refine ⟨by simp [h1], fun j q x hq hx => ?_⟩
    cases j with
    | zero =>
      simp at hq hx
      subst hq hx
      refine ⟨hk.1, ?_⟩
      obtain ⟨v, hc⟩ := hraw p.2 0
      have := hv.1
      rw [hc] at this ⊢
      simp only [RelP] at this
      rw [this]
    | succ j => exact h2 j q x (by simpa using hq) (by simpa using hx)

theorem rngOf_ok {l : Lf} {g : Rng} (h : rngOf T l = some g) : ∃ i1 i2 i3 ty1 p1 q1 ty2 p2 q2 ty3 p3 q3 ty4 p4 q4 ty5 p5 q5 kt et, l.e = .normal ∧ (∃ ti, T g.t = some ti ∧ ti.under = .map kt et) ∧
    g.all = ⟨⟨some g.ed, .entry (.tmp g.d), ty5, p5, q5, none⟩ :: g.rest⟩ ∧
    l.k = .code (.seq (.region i1 ⟨[⟨some g.t1, .move g.x, ty1, p1, q1, none⟩, ⟨some g.d, .range g.t (.tmp g.t1), ty2, p2, q2, none⟩]⟩ false) (.block g.b (.loop (.seq (.region i2 ⟨[⟨some g.nd, .next (.tmp g.d) false, ty3, p3, q3, none⟩, ⟨some g.xd, .extract (.tmp g.nd) 0, ty4, p4, q4, none⟩]⟩ false) (.seq (.cond (.tmp g.xd) .skip (.exit g.b)) (.block g.c (.seq (.region i3 g.all false) g.body))))))) :: g.k := by
  unfold rngOf at h
  split at h
  · rename_i hk he
    split at h
    · rename_i kt et sz bt z cmp ht
      revert h
      generalize hb : (Nat.beq _ _ && _) = bb
      cases bb with
      | false => intro h; cases h
      | true =>
        intro h
        simp only [Bool.and_eq_true] at hb
        obtain ⟨h1, h2, h3, h4, h5, h6⟩ := hb
        have e1 := Nat.eq_of_beq_eq_true h1
        have e2 := Nat.eq_of_beq_eq_true h2
        have e3 := Nat.eq_of_beq_eq_true h3
        have e4 := Nat.eq_of_beq_eq_true h4
        have e5 := Nat.eq_of_beq_eq_true h5
        have e6 := Nat.eq_of_beq_eq_true h6
        subst e1 e2 e3 e4 e5 e6
        simp only [cond_true, Option.some.injEq] at h
        subst h
        exact ⟨_, _, _, _, _, _, _, _, _, _, _, _, _, _, _, _, _, _, kt, et, he, ⟨_, ht, rfl⟩, rfl, hk⟩
    · cases h
  · cases h

theorem mX_rel {E : Elem α} {ι : Emb} {R : Nat → Prop} {w : World} {m : List (Int × α)} {es : List MapEntry} (hlen : es.length = m.length) (hent : ∀ (j : Nat) (p : Int × α) (e : MapEntry), m[j]? = some p → es[j]? = some e → EntOk E p e) :
    RelL ι R w (E.mX m) (es.map (·.val)) := by
  refine RelL.of_get (by simp [Elem.mX, hlen]) fun j x u hx hu => ?_
  simp only [Elem.mX, List.getElem?_map, Option.map_eq_some_iff] at hx hu
  obtain ⟨p, hp, rfl⟩ := hx
  obtain ⟨e, he, rfl⟩ := hu
  have := (hent j p e hp he).2
  simp only [RelA, this, RelP]

theorem Sub.adv {W w : World} {a : Act} {σ τ : AS} {ι : Emb} {R : Nat → Prop} (hs : Sub σ τ) (h : St.Of A W w a σ ι R) : ∃ ι2 R2, St.Of A W w a τ ι2 R2 ∧ ∀ g, Free σ ι R w g → Free τ ι2 R2 w g := by
  obtain ⟨ρ, F, hs⟩ := hs
  obtain ⟨ι2, R2, h2, _⟩ := hs.sound h.here
  exact ⟨ι2, R2, h.back h2, fun g hg => (hg.adv h2).1⟩

theorem leftOf_mem {es : Array MapEntry} {seen : Array Nat} {e : MapEntry} (h : e ∈ (leftOf es seen).toList) : e ∈ es.toList ∧ seen.contains e.born = false := by
  unfold leftOf at h
  simpa using h

theorem leftOf_none {es : Array MapEntry} {seen : Array Nat} (h : (leftOf es seen).size = 0) {e : MapEntry} (he : e ∈ es.toList) : seen.contains e.born = true := by
  cases hc : seen.contains e.born with
  | true => rfl
  | false =>
    have : e ∈ (leftOf es seen).toList := by unfold leftOf; simpa using ⟨by simpa using he, by simpa using hc⟩
    rw [List.eq_nil_of_length_eq_zero (l := (leftOf es seen).toList) (by simpa using h)] at this
    simp at this

theorem leftOf_push_lt {es : Array MapEntry} {seen : Array Nat} {e : MapEntry} (h : e ∈ (leftOf es seen).toList) : (leftOf es (seen.push e.born)).size < (leftOf es seen).size := by
  obtain ⟨h1, h2⟩ := leftOf_mem h
  have := filter_lt (fun x : MapEntry => !seen.contains x.born) (fun x => !(seen.push e.born).contains x.born) (fun x hx => by
    simp only [Bool.not_eq_true', Array.contains_push, Bool.or_eq_false_iff] at hx ⊢
    exact hx.1) e (by simpa using h2) (by simp) es.toList h1
  unfold leftOf
  simpa [← Array.length_toList] using this

theorem leftOf_self (es : Array MapEntry) : (leftOf es #[]).size = es.size := by unfold leftOf; simp

/-- A loop over a map that only looks: each entry on its own; then the rest. -/
theorem rng_ok (hT : TabOk P T) {Q : Exit → AS → Prop} {l : Lf} {t1 d nd xd ed mid : Nat} (hv : rngV T l = some (t1, d, nd, xd, ed, mid)) (E : Elem α) (hraw : E.Raw) (m : List (Int × α)) (c : Int × α → Bool)
    (hm : l.σ.heap mid = some (.map (mK m) (E.mX m))) (ms ms2 : List Nat) (hms : slotsAre ((l.σ.put (some t1) (.map mid)).put (some d) .junk) (.map mid) ms) (hb : (Nat.blt t1 l.σ.n && (Nat.blt d l.σ.n && !(ms.contains d))) = true)
    (τ : Nat → Nat → AS) (hin : ∀ gm it, Sub (rngIn l.σ t1 d mid gm it ms) (τ gm it))
    (hτ : ∀ gm it, (Nat.blt nd (τ gm it).n && (Nat.blt xd (τ gm it).n && Nat.blt ed (τ gm it).n)) = true ∧ (τ gm it).slots d = .raw (.pointer (some ⟨it, 0, none⟩)) ∧ (τ gm it).slots nd = .junk ∧ (τ gm it).slots xd = .junk ∧ slotsAre (τ gm it) (.raw (.map (some gm))) ms2)
    (body : ∀ p ∈ m, ∀ gm it, ∀ pk : AS → Prop, (∀ σ', c p = false → Sub σ' (τ gm it) → pk σ') →
      VS P T Q (.ops (l.rng T).all (l.rng T).rest :: .code (l.rng T).body :: .blk (l.rng T).c :: .back pk :: .blk (l.rng T).b :: (l.rng T).k) .normal ((τ gm it).put (some ed) (.tup [.raw (.int .i64 p.1), .pv (E.cf p.2 0)])))
    (f : Nat) (hf : ∀ gm it, (τ gm it).seen f = false) (σR : AS) (hout : ∀ gm it, Sub (inM ms2 f (.map (mK m) (E.mX m)) (τ gm it)) σR)
    (rest : (∀ p ∈ m, c p = false) → VS P T Q (l.rng T).k .normal σR) : V P T Q l := by
  unfold rngV at hv
  split at hv
  case h_2 => cases hv
  rename_i g hg
  split at hv
  case h_2 => cases hv
  rename_i mid' hx
  simp only [Option.some.injEq, Prod.mk.injEq] at hv
  obtain ⟨rfl, rfl, rfl, rfl, rfl, rfl⟩ := hv
  have hrng : l.rng T = g := by unfold Lf.rng; rw [hg]; rfl
  rw [hrng] at body rest
  obtain ⟨i1, i2, i3, ty1, p1, q1, ty2, p2, q2, ty3, p3, q3, ty4, p4, q4, ty5, p5, q5, kt, et, he, ⟨ti, hti, hu⟩, hall, hk⟩ := rngOf_ok hg
  have hut : P.underlying g.t = some (.map kt et) := by rw [(hT _ _ hti).1, hu]
  obtain ⟨σ, k, e⟩ := l
  simp only at hx hm hms hb hin he hk
  subst he hk
  simp only [Bool.and_eq_true, Bool.not_eq_true'] at hb
  obtain ⟨hb1, hb2, hb3⟩ := hb
  have hlt1 : g.t1 < σ.n := Nat.le_of_ble_eq_true hb1
  have hltd : g.d < σ.n := Nat.le_of_ble_eq_true hb2
  show AWp P _ (VS P T Q g.k) σ
  intro A hA W a w ⟨ι, R, h⟩
  obtain ⟨gm, cp, es, ck, hi, hh, hkeys, hvals, hones, hborn⟩ := h.heap _ _ hm
  have hex : a.eval g.x = .map (some gm) := by
    have := h.ev g.x
    rw [hx] at this
    simp only [RelA] at this
    obtain ⟨g', c', h1, h2⟩ := this
    rw [hi] at h1
    obtain ⟨rfl, rfl⟩ : gm = g' ∧ cp = c' := by simpa using h1
    exact h2
  obtain ⟨hlen, hent⟩ := mapEnts hraw hkeys hvals
  -- the two operations ahead of the loop
  refine wp_seq (wp_region ?_)
  show wpOps P _ _ [0, 1] a w
  refine wpOps_step (o := ⟨some g.t1, .move g.x, ty1, p1, q1, none⟩) rfl rfl (exec_move rfl a w) ?_
  rw [hex]
  have h1 := h.put (dst := some g.t1) (v := .map mid') (u := .map (some gm)) (by rintro _ ⟨⟩; exact hlt1) (by simp only [RelA]; exact ⟨gm, cp, hi, rfl⟩)
  have hsz : a.tmps.size = σ.n := h.size
  have ht1 : (a.put (some g.t1) (.map (some gm))).eval (.tmp g.t1) = .map (some gm) := by
    simp [Act.eval, Act.put, Array.getD_eq_getD_getElem?, Array.getElem?_setIfInBounds, hsz, hlt1]
  refine wpOps_step (o := ⟨some g.d, .range g.t (.tmp g.t1), ty2, p2, q2, none⟩) rfl rfl (exec_v (m := Instr.range g.t (.map (some gm))) (by simp only [execOp]; rw [ht1]) (run_range_map w g.t kt et gm es ck hut hh)) ?_
  obtain ⟨h2, hfree⟩ := h1.allocFree (.mapIter (some gm) ck #[] ck)
  have h3 := h2.put (dst := some g.d) (v := .raw (.pointer (some ⟨w.heap.size, 0, none⟩))) (u := .pointer (some ⟨w.heap.size, 0, none⟩)) (by rintro _ ⟨⟩; exact hltd) (by simp only [RelA, RelP])
  obtain ⟨it, hit⟩ : ∃ it, it = w.heap.size := ⟨_, rfl⟩
  rw [← hit] at h3 hfree ⊢
  -- the map taken out
  have hmsE : ∀ t ∈ ms, ((σ.put (some g.t1) (.map mid')).put (some g.d) (.raw (.pointer (some ⟨it, 0, none⟩)))).slots t = .map mid' := by
    intro t ht
    have := slotsAre_get hms t ht
    simp only [AS.put, putS, upd] at this ⊢
    split at this
    · cases this
    · rename_i htd; rw [if_neg htd]; exact this
  have h4 : St.Of A W _ _ (rngIn σ g.t1 g.d mid' gm it ms) ι R := St.Of.outM h3 hi hmsE
  have hkey : ∀ {i b}, (rngIn σ g.t1 g.d mid' gm it ms).heap i = some b → i ≠ mid' ∧ σ.heap i = some b := by
    intro i b hb
    simp only [rngIn, Go.Ab.outM] at hb
    split at hb
    · cases hb
    · rename_i hne
      exact ⟨fun e => hne (by rw [e]; simp), hb⟩
  have hgmlt : gm < w.heap.size := (h.heap _ _ hm).lt hi
  have hF1 : Free (rngIn σ g.t1 g.d mid' gm it ms) ι R (w.alloc (.mapIter (some gm) ck #[] ck)) gm := by
    refine ⟨by show gm < (w.heap.push _).size; simp; omega, fun id b c hb hι => ?_, h.out _ _ _ _ hm hi⟩
    obtain ⟨hne, hb'⟩ := hkey hb
    exact hne (h.inj _ _ _ _ _ _ _ hb' hm hι hi)
  have hF2 : Free (rngIn σ g.t1 g.d mid' gm it ms) ι R (w.alloc (.mapIter (some gm) ck #[] ck)) it := ⟨hfree.lt, fun id b c hb => hfree.ne id b c (hkey hb).2, hfree.out⟩
  obtain ⟨ι2, R2, h5, hF⟩ := (hin gm it).adv h4
  have hitW : W.heap.size ≤ it := by rw [hit]; exact h.below.size
  have hne : it ≠ gm := by omega
  have hgmW : W.heap.size ≤ gm ∨ A.B gm := h.new _ _ _ _ hm hi
  have hgm2 : (w.alloc (.mapIter (some gm) ck #[] ck)).heap[gm]? = some (.map es ck) := by rw [heap_alloc_old w _ hgmlt, hh]
  have hit2 : (w.alloc (.mapIter (some gm) ck #[] ck)).heap[it]? = some (.mapIter (some gm) ck #[] ck) := by rw [hit]; exact heap_alloc_new w _
  clear h1 h2 h3 h4 hfree ht1
  revert h5
  generalize hw2 : w.alloc (.mapIter (some gm) ck #[] ck) = w2 at *
  generalize ha2 : Act.put (Act.put a (some g.t1) (.map (some gm))) (some g.d) (.pointer (some ⟨it, 0, none⟩)) = a2 at *
  intro h5
  show (Code.block g.b _).wp P _ a2 w2
  refine wp_block ?_
  obtain ⟨hτ1, hτd, hτn, hτx, hτm⟩ := hτ gm it
  simp only [Bool.and_eq_true] at hτ1
  have hltn : g.nd < (τ gm it).n := Nat.le_of_ble_eq_true hτ1.1
  have hltx : g.xd < (τ gm it).n := Nat.le_of_ble_eq_true hτ1.2.1
  have hlte : g.ed < (τ gm it).n := Nat.le_of_ble_eq_true hτ1.2.2
  refine wp_loop_ghost (fun n a w => ∃ ι R seen c0, St.Of A W w a (τ gm it) ι R ∧ Free (τ gm it) ι R w gm ∧ Free (τ gm it) ι R w it ∧ w.heap[gm]? = some (.map es ck) ∧ w.heap[it]? = some (.mapIter (some gm) ck seen c0) ∧ ck ≤ c0 ∧
    (∀ (j : Nat) (p : Int × α) (e : MapEntry), m[j]? = some p → es.toList[j]? = some e → seen.contains e.born = true → c p = false) ∧ (leftOf es seen).size = n) es.size
    ⟨ι2, R2, #[], ck, h5, hF _ hF1, hF _ hF2, hgm2, hit2, Nat.le_refl _, fun j p e _ _ hs => by simp at hs, leftOf_self es⟩ ?_
  clear h5 hF hF1 hF2 hgm2 hit2 hw2 ha2
  rintro n a w ⟨ι, R, seen, c0, h, hFm, hFi, hgm, hit', hsc, hseen, rfl⟩
  have hed : a.eval (.tmp g.d) = .pointer (some ⟨it, 0, none⟩) := by
    have := h.slots g.d
    rw [hτd] at this
    exact raw_inv this
  have hsz : a.tmps.size = (τ gm it).n := h.size
  have hget : ∀ (a : Act) (u : Value) (t : Nat), a.tmps.size = (τ gm it).n → t < (τ gm it).n → (a.put (some t) u).eval (.tmp t) = u := by
    intro a u t hs ht
    simp [Act.eval, Act.put, Array.getD_eq_getD_getElem?, Array.getElem?_setIfInBounds, hs, ht]
  refine wp_seq (wp_region ?_)
  show wpOps P _ _ [0, 1] a w
  rcases run_next_at (P := P) w ty3 it gm ck c0 seen es ck hit' hgm hborn.1 hsc with ⟨h0, hrun⟩ | ⟨e, he, w1, hw1, hrun⟩
  · refine wpOps_step (o := ⟨some g.nd, .next (.tmp g.d) false, ty3, p3, q3, none⟩) rfl rfl (exec_v (m := Instr.next (.pointer (some ⟨it, 0, none⟩)) false ty3) (by simp only [execOp]; rw [hed]) hrun) ?_
    have k1 := h.put_junk (.tuple #[.bool false]) hltn hτn
    refine wpOps_step (o := ⟨some g.xd, .extract (.tmp g.nd) 0, ty4, p4, q4, none⟩) rfl rfl (exec_v (m := Instr.extract (.tuple #[.bool false]) 0) (by simp only [execOp]; rw [hget a _ g.nd hsz hltn]) (u := .bool false) (by rfl)) ?_
    have k2 := k1.put_junk (.bool false) hltx hτx
    show (Code.seq _ _).wp P _ _ w
    refine wp_seq (wp_cond_false (hget _ _ _ k1.size hltx) (wp_exit ?_))
    simp only [Exit.then, Exit.inBlock, if_true]
    have hall' : ∀ p ∈ m, c p = false := by
      intro p hp
      obtain ⟨j, hj, rfl⟩ := List.getElem_of_mem hp
      have hj' : j < es.toList.length := by rw [hlen]; exact hj
      exact hseen j _ es.toList[j] (List.getElem?_eq_getElem hj) (List.getElem?_eq_getElem hj') (leftOf_none h0 (List.getElem_mem hj'))
    have k3 := k2.inM (ms := ms2) (f := f) (gm := gm) (c := cp) (b := .map (mK m) (E.mX m)) (hf gm it) (fun t ht => slotsAre_get hτm t ht)
      ⟨gm, cp, es, ck, by simp [upd], hgm, hkeys, mX_rel hlen hent, hones, hborn⟩ hFm.ne hgmW hFm.out
    obtain ⟨ι3, R3, k4, _⟩ := (hout gm it).adv k3
    exact ⟨σR, ⟨ι3, R3, k4⟩, rest hall'⟩
  · obtain ⟨he1, he2⟩ := leftOf_mem he
    obtain ⟨j0, hj0, hje⟩ := List.getElem_of_mem he1
    have hjm : j0 < m.length := by rw [← hlen]; exact hj0
    obtain ⟨p, hpm⟩ : ∃ p, m[j0]? = some p := ⟨_, List.getElem?_eq_getElem hjm⟩
    have hje' : es.toList[j0]? = some e := by rw [List.getElem?_eq_getElem hj0, hje]
    have hpin : p ∈ m := List.mem_of_getElem? hpm
    obtain ⟨hek, hev⟩ := hent j0 p e hpm hje'
    obtain ⟨w3, hw3⟩ : ∃ w3, w3 = Go.ChangeMaps.setBlock w1 it (.mapIter (some gm) ck (seen.push e.born) ck) := ⟨_, rfl⟩
    rw [← hw3] at hrun
    have hz1 : w1.heap = w.heap := by rcases hw1 with rfl | rfl <;> rfl
    have hh3 : w3.heap = w.heap.setIfInBounds it (.mapIter (some gm) ck (seen.push e.born) ck) := by rw [hw3]; show w1.heap.setIfInBounds _ _ = _; rw [hz1]
    have hz3 : w3.heap.size = w.heap.size := by rw [hh3]; simp
    have hh3' : ∀ k, k ≠ it → w3.heap[k]? = w.heap[k]? := by
      intro k hk
      rw [hh3, Array.getElem?_setIfInBounds, if_neg (Ne.symm hk)]
    have hit3 : w3.heap[it]? = some (.mapIter (some gm) ck (seen.push e.born) ck) := by
      rw [hh3, Array.getElem?_setIfInBounds, if_pos rfl, if_pos hFi.lt]
    have hgm3 : w3.heap[gm]? = some (.map es ck) := by rw [hh3' gm (Ne.symm hne)]; exact hgm
    obtain ⟨k0, hFi3⟩ := h.setFree (w' := w3) hFi hitW (by rw [hw3]; rcases hw1 with rfl | rfl <;> rfl) (by rw [hw3]; rcases hw1 with rfl | rfl <;> rfl) (by rw [hw3]; rcases hw1 with rfl | rfl <;> rfl) hz3 hh3'
    have hFm3 : Free (τ gm it) ι R w3 gm := ⟨by rw [hz3]; exact hFm.lt, hFm.ne, hFm.out⟩
    refine wpOps_step (o := ⟨some g.nd, .next (.tmp g.d) false, ty3, p3, q3, none⟩) rfl rfl (exec_v (m := Instr.next (.pointer (some ⟨it, 0, none⟩)) false ty3) (by simp only [execOp]; rw [hed]) hrun) ?_
    have k1 := k0.put_junk (.tuple #[.bool true, e.key, e.val]) hltn hτn
    refine wpOps_step (o := ⟨some g.xd, .extract (.tmp g.nd) 0, ty4, p4, q4, none⟩) rfl rfl (exec_v (m := Instr.extract (.tuple #[.bool true, e.key, e.val]) 0) (by simp only [execOp]; rw [hget a _ g.nd hsz hltn]) (u := .bool true) (by rfl)) ?_
    have k2 := k1.put_junk (.bool true) hltx hτx
    show (Code.seq _ _).wp P _ _ w3
    refine wp_seq (wp_cond_true (hget _ _ _ k1.size hltx) (wp_skip ?_))
    generalize ha3 : Act.put (Act.put a (some g.nd) (.tuple #[.bool true, e.key, e.val])) (some g.xd) (.bool true) = a3 at k2
    show (Code.block g.c _).wp P _ a3 w3
    refine wp_block (wp_seq (wp_region ?_))
    have hed3 : a3.eval (.tmp g.d) = .pointer (some ⟨it, 0, none⟩) := by
      have := k2.slots g.d
      rw [hτd] at this
      exact raw_inv this
    have hrange : List.range g.all.size = 0 :: (List.range g.rest.length).map Nat.succ := by
      rw [hall]
      simp [List.range_succ_eq_map]
    rw [hrange]
    refine wpOps_step (o := ⟨some g.ed, .entry (.tmp g.d), ty5, p5, q5, none⟩) (by rw [hall]; rfl) rfl (exec_v (m := Instr.entry (.pointer (some ⟨it, 0, none⟩))) (by simp only [execOp]; rw [hed3]) (run_entry_at w3 it gm ck seen es ck e hit3 hgm3 he1 hborn.2)) ?_
    have k3 := k2.put (dst := some g.ed) (v := .tup [.raw (.int .i64 p.1), .pv (E.cf p.2 0)]) (u := .tuple #[e.key, e.val]) (by rintro _ ⟨⟩; exact hlte)
      (by simp only [RelA]; exact ⟨_, rfl, by simp only [RelL, RelA, hev, RelP, hek, and_self]⟩)
    have hFm4 : Free ((τ gm it).put (some g.ed) (.tup [.raw (.int .i64 p.1), .pv (E.cf p.2 0)])) ι R w3 gm := ⟨hFm3.lt, hFm3.ne, hFm3.out⟩
    have hFi4 : Free ((τ gm it).put (some g.ed) (.tup [.raw (.int .i64 p.1), .pv (E.cf p.2 0)])) ι R w3 it := ⟨hFi3.lt, hFi3.ne, hFi3.out⟩
    have hbody := body p hpin gm it (fun σ' => c p = false ∧ Sub σ' (τ gm it)) (fun σ' h1 h2 => ⟨h1, h2⟩)
    obtain ⟨σ', hch, hvs⟩ := sxOps_sound (P := P) (T := T) (ops := g.all) ((List.range g.rest.length).map Nat.succ) g.rest (by simp) (fun i k' o e1 e2 => by
      rw [List.getElem?_map] at e1
      obtain ⟨i', hi', rfl⟩ := Option.map_eq_some_iff.1 e1
      obtain ⟨hil, hie⟩ := List.getElem?_eq_some_iff.1 hi'
      simp at hie
      subst hie
      rw [hall]
      simpa using e2) hbody
    haveI : OfP (A.here ((τ gm it).put (some g.ed) (.tup [.raw (.int .i64 p.1), .pv (E.cf p.2 0)])) ι R) P := ⟨hA.tabs⟩
    have kH : St.Of A W w3 (a3.put (some g.ed) (.tuple #[e.key, e.val])) ((τ gm it).put (some g.ed) (.tup [.raw (.int .i64 p.1), .pv (E.cf p.2 0)])) ι R := k3
    refine region_text (id := i3) (A := A.here ((τ gm it).put (some g.ed) (.tup [.raw (.int .i64 p.1), .pv (E.cf p.2 0)])) ι R) (W := w3) hT (fun a4 w4 hst4 => ?_) _ ⟨ι, R, kH.here⟩ hch
    show g.body.wp P _ a4 w4
    refine wp_mono (hvs _ w3 a4 w4 hst4) ?_
    rintro e5 a5 w5 ⟨σ5, ⟨ι5, R5, k5⟩, hq⟩
    have hnorm : (c p = false ∧ Sub σ5 (τ gm it)) → ∃ n', n' < (leftOf es seen).size ∧ ∃ ι R seen c0, St.Of A W w5 a5 (τ gm it) ι R ∧ Free (τ gm it) ι R w5 gm ∧ Free (τ gm it) ι R w5 it ∧ w5.heap[gm]? = some (.map es ck) ∧ w5.heap[it]? = some (.mapIter (some gm) ck seen c0) ∧ ck ≤ c0 ∧
        (∀ (j : Nat) (p : Int × α) (e : MapEntry), m[j]? = some p → es.toList[j]? = some e → seen.contains e.born = true → c p = false) ∧ (leftOf es seen).size = n' := by
      rintro ⟨hc, hs⟩
      obtain ⟨fm, em⟩ := hFm4.adv k5
      obtain ⟨fi, ei⟩ := hFi4.adv k5
      obtain ⟨ι6, R6, k6, hF6⟩ := hs.adv k5
      refine ⟨_, leftOf_push_lt he, ι6, R6, seen.push e.born, ck, kH.back k6, hF6 _ fm, hF6 _ fi, em.trans hgm3, ei.trans hit3, Nat.le_refl _, fun j q x hq hx hs => ?_, rfl⟩
      simp only [Array.contains_push, Bool.or_eq_true] at hs
      rcases hs with hs | hs
      · exact hseen j q x hq hx hs
      · have hb : e.born = x.born := by first | exact beq_iff_eq.1 hs | exact (beq_iff_eq.1 hs).symm
        obtain ⟨hjl, hjx⟩ := List.getElem?_eq_some_iff.1 hx
        have hjj : j = j0 := by
          have h1 : (es.toList.map (·.born))[j]'(by simpa using hjl) = (es.toList.map (·.born))[j0]'(by simpa using hj0) := by
            rw [List.getElem_map, List.getElem_map, hjx, hje, hb]
          exact (List.getElem_inj hborn.2).1 h1
        subst hjj
        rw [hpm] at hq
        cases hq
        exact hc
    have hrest : ∀ e', VS P T Q g.k e' σ5 → ∃ σ', St A W w5 a5 σ' ∧ VS P T Q g.k e' σ' := fun e' hv => ⟨σ5, ⟨ι5, R5, kH.back k5⟩, hv⟩
    cases e5 with
    | normal => exact hnorm hq
    | exit id' =>
      simp only [VS, blockQ] at hq
      simp only [Exit.inBlock, Exit.then]
      split
      · rename_i hid
        rw [if_pos hid] at hq
        exact hnorm hq
      · rename_i hid
        rw [if_neg hid] at hq
        simp only [thenA, blockQ] at hq
        split
        · rename_i hid2
          rw [if_pos hid2] at hq
          exact hrest _ hq
        · rename_i hid2
          rw [if_neg hid2] at hq
          exact hrest _ hq
    | _ => exact hrest _ hq

theorem rngL_ {β γ : Type} {m : List β} {c : β → Bool} {x y : Option γ} {r : γ} (h : cond (m.any c) x y = some r) {p : β} (hp : p ∈ m) (hc : c p = true) : x = some r := by
  rw [List.any_eq_true.2 ⟨p, hp, hc⟩] at h; exact h
theorem rngR_ {β γ : Type} {m : List β} {c : β → Bool} {x y : Option γ} {r : γ} (h : cond (m.any c) x y = some r) (hn : ∀ p ∈ m, c p = false) : y = some r := by
  have : m.any c = false := by
    rw [List.any_eq_false]
    intro p hp; rw [hn p hp]; simp
  rw [this] at h; exact h

/-- How many entries a map has, under a guard. -/
def lnG (T : Tab) (l : Lf) : Option (Nat × Bool × List Prop × Nat) :=
  match hardG l with
  | some (d, o, g, ws) => match o.op with
    | .call { callee := .builtin .len, args := args, argTypes := ts } => match isMapT T ts, args.toList with
      | true, [m] => match l.σ.bev m with
        | .map id => some (d, g, ws, id)
        | _ => none
      | _, _ => none
    | _ => none
  | none => none

theorem lnmG_ok {Q : Exit → AS → Prop} {l : Lf} {d id : Nat} {g : Bool} {ws : List Prop} (E : Elem α) {m : List (Int × α)} (hv : lnG T l = some (d, g, ws, id)) (hid : l.σ.heap id = some (.map (mK m) (E.mX m))) (hw : g = true → allP ws)
    (hk : VS P T Q l.rest .normal (l.σ.put (some d) (.gd g (.raw (.int .i64 ((m.length : Nat) : Int)))))) : V P T Q l := by
  unfold lnG at hv
  split at hv
  · rename_i d' o g' ws' hh
    split at hv
    · rename_i args ts hop
      split at hv
      · rename_i x hmt harg
        split at hv
        · rename_i id' hm
          cases hv
          refine hardG_ok (T := T) hh hw (e := ⟨True, .pv (.raw (.int .i64 (((mK m).length : Nat) : Int))), [], []⟩) ?_ (fun _ => trivial) rfl rfl ?_
          · unfold effOf; simp only [hop, hmt, harg, hm, hid]
          · rw [show (mK m).length = m.length by simp [mK]]; exact hk
        · cases hv
      · cases hv
    · cases hv
  · cases hv

end Go.Ab
