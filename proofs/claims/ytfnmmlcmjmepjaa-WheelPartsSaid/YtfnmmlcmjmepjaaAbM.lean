import Derived.Test.YtfnmmlcmjmepjaaAbL
set_option linter.unusedVariables false
set_option linter.unusedSectionVars false
set_option linter.unusedSimpArgs false
namespace Go.Ab
open Go.RowKit
variable {A : Env}
variable {P : Program} {T : Tab} [OfP A P]
mutual
def IdsIn (S : Nat → Prop) : AV → Prop
  | .ptr id _ => S id
  | .pix id _ => S id
  | .row id _ _ _ => S id
  | .map id => S id
  | .agg xs => IdsInL S xs
  | .tup xs => IdsInL S xs
  | .fn _ xs => IdsInL S xs
  | .gd g x => g = true → IdsIn S x
  | .pv _ => True
  | .roat _ _ => True
  | .junk => True
def IdsInL (S : Nat → Prop) : List AV → Prop
  | [] => True
  | x :: xs => IdsIn S x ∧ IdsInL S xs
end
mutual
theorem RelA.ids {ι : Emb} {R : Nat → Prop} {w : World} {S : Nat → Prop} (hS : ∀ id x, ι id = some x → S id) : ∀ (x : AV) (u : Value), RelA ι R w x u → IdsIn S x
  | .pv p, u, h => by simp only [IdsIn]
  | .ptr id off, u, h => by
    simp only [RelA, IdsIn] at h ⊢
    obtain ⟨g, c, hi, _⟩ := h
    exact hS _ _ hi
  | .pix id off, u, h => by
    simp only [RelA, IdsIn] at h ⊢
    obtain ⟨g, c, hi, _⟩ := h
    exact hS _ _ hi
  | .row id s off len, u, h => by
    simp only [RelA, IdsIn] at h ⊢
    rcases h with ⟨hi, _⟩ | ⟨g, c, a, hi, _⟩ <;> exact hS _ _ hi
  | .roat n c, u, h => by simp only [IdsIn]
  | .map id, u, h => by
    simp only [RelA, IdsIn] at h ⊢
    obtain ⟨g, c, hi, _⟩ := h
    exact hS _ _ hi
  | .agg xs, u, h => by
    simp only [RelA, IdsIn] at h ⊢
    obtain ⟨us, _, h⟩ := h
    exact RelL.ids hS xs _ h
  | .tup xs, u, h => by
    simp only [RelA, IdsIn] at h ⊢
    obtain ⟨us, _, h⟩ := h
    exact RelL.ids hS xs _ h
  | .fn f xs, u, h => by
    simp only [RelA, IdsIn] at h ⊢
    obtain ⟨us, _, h⟩ := h
    exact RelL.ids hS xs _ h
  | .gd g x, u, h => by
    simp only [RelA, IdsIn] at h ⊢
    exact fun hg => RelA.ids hS x u (h.1 hg)
  | .junk, u, h => by simp only [IdsIn]
theorem RelL.ids {ι : Emb} {R : Nat → Prop} {w : World} {S : Nat → Prop} (hS : ∀ id x, ι id = some x → S id) : ∀ (xs : List AV) (us : List Value), RelL ι R w xs us → IdsInL S xs
  | [], us, h => by simp only [IdsInL]
  | x :: xs, u :: us, h => by
    simp only [RelL, IdsInL] at h ⊢
    exact ⟨RelA.ids hS x u h.1, RelL.ids hS xs us h.2⟩
  | x :: xs, [], h => by simp [RelL] at h
end
theorem IdsIn.unpix {S : Nat → Prop} {x : AV} (h : IdsIn S x) : IdsIn S x.unpix := by
  cases x <;> first | exact h | (simp only [IdsIn, AV.unpix] at h ⊢; exact h)
theorem IdsInL.mem {S : Nat → Prop} : ∀ {xs : List AV}, IdsInL S xs → ∀ x ∈ xs, IdsIn S x
  | [], _, x, hx => by simp at hx
  | y :: xs, h, x, hx => by
    simp only [IdsInL] at h
    rcases List.mem_cons.1 hx with rfl | hx
    · exact h.1
    · exact h.2.mem x hx
structure Hyg (σ : AS) : Prop where
  slots : ∀ t, IdsIn (fun id => σ.seen id = true) (σ.slots t)
  heap : ∀ id b, σ.heap id = some b → ∀ c ∈ b.all, IdsIn (fun id => σ.seen id = true) c
  dom : ∀ id b, σ.heap id = some b → σ.seen id = true
theorem St.hyg {W w : World} {a : Act} {σ : AS} (h : St A W w a σ) : Hyg σ := by
  obtain ⟨ι, R, h⟩ := h
  refine ⟨fun t => RelA.ids h.seen _ _ (h.slots t), fun id b hb c hc => ?_, fun id b hb => ?_⟩
  case refine_2 =>
    have hbr := h.heap id b hb
    cases b with
    | box cells => obtain ⟨g, k, cur, e, hi, _⟩ := hbr; exact h.seen _ _ hi
    | row e s cells =>
      obtain ⟨n, _, _, _, hbr⟩ := hbr
      rcases hbr with ⟨hi, _⟩ | ⟨g, cap, base0, cur, hi, _⟩ <;> exact h.seen _ _ hi
    | map ks xs => obtain ⟨g, c, es, ck, hi, _⟩ := hbr; exact h.seen _ _ hi
  have hbr := h.heap id b hb
  cases b with
  | box cells =>
    obtain ⟨g, k, cur, e, hi, hh, hr, h1⟩ := hbr
    exact (RelL.ids h.seen _ _ hr).mem c hc
  | row e s cells =>
    obtain ⟨n, hl, hs, hn, hbr⟩ := hbr
    rcases hbr with ⟨hi, rfl⟩ | ⟨g, cap, base0, cur, hi, hh, hz, hcc, hcm, hr, h1⟩
    · have : cells = [] := List.eq_nil_of_length_eq_zero (by simpa using hl)
      subst this
      simp [Blk.all] at hc
    · exact (RelL.ids h.seen _ _ hr).mem c hc
  | map ks xs =>
    obtain ⟨g, c', es, ck, hi, hh, hk, hr, h1⟩ := hbr
    exact (RelL.ids h.seen _ _ hr).mem c hc
def mutOp : Op → Bool
  | .store .. => true
  | .call { callee := .builtin .append, .. } => true
  | .call { callee := .builtin .copy, .. } => true
  | .mapUpdate .. => true
  | .insert .. => true
  | .call { callee := .builtin .delete, .. } => true
  | .call { callee := .builtin .clear, .. } => true
  | .convert s d _ => Nat.beq s d
  | _ => false
def mutF (fz : List Nat) (op : Op) : Bool := mutOp op || isMC fz op
def indep (T : Tab) (fz : List Nat) (ops : Array Oper) (x y : Oper) : Bool :=
  Oper.apart ops x y && (pureOp T x.op || pureOp T y.op || (!mutF fz x.op && !mutF fz y.op))
theorem effOf_pure {ev : Operand → AV} {H H' : Heap} {dst : Option Nat} {op : Op} (h : pureOp T op = true) : effOf T ev H dst op = effOf T ev H' dst op := by
  unfold pureOp at h
  split at h <;> first
    | rfl
    | (rename_i s d x; have hsd : Nat.beq s d = false := by (simpa using h)
       simp only [effOf, hsd]; done)
    | (rename_i ts; have hsd : isMapT T ts = false := by (simpa using h)
       simp only [effOf, hsd]; done)
    | (rename_i ts _; have hsd : isMapT T ts = false := by (simpa using h)
       simp only [effOf, hsd]; done)
    | (cases h; done)
theorem effOf_pure_set {ev : Operand → AV} {H : Heap} {dst : Option Nat} {op : Op} (h : pureOp T op = true) : (effOf T ev H dst op).set = [] ∧ (effOf T ev H dst op).del = [] := by
  have key : ∀ o : Option Out, (match o with | some out => Eff.of out | none => Eff.bad).set = [] ∧ (match o with | some out => Eff.of out | none => Eff.bad).del = [] := by
    intro o; cases o <;> exact ⟨rfl, rfl⟩
  unfold pureOp at h
  split at h <;> first
    | exact key _
    | exact ⟨rfl, rfl⟩
    | (rename_i s d x; have hsd : Nat.beq s d = false := by (simpa using h)
       simp only [effOf, hsd]; exact ⟨trivial, trivial⟩)
    | (rename_i ts; have hsd : isMapT T ts = false := by (simpa using h)
       simp only [effOf, hsd]; exact key _)
    | (rename_i ts _; have hsd : isMapT T ts = false := by (simpa using h)
       simp only [effOf, hsd]; exact key _)
    | (cases h; done)
theorem effOf_del {ev : Operand → AV} {H : Heap} {dst : Option Nat} {op : Op} (h : mutOp op = false) : (effOf T ev H dst op).del = [] := by
  have key : ∀ o : Option Out, (match o with | some out => Eff.of out | none => Eff.bad).del = [] := by
    intro o; cases o <;> rfl
  unfold effOf
  split <;> first
    | rfl
    | (simp [mutOp] at h; done)
    | (have hsd : Nat.beq _ _ = false := h; simp only [hsd]; done)
    | (split <;> first | rfl | (split <;> first | rfl | (split <;> first | rfl | (split <;> first | rfl | (split <;> rfl)))))
theorem effOf_congr {ev ev' : Operand → AV} {H : Heap} {dst : Option Nat} {op : Op} (h : ∀ x ∈ op.operands.toList, ev x = ev' x) : effOf T ev H dst op = effOf T ev' H dst op := by
  have parts : ∀ ps : Array (Nat × Operand), (∀ x ∈ (ps.toList.map (·.2)), ev x = ev' x) → (ps.toList.map fun p => (p.1, ev p.2)) = ps.toList.map fun p => (p.1, ev' p.2) := by
    intro ps hp
    apply List.map_congr_left
    intro p hm
    rw [hp p.2 (List.mem_map.2 ⟨p, hm, rfl⟩)]
  have opt : ∀ o : Option Operand, (∀ x, o = some x → ev x = ev' x) → o.map ev = o.map ev' := by
    intro o ho; cases o with
    | none => rfl
    | some x => simp [ho x rfl]
  cases op with
  | build t ps => simp only [effOf, pureOut]; rw [parts ps (by simpa [Op.operands] using h)]
  | buildSlice t n ps => simp only [effOf]; rw [parts ps (by simpa [Op.operands] using h)]
  | slice t x lo hi mx =>
    simp only [effOf, pureOut]
    rw [h x (by simp [Op.operands]), opt lo (fun y hy => h y (by simp [Op.operands, hy])), opt hi (fun y hy => h y (by simp [Op.operands, hy])), opt mx (fun y hy => h y (by simp [Op.operands, hy]))]
  | makeMap t r => cases r <;> rfl
  | makeFunc fn first caps =>
    cases fn <;> simp only [effOf, pureOut]
    have : caps.toList.map ev = caps.toList.map ev' := List.map_congr_left fun x hx => h x (by simp [Op.operands]; exact .inr (by simpa using hx))
    rw [this]
  | call c =>
    obtain ⟨callee, args, ts⟩ := c
    cases callee with
    | value f => rfl
    | invoke r m => rfl
    | builtin b =>
      have ha : ∀ x ∈ args.toList, ev x = ev' x := fun x hx => h x (by simp only [Op.operands, Call.operands]; simpa using hx)
      obtain ⟨l⟩ := args
      match l, ha with
      | [], ha => cases b <;> rfl
      | [x], ha =>
        have hx : ev x = ev' x := ha x (by simp)
        obtain ⟨tl⟩ := ts
        rcases tl with _ | ⟨t, _ | ⟨t', _ | ⟨t3, tl⟩⟩⟩ <;> cases b <;> first | rfl | (simp only [effOf, pureOut, hx])
      | [x, y], ha =>
        have hx : ev x = ev' x := ha x (by simp)
        have hy : ev y = ev' y := ha y (by simp)
        obtain ⟨tl⟩ := ts
        rcases tl with _ | ⟨t, _ | ⟨t', _ | ⟨t3, tl⟩⟩⟩ <;> cases b <;> first | rfl | (simp only [effOf, pureOut, hx, hy])
      | [x, y, z], ha =>
        have hx : ev x = ev' x := ha x (by simp)
        have hy : ev y = ev' y := ha y (by simp)
        have hz : ev z = ev' z := ha z (by simp)
        cases b <;> first | rfl | (simp only [effOf, pureOut, hx, hy, hz])
      | x :: y :: z :: u :: r, ha => cases b <;> rfl
  | _ =>
    simp only [Op.operands] at h
    first
      | rfl
      | (simp only [effOf, pureOut]; rw [h _ (by simp)]; done)
      | (simp only [effOf, pureOut]; rw [h _ (List.mem_cons_self ..), h _ (List.mem_cons_of_mem _ (List.mem_cons_self ..))]; done)
      | (simp only [effOf]; rw [h _ (List.mem_cons_self ..), h _ (List.mem_cons_of_mem _ (List.mem_cons_self ..)), h _ (List.mem_cons_of_mem _ (List.mem_cons_of_mem _ (List.mem_cons_self ..)))]; done)
end Go.Ab

