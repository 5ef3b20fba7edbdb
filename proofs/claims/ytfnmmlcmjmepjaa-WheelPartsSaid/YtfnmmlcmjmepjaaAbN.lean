import Derived.Test.YtfnmmlcmjmepjaaAbM
set_option linter.unusedVariables false
set_option linter.unusedSectionVars false
set_option linter.unusedSimpArgs false
namespace Go.Ab
open Go.RowKit
variable {A : Env}
variable {P : Program} {T : Tab} [OfP A P]
theorem Wk.heap {ρ : Nat → Option Nat} {D F : Nat → Prop} {H H' : Heap} {x y : AV} (hH : ∀ id b, H id = some b → H' id = some b) (h : Wk ρ D F H x y) : Wk ρ D F H' x y := by
  induction h with
  | pv p => exact .pv p
  | roro s n c c' h ih => exact .roro s n c c' ih
  | roats n n' c c' hn h ih => exact .roats n n' c c' hn ih
  | ptro id off n b cell x hF hHi hx h ih => exact .ptro id off n b cell x hF (hH _ _ hHi) hx ih
  | nil s c => exact .nil s c
  | row id e s off len cells c x hF hHi hx h ih => exact .row id e s off len cells c x hF (hH _ _ hHi) hx ih
  | ptr id id' off hρ hD => exact .ptr id id' off hρ hD
  | pixs id id' off hρ hD => exact .pixs id id' off hρ hD
  | rows id id' s off len hρ hD => exact .rows id id' s off len hρ hD
  | nilrow id s hρ hD => exact .nilrow id s hρ hD
  | agg0 => exact .agg0
  | agg x y xs ys h t ih1 ih2 => exact .agg x y xs ys ih1 ih2
  | tup0 => exact .tup0
  | tup x y xs ys h t ih1 ih2 => exact .tup x y xs ys ih1 ih2
  | fn0 f => exact .fn0 f
  | fn f x y xs ys h t ih1 ih2 => exact .fn f x y xs ys ih1 ih2
  | maps id id' hρ hD => exact .maps id id' hρ hD
  | junk x => exact .junk x
theorem Blk.cells_all (b : Blk) : ∀ c ∈ b.cells, c ∈ b.all := by
  intro c hc
  cases b with
  | map ks xs => simp [Blk.cells] at hc
  | _ => exact hc
theorem Wk.restrict {ρ : Nat → Option Nat} {D F S : Nat → Prop} {H H1 : Heap} {x y : AV} (hH : ∀ id, S id → H1 id = H id) (hc : ∀ id b, H id = some b → ∀ c ∈ b.all, IdsIn S c) (h : Wk ρ D F H1 x y) : IdsIn S x → Wk ρ D F H x y := by
  induction h with
  | pv p => intro _; exact .pv p
  | roro s n c c' h ih => intro _; exact .roro s n c c' fun i hi j hj => ih i hi j hj (by simp only [IdsIn])
  | roats n n' c c' hn h ih => intro _; exact .roats n n' c c' hn fun j hj => ih j hj (by simp only [IdsIn])
  | ptro id off n b cell x hF hHi hx h ih =>
    intro hS
    simp only [IdsIn] at hS
    rw [hH id hS] at hHi
    exact .ptro id off n b cell x hF hHi hx fun j hj => ih j hj (hc id _ hHi _ (b.cells_all _ (List.mem_of_getElem? (hx j hj))))
  | nil s c => intro _; exact .nil s c
  | row id e s off len cells c x hF hHi hx h ih =>
    intro hS
    simp only [IdsIn] at hS
    rw [hH id hS] at hHi
    exact .row id e s off len cells c x hF hHi hx fun i hi j hj => ih i hi j hj (hc id _ hHi _ (List.mem_of_getElem? (hx i hi j hj)))
  | ptr id id' off hρ hD => intro _; exact .ptr id id' off hρ hD
  | pixs id id' off hρ hD => intro _; exact .pixs id id' off hρ hD
  | rows id id' s off len hρ hD => intro _; exact .rows id id' s off len hρ hD
  | nilrow id s hρ hD => intro _; exact .nilrow id s hρ hD
  | agg0 => intro _; exact .agg0
  | agg x y xs ys h t ih1 ih2 => intro hS; simp only [IdsIn, IdsInL] at hS ih2; exact .agg x y xs ys (ih1 hS.1) (ih2 hS.2)
  | tup0 => intro _; exact .tup0
  | tup x y xs ys h t ih1 ih2 => intro hS; simp only [IdsIn, IdsInL] at hS ih2; exact .tup x y xs ys (ih1 hS.1) (ih2 hS.2)
  | fn0 f => intro _; exact .fn0 f
  | fn f x y xs ys h t ih1 ih2 => intro hS; simp only [IdsIn, IdsInL] at hS ih2; exact .fn f x y xs ys (ih1 hS.1) (ih2 hS.2)
  | maps id id' hρ hD => intro _; exact .maps id id' hρ hD
  | junk x => intro _; exact .junk x
theorem WkArgs.heap {H H' : Heap} (hH : ∀ id b, H id = some b → H' id = some b) : ∀ {xs ys : List AV}, WkArgs H xs ys → WkArgs H' xs ys
  | [], [], _ => trivial
  | x :: xs, y :: ys, h => ⟨h.1.heap hH, WkArgs.heap hH h.2⟩
  | [], _ :: _, h => h.elim
  | _ :: _, [], h => h.elim
theorem WkArgs.restrict {S : Nat → Prop} {H H1 : Heap} (hH : ∀ id, S id → H1 id = H id) (hc : ∀ id b, H id = some b → ∀ c ∈ b.all, IdsIn S c) : ∀ {xs ys : List AV}, WkArgs H1 xs ys → (∀ x ∈ xs, IdsIn S x) → WkArgs H xs ys
  | [], [], _, _ => trivial
  | x :: xs, y :: ys, h, hs => ⟨h.1.restrict hH hc (hs x (by simp)), WkArgs.restrict hH hc h.2 fun z hz => hs z (by simp [hz])⟩
  | [], _ :: _, h, _ => h.elim
  | _ :: _, [], h, _ => h.elim
theorem effOf_heap {ev : Operand → AV} {H H' : Heap} {dst : Option Nat} {op : Op} (hm : mutOp op = false) (h : ∀ id, (∃ x ∈ op.operands.toList, (∃ off, (ev x).unpix = .ptr id off) ∨ ev x = .map id) → ∀ b, H id = some b → H' id = some b) (hok : (effOf T ev H dst op).ok) :
    effOf T ev H' dst op = effOf T ev H dst op := by
  cases op with
  | load t x =>
    simp only [effOf] at hok ⊢
    unfold loadAV at hok ⊢
    cases hT : T t with
    | none => rfl
    | some ti =>
      simp only [hT] at hok ⊢
      cases hx : (ev x).unpix with
      | ptr id off =>
        simp only [hx] at hok ⊢
        cases hh : H id with
        | none => simp only [hh] at hok
        | some b => rw [h id ⟨x, by simp [Op.operands], .inl ⟨off, hx⟩⟩ b hh]
      | _ => rfl
  | lookup t m k ck =>
    simp only [effOf] at hok ⊢
    cases hT : T t with
    | none => rfl
    | some ti =>
      obtain ⟨un, sz, by_, ze, cm⟩ := ti
      cases un with
      | map kt et =>
        simp only [hT] at hok ⊢
        split at hok
        · cases hm' : ev m with
          | map id =>
            simp only [hm'] at hok ⊢
            cases hk : ev k with
            | pv p =>
              cases p with
              | raw kv =>
                simp only [hk] at hok ⊢
                cases hh : H id with
                | none => simp only [hh] at hok
                | some b => rw [h id ⟨m, by simp [Op.operands], .inr hm'⟩ b hh]
              | ro s n c => rfl
            | _ => rfl
          | _ => rfl
        · cases hm' : ev m with
          | map id =>
            simp only [hm'] at hok ⊢
            cases hk : ev k with
            | agg cs =>
              simp only [hk] at hok ⊢
              cases hr : rawsOf cs with
              | none => rfl
              | some vs =>
                simp only [hr] at hok ⊢
                cases hh : H id with
                | none => simp only [hh] at hok
                | some b => rw [h id ⟨m, by simp [Op.operands], .inr hm'⟩ b hh]
            | _ => rfl
          | _ => rfl
        · rfl
      | _ => rfl
  | makeMap t r => cases r <;> rfl
  | mapUpdate t m k x => simp [mutOp] at hm
  | insert t m k x => simp [mutOp] at hm
  | convert s d x =>
    have hsd : Nat.beq s d = false := hm
    simp only [effOf, hsd]
  | store t a x => simp [mutOp] at hm
  | call c =>
    obtain ⟨callee, args, ts⟩ := c
    cases callee with
    | builtin b =>
      cases b <;> first
        | rfl
        | (simp [mutOp] at hm; done)
        | (simp only [effOf] at hok ⊢
           cases hmt : isMapT T ts with
           | false => rfl
           | true =>
             obtain ⟨l⟩ := args
             simp only [hmt] at hok ⊢
             cases l with
             | nil => rfl
             | cons m r =>
               cases r with
               | cons _ _ => rfl
               | nil =>
                 cases hm' : ev m with
                 | map id =>
                   simp only [hm'] at hok ⊢
                   cases hh : H id with
                   | none => simp only [hh] at hok
                   | some b => rw [h id ⟨m, by simp [Op.operands, Call.operands], .inr hm'⟩ b hh]
                 | _ => simp only [hm'])
    | _ => rfl
  | _ => rfl
theorem setH_comm {H : Heap} {s1 s2 : List (Nat × Blk)} (h : ∀ x ∈ s1, ∀ y ∈ s2, x.1 ≠ y.1) : setH (setH H s1) s2 = setH (setH H s2) s1 := by
  funext id
  by_cases h1 : ∃ x ∈ s1, x.1 = id <;> by_cases h2 : ∃ x ∈ s2, x.1 = id
  · obtain ⟨x, hx, rfl⟩ := h1
    obtain ⟨y, hy, he⟩ := h2
    exact absurd he.symm (h x hx y hy)
  · have h2' : ∀ x ∈ s2, x.1 ≠ id := fun x hx e => h2 ⟨x, hx, e⟩
    rw [setH_out h2']
    exact setH_in h1
  · have h1' : ∀ x ∈ s1, x.1 ≠ id := fun x hx e => h1 ⟨x, hx, e⟩
    rw [setH_out (set := s1) h1']
    exact setH_in h2
  · have h1' : ∀ x ∈ s1, x.1 ≠ id := fun x hx e => h1 ⟨x, hx, e⟩
    have h2' : ∀ x ∈ s2, x.1 ≠ id := fun x hx e => h2 ⟨x, hx, e⟩
    rw [setH_out h2', setH_out h1', setH_out h1', setH_out h2']
theorem seenS_false {f : Nat → Bool} : ∀ {set : List (Nat × Blk)} {id : Nat}, seenS f set id = false ↔ f id = false ∧ ∀ x ∈ set, x.1 ≠ id
  | [], id => by simp [seenS]
  | (k, b) :: r, id => by
    rw [seenS, seenS_false]
    simp only [upd, List.mem_cons]
    constructor
    · rintro ⟨h1, h2⟩
      split at h1
      · cases h1
      · rename_i hne
        exact ⟨h1, fun x hx => by rcases hx with rfl | hx; exact fun e => hne e.symm; exact h2 x hx⟩
    · rintro ⟨h1, h2⟩
      exact ⟨by rw [if_neg (fun e => h2 (k, b) (.inl rfl) e.symm)]; exact h1, fun x hx => h2 x (.inr hx)⟩
theorem seenS_comm {f : Nat → Bool} {s1 s2 : List (Nat × Blk)} : seenS (seenS f s1) s2 = seenS (seenS f s2) s1 := by
  funext id
  rw [Bool.eq_iff_iff, ← Bool.not_eq_false, ← Bool.not_eq_false, seenS_false, seenS_false, seenS_false, seenS_false]
  constructor <;> (intro h h'; exact h ⟨⟨h'.1.1, h'.2⟩, h'.1.2⟩)
theorem putS_comm {f : Nat → AV} {d e : Option Nat} {v u : AV} (h : ∀ k, d = some k → e ≠ some k) : putS (putS f d v) e u = putS (putS f e u) d v := by
  cases d with
  | none => rfl
  | some k =>
    cases e with
    | none => rfl
    | some l =>
      have hne : k ≠ l := fun e => h k rfl (by rw [e])
      funext t
      simp only [putS, upd]
      by_cases h1 : t = l
      · rw [if_pos h1]
        rw [if_neg (fun e => hne (e.symm.trans h1))]
        try rw [if_pos h1]
      · rw [if_neg h1]
        by_cases h2 : t = k
        · rw [if_pos h2, if_pos h2]
        · rw [if_neg h2, if_neg h2, if_neg h1]
theorem putS_out {f : Nat → AV} {d : Option Nat} {v : AV} {t : Nat} (h : ∀ k, d = some k → k ≠ t) : putS f d v t = f t := by
  cases d with
  | none => rfl
  | some k => simp only [putS, upd]; rw [if_neg (fun e => h k rfl e.symm)]
def Alike (ops : Array Oper) (o : Oper) (σ σ' : AS) : Prop := ∀ t ∈ o.looksAt ops, σ.slots t = σ'.slots t
theorem Alike.ev {ops : Array Oper} {o : Oper} {σ σ' : AS} (h : Alike ops o σ σ') : ∀ x ∈ o.op.operands.toList, σ.ev x = σ'.ev x := by
  intro x hx
  cases x with
  | tmp t =>
    refine h t ?_
    unfold Oper.looksAt
    refine List.mem_append.2 (.inl ?_)
    exact List.mem_filterMap.2 ⟨.tmp t, hx, rfl⟩
  | _ => rfl
theorem Alike.guard {ops : Array Oper} {o : Oper} {σ σ' : AS} (h : Alike ops o σ σ') {g : Bool} (hg : GRel σ ops o g) : GRel σ' ops o g := by
  unfold GRel at hg ⊢
  cases hgd : o.guard with
  | none => rw [hgd] at hg; exact hg
  | some q =>
    obtain ⟨j, want⟩ := q
    rw [hgd] at hg
    simp only at hg ⊢
    cases hd : (ops[j]?).bind (·.dst) with
    | none => rw [hd] at hg; exact hg
    | some d =>
      rw [hd] at hg
      simp only at hg ⊢
      rw [← h d (by unfold Oper.looksAt; rw [hgd]; simp [hd])]
      exact hg
theorem mutF_mut {fz : List Nat} {op : Op} (h : mutF fz op = false) : mutOp op = false := by
  unfold mutF at h
  rw [Bool.or_eq_false_iff] at h
  exact h.1
theorem mutF_mc {fz : List Nat} {op : Op} (h : mutF fz op = false) : isMC fz op = false := by
  unfold mutF at h
  rw [Bool.or_eq_false_iff] at h
  exact h.2
theorem isMC_npure {fz : List Nat} {op : Op} (h : isMC fz op = true) : pureOp T op = false := by
  unfold isMC at h
  split at h
  · rfl
  · rfl
  · cases h
theorem Does.move {ops : Array Oper} {o : Oper} {σ σ' : AS} (hal : Alike ops o σ σ') {v : AV} {set : List (Nat × Blk)} {del : List Nat} (h : Does P T o σ v set del)
    (hfz : σ'.fz = σ.fz) (hseen : isMC σ.fz o.op = true → ∀ id, σ'.seen id = true → σ.seen id = true) (hn : σ'.n = σ.n) (hcase : σ.heap = σ'.heap ∨ pureOp T o.op = true ∨ (mutF σ.fz o.op = false ∧ ((∀ id b, σ.heap id = some b → σ'.heap id = some b) ∨ (Hyg σ' ∧ ∀ id, σ'.seen id = true → σ.heap id = σ'.heap id)))) : Does P T o σ' v set del := by
  have hev := hal.ev
  have hbev : ∀ x ∈ o.op.operands.toList, σ.bev x = σ'.bev x := fun x hx => by unfold AS.bev; rw [hev x hx]
  have hyg : ∀ x ∈ o.op.operands.toList, (σ.ev x).when = true → Hyg σ' → IdsIn (fun id => σ'.seen id = true) (σ.bev x) := by
    intro x hx hw hg
    rw [hev x hx] at hw
    rw [hbev x hx]
    cases x with
    | tmp t =>
      have hs := hg.slots t
      unfold AS.bev
      show IdsIn _ (σ'.slots t).bare
      simp only [AS.ev] at hw
      generalize σ'.slots t = y at hs hw
      cases y <;> first
        | exact hs
        | (simp only [AV.when] at hw; simp only [IdsIn] at hs; exact hs hw)
    | _ => simp [AS.bev, AS.ev, AV.bare, IdsIn, IdsInL]
  unfold Does at h ⊢
  split at h
  · rename_i c a b hop
    have hc := hev c (by simp [hop, Op.operands])
    have ha := hev a (by simp [hop, Op.operands])
    have hb := hev b (by simp [hop, Op.operands])
    rw [hc, ha, hb] at h
    exact h
  · rename_i hnp
    obtain ⟨hw, h⟩ := h
    have hw' : ∀ x ∈ o.op.operands.toList, (σ'.ev x).when = true := fun x hx => by rw [← hev x hx]; exact hw x hx
    refine ⟨hw', ?_⟩
    split at h
    · rename_i f xs hcall
      have hmem : ∀ x, x ∈ o.op.operands.toList ↔ x = f ∨ x ∈ xs := by
        intro x
        unfold callOf at hcall
        split at hcall
        · rename_i hop
          cases hcall
          rw [hop]
          simp [Op.operands, Call.operands]
        · cases hcall
      have hnpure : pureOp T o.op = false := by
        unfold callOf at hcall
        split at hcall
        · rename_i hop; rw [hop]; rfl
        · cases hcall
      have hxs : xs.map σ.bev = xs.map σ'.bev := List.map_congr_left fun x hx => hbev x ((hmem x).2 (.inr hx))
      rw [hfz]
      split at h
      case h_2 hmc =>
        have hheap : σ.heap = σ'.heap := by
          rcases hcase with hc | hc | ⟨hm, _⟩
          · exact hc
          · rw [hnpure] at hc; cases hc
          · unfold mutF at hm; rw [hmc] at hm; simp at hm
        obtain ⟨fn, caps, args, hin, nk, al, res, hout, ρ, F, hf, hargs, hsub, hal, hkept, hnk, hnk', hbk, hp, hf2, he⟩ := h
        refine ⟨fn, caps, args, hin, nk, al, res, hout, ρ, F, by rw [← hbev f ((hmem f).2 (.inl rfl))]; exact hf, by rw [← hxs, ← hheap]; exact hargs, ?_, hal, hkept, hnk, hnk', hbk, hp, ?_, he⟩
        · refine ⟨rfl, fun t => .inl rfl, fun i b hb => ⟨rfl, ?_⟩, fun i hi => absurd hi (Nat.not_lt_zero _), hsub.inj⟩
          have := (hsub.heap i b hb).2
          unfold SubB at this ⊢
          rw [← hheap]
          exact this
        · intro i h1 h2
          have := hf2 i h1 h2
          cases hs : σ'.seen (fid o.dst 0 + i) with
          | false => rfl
          | true => rw [hseen hmc _ hs] at this; cases this
      rename_i hmc
      obtain ⟨fn, caps, args, al, res, hb, hf, hargs, hal', hp, hl, he⟩ := h
      refine ⟨fn, caps, args, al, res, hb, by rw [← hbev f ((hmem f).2 (.inl rfl))]; exact hf, ?_, by rw [← hxs]; exact hal', hp, hl, he⟩
      rw [← hxs]
      rcases hcase with hc | hc | ⟨hm, hc | ⟨hg, hc⟩⟩
      · rw [← hc]; exact hargs
      · rw [hnpure] at hc; cases hc
      · exact hargs.heap hc
      · refine hargs.restrict (S := fun id => σ'.seen id = true) (fun id hs => hc id hs) hg.heap ?_
        intro x hx
        rcases List.mem_append.1 hx with hx | hx
        · obtain ⟨y, hy, rfl⟩ := List.mem_map.1 hx
          exact hyg y ((hmem y).2 (.inr hy)) (hw y ((hmem y).2 (.inr hy))) hg
        · have := hyg f ((hmem f).2 (.inl rfl)) (hw f ((hmem f).2 (.inl rfl))) hg
          rw [hf] at this
          simp only [IdsIn] at this
          exact this.mem x hx
    · have e1 : effOf T σ.bev σ.heap o.dst o.op = effOf T σ'.bev σ.heap o.dst o.op := effOf_congr hbev
      have e2 : effOf T σ'.bev σ.heap o.dst o.op = effOf T σ'.bev σ'.heap o.dst o.op := by
        rcases hcase with hc | hc | ⟨hm, hc | ⟨hg, hc⟩⟩
        · rw [hc]
        · exact effOf_pure hc
        · exact (effOf_heap (mutF_mut hm) (fun id _ b hb => hc id b hb) (by rw [← e1]; exact h.1)).symm
        · refine (effOf_heap (mutF_mut hm) (fun id ⟨x, hx, he⟩ b hb => ?_) (by rw [← e1]; exact h.1)).symm
          rcases he with ⟨off, he⟩ | he
          · have := (hyg x hx (hw x hx) hg).unpix
            rw [hbev x hx, he] at this
            simp only [IdsIn] at this
            rw [← hc id this]; exact hb
          · have := hyg x hx (hw x hx) hg
            rw [hbev x hx, he] at this
            simp only [IdsIn] at this
            rw [← hc id this]; exact hb
      rw [← e2, ← e1]
      exact h
theorem Does.pure_set {o : Oper} {σ : AS} {v : AV} {set : List (Nat × Blk)} {del : List Nat} (hp : pureOp T o.op = true) (h : Does P T o σ v set del) : set = [] ∧ del = [] := by
  unfold Does at h
  split at h
  · exact ⟨h.2.2.2.1, h.2.2.2.2⟩
  · obtain ⟨_, h⟩ := h
    split at h
    · rename_i hcall
      unfold callOf at hcall
      split at hcall
      · rename_i hop; rw [hop] at hp; simp [pureOp] at hp
      · cases hcall
    · have := effOf_pure_set (T := T) (ev := σ.bev) (H := σ.heap) (dst := o.dst) hp
      rw [h.2.2.1, h.2.2.2]; exact this
theorem Does.del {o : Oper} {σ : AS} {v : AV} {set : List (Nat × Blk)} {del : List Nat} (hm : mutF σ.fz o.op = false) (h : Does P T o σ v set del) : del = [] := by
  unfold Does at h
  split at h
  · exact h.2.2.2.2
  · obtain ⟨_, h⟩ := h
    split at h
    · rw [mutF_mc hm] at h
      obtain ⟨_, _, _, _, _, _, _, _, _, _, _, _, _, h⟩ := h; exact h
    · rw [h.2.2.2]; exact effOf_del (mutF_mut hm)
theorem mut_store {op : Op} (h : mutOp op = false) : isStore op = false := by
  unfold isStore
  split <;> first
    | rfl
    | (simp [mutOp] at h; done)
theorem Born.move {ops : Array Oper} {o : Oper} {σ σ' : AS} (hal : Alike ops o σ σ') {v : AV} {set set0 : List (Nat × Blk)} {del : List Nat} (h : Born P T o σ v set set0 del)
    (hfz : σ'.fz = σ.fz) (hseen : isMC σ.fz o.op = true → ∀ id, σ'.seen id = true → σ.seen id = true) (hn : σ'.n = σ.n) (hcase : σ.heap = σ'.heap ∨ pureOp T o.op = true ∨ (mutF σ.fz o.op = false ∧ ((∀ id b, σ.heap id = some b → σ'.heap id = some b) ∨ (Hyg σ' ∧ ∀ id, σ'.seen id = true → σ.heap id = σ'.heap id)))) : Born P T o σ' v set set0 del := by
  obtain ⟨v0, h1, h2⟩ := h
  exact ⟨v0, h1.move hal hfz hseen hn hcase, by rw [hfz]; exact h2⟩
theorem Born.sub {o : Oper} {σ : AS} {v : AV} {set set0 : List (Nat × Blk)} {del : List Nat} (h : Born P T o σ v set set0 del) : ∀ x ∈ set, x ∈ set0 := by
  obtain ⟨v0, h1, ⟨_, rfl⟩ | ⟨_, _, rfl, _⟩⟩ := h
  · exact fun _ h => h
  · simp
theorem Born.pure_set {o : Oper} {σ : AS} {v : AV} {set set0 : List (Nat × Blk)} {del : List Nat} (hp : pureOp T o.op = true) (h : Born P T o σ v set set0 del) : set = [] ∧ set0 = [] ∧ del = [] := by
  obtain ⟨v0, h1, h2⟩ := h
  obtain ⟨e1, e2⟩ := h1.pure_set hp
  refine ⟨?_, e1, e2⟩
  rcases h2 with ⟨_, rfl⟩ | ⟨_, _, rfl, _⟩
  · exact e1
  · rfl
theorem Born.del {o : Oper} {σ : AS} {v : AV} {set set0 : List (Nat × Blk)} {del : List Nat} (hm : mutF σ.fz o.op = false) (h : Born P T o σ v set set0 del) : del = [] := by
  obtain ⟨v0, h1, h2⟩ := h
  exact h1.del hm
theorem commute {σ σ1 σ2 : AS} (hyg : Hyg σ) {ops : Array Oper} {o1 o2 : Oper} (hi : indep T σ.fz ops o1 o2 = true) (h1 : AStep P T ops o1 σ σ1) (h2 : AStep P T ops o2 σ1 σ2) :
    ∃ σ1', AStep P T ops o2 σ σ1' ∧ AStep P T ops o1 σ1' σ2 := by
  obtain ⟨g1, v1, set1, sn1, del1, G1, D1, F1, N1, L1, rfl⟩ := h1
  obtain ⟨g2, v2, set2, sn2, del2, G2, D2, F2, N2, L2, rfl⟩ := h2
  unfold indep at hi
  rw [Bool.and_eq_true] at hi
  obtain ⟨hap, hcl⟩ := hi
  obtain ⟨a1, a2, a3⟩ := Oper.apart_spec hap
  have hal2 : Alike ops o2 { σ with slots := putS σ.slots o1.dst (if o1.guard.isNone then v1 else .gd g1 v1), heap := setH (delH σ.heap del1) set1, seen := seenS σ.seen sn1 } σ := by
    intro t ht
    exact putS_out fun k hk e => a1 k hk (e ▸ ht)
  have hput : putS (putS σ.slots o1.dst (if o1.guard.isNone then v1 else .gd g1 v1)) o2.dst (if o2.guard.isNone then v2 else .gd g2 v2) = putS (putS σ.slots o2.dst (if o2.guard.isNone then v2 else .gd g2 v2)) o1.dst (if o1.guard.isNone then v1 else .gd g1 v1) :=
    putS_comm fun k hk => a2 k hk
  have hal1 : ∀ (H : Heap) (s : Nat → Bool), Alike ops o1 σ { σ with slots := putS σ.slots o2.dst (if o2.guard.isNone then v2 else .gd g2 v2), heap := H, seen := s } := by
    intro H s t ht
    exact (putS_out fun k hk e => a3 k hk (e ▸ ht)).symm
  by_cases hp1 : pureOp T o1.op = true
  · have e1 : set1 = [] ∧ sn1 = [] ∧ del1 = [] := by
      cases g1 with
      | true => exact (D1 rfl).pure_set hp1
      | false => exact ⟨(N1 rfl).1, (N1 rfl).2.2 hp1, (N1 rfl).2.1⟩
    obtain ⟨rfl, rfl, rfl⟩ := e1
    refine ⟨_, ⟨g2, v2, set2, sn2, del2, hal2.guard G2, fun hg => (D2 hg).move hal2 rfl (fun _ _ h => h) rfl (.inl rfl), F2, N2, L2, rfl⟩, ⟨g1, v1, [], [], [], (hal1 _ _).guard G1, fun hg => (D1 hg).move (hal1 _ _) rfl (fun h => by rw [isMC_npure h] at hp1; cases hp1) rfl (.inr (.inl hp1)), by simp, fun _ => ⟨rfl, rfl, fun _ => rfl⟩, L1, ?_⟩⟩
    simp only [setH, delH, seenS, hput]
  · by_cases hp2 : pureOp T o2.op = true
    · have e2 : set2 = [] ∧ sn2 = [] ∧ del2 = [] := by
        cases g2 with
        | true => exact (D2 rfl).pure_set hp2
        | false => exact ⟨(N2 rfl).1, (N2 rfl).2.2 hp2, (N2 rfl).2.1⟩
      obtain ⟨rfl, rfl, rfl⟩ := e2
      refine ⟨_, ⟨g2, v2, [], [], [], hal2.guard G2, fun hg => (D2 hg).move hal2 rfl (fun h => by rw [isMC_npure h] at hp2; cases hp2) rfl (.inr (.inl hp2)), by simp, fun _ => ⟨rfl, rfl, fun _ => rfl⟩, L2, rfl⟩, ⟨g1, v1, set1, sn1, del1, (hal1 _ _).guard G1, fun hg => (D1 hg).move (hal1 _ _) rfl (fun _ _ h => h) rfl (.inl rfl), F1, N1, L1, ?_⟩⟩
      simp only [setH, delH, seenS, hput]
    · have hm : mutF σ.fz o1.op = false ∧ mutF σ.fz o2.op = false := by
        simp only [Bool.or_eq_true, Bool.and_eq_true, Bool.not_eq_true'] at hcl
        rcases hcl with (h | h) | h
        · exact absurd h hp1
        · exact absurd h hp2
        · exact h
      have d1 : del1 = [] := by
        cases g1 with
        | true => exact (D1 rfl).del hm.1
        | false => exact (N1 rfl).2.1
      have d2 : del2 = [] := by
        cases g2 with
        | true => refine Born.del ?_ (D2 rfl); exact hm.2
        | false => exact (N2 rfl).2.1
      subst d1; subst d2
      have f1 := F1 (mut_store (mutF_mut hm.1)) (mutF_mc hm.1)
      have f2 : ∀ x ∈ sn2, seenS σ.seen sn1 x.1 = false := F2 (mut_store (mutF_mut hm.2)) (mutF_mc hm.2)
      have hdis0 : ∀ x ∈ sn1, ∀ y ∈ sn2, x.1 ≠ y.1 := fun x hx y hy => ((seenS_false.1 (f2 y hy)).2 x hx)
      have s1 : ∀ x ∈ set1, x ∈ sn1 := by
        cases g1 with
        | true => exact (D1 rfl).sub
        | false => rw [(N1 rfl).1]; simp
      have s2 : ∀ x ∈ set2, x ∈ sn2 := by
        cases g2 with
        | true => exact (D2 rfl).sub
        | false => rw [(N2 rfl).1]; simp
      have hdis : ∀ x ∈ set1, ∀ y ∈ set2, x.1 ≠ y.1 := fun x hx y hy => hdis0 x (s1 x hx) y (s2 y hy)
      refine ⟨_, ⟨g2, v2, set2, sn2, [], hal2.guard G2, fun hg => (D2 hg).move hal2 rfl (fun h => by rw [mutF_mc hm.2] at h; cases h) rfl (.inr (.inr ⟨hm.2, .inr ⟨hyg, fun id hs => ?_⟩⟩)), fun _ _ x hx => (seenS_false.1 (f2 x hx)).1, fun hg => ⟨(N2 hg).1, rfl, (N2 hg).2.2⟩, L2, rfl⟩,
        ⟨g1, v1, set1, sn1, [], (hal1 _ _).guard G1, fun hg => (D1 hg).move (hal1 _ _) rfl (fun h => by rw [mutF_mc hm.1] at h; cases h) rfl (.inr (.inr ⟨hm.1, .inl fun id b hb => ?_⟩)), fun _ _ x hx => seenS_false.2 ⟨f1 x hx, fun y hy => (hdis0 x hx y hy).symm⟩, fun hg => ⟨(N1 hg).1, rfl, (N1 hg).2.2⟩, L1, ?_⟩⟩
      · show setH σ.heap set1 id = σ.heap id
        exact setH_out fun x hx e => by have := f1 x (s1 x hx); rw [e, hs] at this; cases this
      · show setH σ.heap set2 id = some b
        rw [setH_out]
        · exact hb
        · intro x hx e
          have h0 := (seenS_false.1 (f2 x (s2 x hx))).1
          have hs : σ.seen id = true := hyg.dom id b hb
          rw [e, hs] at h0; cases h0
      · simp only [delH, hput, setH_comm hdis, seenS_comm (f := σ.seen) (s1 := sn1)]
end Go.Ab

