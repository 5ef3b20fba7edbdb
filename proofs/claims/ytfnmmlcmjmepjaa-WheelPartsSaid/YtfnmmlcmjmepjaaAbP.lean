import Derived.Test.YtfnmmlcmjmepjaaAbO
set_option linter.unusedVariables false
set_option linter.unusedSectionVars false
set_option linter.unusedSimpArgs false
namespace Go.Ab
open Go.RowKit
variable {A : Env}
variable {P : Program} {T : Tab} [OfP A P]
def AWp (P : Program) (c : Code) (Q : Exit → AS → Prop) (σ : AS) : Prop :=
 ∀ (A : Env) [OfP A P] (W : World) (a : Act) (w : World), St A W w a σ → c.wp P (fun e a w => ∃ σ', St A W w a σ' ∧ Q e σ') a w
def guardOf (σ : AS) (ops : Array Oper) : Option (Nat × Bool) → Prop × Bool
 | none => (True, true)
 | some (j, want) => match (ops[j]?).bind (·.dst) with
  | none => (False, false)
  | some d => match σ.slots d with
   | .pv (.raw (.bool b)) => (True, b == want)
   | .gd p (.pv (.raw (.bool b))) => (True, p && (b == want))
   | _ => (False, false)
def dstOk (n : Nat) : Option Nat → Prop
 | none => True
 | some d => d < n
def whens (σ : AS) : List Operand → Prop
 | [] => True
 | x :: xs => (σ.ev x).when = true ∧ whens σ xs
def freshS (σ : AS) : List (Nat × Blk) → Prop
 | [] => True
 | x :: xs => σ.seen x.1 = false ∧ freshS σ xs
def AS.put (σ : AS) (d : Option Nat) (v : AV) : AS := { σ with slots := putS σ.slots d v }
def AS.eff (σ : AS) (d : Option Nat) (v : AV) (set : List (Nat × Blk)) (del : List Nat) : AS :=
 { σ with slots := putS σ.slots d v, heap := setH (delH σ.heap del) set, seen := seenS σ.seen set }
def AllPv (cs : List AV) : Prop := ∀ c ∈ cs, ∃ p, c = .pv p
def AS.frz (σ : AS) (d : Option Nat) (v : AV) (set : List (Nat × Blk)) (del : List Nat) : AS :=
 { σ with slots := putS σ.slots d v, heap := delH σ.heap del, seen := seenS σ.seen set }
def sxM (P : Program) (f : Operand) (xs : List Operand) (dst : Option Nat) (σ : AS) (guarded : Bool) (g : Bool) (K : AS → Prop) : Prop :=
 ∃ fn caps args hin nk al res hout, ∃ (ρ : Nat → Option Nat) (F : Nat → Prop), (g = true → σ.bev f = .fn fn caps ∧
    Wk ρ (fun id => hbHeap hin id ≠ none) F σ.heap (.agg (xs.map σ.bev ++ caps)) (.agg args) ∧ SubC ρ F σ { n := σ.n, slots := fun _ => .junk, heap := hbHeap hin, seen := fun _ => true } ∧
    (al = true → ∀ id, ¬ F id) ∧ (∀ i, i < nk → ∃ id, ρ i = some id) ∧ nk ≤ hin.length ∧ nk ≤ hout.length ∧ boxesKept hin hout nk ∧ MCalls P fn args hin nk al res hout ∧
    (∀ i, nk ≤ i → i < hout.length → σ.seen (fid dst 0 + i) = false)) ∧
  match guarded with
  | false => K (σ.eff dst (res.ren (mren ρ nk (fid dst 0))) (mset (mren ρ nk (fid dst 0)) 0 hout) (mdel ρ nk hin.length))
  | true => (g = true → K (σ.eff dst (.gd true (res.ren (mren ρ nk (fid dst 0)))) (mset (mren ρ nk (fid dst 0)) 0 hout) (mdel ρ nk hin.length))) ∧ (g = false → K (σ.put dst (.gd false (.raw undef))))
def sxCall (P : Program) (f : Operand) (xs : List Operand) (dst : Option Nat) (σ : AS) (guarded : Bool) (g : Bool) (K : AS → Prop) : Prop :=
 match σ.bev f with
 | .fn fn caps =>
  if guarded then
   ∃ args al res, (g = true → WkArgs σ.heap (xs.map σ.bev ++ caps) args ∧ (al = true → ∀ x ∈ xs.map σ.bev ++ caps, Plain x) ∧ PCalls P fn args al res []) ∧ K (σ.put dst (.gd g (res.up (fid dst 0))))
  else
   ∃ args al res hb, WkArgs σ.heap (xs.map σ.bev ++ caps) args ∧ (al = true → ∀ x ∈ xs.map σ.bev ++ caps, Plain x) ∧ PCalls P fn args al res hb ∧ hb.length ≤ 64 ∧ freshS σ (numbered (fid dst 0) (hb.map (Blk.up (fid dst 0)))) ∧
    (K (σ.eff dst (res.up (fid dst 0)) (numbered (fid dst 0) (hb.map (Blk.up (fid dst 0)))) []) ∨
     ∃ v, Wk (fun _ => none) (fun _ => False) (fun _ => True) (setH (fun _ => none) (numbered (fid dst 0) (hb.map (Blk.up (fid dst 0))))) (res.up (fid dst 0)) v ∧ K (σ.frz dst v (numbered (fid dst 0) (hb.map (Blk.up (fid dst 0)))) []))
 | _ => False
def sxEff (e : Eff) (store : Bool) (dst : Option Nat) (σ : AS) (guarded : Bool) (g : Bool) (K : AS → Prop) : Prop :=
 (g = true → e.ok ∧ (store = false → freshS σ e.set)) ∧
 match guarded with
 | false => K (σ.eff dst e.v e.set e.del)
 | true => match e.set, e.del with
  | [], [] => K (σ.put dst (.gd g e.v))
  | _, _ => (g = true → K (σ.eff dst (.gd true e.v) e.set e.del)) ∧ (g = false → K (σ.put dst (.gd false (.raw undef))))
def sxFrz (e : Eff) (dst : Option Nat) (σ : AS) (guarded : Bool) (g : Bool) (K : AS → Prop) : Prop :=
 ∃ v, (g = true → e.ok ∧ Wk (fun _ => none) (fun _ => False) (fun _ => True) (setH (fun _ => none) e.set) e.v v) ∧ freshS σ e.set ∧
 match guarded with
 | false => K (σ.frz dst v e.set e.del)
 | true => e.del = [] ∧ K (σ.frz dst (.gd g v) e.set [])
def pickEff (c a b : AV) : Eff :=
 match c.bare with
 | .pv (.raw (.bool t)) => ⟨c.when = true ∧ (pickAV (.bool t) a b).1, (pickAV (.bool t) a b).2, [], []⟩
 | _ => .bad
def sxOp (P : Program) (T : Tab) (ops : Array Oper) (o : Oper) (σ : AS) (K : AS → Prop) : Prop :=
 (guardOf σ ops o.guard).1 ∧ dstOk σ.n o.dst ∧
 match o.op with
 | .pick c a b => sxEff (pickEff (σ.ev c) (σ.ev a) (σ.ev b)) false o.dst σ o.guard.isSome (guardOf σ ops o.guard).2 K
 | op => ((guardOf σ ops o.guard).2 = true → whens σ op.operands.toList) ∧
  match callOf op with
  | some (f, xs) => match isMC σ.fz op with
   | false => sxCall P f xs o.dst σ o.guard.isSome (guardOf σ ops o.guard).2 K
   | true => sxM P f xs o.dst σ o.guard.isSome (guardOf σ ops o.guard).2 K
  | none => sxEff (effOf T σ.bev σ.heap o.dst op) (isStore op) o.dst σ o.guard.isSome (guardOf σ ops o.guard).2 K ∨
   (isStore op = false ∧ sxFrz (effOf T σ.bev σ.heap o.dst op) o.dst σ o.guard.isSome (guardOf σ ops o.guard).2 K)
def sxOps (P : Program) (T : Tab) (ops : Array Oper) : List Oper → (AS → Prop) → AS → Prop
 | [], K, σ => K σ
 | o :: os, K, σ => sxOp P T ops o σ (sxOps P T ops os K) ∨ ∃ σ', AStep P T ops o σ σ' ∧ sxOps P T ops os K σ'
theorem guardOf_sound {σ : AS} {ops : Array Oper} {o : Oper} (h : (guardOf σ ops o.guard).1) : GRel σ ops o (guardOf σ ops o.guard).2 := by
 unfold GRel
 cases hg : o.guard with
 | none => rfl
 | some q =>
  obtain ⟨j, want⟩ := q
  rw [hg] at h
  simp only [guardOf] at h ⊢
  cases hd : (ops[j]?).bind (·.dst) with
  | none => rw [hd] at h; exact h.elim
  | some d =>
   rw [hd] at h
   simp only at h ⊢
   split at h <;> first | exact h.elim | (rename_i hs; simp only [hs])
theorem whens_mem {σ : AS} : ∀ {l : List Operand}, whens σ l → ∀ x ∈ l, (σ.ev x).when = true
 | [], _, x, hx => by simp at hx
 | y :: l, h, x, hx => by
  rcases List.mem_cons.1 hx with rfl | hx
  ·exact h.1
  ·exact whens_mem h.2 x hx
theorem freshS_mem {σ : AS} : ∀ {l : List (Nat × Blk)}, freshS σ l → ∀ x ∈ l, σ.seen x.1 = false
 | [], _, x, hx => by simp at hx
 | y :: l, h, x, hx => by
  rcases List.mem_cons.1 hx with rfl | hx
  ·exact h.1
  ·exact freshS_mem h.2 x hx
theorem dstOk_spec {n : Nat} {d : Option Nat} (h : dstOk n d) : ∀ k, d = some k → k < n := by
 intro k hk; subst hk; exact h
theorem sxOp_sound {ops : Array Oper} {o : Oper} {σ : AS} {K : AS → Prop} (h : sxOp P T ops o σ K) : ∃ σ', AStep P T ops o σ σ' ∧ K σ' := by
 obtain ⟨hg, hd, h⟩ := h
 have hG := guardOf_sound hg
 have hD := dstOk_spec hd
 generalize (guardOf σ ops o.guard).2 = g at h hG
 have gtrue : o.guard.isSome = false → g = true := by
  intro hn
  unfold GRel at hG
  cases hq : o.guard with
  | none => rw [hq] at hG; exact hG
  | some _ => rw [hq] at hn; cases hn
 have isn : o.guard.isNone = !o.guard.isSome := by cases o.guard <;> rfl
 have fin : ∀ (e : Eff) (st : Bool), (st = isStore o.op) → isMC σ.fz o.op = false → (pureOp T o.op = true → e.set = []) → (g = true → e.ok → Does P T o σ e.v e.set e.del) → sxEff e st o.dst σ o.guard.isSome g K → ∃ σ', AStep P T ops o σ σ' ∧ K σ' := by
  intro e st hst hnm hpu hdo he
  obtain ⟨h1, h2⟩ := he
  have D : g = true → Born P T o σ e.v e.set e.set e.del := fun ht => ⟨_, hdo ht (h1 ht).1, .inl ⟨rfl, rfl⟩⟩
  have F : g = true → isStore o.op = false → isMC σ.fz o.op = false → ∀ x ∈ e.set, σ.seen x.1 = false := fun ht hs _ => freshS_mem ((h1 ht).2 (by rw [hst]; exact hs))
  cases hgs : o.guard.isSome with
  | false =>
   rw [hgs] at h2
   have ht := gtrue hgs
   refine ⟨_, ⟨g, e.v, e.set, e.set, e.del, hG, D, F ht, fun hf => (by rw [ht] at hf; cases hf), hD, rfl⟩, ?_⟩
   rw [isn, hgs]
   exact h2
  | true =>
   rw [hgs] at h2
   simp only at h2
   split at h2
   ·rename_i hs hdl
    refine ⟨_, ⟨g, e.v, e.set, e.set, e.del, hG, D, by rw [hs]; simp, fun _ => ⟨hs, hdl, fun _ => hs⟩, hD, rfl⟩, ?_⟩
    rw [isn, hgs, hs, hdl]
    exact h2
   ·cases g with
    | true =>
     refine ⟨_, ⟨true, e.v, e.set, e.set, e.del, hG, D, F rfl, fun hf => (by cases hf), hD, rfl⟩, ?_⟩
     rw [isn, hgs]
     exact h2.1 rfl
    | false =>
     refine ⟨σ.put o.dst (.gd false (.raw undef)), ⟨false, .raw undef, [], [], [], hG, fun hf => (by cases hf), by simp, fun _ => ⟨rfl, rfl, fun _ => rfl⟩, hD, ?_⟩, ?_⟩
     ·rw [isn, hgs]; rfl
     ·exact h2.2 rfl
 have finz : ∀ (e : Eff), isStore o.op = false → isMC σ.fz o.op = false → (pureOp T o.op = true → e.set = []) → (g = true → e.ok → Does P T o σ e.v e.set e.del) → sxFrz e o.dst σ o.guard.isSome g K → ∃ σ', AStep P T ops o σ σ' ∧ K σ' := by
  intro e hst hnm hpu hdo he
  obtain ⟨v, h1, h3, h2⟩ := he
  have D : g = true → Born P T o σ v [] e.set e.del := fun ht => ⟨_, hdo ht (h1 ht).1, .inr ⟨hst, hnm, rfl, (h1 ht).2⟩⟩
  cases hgs : o.guard.isSome with
  | false =>
   rw [hgs] at h2
   have ht := gtrue hgs
   refine ⟨_, ⟨g, _, [], e.set, e.del, hG, D, fun _ _ => freshS_mem h3, fun hf => (by rw [ht] at hf; cases hf), hD, rfl⟩, ?_⟩
   rw [isn, hgs]
   exact h2
  | true =>
   rw [hgs] at h2
   obtain ⟨hdl, h2⟩ := h2
   rw [hdl] at D
   refine ⟨_, ⟨g, _, [], e.set, [], hG, D, fun _ _ => freshS_mem h3, fun _ => ⟨rfl, rfl, hpu⟩, hD, rfl⟩, ?_⟩
   rw [isn, hgs]
   exact h2
 split at h
 ·rename_i c a b hop
  refine fin _ false (by rw [hop]; rfl) (by rw [hop]; rfl) (fun _ => by unfold pickEff; split <;> rfl) ?_ h
  intro _ hok
  unfold Does
  rw [hop]
  simp only
  unfold pickEff at hok ⊢
  split at hok
  ·rename_i t hc
   rw [hc]
   exact ⟨⟨hok.1, t, rfl⟩, hok.2, rfl, rfl, rfl⟩
  ·exact hok.elim
 ·rename_i hnp
  obtain ⟨hw, h⟩ := h
  have doesIf : ∀ v set del, (∀ x ∈ o.op.operands.toList, (σ.ev x).when = true) →
    (match callOf o.op with
    | some (f, xs) => match isMC σ.fz o.op with
     | false => ∃ fn caps args al res hb, σ.bev f = .fn fn caps ∧ WkArgs σ.heap (xs.map σ.bev ++ caps) args ∧ (al = true → ∀ x ∈ xs.map σ.bev ++ caps, Plain x) ∧ PCalls P fn args al res hb ∧ hb.length ≤ 64 ∧
      v = res.up (fid o.dst 0) ∧ set = numbered (fid o.dst 0) (hb.map (Blk.up (fid o.dst 0))) ∧ del = []
     | true => ∃ fn caps args hin nk al res hout, ∃ (ρ : Nat → Option Nat) (F : Nat → Prop), σ.bev f = .fn fn caps ∧
      Wk ρ (fun id => hbHeap hin id ≠ none) F σ.heap (.agg (xs.map σ.bev ++ caps)) (.agg args) ∧ SubC ρ F σ { n := σ.n, slots := fun _ => .junk, heap := hbHeap hin, seen := fun _ => true } ∧
      (al = true → ∀ id, ¬ F id) ∧ (∀ i, i < nk → ∃ id, ρ i = some id) ∧ nk ≤ hin.length ∧ nk ≤ hout.length ∧ boxesKept hin hout nk ∧ MCalls P fn args hin nk al res hout ∧
      (∀ i, nk ≤ i → i < hout.length → σ.seen (fid o.dst 0 + i) = false) ∧
      v = res.ren (mren ρ nk (fid o.dst 0)) ∧ set = mset (mren ρ nk (fid o.dst 0)) 0 hout ∧ del = mdel ρ nk hin.length
    | none => (effOf T σ.bev σ.heap o.dst o.op).ok ∧ v = (effOf T σ.bev σ.heap o.dst o.op).v ∧ set = (effOf T σ.bev σ.heap o.dst o.op).set ∧ del = (effOf T σ.bev σ.heap o.dst o.op).del) → Does P T o σ v set del := by
   intro v set del h1 h2
   unfold Does
   split
   ·rename_i c a b hop; exact absurd hop (hnp c a b)
   ·exact ⟨h1, h2⟩
  split at h
  ·rename_i f xs hcall
   have hns : isStore o.op = false := by
    unfold callOf at hcall
    split at hcall
    ·rename_i hop; rw [hop]; rfl
    ·cases hcall
   split at h
   case h_2 hmc =>
    obtain ⟨fn, caps, args, hin, nk, al, res, hout, ρ, F, h1, h2⟩ := h
    have D : g = true → Does P T o σ (res.ren (mren ρ nk (fid o.dst 0))) (mset (mren ρ nk (fid o.dst 0)) 0 hout) (mdel ρ nk hin.length) := fun ht => doesIf _ _ _ (whens_mem (hw ht)) (by
     rw [hcall]
     dsimp only
     rw [hmc]
     obtain ⟨c0, c1, c2, c3, c4, c5, c6, c7, c8, c9⟩ := h1 ht
     exact ⟨fn, caps, args, hin, nk, al, res, hout, ρ, F, c0, c1, c2, c3, c4, c5, c6, c7, c8, c9, rfl, rfl, rfl⟩)
    have F0 : isStore o.op = false → isMC σ.fz o.op = false → ∀ x ∈ (mset (mren ρ nk (fid o.dst 0)) 0 hout), σ.seen x.1 = false := fun _ hf => by rw [hmc] at hf; cases hf
    cases hgs : o.guard.isSome with
    | false =>
     rw [hgs] at h2
     have ht := gtrue hgs
     refine ⟨_, ⟨g, _, _, _, _, hG, fun ht => ⟨_, D ht, .inl ⟨rfl, rfl⟩⟩, F0, fun hf => (by rw [ht] at hf; cases hf), hD, rfl⟩, ?_⟩
     rw [isn, hgs]
     exact h2
    | true =>
     rw [hgs] at h2
     simp only at h2
     cases g with
     | true =>
      refine ⟨_, ⟨true, _, _, _, _, hG, fun ht => ⟨_, D ht, .inl ⟨rfl, rfl⟩⟩, F0, fun hf => (by cases hf), hD, rfl⟩, ?_⟩
      rw [isn, hgs]
      exact h2.1 rfl
     | false =>
      refine ⟨σ.put o.dst (.gd false (.raw undef)), ⟨false, .raw undef, [], [], [], hG, fun hf => (by cases hf), by simp, fun _ => ⟨rfl, rfl, fun _ => rfl⟩, hD, ?_⟩, ?_⟩
      ·rw [isn, hgs]; rfl
      ·exact h2.2 rfl
   rename_i hmc
   unfold sxCall at h
   split at h
   ·rename_i fn caps hf
    cases hgs : o.guard.isSome with
    | false =>
     rw [hgs] at h
     simp only [Bool.false_eq_true, if_false] at h
     obtain ⟨args, al, res, hb, h1, h2, h3, h4, h5, h6⟩ := h
     have ht := gtrue hgs
     have D : Does P T o σ (res.up (fid o.dst 0)) (numbered (fid o.dst 0) (hb.map (Blk.up (fid o.dst 0)))) [] := doesIf _ _ _ (whens_mem (hw ht)) (by rw [hcall]; dsimp only; rw [hmc]; exact ⟨fn, caps, args, al, res, hb, hf, h1, h2, h3, h4, rfl, rfl, rfl⟩)
     rcases h6 with h6 | ⟨v, hwk, h6⟩
     ·refine ⟨_, ⟨g, _, _, _, [], hG, fun ht => ⟨_, D, .inl ⟨rfl, rfl⟩⟩, fun _ _ => freshS_mem h5, fun hf => (by rw [ht] at hf; cases hf), hD, rfl⟩, ?_⟩
      rw [isn, hgs]
      exact h6
     ·refine ⟨_, ⟨g, v, [], _, [], hG, fun ht => ⟨_, D, .inr ⟨hns, hmc, rfl, hwk⟩⟩, fun _ _ => freshS_mem h5, fun hf => (by rw [ht] at hf; cases hf), hD, rfl⟩, ?_⟩
      rw [isn, hgs]
      exact h6
    | true =>
     rw [hgs] at h
     simp only [if_true] at h
     obtain ⟨args, al, res, h1, h2⟩ := h
     refine ⟨_, ⟨g, res.up (fid o.dst 0), [], [], [], hG, fun ht => ⟨_, doesIf _ _ _ (whens_mem (hw ht)) (by rw [hcall]; dsimp only; rw [hmc]; exact ⟨fn, caps, args, al, res, [], hf, (h1 ht).1, (h1 ht).2.1, (h1 ht).2.2, by simp, rfl, rfl, rfl⟩), .inl ⟨rfl, rfl⟩⟩, by simp, fun _ => ⟨rfl, rfl, fun _ => rfl⟩, hD, rfl⟩, ?_⟩
     rw [isn, hgs]
     exact h2
   ·exact h.elim
  ·rename_i hcall
   have hpu : pureOp T o.op = true → (effOf T σ.bev σ.heap o.dst o.op).set = [] := fun hp => (effOf_pure_set hp).1
   rcases h with h | h
   ·refine fin _ _ rfl (isMC_none hcall) hpu ?_ h
    intro ht hok
    exact doesIf _ _ _ (whens_mem (hw ht)) (by rw [hcall]; exact ⟨hok, rfl, rfl, rfl⟩)
   ·refine finz _ h.1 (isMC_none hcall) hpu ?_ h.2
    intro ht hok
    exact doesIf _ _ _ (whens_mem (hw ht)) (by rw [hcall]; exact ⟨hok, rfl, rfl, rfl⟩)
theorem sxOps_sound {ops : Array Oper} : ∀ (l : List Nat) (os : List Oper) {σ : AS} {K : AS → Prop}, l.length = os.length → (∀ (i k : Nat) (o : Oper), l[i]? = some k → os[i]? = some o → ops[k]? = some o) → sxOps P T ops os K σ → ∃ σ', AChain P T ops l σ σ' ∧ K σ'
 | [], [], σ, K, _, _, h => ⟨σ, .nil σ, h⟩
 | k :: l, o :: os, σ, K, hl, hk, h => by
  obtain ⟨σ1, h1, h2⟩ : ∃ σ1, AStep P T ops o σ σ1 ∧ sxOps P T ops os K σ1 := h.elim sxOp_sound id
  obtain ⟨σ2, h3, h4⟩ := sxOps_sound l os (by simpa using hl) (fun i k' o' e1 e2 => hk (i + 1) k' o' (by simpa using e1) (by simpa using e2)) h2
  exact ⟨σ2, .cons k l o σ σ1 σ2 (hk 0 k o (by simp) (by simp)) h1 h3, h4⟩
 | [], _ :: _, _, _, hl, _, _ => by simp at hl
 | _ :: _, [], _, _, hl, _, _ => by simp at hl
theorem sxRegion {ops : Array Oper} {σ : AS} {K : AS → Prop} (h : sxOps P T ops ops.toList K σ) : ∃ σ', AChain P T ops (List.range ops.size) σ σ' ∧ K σ' := by
 refine sxOps_sound _ _ (by simp) ?_ h
 intro i k o e1 e2
 obtain ⟨h1, h2⟩ := List.getElem?_eq_some_iff.1 e1
 simp at h2
 subst h2
 simpa using e2
theorem awp_region (hT : TabOk P T) {id : Nat} {ops : Array Oper} {Q : Exit → AS → Prop} {σ : AS} (h : sxOps P T ops ops.toList (Q .normal) σ) : AWp P (.region id ops false) Q σ := by
 intro A _ W a w hst
 obtain ⟨σ', hc, hq⟩ := sxRegion h
 exact wp_region (region_text (id := id) hT (fun a w h => ⟨σ', h, hq⟩) _ hst hc)
theorem awp_region_drawB (hT : TabOk P T) (hm : P.follows .mixedOrders = true) {id : Nat} {B : List Nat} {D : DC} {ops : Array Oper} {Q : Exit → AS → Prop} {σ : AS} (hok : orderOkD T σ.fz B D ops = true) (hB : ∀ k ∈ B, BoxAt σ k) (hP : PtrIs D σ) (h : sxOps P T ops ops.toList (Q .normal) σ) : AWp P (.region id ops true) Q σ := by
 intro A _ W a w hst
 obtain ⟨σ', hc, hq⟩ := sxRegion h
 exact region_draw hT hm hok rfl hst hB hP hc fun a w h => ⟨σ', h, hq⟩
def boxesOf (σ : AS) (ops : Array Oper) : List Nat := ops.toList.filterMap fun o => match o.op with
 | .load _ (.tmp k) => match σ.slots k with
  | .ptr id _ => match σ.heap id with
   | some (.box _) => some k
   | _ => none
  | _ => none
 | _ => none
theorem boxesOf_ok {σ : AS} {ops : Array Oper} : ∀ k ∈ boxesOf σ ops, BoxAt σ k := by
 intro k hk
 unfold boxesOf at hk
 obtain ⟨o, _, h⟩ := List.mem_filterMap.1 hk
 split at h
 ·split at h
  ·split at h
   ·cases h; exact ⟨_, _, _, by assumption, by assumption⟩
   ·cases h
  ·cases h
 ·cases h
def slotIds (ld : Bool) (σ : AS) (ops : Array Oper) : DC := ops.toList.foldl (fun D o =>
 let D : DC := o.op.operands.toList.foldl (fun D x => match x with
  | .tmp k => if D.D.any (fun p => p.1 == k) then D else match ptrId (σ.slots k) with
   | some id => ⟨(k, [id]) :: D.D, D.C⟩
   | none => D
  | _ => D) D
 match o.dst with
 | none => D
 | some k => match o.op with
  | .load _ (.tmp j) => match ld, D.D.find? (fun p => p.1 == j) with
   | true, some (_, [a]) => match σ.heap a with
    | some (.box cs) => ⟨(k, cs.filterMap ptrId) :: D.D, if D.C.any (fun c => c.1 == a) then D.C else (a, cs.filterMap ptrId) :: D.C⟩
    | _ => D
   | _, _ => D
  | op => match srcOf op with
   | some j => match D.D.find? (fun p => p.1 == j) with
    | some p => ⟨(k, p.2) :: D.D, D.C⟩
    | none => D
   | none => D) ⟨[], []⟩
def ptrIsB (D : DC) (σ : AS) : Bool := (D.D.all fun p => match ptrId (σ.slots p.1) with | some id => p.2.contains id | none => true) &&
 (D.C.all fun q => σ.seen q.1 && match σ.heap q.1 with | some (.box cs) => cs.all (fun c => match ptrId c with | some id => q.2.contains id | none => true) | _ => false)
theorem ptrIsB_ok {D : DC} {σ : AS} (h : ptrIsB D σ = true) : PtrIs D σ := by
 unfold ptrIsB at h
 rw [Bool.and_eq_true, List.all_eq_true, List.all_eq_true] at h
 obtain ⟨h1, h2⟩ := h
 refine ⟨fun p hp id _ he => ?_, fun q hq => ?_⟩
 ·have := h1 p hp
  rw [he] at this
  simpa using this
 ·have := h2 q hq
  rw [Bool.and_eq_true] at this
  refine ⟨this.1, fun b hb c hc id hid => ?_⟩
  have h3 := this.2
  rw [hb] at h3
  cases b with
  | box cs =>
   simp only [List.all_eq_true] at h3
   have := h3 c hc
   rw [hid] at this
   simpa using this
  | row e s cs => cases h3
  | map ks xs => cases h3
theorem ptrIs_nil (σ : AS) : PtrIs ⟨[], []⟩ σ := ⟨fun p hp => (by cases hp), fun q hq => (by cases hq)⟩
def orderAtD1 (T : Tab) (ld : Bool) (σ : AS) (ops : Array Oper) : Bool := let D := slotIds ld σ ops; ptrIsB D σ && orderOkD T σ.fz [] D ops
def orderAtD (T : Tab) (σ : AS) (ops : Array Oper) : Bool := orderAtD1 T false σ ops || orderAtD1 T true σ ops
def orderAt (T : Tab) (σ : AS) (ops : Array Oper) : Bool := orderOk T σ.fz ops || orderOkB T σ.fz ((boxesOf σ ops).filter fun k => !(ops.any fun o => o.dst == some k)) ops || orderAtD T σ ops
theorem awp_region_at (hT : TabOk P T) (hm : P.follows .mixedOrders = true) {id : Nat} {ops : Array Oper} {Q : Exit → AS → Prop} {σ : AS} (hok : orderAt T σ ops = true) (h : sxOps P T ops ops.toList (Q .normal) σ) : AWp P (.region id ops true) Q σ := by
 unfold orderAt at hok
 rw [Bool.or_eq_true, Bool.or_eq_true] at hok
 rcases hok with (hok | hok) | hok
 ·exact awp_region_drawB (B := []) (D := ⟨[], []⟩) hT hm hok (by simp) (ptrIs_nil _) h
 ·exact awp_region_drawB (D := ⟨[], []⟩) hT hm hok (fun k hk => boxesOf_ok k (List.mem_filter.1 hk).1) (ptrIs_nil _) h
 ·unfold orderAtD at hok
  rw [Bool.or_eq_true] at hok
  rcases hok with hok | hok <;>
  ·unfold orderAtD1 at hok
   rw [Bool.and_eq_true] at hok
   exact awp_region_drawB (B := []) hT hm hok.2 (by simp) (ptrIsB_ok hok.1) h
def seqQ (P : Program) (y : Code) (Q : Exit → AS → Prop) : Exit → AS → Prop
 | .normal, σ => AWp P y Q σ
 | e, σ => Q e σ
theorem awp_seq {x y : Code} {Q : Exit → AS → Prop} {σ : AS} (h : AWp P x (seqQ P y Q) σ) : AWp P (.seq x y) Q σ := by
 intro A _ W a w hst
 refine wp_seq (wp_mono (h A W a w hst) ?_)
 rintro e a' w' ⟨σ', hst', hq⟩
 cases e with
 | normal => exact hq A W a' w' hst'
 | _ => exact ⟨σ', hst', hq⟩
theorem awp_cond {c : Operand} {x y : Code} {Q : Exit → AS → Prop} {σ : AS} {t : Bool} (hc : σ.ev c = .bool t) (ht : t = true → AWp P x Q σ) (hf : t = false → AWp P y Q σ) : AWp P (.cond c x y) Q σ := by
 intro A _ W a w hst
 obtain ⟨ι, R, h⟩ := hst
 have := h.ev c
 rw [hc] at this
 have he := raw_inv this
 exact wp_cond_split he (fun e => ht e A W a w ⟨ι, R, h⟩) (fun e => hf e A W a w ⟨ι, R, h⟩)
def blockQ (id : Nat) (Q : Exit → AS → Prop) : Exit → AS → Prop
 | .exit id', σ => if id' = id then Q .normal σ else Q (.exit id') σ
 | e, σ => Q e σ
theorem awp_block {id : Nat} {c : Code} {Q : Exit → AS → Prop} {σ : AS} (h : AWp P c (blockQ id Q) σ) : AWp P (.block id c) Q σ := by
 intro A _ W a w hst
 refine wp_block (wp_mono (h A W a w hst) ?_)
 rintro e a' w' ⟨σ', hst', hq⟩
 cases e with
 | exit id' =>
  simp only [blockQ] at hq
  simp only [Exit.inBlock]
  split
  ·rename_i he; rw [if_pos he] at hq; exact ⟨σ', hst', hq⟩
  ·rename_i he; rw [if_neg he] at hq; exact ⟨σ', hst', hq⟩
 | _ => exact ⟨σ', hst', hq⟩
theorem awp_skip {Q : Exit → AS → Prop} {σ : AS} (h : Q .normal σ) : AWp P .skip Q σ := fun A _ W a w hst => wp_skip ⟨σ, hst, h⟩
theorem awp_exit {id : Nat} {Q : Exit → AS → Prop} {σ : AS} (h : Q (.exit id) σ) : AWp P (.exit id) Q σ := fun A _ W a w hst => wp_exit ⟨σ, hst, h⟩
theorem awp_ret {Q : Exit → AS → Prop} {σ : AS} (h : Q .ret σ) : AWp P .ret Q σ := fun A _ W a w hst => wp_ret ⟨σ, hst, h⟩
def thenA (next : AS → Prop) (Q : Exit → AS → Prop) : Exit → AS → Prop
 | .normal, σ => next σ
 | e, σ => Q e σ
end Go.Ab

