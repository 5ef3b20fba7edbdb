import Derived.Test.YthmieigenefilaaGreatDoorAbYk
import Derived.Deep.Upon
import Derived.Deep.Draws
set_option linter.unusedVariables false
set_option linter.unusedSimpArgs false
namespace Go.Ab
open Go.RowKit
variable {P : Program} {T : Tab} {α : Type}
end Go.Ab
set_option linter.unusedVariables false
namespace Go.Ab
open Go.RowKit
variable {P : Program} {T : Tab} {α : Type}
def fl (X : Nat → Nat → List α) (q : Nat) : Nat → Nat → List (List α)
 | _, 0 => []
 | j, n + 1 => X (j / q) (j % q) :: fl X q (j + 1) n
def rA (s : Nat) : Nat → List (List α) → List AV
 | _, [] => []
 | i, l :: r => .row i s 0 l.length :: rA s (i + 1) r
def rB (E : Elem α) (e s : Nat) : List (List α) → List Blk
 | [] => []
 | l :: r => .row e s (E.cR l) :: rB E e s r
def pL : List Nat → List Prop
 | [] => []
 | n :: r => (0 = 0) :: (n = n) :: pL r
def rI : Nat → Nat → Nat → List (Nat × Option Nat)
 | _, _, 0 => []
 | i, j, n + 1 => (i, some j) :: rI (i + 1) (j + 1) n
theorem allP_app {a b : List Prop} (h : allP a) (k : allP b) : allP (a ++ b) := (allP_append).2 ⟨h, k⟩
theorem fl_length (X : Nat → Nat → List α) (q : Nat) : ∀ (n j : Nat), (fl X q j n).length = n
 | 0, _ => rfl
 | n + 1, j => by rw [fl, List.length_cons, fl_length X q n]
theorem rA_length (s : Nat) : ∀ (ls : List (List α)) (i : Nat), (rA s i ls).length = ls.length
 | [], _ => rfl
 | l :: r, i => by rw [rA, List.length_cons, rA_length s r, List.length_cons]
theorem pL_ok : ∀ ls : List Nat, allP (pL ls)
 | [] => trivial
 | _ :: r => ⟨rfl, rfl, pL_ok r⟩
end Go.Ab
set_option linter.unusedVariables false
set_option linter.unusedSimpArgs false
namespace Go.Ab
open Go.RowKit
variable {P : Program} {T : Tab} {α : Type} {A : Env}
def gV (l : Lf) : Option (Bool × List Prop) :=
 match l.k, l.e with
 | .ops all (o :: os) :: r, .normal => match o.guard, dstB l.σ.n o.dst && !isPick o.op with
  | some (j, want), true => match gOf l.σ all j want with
   | some g => some (g, whenL l.σ o.op.operands.toList)
   | none => none
  | _, _ => none
 | _, _ => none
def readsOp (op : Op) (t : Nat) : Bool := op.operands.toList.any fun x => match x with | .tmp k => Nat.beq k t | _ => false
def unS (σ : AS) (op : Op) : AS := { σ with slots := fun t => bif readsOp op t then (σ.slots t).bare else σ.slots t }
def gdR (σ : AS) (d : Option Nat) (g : Bool) (τ : AS) : AS := { τ with slots := match d with | none => σ.slots | some d => upd σ.slots d (.gd g (τ.slots d)) }
def Lf.gdst (l : Lf) : Option Nat := match l.k with
 | .ops _ (o :: _) :: _ => o.dst
 | _ => none
def unG (P : Program) (T : Tab) (Q : Exit → AS → Prop) (l : Lf) (g : Bool) : Lf := match l.k with
 | .ops all (o :: os) :: r => ⟨unS l.σ o.op, [.ops all [⟨o.dst, o.op, o.type, o.pos, o.after, none⟩], .back fun τ => VS P T Q (.ops all os :: r) .normal (gdR l.σ o.dst g τ)], .normal⟩
 | _ => l
theorem bare_bare {σ : AS} {op : Op} {x : Operand} (hx : x ∈ op.operands.toList) : (unS σ op).bev x = (σ.bev x).bare := by
 cases x with
 | tmp k =>
  have : readsOp op k = true := by
   unfold readsOp
   rw [List.any_eq_true]
   exact ⟨_, hx, by simp⟩
  show ((bif readsOp op k then (σ.slots k).bare else σ.slots k)).bare = _
  rw [this]; rfl
 | const v => rfl
 | global g => rfl
 | func f => rfl
def oneGd (σ : AS) (op : Op) : Bool := op.operands.toList.all fun x => !isGd (σ.bev x)
theorem bare_of {x : AV} (h : isGd x = false) : x.bare = x := by cases x <;> first | rfl | (simp [isGd] at h)
theorem Does.np {o : Oper} {σ : AS} {v : AV} {set : List (Nat × Blk)} {del : List Nat} (hp : ∀ c a b, o.op ≠ .pick c a b) : Does P T o σ v set del ↔ (∀ x ∈ o.op.operands.toList, (σ.ev x).when = true) ∧
  match callOf o.op with
  | some (f, xs) => match isMC σ.fz o.op with
   | false => ∃ fn caps args al res hb, σ.bev f = .fn fn caps ∧ WkArgs σ.heap (xs.map σ.bev ++ caps) args ∧ (al = true → ∀ x ∈ xs.map σ.bev ++ caps, Plain x) ∧ PCalls P fn args al res hb ∧ hb.length ≤ 64 ∧
    v = res.up (fid o.dst 0) ∧ set = numbered (fid o.dst 0) (hb.map (Blk.up (fid o.dst 0))) ∧ del = []
   | true => ∃ fn caps args hin nk al res hout, ∃ (ρ : Nat → Option Nat) (F : Nat → Prop), σ.bev f = .fn fn caps ∧
    Wk ρ (fun id => hbHeap hin id ≠ none) F σ.heap (.agg (xs.map σ.bev ++ caps)) (.agg args) ∧ SubC ρ F σ { n := σ.n, slots := fun _ => .junk, heap := hbHeap hin, seen := fun _ => true } ∧
    (al = true → ∀ id, ¬ F id) ∧ (∀ i, i < nk → ∃ id, ρ i = some id) ∧ nk ≤ hin.length ∧ nk ≤ hout.length ∧ boxesKept hin hout nk ∧ MCalls P fn args hin nk al res hout ∧
    (∀ i, nk ≤ i → i < hout.length → σ.seen (fid o.dst 0 + i) = false) ∧
    v = res.ren (mren ρ nk (fid o.dst 0)) ∧ set = mset (mren ρ nk (fid o.dst 0)) 0 hout ∧ del = mdel ρ nk hin.length
  | none => (effOf T σ.bev σ.heap o.dst o.op).ok ∧ v = (effOf T σ.bev σ.heap o.dst o.op).v ∧ set = (effOf T σ.bev σ.heap o.dst o.op).set ∧ del = (effOf T σ.bev σ.heap o.dst o.op).del := by
 unfold Does
 split
 ·rename_i h; exact absurd h (hp _ _ _)
 ·exact Iff.rfl
theorem Does.unG {o : Oper} {σ : AS} {v : AV} {set : List (Nat × Blk)} {del : List Nat} (hp : isPick o.op = false) (hw : whens σ o.op.operands.toList) (ho : oneGd σ o.op = true) (h : Does P T ⟨o.dst, o.op, o.type, o.pos, o.after, none⟩ (unS σ o.op) v set del) : Does P T o σ v set del := by
 have hbev : ∀ x ∈ o.op.operands.toList, (unS σ o.op).bev x = σ.bev x := by
  intro x hx
  rw [bare_bare hx]
  unfold oneGd at ho
  rw [List.all_eq_true] at ho
  exact bare_of (by simpa using ho x hx)
 have h := (Does.np (o := ⟨o.dst, o.op, o.type, o.pos, o.after, none⟩) (isPick_ok hp)).1 h
 rw [Does.np (isPick_ok hp)]
 obtain ⟨_, h⟩ := h
 refine ⟨whens_mem hw, ?_⟩
 simp only at h
 cases hcall : callOf o.op with
 | none =>
  rw [hcall] at h
  simp only at h ⊢
  have e1 : effOf T (Go.Ab.unS σ o.op).bev (Go.Ab.unS σ o.op).heap o.dst o.op = effOf T σ.bev σ.heap o.dst o.op := effOf_congr hbev
  rw [e1] at h
  exact h
 | some q =>
  obtain ⟨f, xs⟩ := q
  rw [hcall] at h
  simp only at h ⊢
  have hmem : ∀ x, x ∈ o.op.operands.toList ↔ x = f ∨ x ∈ xs := by
   intro x
   unfold callOf at hcall
   split at hcall
   ·rename_i hop
    cases hcall
    rw [hop]
    simp [Op.operands, Call.operands]
   ·cases hcall
  have hxs : xs.map (Go.Ab.unS σ o.op).bev = xs.map σ.bev := List.map_congr_left fun x hx => hbev x ((hmem x).2 (.inr hx))
  have hf : (Go.Ab.unS σ o.op).bev f = σ.bev f := hbev f ((hmem f).2 (.inl rfl))
  rw [hxs, hf] at h
  change (match isMC σ.fz o.op with | false => _ | true => _) at h
  cases hmc : isMC σ.fz o.op with
  | false => rw [hmc] at h; exact h
  | true =>
   rw [hmc] at h
   simp only at h ⊢
   obtain ⟨fn, caps, args, hin, nk, al, res, hout, ρ, F, h1, h2, hsub, h4⟩ := h
   exact ⟨fn, caps, args, hin, nk, al, res, hout, ρ, F, h1, h2, ⟨rfl, fun t => .inl rfl, fun i b hb => ⟨rfl, (hsub.heap i b hb).2⟩, fun i hi => absurd hi (Nat.not_lt_zero _), hsub.inj⟩, h4⟩
theorem AStep.unG {all : Array Oper} {o : Oper} {σ τ : AS} (hgr : GRel σ all o true) (hgs : o.guard.isNone = false) (hp : isPick o.op = false) (hw : whens σ o.op.operands.toList) (ho : oneGd σ o.op = true)
  (h : AStep P T all ⟨o.dst, o.op, o.type, o.pos, o.after, none⟩ (unS σ o.op) τ) : AStep P T all o σ (gdR σ o.dst true τ) := by
 obtain ⟨g', v, set, set0, del, G, D, F, N, L, rfl⟩ := h
 have hg' : g' = true := G
 subst hg'
 refine ⟨true, v, set, set0, del, hgr, fun _ => ?_, F, N, L, ?_⟩
 ·obtain ⟨v0, hD, hc⟩ := D rfl
  exact ⟨v0, hD.unG hp hw ho, hc⟩
 ·rw [hgs]
  show AS.mk _ _ _ _ _ _ = AS.mk _ _ _ _ _ _
  congr 1
  cases hd : o.dst with
  | none => rfl
  | some d =>
   show upd σ.slots d (.gd true (putS (unS σ o.op).slots (some d) v d)) = putS σ.slots (some d) (.gd true v)
   simp [putS, upd]
theorem unG_ok {Q : Exit → AS → Prop} {l : Lf} {g : Bool} {ws : List Prop} (hv : gV l = some (g, ws)) (ho : (match l.k with | .ops _ (o :: _) :: _ => oneGd l.σ o.op | _ => false) = true) (hg : g = true) (hw : allP ws) (h : V P T Q (Go.Ab.unG P T Q l g)) : V P T Q l := by
 obtain ⟨σ, k, ex⟩ := l
 unfold gV at hv
 simp only at hv
 split at hv
 ·rename_i all o os r
  split at hv
  ·rename_i j want hgd hb
   split at hv
   ·rename_i g' hgo
    cases hv
    subst hg
    simp only [Bool.and_eq_true, Bool.not_eq_true'] at hb
    change sxOps P T all [⟨o.dst, o.op, o.type, o.pos, o.after, none⟩] _ (unS σ o.op) at h
    have h : sxOp P T all ⟨o.dst, o.op, o.type, o.pos, o.after, none⟩ (unS σ o.op) _ ∨ _ := h
    obtain ⟨τ, hs, hk⟩ := h.elim sxOp_sound id
    have hgr : GRel σ all o true := by
     have hq := gOf_guard hgo
     have := guardOf_sound (σ := σ) (ops := all) (o := o) (by rw [hgd, hq]; trivial)
     rw [hgd, hq] at this
     exact this
    refine .inr ⟨_, hs.unG hgr (by rw [hgd]; rfl) hb.2 (whenL_ok hw) ho, hk⟩
   ·cases hv
  ·cases hv
 ·cases hv
theorem gdw_ok {Q : Exit → AS → Prop} {l : Lf} {g : Bool} {ws : List Prop} {τ : AS} (hv : gV l = some (g, ws)) (h : VS P T Q l.rest .normal (gdR l.σ l.gdst g τ)) : VS P T Q (Go.Ab.unG P T Q l g).rest .normal τ := by
 obtain ⟨σ, k, ex⟩ := l
 unfold gV at hv
 simp only at hv
 split at hv
 ·exact h
 ·cases hv
theorem gsp_ {c : Bool} {x y : Option α} {r : α} {G : Prop} (h : cond c x y = some r) (h1 : c = true → x = some r → G) (h2 : c = false → y = some r → G) : G := by
 cases c with
 | true => exact h1 rfl h
 | false => exact h2 rfl h
theorem skG_ok {Q : Exit → AS → Prop} {l : Lf} {g : Bool} {ws : List Prop} (v : AV) (hv : gV l = some (g, ws)) (hg : g = false) (h : VS P T Q l.rest .normal (l.σ.put l.gdst (.gd g v))) : V P T Q l := by
 obtain ⟨σ, k, ex⟩ := l
 unfold gV at hv
 simp only at hv
 split at hv
 ·rename_i all o os r
  split at hv
  ·rename_i j want hgd hb
   split at hv
   ·rename_i g' hgo
    cases hv
    subst hg
    simp only [Bool.and_eq_true, Bool.not_eq_true'] at hb
    have hgr : GRel σ all o false := by
     have hq := gOf_guard hgo
     have := guardOf_sound (σ := σ) (ops := all) (o := o) (by rw [hgd, hq]; trivial)
     rw [hgd, hq] at this
     exact this
    refine .inr ⟨_, ⟨false, v, [], [], [], hgr, (fun h => nomatch h), (fun _ _ x hx => nomatch hx), (fun _ => ⟨rfl, rfl, fun _ => rfl⟩), fun d hd => ?_, rfl⟩, ?_⟩
    ·rw [hd] at hb; exact Nat.le_of_ble_eq_true hb.1
    ·rw [hgd]; exact h
   ·cases hv
  ·cases hv
 ·cases hv
end Go.Ab
