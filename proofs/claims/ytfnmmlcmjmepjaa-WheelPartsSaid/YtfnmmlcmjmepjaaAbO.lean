import Derived.Test.YtfnmmlcmjmepjaaAbN
import Derived.Deep.LoopGhost
set_option linter.unusedVariables false
set_option linter.unusedSectionVars false
set_option linter.unusedSimpArgs false
namespace Go.Ab
open Go.RowKit
variable {A : Env}
variable {P : Program} {T : Tab} [OfP A P]
theorem wpOp_exists {ops : Array Oper} {i : Nat} {K : Act → World → Prop} {a : Act} {w : World} (h : wpOp P ops (fun _ _ _ => False) i K a w) : ∃ a' w', K a' w' := by
 unfold wpOp at h
 split at h
 ·exact ⟨_, _, h⟩
 ·rename_i o ho
  split at h
  ·rcases h with h | ⟨_, h⟩
   ·unfold Oper.wp Oper.upon at h
    split at h
    ·exact ⟨_, _, h⟩
    ·exact ⟨_, _, h⟩
    ·exact ⟨_, _, h⟩
    ·obtain ⟨e, w', fr, hR, _⟩ := h []
     cases e with
     | returned v => exact ⟨_, _, hR⟩
     | panicked c => exact hR.elim
     | outgrown => obtain ⟨_, _, h⟩ := hR; exact h.elim
    ·obtain ⟨v, w', hR, _⟩ := h default []
     exact ⟨_, _, hR⟩
    ·exact h.elim
    ·exact h.elim
   ·obtain ⟨_, _, h⟩ := h; exact h.elim
  ·exact ⟨_, _, h⟩
def BoxAt (σ : AS) (k : Nat) : Prop := ∃ id off cs, σ.slots k = .ptr id off ∧ σ.heap id = some (.box cs)
def isApp : Op → Bool
 | .call { callee := .builtin .append, .. } => true
 | _ => false
def loadOf (B : List Nat) : Op → Bool
 | .load _ (.tmp k) => B.contains k
 | _ => false
theorem effOf_del_row {ev : Operand → AV} {H : Heap} {dst : Option Nat} {op : Op} : ∀ d ∈ (effOf T ev H dst op).del, ∀ cs, H d ≠ some (.box cs) := by
 intro d hd
 unfold effOf at hd
 split at hd
 all_goals first
  | (simp at hd; done)
  | skip
 all_goals (repeat' (split at hd))
 all_goals first
  | (simp at hd; done)
  | (rename_i h; simp at hd; subst hd; intro cs hc; rw [h] at hc; cases hc)
  | (rename_i h _; simp at hd; subst hd; intro cs hc; rw [h] at hc; cases hc)
theorem effOf_store {ev : Operand → AV} {H : Heap} {dst : Option Nat} {op : Op} (hs : isStore op = true) : ∀ x ∈ (effOf T ev H dst op).set, (∃ cs, H x.1 = some (.box cs) ∧ ∃ cs', x.2 = .box cs') ∨ (∀ cs, H x.1 ≠ some (.box cs)) := by
 have nb : ∀ {k : Nat} {b : Blk}, H k = some b → (∀ cs, b ≠ .box cs) → ∀ cs, H k ≠ some (.box cs) := fun h hb cs hc => hb cs (by rw [h] at hc; exact Option.some.inj hc)
 intro x hx
 unfold isStore at hs
 split at hs
 ·simp only [effOf] at hx
  split at hx
  ·split at hx
   ·split at hx
    ·rename_i h; simp at hx; subst hx; exact .inl ⟨_, h, _, rfl⟩
    ·rename_i h; simp at hx; subst hx; exact .inr (nb h (fun _ => by simp))
    ·simp at hx
   ·simp at hx
  ·simp at hx
 ·simp only [effOf] at hx
  split at hx
  ·split at hx
   ·split at hx
    ·split at hx
     ·split at hx
      ·rename_i h; simp at hx; subst hx; exact .inr (nb h (fun _ => by simp))
      ·simp at hx
     ·simp at hx
    ·simp at hx
   ·simp at hx
  ·simp at hx
 ·simp only [effOf] at hx
  repeat' (split at hx)
  all_goals first
   | (simp at hx; done)
   | (rename_i h; simp at hx; subst hx; exact .inr (nb h (fun _ => by simp)))
 ·simp only [effOf] at hx
  repeat' (split at hx)
  all_goals first
   | (simp at hx; done)
   | (rename_i h; simp at hx; subst hx; exact .inr (nb h (fun _ => by simp)))
 ·simp only [effOf] at hx
  repeat' (split at hx)
  all_goals first
   | (simp at hx; done)
   | (rename_i h; simp at hx; subst hx; exact .inr (nb h (fun _ => by simp)))
 ·simp only [effOf] at hx
  repeat' (split at hx)
  all_goals first
   | (simp at hx; done)
   | (rename_i h; simp at hx; subst hx; exact .inr (nb h (fun _ => by simp)))
 ·cases hs
theorem Does.del_row {o : Oper} {σ : AS} {v : AV} {set : List (Nat × Blk)} {del : List Nat} (h : Does P T o σ v set del) : ∀ d ∈ del, ∀ cs, σ.heap d ≠ some (.box cs) := by
 unfold Does at h
 split at h
 ·intro d hd; rw [h.2.2.2.2] at hd; simp at hd
 ·obtain ⟨_, h⟩ := h
  split at h
  ·split at h
   ·obtain ⟨_, _, _, _, _, _, _, _, _, _, _, _, _, h⟩ := h
    intro d hd; rw [h] at hd; simp at hd
   ·obtain ⟨fn, caps, args, hin, nk, al, res, hout, ρ, F, hf, hargs, hsub, hal, hkept, hnk, hnk', hbk, hp, hf2, _, _, rfl⟩ := h
    intro d hd
    obtain ⟨i, hi, hk, hρ⟩ := mem_mdel.1 hd
    have hib : hin[i]? = some hin[i] := by simp [hi]
    have hsb := (hsub.heap i _ hib).2
    unfold SubB at hsb
    rw [hρ] at hsb
    simp only at hsb
    cases hb : hin[i] with
    | box cs => have := (hbk i cs (by rw [hib, hb])).1; omega
    | row e s cs =>
     rw [hb] at hsb
     cases hh : σ.heap d with
     | none => rw [hh] at hsb; exact hsb.2.elim
     | some b' =>
      rw [hh] at hsb
      cases b' with
      | box cs' => exact hsb.2.elim
      | map ks xs => exact hsb.2.elim
      | row e' s' cs' => intro c hc; cases hc
    | map ks xs =>
     rw [hb] at hsb
     cases hh : σ.heap d with
     | none => rw [hh] at hsb; exact hsb.2.elim
     | some b' =>
      rw [hh] at hsb
      cases b' with
      | box cs' => exact hsb.2.elim
      | row e' s' cs' => exact hsb.2.elim
      | map ks xs => intro c hc; cases hc
  ·rw [h.2.2.2]; exact effOf_del_row
theorem Does.mbox {o : Oper} {σ : AS} (hyg : Hyg σ) {v : AV} {set : List (Nat × Blk)} {del : List Nat} (hmc : isMC σ.fz o.op = true) (h : Does P T o σ v set del) {id : Nat} {cs : List AV} (hid : σ.heap id = some (.box cs)) : ∀ x ∈ set, x.1 = id → ∃ cs', x.2 = .box cs' := by
 unfold Does at h
 split at h
 ·intro x hx; rw [h.2.2.2.1] at hx; simp at hx
 ·obtain ⟨_, h⟩ := h
  split at h
  ·rw [hmc] at h
   obtain ⟨fn, caps, args, hin, nk, al, res, hout, ρ, F, hf, hargs, hsub, hal, hkept, hnk, hnk', hbk, hp, hf2, _, rfl, _⟩ := h
   intro x hx he
   obtain ⟨i, b0, h1, h2, h3⟩ := mem_mset (id := x.1) (b := x.2) hx
   rw [Nat.zero_add] at h3
   by_cases hi : i < nk
   ·obtain ⟨id', hρ⟩ := hkept i hi
    unfold mren at h3
    rw [if_pos hi, hρ] at h3
    simp only [Option.getD_some] at h3
    have e : id' = id := by rw [← he, h3]
    subst e
    have hil : i < hin.length := by omega
    have hib : hin[i]? = some hin[i] := by simp [hil]
    have hsb := (hsub.heap i _ hib).2
    unfold SubB at hsb
    rw [hρ] at hsb
    simp only at hsb
    rw [hid] at hsb
    cases hb : hin[i] with
    | row e s c => rw [hb] at hsb; exact hsb.2.elim
    | map ks xs => rw [hb] at hsb; exact hsb.2.elim
    | box c =>
     obtain ⟨_, cs', hcs'⟩ := hbk i c (by rw [hib, hb])
     rw [h1] at hcs'
     cases hcs'
     exact ⟨_, h2⟩
   ·exfalso
    unfold mren at h3
    rw [if_neg hi] at h3
    have := hf2 i (by omega) (List.getElem?_eq_some_iff.1 h1).1
    rw [← h3, he, hyg.dom id _ hid] at this
    cases this
  ·rename_i hnc
   rw [isMC_none hnc] at hmc
   cases hmc
theorem Does.store {o : Oper} {σ : AS} {v : AV} {set : List (Nat × Blk)} {del : List Nat} (hs : isStore o.op = true) (h : Does P T o σ v set del) : ∀ x ∈ set, (∃ cs, σ.heap x.1 = some (.box cs) ∧ ∃ cs', x.2 = .box cs') ∨ (∀ cs, σ.heap x.1 ≠ some (.box cs)) := by
 unfold Does at h
 split at h
 ·intro d hd; rw [h.2.2.2.1] at hd; simp at hd
 ·obtain ⟨_, h⟩ := h
  split at h
  ·rename_i hcall
   unfold callOf at hcall
   split at hcall
   ·rename_i hop; rw [hop] at hs; simp [isStore] at hs
   ·cases hcall
  ·rw [h.2.2.1]; exact effOf_store hs
theorem setH_box {H : Heap} {id : Nat} : ∀ {set : List (Nat × Blk)}, (∃ cs, H id = some (.box cs)) → (∀ x ∈ set, x.1 = id → ∃ cs, x.2 = .box cs) → ∃ cs, setH H set id = some (.box cs)
 | [], h, _ => h
 | (k, b) :: r, h, hx => by
  refine setH_box (set := r) ?_ fun x hxr => hx x (by simp [hxr])
  by_cases hk : id = k
  ·subst hk
   obtain ⟨cs, hcs⟩ := hx (id, b) (by simp) rfl
   simp only at hcs
   exact ⟨cs, by simp [upd, hcs]⟩
  ·obtain ⟨cs, hcs⟩ := h
   exact ⟨cs, by simp only [upd]; rw [if_neg hk]; exact hcs⟩
theorem delH_out {id : Nat} : ∀ {H : Heap} {del : List Nat}, (∀ d ∈ del, d ≠ id) → delH H del id = H id
 | H, [], _ => rfl
 | H, k :: r, h => by
  rw [delH, delH_out fun d hd => h d (by simp [hd])]
  simp only [upd]
  rw [if_neg fun e => h k (by simp) e.symm]
theorem AStep.box {ops : Array Oper} {o : Oper} {σ σ' : AS} (hyg : Hyg σ) (h : AStep P T ops o σ σ') {id : Nat} {cs : List AV} (hid : σ.heap id = some (.box cs)) : (∃ cs', σ'.heap id = some (.box cs')) ∧ (isStore o.op = false → isMC σ.fz o.op = false → σ'.heap id = σ.heap id) := by
 obtain ⟨g, v, set, set0, del, G, D, F, N, L, rfl⟩ := h
 have hdel : ∀ d ∈ del, d ≠ id := by
  intro d hd e
  cases g with
  | false => rw [(N rfl).2.1] at hd; simp at hd
  | true =>
   obtain ⟨v0, hD, _⟩ := D rfl
   exact hD.del_row d hd cs (by rw [e]; exact hid)
 have hd' : delH σ.heap del id = σ.heap id := delH_out hdel
 cases hmc : isMC σ.fz o.op with
 | true =>
  refine ⟨setH_box ⟨cs, hd'.trans hid⟩ ?_, fun _ h => by cases h⟩
  cases g with
  | false => rw [(N rfl).1]; simp
  | true =>
   obtain ⟨v0, hD, hc⟩ := D rfl
   rcases hc with ⟨_, rfl⟩ | ⟨_, h0, _⟩
   ·exact hD.mbox hyg hmc hid
   ·rw [hmc] at h0; cases h0
 | false =>
 cases hs : isStore o.op with
 | false =>
  have hout : ∀ x ∈ set, x.1 ≠ id := by
   intro x hx e
   have h0 : x ∈ set0 := by
    cases g with
    | false => rw [(N rfl).1] at hx; simp at hx
    | true => exact (D rfl).sub x hx
   have := F hs hmc x h0
   rw [e, hyg.dom id _ hid] at this
   cases this
  have he : setH (delH σ.heap del) set id = σ.heap id := by rw [setH_out hout, hd']
  exact ⟨⟨cs, he.trans hid⟩, fun _ _ => he⟩
 | true =>
  refine ⟨setH_box ⟨cs, hd'.trans hid⟩ ?_, fun h _ => by cases h⟩
  intro x hx e
  cases g with
  | false => rw [(N rfl).1] at hx; simp at hx
  | true =>
   obtain ⟨v0, hD, hc⟩ := D rfl
   rcases hc with ⟨_, rfl⟩ | ⟨h0, _, _⟩
   ·rcases hD.store hs x hx with ⟨_, _, h⟩ | h
    ·exact h
    ·exact absurd (by rw [e]; exact hid) (h cs)
   ·rw [hs] at h0; cases h0
theorem AStep.boxAt {ops : Array Oper} {o : Oper} {σ σ' : AS} (hyg : Hyg σ) (h : AStep P T ops o σ σ') {k : Nat} (hk : o.dst ≠ some k) (hb : BoxAt σ k) : BoxAt σ' k := by
 obtain ⟨id, off, cs, h1, h2⟩ := hb
 obtain ⟨cs', h3⟩ := (h.box hyg h2).1
 refine ⟨id, off, cs', ?_, h3⟩
 obtain ⟨g, v, set, set0, del, G, D, F, N, L, rfl⟩ := h
 rw [← h1]
 exact putS_out fun j hj e => hk (by rw [hj, e])
theorem isApp_mut {op : Op} (h : isApp op = true) : isStore op = false ∧ pureOp T op = false ∧ callOf op = none := by
 unfold isApp at h
 split at h
 ·exact ⟨rfl, rfl, rfl⟩
 ·cases h
theorem loadOf_op {B : List Nat} {op : Op} (h : loadOf B op = true) : ∃ t k, op = .load t (.tmp k) ∧ k ∈ B := by
 unfold loadOf at h
 split at h
 ·exact ⟨_, _, rfl, by simpa using h⟩
 ·cases h
theorem Does.load {ops : Array Oper} {o : Oper} {σ σ' : AS} (hal : Alike ops o σ σ') {v : AV} {set : List (Nat × Blk)} {del : List Nat} {t : TypeId} {k : Nat} (ho : o.op = .load t (.tmp k)) {id off : Nat} (hs : σ.slots k = .ptr id off) (hh : σ.heap id = σ'.heap id) (h : Does P T o σ v set del) : Does P T o σ' v set del := by
 have hev := hal.ev
 have hk : σ.ev (.tmp k) = σ'.ev (.tmp k) := hev _ (by rw [ho]; simp [Op.operands])
 unfold Does at h ⊢
 rw [ho] at h ⊢
 simp only [callOf] at h ⊢
 refine ⟨fun x hx => ?_, ?_⟩
 ·have : x = .tmp k := by simpa [Op.operands] using hx
  subst this
  rw [← hk]; exact h.1 _ hx
 ·have hb : σ.bev (.tmp k) = .ptr id off := by show (σ.slots k).bare = _; rw [hs]; rfl
  have hb' : σ'.bev (.tmp k) = .ptr id off := by rw [← hb]; unfold AS.bev; rw [hk]
  have e : effOf T σ'.bev σ'.heap o.dst (.load t (.tmp k)) = effOf T σ.bev σ.heap o.dst (.load t (.tmp k)) := by
   simp only [effOf, hb, hb']
   unfold loadAV
   simp only [AV.unpix, hh]
  rw [e]
  exact h.2
theorem load_sets {o : Oper} {σ : AS} {v : AV} {set set0 : List (Nat × Blk)} {del : List Nat} {t : TypeId} {k : Nat} (ho : o.op = .load t (.tmp k)) (h : Born P T o σ v set set0 del) : set = [] ∧ set0 = [] ∧ del = [] := by
 obtain ⟨v0, hD, hc⟩ := h
 unfold Does at hD
 rw [ho] at hD
 simp only [callOf, effOf] at hD
 obtain ⟨_, _, _, h1, h2⟩ := hD
 refine ⟨?_, h1, h2⟩
 rcases hc with ⟨_, rfl⟩ | ⟨_, _, rfl, _⟩
 ·exact h1
 ·rfl
def mkOp : Op → Bool
 | .buildSlice .. => true
 | .box .. => true
 | .alloc .. => true
 | _ => false
def indepB (T : Tab) (fz B : List Nat) (ops : Array Oper) (x y : Oper) : Bool :=
 indep T fz ops x y || (Oper.apart ops x y && ((loadOf B x.op && isApp y.op) || (isApp x.op && loadOf B y.op))) || (Oper.apart ops x y && ((mkOp x.op && isApp y.op) || (isApp x.op && mkOp y.op)))
theorem mkOp_mut {op : Op} (h : mkOp op = true) : isStore op = false ∧ mutOp op = false ∧ callOf op = none ∧ (∀ c a b, op ≠ .pick c a b) := by
 unfold mkOp at h
 split at h
 ·exact ⟨rfl, rfl, rfl, fun _ _ _ h => by cases h⟩
 ·exact ⟨rfl, rfl, rfl, fun _ _ _ h => by cases h⟩
 ·exact ⟨rfl, rfl, rfl, fun _ _ _ h => by cases h⟩
 ·cases h
theorem mkOp_eff {op : Op} (h : mkOp op = true) {ev : Operand → AV} {H H' : Heap} {dst : Option Nat} : effOf T ev H dst op = effOf T ev H' dst op := by
 unfold mkOp at h
 split at h
 ·rfl
 ·rfl
 ·rfl
 ·cases h
theorem newsAV_congr {H H' : Heap} {s : Nat} {x : AV} (h : ∀ id s off len, x = .row id s off len → H id = H' id) : newsAV H s x = newsAV H' s x := by
 unfold newsAV
 split
 ·rfl
 ·rfl
 ·rename_i id s' off len
  rw [h id s' off len rfl]
 ·rfl
theorem isApp_eff {op : Op} (ha : isApp op = true) {ev : Operand → AV} {H H' : Heap} {dst : Option Nat} (h : ∀ x ∈ op.operands.toList, ∀ id s off len, ev x = .row id s off len → H id = H' id) : effOf T ev H dst op = effOf T ev H' dst op := by
 unfold isApp at ha
 split at ha
 ·rename_i args ts
  simp only [Op.operands, Call.operands] at h
  simp only [effOf]
  split
  ·rename_i s x t t' he ht
   have hs : ∀ id s' off len, ev s = .row id s' off len → H id = H' id := h s (by rw [Array.empty_append, he]; simp)
   have hx : ∀ id s' off len, ev x = .row id s' off len → H id = H' id := h x (by rw [Array.empty_append, he]; simp)
   simp only [newsAV_congr hx]
   split
   ·split
    ·split
     ·rfl
     ·rename_i h1; rw [hs _ _ _ _ h1]
     ·rfl
    ·rfl
   ·rfl
  ·rfl
 ·cases ha
theorem isApp_del {op : Op} (ha : isApp op = true) {ev : Operand → AV} {H : Heap} {dst : Option Nat} : ∀ d ∈ (effOf T ev H dst op).del, ∃ x ∈ op.operands.toList, ∃ s off len, ev x = .row d s off len := by
 intro d hd
 unfold isApp at ha
 split at ha
 ·rename_i args ts
  simp only [Op.operands, Call.operands]
  simp only [effOf] at hd
  split at hd
  ·rename_i s x t t' he ht
   split at hd
   ·split at hd
    ·split at hd
     ·simp at hd
     ·rename_i id s' off len h1
      split at hd
      ·simp at hd; subst hd; exact ⟨s, by rw [Array.empty_append, he]; simp, _, _, _, h1⟩
      ·simp [Eff.bad] at hd
     ·simp [Eff.bad] at hd
    ·simp [Eff.bad] at hd
   ·simp [Eff.bad] at hd
  ·simp [Eff.bad] at hd
 ·cases ha
theorem Hyg.row {σ : AS} (hyg : Hyg σ) {x : Operand} (hw : (σ.ev x).when = true) {id s off len : Nat} (h : σ.bev x = .row id s off len) : σ.seen id = true := by
 cases x with
 | tmp t =>
  have hs := hyg.slots t
  simp only [AS.bev, AS.ev] at h hw
  generalize σ.slots t = y at hs h hw
  cases y with
  | gd g y =>
   simp only [AV.bare] at h
   subst h
   simp only [IdsIn] at hs
   exact hs hw
  | row i s' o l =>
   simp only [AV.bare] at h
   cases h
   simp only [IdsIn] at hs
   exact hs
  | _ => simp [AV.bare] at h
 | _ => simp [AS.bev, AS.ev, AV.bare] at h
theorem isApp_pick {op : Op} (h : isApp op = true) : ∀ c a b, op ≠ .pick c a b := by
 unfold isApp at h
 split at h
 ·intro _ _ _ h; cases h
 ·cases h
theorem Does.plain {o : Oper} {σ : AS} {v : AV} {set : List (Nat × Blk)} {del : List Nat} (hc : callOf o.op = none) (hp : ∀ c a b, o.op ≠ .pick c a b) :
  Does P T o σ v set del ↔ (∀ x ∈ o.op.operands.toList, (σ.ev x).when = true) ∧ (effOf T σ.bev σ.heap o.dst o.op).ok ∧ v = (effOf T σ.bev σ.heap o.dst o.op).v ∧ set = (effOf T σ.bev σ.heap o.dst o.op).set ∧ del = (effOf T σ.bev σ.heap o.dst o.op).del := by
 unfold Does
 split
 ·rename_i h; exact absurd h (hp _ _ _)
 ·rw [hc]
theorem Born.moveA {ops : Array Oper} {o : Oper} {σ σ' : AS} (hal : Alike ops o σ σ') (ha : isApp o.op = true) {v : AV} {set set0 : List (Nat × Blk)} {del : List Nat} (hfz : σ'.fz = σ.fz)
  (hag : ∀ x ∈ o.op.operands.toList, (σ.ev x).when = true → ∀ id s off len, σ.bev x = .row id s off len → σ.heap id = σ'.heap id) (h : Born P T o σ v set set0 del) : Born P T o σ' v set set0 del := by
 obtain ⟨v0, h1, h2⟩ := h
 refine ⟨v0, ?_, by rw [hfz]; exact h2⟩
 rw [Does.plain (isApp_mut (T := T) ha).2.2 (isApp_pick ha)] at h1 ⊢
 obtain ⟨hw, h1⟩ := h1
 have hev := hal.ev
 have hbev : ∀ x ∈ o.op.operands.toList, σ.bev x = σ'.bev x := fun x hx => by unfold AS.bev; rw [hev x hx]
 have e1 : effOf T σ.bev σ.heap o.dst o.op = effOf T σ'.bev σ.heap o.dst o.op := effOf_congr hbev
 have e2 : effOf T σ'.bev σ.heap o.dst o.op = effOf T σ'.bev σ'.heap o.dst o.op := isApp_eff ha fun x hx id s off len h => hag x hx (hw x hx) id s off len (by rw [hbev x hx]; exact h)
 refine ⟨fun x hx => by rw [← hev x hx]; exact hw x hx, ?_⟩
 rw [← e2, ← e1]
 exact h1
theorem Born.moveM {ops : Array Oper} {o : Oper} {σ σ' : AS} (hal : Alike ops o σ σ') (ha : mkOp o.op = true) {v : AV} {set set0 : List (Nat × Blk)} {del : List Nat} (hfz : σ'.fz = σ.fz)
  (h : Born P T o σ v set set0 del) : Born P T o σ' v set set0 del := by
 obtain ⟨v0, h1, h2⟩ := h
 refine ⟨v0, ?_, by rw [hfz]; exact h2⟩
 obtain ⟨_, _, hm3, hm4⟩ := mkOp_mut ha
 rw [Does.plain hm3 hm4] at h1 ⊢
 obtain ⟨hw, h1⟩ := h1
 have hev := hal.ev
 have hbev : ∀ x ∈ o.op.operands.toList, σ.bev x = σ'.bev x := fun x hx => by unfold AS.bev; rw [hev x hx]
 have e1 : effOf T σ.bev σ.heap o.dst o.op = effOf T σ'.bev σ.heap o.dst o.op := effOf_congr hbev
 have e2 : effOf T σ'.bev σ.heap o.dst o.op = effOf T σ'.bev σ'.heap o.dst o.op := mkOp_eff ha
 refine ⟨fun x hx => by rw [← hev x hx]; exact hw x hx, ?_⟩
 rw [← e2, ← e1]
 exact h1
theorem Born.appDel {o : Oper} {σ : AS} (hyg : Hyg σ) (ha : isApp o.op = true) {v : AV} {set set0 : List (Nat × Blk)} {del : List Nat} (h : Born P T o σ v set set0 del) : ∀ d ∈ del, σ.seen d = true := by
 obtain ⟨v0, h1, h2⟩ := h
 rw [Does.plain (isApp_mut (T := T) ha).2.2 (isApp_pick ha)] at h1
 obtain ⟨hw, -, -, -, rfl⟩ := h1
 intro d hd
 obtain ⟨x, hx, s, off, len, he⟩ := isApp_del ha d hd
 exact hyg.row (hw x hx) he
theorem delH_upd {H : Heap} {k : Nat} {b : Option Blk} : ∀ {del : List Nat}, (∀ d ∈ del, d ≠ k) → delH (upd H k b) del = upd (delH H del) k b
 | [], _ => rfl
 | d :: r, h => by
  have e : upd (upd H k b) d none = upd (upd H d none) k b := by
   funext x
   simp only [upd]
   by_cases h1 : x = d
   ·subst h1; rw [if_pos rfl, if_neg (h x (by simp)), if_pos rfl]
   ·rw [if_neg h1]; by_cases h2 : x = k
    ·rw [if_pos h2, if_pos h2]
    ·rw [if_neg h2, if_neg h2, if_neg h1]
  show delH (upd (upd H k b) d none) r = upd (delH (upd H d none) r) k b
  rw [e, delH_upd fun x hx => h x (by simp [hx])]
theorem delH_setH : ∀ {set : List (Nat × Blk)} {H : Heap} {del : List Nat}, (∀ x ∈ set, ∀ d ∈ del, d ≠ x.1) → delH (setH H set) del = setH (delH H del) set
 | [], _, _, _ => rfl
 | (k, b) :: r, H, del, h => by
  show delH (setH (upd H k (some b)) r) del = setH (upd (delH H del) k (some b)) r
  rw [delH_setH fun x hx => h x (by simp [hx]), delH_upd fun d hd => h (k, b) (by simp) d hd]
theorem commuteM {σ σ1 σ2 : AS} (hyg : Hyg σ) {ops : Array Oper} {o1 o2 : Oper} (hap : Oper.apart ops o1 o2 = true) (hcl : (mkOp o1.op = true ∧ isApp o2.op = true) ∨ (isApp o1.op = true ∧ mkOp o2.op = true)) (h1 : AStep P T ops o1 σ σ1) (h2 : AStep P T ops o2 σ1 σ2) :
  ∃ σ1', AStep P T ops o2 σ σ1' ∧ AStep P T ops o1 σ1' σ2 := by
 obtain ⟨a1, a2, a3⟩ := Oper.apart_spec hap
 have mm : ∀ {op : Op}, mkOp op = true ∨ isApp op = true → isStore op = false ∧ isMC σ.fz op = false := by
  intro op h
  rcases h with h | h
  ·exact ⟨(mkOp_mut h).1, isMC_none (mkOp_mut h).2.2.1⟩
  ·exact ⟨(isApp_mut (T := T) h).1, isMC_none (isApp_mut (T := T) h).2.2⟩
 obtain ⟨g1, v1, set1, sn1, del1, G1, D1, F1, N1, L1, rfl⟩ := h1
 have hal2 : Alike ops o2 { σ with slots := putS σ.slots o1.dst (if o1.guard.isNone then v1 else .gd g1 v1), heap := setH (delH σ.heap del1) set1, seen := seenS σ.seen sn1 } σ := by
  intro t ht
  exact putS_out fun k hk e => a1 k hk (e ▸ ht)
 obtain ⟨g2, v2, set2, sn2, del2, G2, D2, F2, N2, L2, rfl⟩ := h2
 have hput : putS (putS σ.slots o1.dst (if o1.guard.isNone then v1 else .gd g1 v1)) o2.dst (if o2.guard.isNone then v2 else .gd g2 v2) = putS (putS σ.slots o2.dst (if o2.guard.isNone then v2 else .gd g2 v2)) o1.dst (if o1.guard.isNone then v1 else .gd g1 v1) :=
  putS_comm fun k hk => a2 k hk
 have hal1 : ∀ (H : Heap) (s : Nat → Bool), Alike ops o1 σ { σ with slots := putS σ.slots o2.dst (if o2.guard.isNone then v2 else .gd g2 v2), heap := H, seen := s } := by
  intro H s t ht
  exact (putS_out fun k hk e => a3 k hk (e ▸ ht)).symm
 have m1 : isStore o1.op = false ∧ isMC σ.fz o1.op = false := mm (hcl.elim (fun h => .inl h.1) fun h => .inr h.1)
 have m2 : isStore o2.op = false ∧ isMC σ.fz o2.op = false := mm (hcl.elim (fun h => .inr h.2) fun h => .inl h.2)
 have f1 := F1 m1.1 m1.2
 have f2 : ∀ x ∈ sn2, seenS σ.seen sn1 x.1 = false := F2 m2.1 m2.2
 have hdis0 : ∀ x ∈ sn1, ∀ y ∈ sn2, x.1 ≠ y.1 := fun x hx y hy => ((seenS_false.1 (f2 y hy)).2 x hx)
 have s1 : ∀ x ∈ set1, x ∈ sn1 := by
  cases g1 with
  | true => exact (D1 rfl).sub
  | false => rw [(N1 rfl).1]; simp
 have s2 : ∀ x ∈ set2, x ∈ sn2 := by
  cases g2 with
  | true => exact (D2 rfl).sub
  | false => rw [(N2 rfl).1]; simp
 have hdis : ∀ x ∈ set1, ∀ y ∈ set2, x.1 ≠ y.1 := fun x hx y hy => hdis0 x (s1 x hx) y (s2 y hy)
 have t1 : ∀ x ∈ set1, σ.seen x.1 = false := fun x hx => f1 x (s1 x hx)
 have t2 : ∀ x ∈ set2, σ.seen x.1 = false := fun x hx => (seenS_false.1 (f2 x (s2 x hx))).1
 rcases hcl with ⟨hk, ha⟩ | ⟨ha, hk⟩
 ·have d1 : del1 = [] := by
   cases g1 with
   | true => exact (D1 rfl).del (by unfold mutF; rw [(mkOp_mut hk).2.1, m1.2]; rfl)
   | false => exact (N1 rfl).2.1
  subst d1
  have hs2 : ∀ hg : g2 = true, Born P T o2 σ v2 set2 sn2 del2 := fun hg => (D2 hg).moveA hal2 ha rfl (by
   intro x hx hw id s off len he
   have e := hal2.ev x hx
   have hid : σ.seen id = true := hyg.row (x := x) (by rw [← e]; exact hw) (by unfold AS.bev; rw [← e]; exact he)
   show setH (delH σ.heap []) set1 id = σ.heap id
   exact setH_out fun y hy e => by have := t1 y hy; rw [e, hid] at this; cases this)
  have hd2 : ∀ d ∈ del2, σ.seen d = true := by
   cases g2 with
   | true => exact (hs2 rfl).appDel hyg ha
   | false => rw [(N2 rfl).2.1]; simp
  refine ⟨_, ⟨g2, v2, set2, sn2, del2, hal2.guard G2, hs2, fun _ _ x hx => (seenS_false.1 (f2 x hx)).1, N2, L2, rfl⟩,
   ⟨g1, v1, set1, sn1, [], (hal1 _ _).guard G1, fun hg => (D1 hg).moveM (hal1 _ _) hk rfl, fun _ _ x hx => seenS_false.2 ⟨f1 x hx, fun y hy => (hdis0 x hx y hy).symm⟩, N1, L1, ?_⟩⟩
  simp only [delH, hput, seenS_comm (f := σ.seen) (s1 := sn1)]
  rw [delH_setH (fun x hx d hd e => by have := t1 x hx; rw [← e, hd2 d hd] at this; cases this), setH_comm hdis]
 ·have d2 : del2 = [] := by
   cases g2 with
   | true => exact (D2 rfl).del (by show mutF σ.fz o2.op = false; unfold mutF; rw [(mkOp_mut hk).2.1, m2.2]; rfl)
   | false => exact (N2 rfl).2.1
  subst d2
  have hd1 : ∀ d ∈ del1, σ.seen d = true := by
   cases g1 with
   | true => exact (D1 rfl).appDel hyg ha
   | false => rw [(N1 rfl).2.1]; simp
  refine ⟨_, ⟨g2, v2, set2, sn2, [], hal2.guard G2, fun hg => (D2 hg).moveM hal2 hk rfl, fun _ _ x hx => (seenS_false.1 (f2 x hx)).1, N2, L2, rfl⟩,
   ⟨g1, v1, set1, sn1, del1, (hal1 _ _).guard G1, fun hg => (D1 hg).moveA (hal1 _ _) ha rfl (by
    intro x hx hw id s off len he
    have hid : σ.seen id = true := hyg.row hw he
    show σ.heap id = setH (delH σ.heap []) set2 id
    exact (setH_out fun y hy e => by have := t2 y hy; rw [e, hid] at this; cases this).symm), fun _ _ x hx => seenS_false.2 ⟨f1 x hx, fun y hy => (hdis0 x hx y hy).symm⟩, N1, L1, ?_⟩⟩
  simp only [delH, hput, seenS_comm (f := σ.seen) (s1 := sn1)]
  rw [delH_setH (fun x hx d hd e => by have := t2 x hx; rw [← e, hd1 d hd] at this; cases this), setH_comm hdis]
theorem commuteB {B : List Nat} {σ σ1 σ2 : AS} (hyg : Hyg σ) {ops : Array Oper} {o1 o2 : Oper} (hB : ∀ k ∈ B, BoxAt σ k) (hd1 : ∀ k ∈ B, o1.dst ≠ some k) (hi : indepB T σ.fz B ops o1 o2 = true) (h1 : AStep P T ops o1 σ σ1) (h2 : AStep P T ops o2 σ1 σ2) :
  ∃ σ1', AStep P T ops o2 σ σ1' ∧ AStep P T ops o1 σ1' σ2 := by
 unfold indepB at hi
 rw [Bool.or_eq_true, Bool.or_eq_true] at hi
 rcases hi with (hi | hi) | hi
 ·exact commute hyg hi h1 h2
 rotate_left
 ·rw [Bool.and_eq_true, Bool.or_eq_true, Bool.and_eq_true, Bool.and_eq_true] at hi
  exact commuteM hyg hi.1 hi.2 h1 h2
 rw [Bool.and_eq_true, Bool.or_eq_true, Bool.and_eq_true, Bool.and_eq_true] at hi
 obtain ⟨hap, hcl⟩ := hi
 obtain ⟨a1, a2, a3⟩ := Oper.apart_spec hap
 have hbox1 := fun {id : Nat} {cs : List AV} (h : σ.heap id = some (.box cs)) => h1.box hyg h
 obtain ⟨g1, v1, set1, sn1, del1, G1, D1, F1, N1, L1, rfl⟩ := h1
 have hal2 : Alike ops o2 { σ with slots := putS σ.slots o1.dst (if o1.guard.isNone then v1 else .gd g1 v1), heap := setH (delH σ.heap del1) set1, seen := seenS σ.seen sn1 } σ := by
  intro t ht
  exact putS_out fun k hk e => a1 k hk (e ▸ ht)
 obtain ⟨g2, v2, set2, sn2, del2, G2, D2, F2, N2, L2, rfl⟩ := h2
 have hput : putS (putS σ.slots o1.dst (if o1.guard.isNone then v1 else .gd g1 v1)) o2.dst (if o2.guard.isNone then v2 else .gd g2 v2) = putS (putS σ.slots o2.dst (if o2.guard.isNone then v2 else .gd g2 v2)) o1.dst (if o1.guard.isNone then v1 else .gd g1 v1) :=
  putS_comm fun k hk => a2 k hk
 have hal1 : ∀ (H : Heap) (s : Nat → Bool), Alike ops o1 σ { σ with slots := putS σ.slots o2.dst (if o2.guard.isNone then v2 else .gd g2 v2), heap := H, seen := s } := by
  intro H s t ht
  exact (putS_out fun k hk e => a3 k hk (e ▸ ht)).symm
 rcases hcl with ⟨hl, ha⟩ | ⟨ha, hl⟩
 ·
  obtain ⟨t, k, hop, hkB⟩ := loadOf_op hl
  obtain ⟨id, off, cs, hsl, hid⟩ := hB k hkB
  have hst1 : isStore o1.op = false := by rw [hop]; rfl
  have e1 : set1 = [] ∧ del1 = [] := by
   cases g1 with
   | true => exact ⟨(load_sets hop (D1 rfl)).1, (load_sets hop (D1 rfl)).2.2⟩
   | false => exact ⟨(N1 rfl).1, (N1 rfl).2.1⟩
  obtain ⟨rfl, rfl⟩ := e1
  have f1 := F1 hst1 (isMC_none (by rw [hop]; rfl))
  have f2 : ∀ x ∈ sn2, seenS σ.seen sn1 x.1 = false := F2 (isApp_mut (T := T) ha).1 (isMC_none (isApp_mut (T := T) ha).2.2)
  have hdis0 : ∀ x ∈ sn1, ∀ y ∈ sn2, x.1 ≠ y.1 := fun x hx y hy => ((seenS_false.1 (f2 y hy)).2 x hx)
  have hs2 : AStep P T ops o2 σ { σ with slots := putS σ.slots o2.dst (if o2.guard.isNone then v2 else .gd g2 v2), heap := setH (delH σ.heap del2) set2, seen := seenS σ.seen sn2 } :=
   ⟨g2, v2, set2, sn2, del2, hal2.guard G2, fun hg => (D2 hg).move hal2 rfl (fun h => by rw [isMC_none (isApp_mut (T := T) ha).2.2] at h; cases h) rfl (.inl rfl), fun _ _ x hx => (seenS_false.1 (f2 x hx)).1, N2, L2, rfl⟩
  refine ⟨_, hs2, ⟨g1, v1, [], sn1, [], (hal1 _ _).guard G1, fun hg => ?_, fun _ _ x hx => seenS_false.2 ⟨f1 x hx, fun y hy => (hdis0 x hx y hy).symm⟩, N1, L1, ?_⟩⟩
  ·obtain ⟨v0, hD, hr⟩ := D1 hg
   exact ⟨v0, hD.load (hal1 _ _) hop hsl ((hs2.box hyg hid).2 (isApp_mut (T := T) ha).1 (isMC_none (isApp_mut (T := T) ha).2.2)).symm, hr⟩
  ·simp only [delH, setH, hput, seenS_comm (f := σ.seen) (s1 := sn1)]
 ·obtain ⟨t, k, hop, hkB⟩ := loadOf_op hl
  obtain ⟨id, off, cs, hsl, hid⟩ := hB k hkB
  have hst2 : isStore o2.op = false := by rw [hop]; rfl
  have e2 : set2 = [] ∧ del2 = [] := by
   cases g2 with
   | true => exact ⟨(load_sets hop (D2 rfl)).1, (load_sets hop (D2 rfl)).2.2⟩
   | false => exact ⟨(N2 rfl).1, (N2 rfl).2.1⟩
  obtain ⟨rfl, rfl⟩ := e2
  have f1 := F1 (isApp_mut (T := T) ha).1 (isMC_none (isApp_mut (T := T) ha).2.2)
  have f2 : ∀ x ∈ sn2, seenS σ.seen sn1 x.1 = false := F2 hst2 (isMC_none (by rw [hop]; rfl))
  have hdis0 : ∀ x ∈ sn1, ∀ y ∈ sn2, x.1 ≠ y.1 := fun x hx y hy => ((seenS_false.1 (f2 y hy)).2 x hx)
  refine ⟨_, ⟨g2, v2, [], sn2, [], hal2.guard G2, fun hg => ?_, fun _ _ x hx => (seenS_false.1 (f2 x hx)).1, N2, L2, rfl⟩,
   ⟨g1, v1, set1, sn1, del1, (hal1 _ _).guard G1, fun hg => (D1 hg).move (hal1 _ _) rfl (fun h => by rw [isMC_none (isApp_mut (T := T) ha).2.2] at h; cases h) rfl (.inl rfl), fun _ _ x hx => seenS_false.2 ⟨f1 x hx, fun y hy => (hdis0 x hx y hy).symm⟩, N1, L1, ?_⟩⟩
  ·obtain ⟨v0, hD, hr⟩ := D2 hg
   refine ⟨v0, hD.load hal2 hop (id := id) (off := off) ?_ ((hbox1 hid).2 (isApp_mut (T := T) ha).1 (isMC_none (isApp_mut (T := T) ha).2.2)), hr⟩
   rw [← hsl]
   exact putS_out fun j hj e => hd1 k hkB (by rw [hj, e])
  ·simp only [delH, setH, hput, seenS_comm (f := σ.seen) (s1 := sn1)]
def ptrId : AV → Option Nat
 | .ptr id _ => some id
 | .pix id _ => some id
 | .row id _ _ _ => some id
 | .gd _ x => ptrId x
 | _ => none
theorem ptrId_bare (x : AV) : ptrId x.bare = ptrId x := by cases x <;> rfl
theorem ptrId_unpix {x : AV} {id off : Nat} (h : x.unpix = .ptr id off) : ptrId x = some id := by
 cases x <;> simp_all [AV.unpix, ptrId]
structure DC where
 D : List (Nat × List Nat)
 C : List (Nat × List Nat)
def CellsIs (C : List (Nat × List Nat)) (σ : AS) : Prop := ∀ q ∈ C, σ.seen q.1 = true ∧ ∀ b, σ.heap q.1 = some b → ∀ c ∈ b.cells, ∀ id, ptrId c = some id → id ∈ q.2
def PtrIs (D : DC) (σ : AS) : Prop := (∀ p ∈ D.D, ∀ id, (σ.slots p.1).when = true → ptrId (σ.slots p.1) = some id → id ∈ p.2) ∧ CellsIs D.C σ
def srcOf : Op → Option Nat
 | .move (.tmp j) | .assign (.tmp j) | .nilCheck (.tmp j) | .fieldAddr _ (.tmp j) _ | .indexAddr _ (.tmp j) _ => some j
 | _ => none
def noCall : Op → Bool
 | .call { callee := .value _, .. } => false
 | _ => true
def dOk (D : DC) (o : Oper) : Bool :=
 match o.dst with
 | none => true
 | some k => D.D.all fun p => p.1 != k || (match o.op with
  | .load _ (.tmp j) => D.D.any fun q => q.1 == j && q.2.all fun a => D.C.any fun c => c.1 == a && c.2.all fun i => p.2.contains i
  | op => match srcOf op with
   | some j => D.D.any fun q => q.1 == j && q.2.all fun i => p.2.contains i
   | none => false)
def cOk (D : DC) (o : Oper) : Bool :=
 D.C.isEmpty || (noCall o.op && (match o.op with
  | .store _ (.tmp j) _ => D.D.any fun q => q.1 == j && q.2.all fun a => D.C.all fun c => c.1 != a
  | op => !isStore op))
def derivOk (D : DC) (o : Oper) : Bool := dOk D o && cOk D o
theorem wk_ptrId {F : Nat → Prop} {H : Heap} {v0 v : AV} (h : Wk (fun _ => none) (fun _ => False) F H v0 v) : ptrId v = none := by
 cases h <;> first | rfl | (rename_i hD; exact hD.elim)
theorem Does.src {o : Oper} {σ : AS} {v : AV} {set : List (Nat × Blk)} {del : List Nat} {j id : Nat} (hs : srcOf o.op = some j) (h : Does P T o σ v set del) (hv : ptrId v = some id) : (σ.slots j).when = true ∧ ptrId (σ.slots j) = some id := by
 unfold srcOf at hs
 split at hs
 all_goals first | (cases hs; done) | skip
 all_goals (rename_i hop; obtain rfl := Option.some.inj hs; unfold Does at h; rw [hop] at h; simp only [callOf, effOf] at h; obtain ⟨hw, _, rfl, _, _⟩ := h)
 all_goals (refine ⟨hw (.tmp _) (by simp [Op.operands]), ?_⟩)
 all_goals (rw [← ptrId_bare])
 ·exact hv
 ·exact hv
 ·simp only [pureOut] at hv
  change ptrId (σ.bev (.tmp _)) = some id
  generalize σ.bev (.tmp _) = y at hv ⊢
  cases y <;> simp_all [ptrId]
 ·simp only [pureOut] at hv
  change ptrId (σ.bev (.tmp _)) = some id
  generalize σ.bev (.tmp _) = y at hv ⊢
  unfold fieldAddrAV at hv
  repeat' split at hv
  all_goals simp_all [ptrId]
 ·simp only [pureOut] at hv
  change ptrId (σ.bev (.tmp _)) = some id
  generalize σ.bev (.tmp _) = y at hv ⊢
  unfold indexAddrAV at hv
  repeat' split at hv
  all_goals simp_all [ptrId]
theorem delH_some {id : Nat} {b : Blk} : ∀ {del : List Nat} {H : Heap}, delH H del id = some b → H id = some b
 | [], H, h => h
 | k :: r, H, h => by
  have := delH_some (del := r) h
  simp only [upd] at this
  split at this
  ·cases this
  ·exact this
theorem isMC_noCall {fz : List Nat} {op : Op} (h : noCall op = true) : isMC fz op = false := by
 unfold isMC
 split
 ·simp [noCall] at h
 ·simp [noCall] at h
 ·rfl
theorem Does.loadPtr {o : Oper} {σ : AS} {v : AV} {set : List (Nat × Blk)} {del : List Nat} {t : TypeId} {k id : Nat} (ho : o.op = .load t (.tmp k)) (h : Does P T o σ v set del) (hv : ptrId v = some id) :
  (σ.slots k).when = true ∧ ∃ a b, ptrId (σ.slots k) = some a ∧ σ.heap a = some b ∧ ∃ c ∈ b.cells, ptrId c = some id := by
 unfold Does at h
 rw [ho] at h
 simp only [callOf] at h
 obtain ⟨hw, _, rfl, _, _⟩ := h
 refine ⟨hw (.tmp k) (by simp [Op.operands]), ?_⟩
 simp only [effOf, Eff.of] at hv
 rw [← ptrId_bare]
 change ∃ a b, ptrId (σ.bev (.tmp k)) = some a ∧ _
 generalize σ.bev (.tmp k) = y at hv ⊢
 unfold loadAV at hv
 cases hT : T t with
 | none => rw [hT] at hv; simp [Out.bad, ptrId] at hv
 | some ti =>
  rw [hT] at hv
  simp only at hv
  cases hy : y.unpix with
  | ptr a off =>
   have hpa := ptrId_unpix hy
   rw [hy] at hv
   simp only at hv
   cases hh : σ.heap a with
   | none => rw [hh] at hv; simp [Out.bad, ptrId] at hv
   | some b =>
    rw [hh] at hv
    refine ⟨a, b, hpa, hh, ?_⟩
    cases hagg : isAggT ti.under with
    | true => rw [hagg] at hv; simp [ptrId] at hv
    | false =>
     rw [hagg] at hv
     simp only at hv
     cases hc : b.cells[off]? with
     | none => rw [hc] at hv; simp [Out.bad, ptrId] at hv
     | some c => rw [hc] at hv; exact ⟨c, List.mem_of_getElem? hc, hv⟩
  | _ =>
   rw [hy] at hv
   first
    | (simp [Out.bad, ptrId] at hv; done)
    | (simp only at hv; split at hv <;> simp [ptrId] at hv)
theorem Does.storeP {o : Oper} {σ : AS} {v : AV} {set : List (Nat × Blk)} {del : List Nat} {t : TypeId} {k : Nat} {z : Operand} (ho : o.op = .store t (.tmp k) z) (h : Does P T o σ v set del) : (σ.slots k).when = true ∧ del = [] ∧ ∀ y ∈ set, ptrId (σ.slots k) = some y.1 := by
 unfold Does at h
 rw [ho] at h
 simp only [callOf] at h
 obtain ⟨hw, _, _, rfl, rfl⟩ := h
 refine ⟨hw (.tmp k) (by simp [Op.operands]), ?_, ?_⟩
 ·simp only [effOf]
  repeat' split
  all_goals rfl
 ·intro y hy
  rw [← ptrId_bare]
  simp only [effOf] at hy
  split at hy
  ·split at hy
   ·rename_i id off hx
    have := ptrId_unpix hx
    split at hy
    ·simp at hy; subst hy; exact this
    ·simp at hy; subst hy; exact this
    ·simp at hy
   ·simp at hy
  ·simp at hy
theorem AStep.cellsIs {D : DC} {ops : Array Oper} {o : Oper} {σ σ' : AS} (hd : cOk D o = true) (hP : PtrIs D σ) (h : AStep P T ops o σ σ') : CellsIs D.C σ' := by
 obtain ⟨g, v, set, set0, del, G, Dd, F, N, L, rfl⟩ := h
 obtain ⟨hP1, hC⟩ := hP
 intro q hq
 obtain ⟨h1, h2⟩ := hC q hq
 refine ⟨seenS_up h1, fun b hb c hc id hid => ?_⟩
 have hne : ∀ x ∈ set, x.1 ≠ q.1 := by
  intro x hx e
  cases hg : g with
  | false => rw [(N hg).1] at hx; simp at hx
  | true =>
   have hB := Dd hg
   have hx0 := hB.sub x hx
   unfold cOk at hd
   rw [Bool.or_eq_true] at hd
   rcases hd with hd | hd
   ·rw [List.isEmpty_iff] at hd
    rw [hd] at hq
    cases hq
   ·rw [Bool.and_eq_true] at hd
    obtain ⟨hd1, hd2⟩ := hd
    have hmc := isMC_noCall (fz := σ.fz) hd1
    split at hd2
    ·rename_i t j z hop
     obtain ⟨v0, hD, _⟩ := hB
     obtain ⟨hw, _, hst⟩ := hD.storeP hop
     rw [List.any_eq_true] at hd2
     obtain ⟨p, hp, hd2⟩ := hd2
     rw [Bool.and_eq_true, List.all_eq_true] at hd2
     obtain ⟨hpj, hall⟩ := hd2
     have hpj : p.1 = j := by simpa using hpj
     have := hP1 p hp x.1 (by rw [hpj]; exact hw) (by rw [hpj]; exact hst x hx0)
     have := hall x.1 this
     rw [List.all_eq_true] at this
     have := this q hq
     rw [bne_iff_ne] at this
     exact this e.symm
    ·have hs : isStore o.op = false := by simpa using hd2
     have := F hs hmc x hx0
     rw [e, h1] at this
     cases this
 have hb' : σ.heap q.1 = some b := by
  have e1 : setH (delH σ.heap del) set q.1 = delH σ.heap del q.1 := setH_out hne
  have hb2 : setH (delH σ.heap del) set q.1 = some b := hb
  rw [e1] at hb2
  exact delH_some hb2
 exact h2 b hb' c hc id hid
theorem AStep.ptrIs {D : DC} {ops : Array Oper} {o : Oper} {σ σ' : AS} (hd : derivOk D o = true) (hP : PtrIs D σ) (h : AStep P T ops o σ σ') : PtrIs D σ' := by
 unfold derivOk at hd
 rw [Bool.and_eq_true] at hd
 refine ⟨?_, h.cellsIs hd.2 hP⟩
 have hd := hd.1
 obtain ⟨g, v, set, set0, del, G, Dd, F, N, L, rfl⟩ := h
 intro p hp id hw he
 by_cases hk : o.dst = some p.1
 ·unfold dOk at hd
  rw [hk] at hd
  simp only [List.all_eq_true] at hd
  have hd := hd p hp
  rw [bne_self_eq_false, Bool.false_or] at hd
  simp only [hk, putS, upd, if_true] at hw he
  have hg : g = true := by
   cases hgd : o.guard with
   | none => unfold GRel at G; rw [hgd] at G; exact G
   | some q => rw [hgd] at hw; simpa [AV.when] using hw
  have hv : ptrId v = some id := by
   split at he
   ·exact he
   ·simpa [ptrId] using he
  obtain ⟨v0, hD, hc⟩ := Dd hg
  rcases hc with ⟨rfl, _⟩ | ⟨_, _, _, hwk⟩
  ·split at hd
   ·rename_i t j hop
    rw [List.any_eq_true] at hd
    obtain ⟨q, hq, hd⟩ := hd
    rw [Bool.and_eq_true, List.all_eq_true] at hd
    obtain ⟨hqj, hall⟩ := hd
    have hqj : q.1 = j := by simpa using hqj
    obtain ⟨h1, a, b, h2, h3, c, h4, h5⟩ := hD.loadPtr hop hv
    have := hall a (hP.1 q hq a (by rw [hqj]; exact h1) (by rw [hqj]; exact h2))
    rw [List.any_eq_true] at this
    obtain ⟨r, hr, this⟩ := this
    rw [Bool.and_eq_true, List.all_eq_true] at this
    have hra : r.1 = a := by simpa using this.1
    have hi := (hP.2 r hr).2 b (by rw [hra]; exact h3) c h4 id h5
    have := this.2 id hi
    simpa using this
   ·split at hd
    ·rename_i j hs
     rw [List.any_eq_true] at hd
     obtain ⟨q, hq, hd⟩ := hd
     rw [Bool.and_eq_true, List.all_eq_true] at hd
     obtain ⟨hqj, hall⟩ := hd
     have hqj : q.1 = j := by simpa using hqj
     obtain ⟨h1, h2⟩ := hD.src hs hv
     have := hall id (hP.1 q hq id (by rw [hqj]; exact h1) (by rw [hqj]; exact h2))
     simpa using this
    ·cases hd
  ·rw [wk_ptrId hwk] at hv; cases hv
 ·have e : putS σ.slots o.dst (if o.guard.isNone then v else .gd g v) p.1 = σ.slots p.1 := putS_out fun k hk' e => hk (by rw [hk', e])
  simp only [e] at hw he
  exact hP.1 p hp id hw he
def lsD (D : DC) (x y : Oper) : Bool :=
 x.guard.isNone && match x.op, y.op with
  | .load _ (.tmp k), .store _ (.tmp j) _ => D.D.any fun p => p.1 == k && D.D.any fun q => q.1 == j && p.2.all fun a => !q.2.contains a
  | _, _ => false
theorem lsD_spec {D : DC} {x y : Oper} (h : lsD D x y = true) : x.guard = none ∧ ∃ t k t' j z a b, x.op = .load t (.tmp k) ∧ y.op = .store t' (.tmp j) z ∧ (k, a) ∈ D.D ∧ (j, b) ∈ D.D ∧ ∀ i ∈ a, i ∉ b := by
 unfold lsD at h
 rw [Bool.and_eq_true] at h
 obtain ⟨h1, h2⟩ := h
 refine ⟨by simpa using h1, ?_⟩
 split at h2
 ·rename_i t k t' j z hx hy
  rw [List.any_eq_true] at h2
  obtain ⟨⟨k', a⟩, hp, h2⟩ := h2
  rw [Bool.and_eq_true, List.any_eq_true] at h2
  obtain ⟨hk, ⟨j', b⟩, hq, h2⟩ := h2
  rw [Bool.and_eq_true, List.all_eq_true] at h2
  obtain ⟨hj, hne⟩ := h2
  simp only [beq_iff_eq] at hk hj
  subst hk hj
  exact ⟨_, _, _, _, _, a, b, hx, hy, hp, hq, fun i hi hb => by have := hne i hi; simp at this; exact this hb⟩
 ·cases h2
theorem Does.loadP {ops : Array Oper} {o : Oper} {σ σ' : AS} (hal : Alike ops o σ σ') {v : AV} {set : List (Nat × Blk)} {del : List Nat} {t : TypeId} {k : Nat} (ho : o.op = .load t (.tmp k)) (hh : (σ.slots k).when = true → ∀ id, ptrId (σ.slots k) = some id → σ.heap id = σ'.heap id) (h : Does P T o σ v set del) : Does P T o σ' v set del := by
 have hev := hal.ev
 have hk : σ.ev (.tmp k) = σ'.ev (.tmp k) := hev _ (by rw [ho]; simp [Op.operands])
 unfold Does at h ⊢
 rw [ho] at h ⊢
 simp only [callOf] at h ⊢
 refine ⟨fun x hx => ?_, ?_⟩
 ·have : x = .tmp k := by simpa [Op.operands] using hx
  subst this
  rw [← hk]; exact h.1 _ hx
 ·have hw : (σ.slots k).when = true := h.1 (.tmp k) (by simp [Op.operands])
  have hb : σ'.bev (.tmp k) = σ.bev (.tmp k) := by unfold AS.bev; rw [hk]
  have e : effOf T σ'.bev σ'.heap o.dst (.load t (.tmp k)) = effOf T σ.bev σ.heap o.dst (.load t (.tmp k)) := by
   simp only [effOf, hb]
   unfold loadAV
   cases T t with
   | none => rfl
   | some ti =>
    simp only
    cases hx : (σ.bev (.tmp k)).unpix with
    | ptr id off =>
     have := hh hw id (by rw [← ptrId_bare]; exact ptrId_unpix hx)
     simp only [this]
    | _ => rfl
  rw [e]
  exact h.2
theorem isMC_store {fz : List Nat} {o : Oper} {t : TypeId} {a z : Operand} (h : o.op = .store t a z) : isMC fz o.op = false := by rw [h]; rfl
theorem commuteD {D : DC} {σ σ1 σ2 : AS} {ops : Array Oper} {o1 o2 : Oper} (hP : PtrIs D σ) (hap : Oper.apart ops o1 o2 = true) (hcl : lsD D o1 o2 = true ∨ lsD D o2 o1 = true) (h1 : AStep P T ops o1 σ σ1) (h2 : AStep P T ops o2 σ1 σ2) :
  ∃ σ1', AStep P T ops o2 σ σ1' ∧ AStep P T ops o1 σ1' σ2 := by
 obtain ⟨a1, a2, a3⟩ := Oper.apart_spec hap
 obtain ⟨g1, v1, set1, sn1, del1, G1, D1, F1, N1, L1, rfl⟩ := h1
 have hal2 : Alike ops o2 { σ with slots := putS σ.slots o1.dst (if o1.guard.isNone then v1 else .gd g1 v1), heap := setH (delH σ.heap del1) set1, seen := seenS σ.seen sn1 } σ := by
  intro t ht
  exact putS_out fun k hk e => a1 k hk (e ▸ ht)
 obtain ⟨g2, v2, set2, sn2, del2, G2, D2, F2, N2, L2, rfl⟩ := h2
 have hput : putS (putS σ.slots o1.dst (if o1.guard.isNone then v1 else .gd g1 v1)) o2.dst (if o2.guard.isNone then v2 else .gd g2 v2) = putS (putS σ.slots o2.dst (if o2.guard.isNone then v2 else .gd g2 v2)) o1.dst (if o1.guard.isNone then v1 else .gd g1 v1) :=
  putS_comm fun k hk => a2 k hk
 have hal1 : ∀ (H : Heap) (s : Nat → Bool), Alike ops o1 σ { σ with slots := putS σ.slots o2.dst (if o2.guard.isNone then v2 else .gd g2 v2), heap := H, seen := s } := by
  intro H s t ht
  exact (putS_out fun k hk e => a3 k hk (e ▸ ht)).symm
 rcases hcl with hl | hl
 ·
  obtain ⟨hgn, t, k, t', j, z, a, b, hop, hop2, hka, hjb, hne⟩ := lsD_spec hl
  have hg1 : g1 = true := by unfold GRel at G1; rw [hgn] at G1; exact G1
  obtain ⟨rfl, rfl, rfl⟩ := load_sets hop (D1 hg1)
  have hsj : σ.slots j = putS σ.slots o1.dst (if o1.guard.isNone then v1 else .gd g1 v1) j := (hal2 j (by
   unfold Oper.looksAt
   exact List.mem_append.2 (.inl (List.mem_filterMap.2 ⟨.tmp j, by rw [hop2]; simp [Op.operands], rfl⟩)))).symm
  refine ⟨_, ⟨g2, v2, set2, sn2, del2, hal2.guard G2, fun hg => (D2 hg).move hal2 rfl (fun h => by rw [isMC_store hop2] at h; cases h) rfl (.inl rfl), fun hs => (by rw [hop2] at hs; simp [isStore] at hs), N2, L2, rfl⟩,
   ⟨g1, v1, [], [], [], (hal1 _ _).guard G1, fun hg => ?_, fun _ _ x hx => by simp at hx, N1, L1, ?_⟩⟩
  ·obtain ⟨v0, hD, hr⟩ := D1 hg
   refine ⟨v0, hD.loadP (hal1 _ _) hop ?_, hr⟩
   intro hw id hid
   have hia := hP.1 _ hka id hw hid
   cases hg2 : g2 with
   | false => rw [(N2 hg2).1, (N2 hg2).2.1]; rfl
   | true =>
    obtain ⟨w0, hD2, hc2⟩ := D2 hg2
    obtain ⟨hw2, hdel, hst⟩ := hD2.storeP hop2
    have hse : set2 = sn2 := by
     rcases hc2 with ⟨_, e⟩ | ⟨e, _⟩
     ·exact e
     ·rw [hop2] at e; simp [isStore] at e
    subst hdel
    show σ.heap id = setH (delH σ.heap []) set2 id
    rw [setH_out]
    ·rfl
    ·intro x hx e
     have hxs := hst x (hse ▸ hx)
     simp only [← hsj] at hxs hw2
     have := hP.1 _ hjb x.1 hw2 hxs
     simp only at hia this
     exact hne id hia (e ▸ this)
  ·simp only [delH, setH, seenS, hput]
 ·obtain ⟨hgn, t, k, t', j, z, a, b, hop2, hop, hka, hjb, hne⟩ := lsD_spec hl
  have hg2 : g2 = true := by unfold GRel at G2; rw [hgn] at G2; exact G2
  obtain ⟨rfl, rfl, rfl⟩ := load_sets hop2 (D2 hg2)
  have hsk : putS σ.slots o1.dst (if o1.guard.isNone then v1 else .gd g1 v1) k = σ.slots k := hal2 k (by
   unfold Oper.looksAt
   exact List.mem_append.2 (.inl (List.mem_filterMap.2 ⟨.tmp k, by rw [hop2]; simp [Op.operands], rfl⟩)))
  refine ⟨_, ⟨g2, v2, [], [], [], hal2.guard G2, fun hg => ?_, fun _ _ x hx => by simp at hx, N2, L2, rfl⟩,
   ⟨g1, v1, set1, sn1, del1, (hal1 _ _).guard G1, fun hg => (D1 hg).move (hal1 _ _) rfl (fun h => by rw [isMC_store hop] at h; cases h) rfl (.inl rfl), fun hs => (by rw [hop] at hs; simp [isStore] at hs), N1, L1, ?_⟩⟩
  ·obtain ⟨v0, hD, hr⟩ := D2 hg
   refine ⟨v0, hD.loadP hal2 hop2 ?_, hr⟩
   intro hw id hid
   simp only [hsk] at hw hid
   have hia := hP.1 _ hka id hw hid
   cases hg1 : g1 with
   | false => rw [(N1 hg1).1, (N1 hg1).2.1]; rfl
   | true =>
    obtain ⟨w0, hD1, hc1⟩ := D1 hg1
    obtain ⟨hw1, hdel, hst⟩ := hD1.storeP hop
    have hse : set1 = sn1 := by
     rcases hc1 with ⟨_, e⟩ | ⟨e, _⟩
     ·exact e
     ·rw [hop] at e; simp [isStore] at e
    subst hdel
    show setH (delH σ.heap []) set1 id = σ.heap id
    rw [setH_out]
    ·rfl
    ·intro x hx e
     have := hP.1 _ hjb x.1 hw1 (hst x (hse ▸ hx))
     simp only at hia this
     exact hne id hia (e ▸ this)
  ·simp only [delH, setH, seenS, hput]
def indepD (T : Tab) (fz B : List Nat) (D : DC) (ops : Array Oper) (x y : Oper) : Bool :=
 indepB T fz B ops x y || (Oper.apart ops x y && (lsD D x y || lsD D y x))
theorem commuteBD {B : List Nat} {D : DC} {σ σ1 σ2 : AS} (hyg : Hyg σ) {ops : Array Oper} {o1 o2 : Oper} (hB : ∀ k ∈ B, BoxAt σ k) (hP : PtrIs D σ) (hd1 : ∀ k ∈ B, o1.dst ≠ some k) (hi : indepD T σ.fz B D ops o1 o2 = true) (h1 : AStep P T ops o1 σ σ1) (h2 : AStep P T ops o2 σ1 σ2) :
  ∃ σ1', AStep P T ops o2 σ σ1' ∧ AStep P T ops o1 σ1' σ2 := by
 unfold indepD at hi
 rw [Bool.or_eq_true] at hi
 rcases hi with hi | hi
 ·exact commuteB hyg hB hd1 hi h1 h2
 ·rw [Bool.and_eq_true, Bool.or_eq_true] at hi
  exact commuteD hP hi.1 hi.2 h1 h2
inductive AChain (P : Program) (T : Tab) (ops : Array Oper) : List Nat → AS → AS → Prop
 | nil (σ : AS) : AChain P T ops [] σ σ
 | cons (i : Nat) (l : List Nat) (o : Oper) (σ σ1 σ2 : AS) (ho : ops[i]? = some o) (hs : AStep P T ops o σ σ1) (ht : AChain P T ops l σ1 σ2) : AChain P T ops (i :: l) σ σ2
theorem St.next (hT : TabOk P T) {W w : World} {a : Act} {σ σ' : AS} {ops : Array Oper} {i : Nat} {o : Oper} (h : St A W w a σ) (ho : ops[i]? = some o) (hs : AStep P T ops o σ σ') : ∃ w' a', St A W w' a' σ' := by
 obtain ⟨a', w', h'⟩ := wpOp_exists (P := P) (ops := ops) (i := i) (K := fun a' w' => St A W w' a' σ') (step_sound hT h ho hs fun _ _ h => h)
 exact ⟨w', a', h'⟩
theorem AStep.fz {ops : Array Oper} {o : Oper} {σ σ' : AS} (h : AStep P T ops o σ σ') : σ'.fz = σ.fz := by
 obtain ⟨g, v, set, set0, del, _, _, _, _, _, rfl⟩ := h
 rfl
theorem AChain.pull (hT : TabOk P T) {fz B : List Nat} {D : DC} {ops : Array Oper} (hd : ∀ (j : Nat) (oj : Oper), ops[j]? = some oj → (∀ k ∈ B, oj.dst ≠ some k) ∧ derivOk D oj = true) {i : Nat} {o : Oper} (ho : ops[i]? = some o) {l2 : List Nat} {σf : AS} : ∀ (l1 : List Nat) {W w : World} {a : Act} {σ : AS}, σ.fz = fz → St A W w a σ → (∀ k ∈ B, BoxAt σ k) → PtrIs D σ → AChain P T ops (l1 ++ i :: l2) σ σf →
  (∀ j ∈ l1, ∀ oj, ops[j]? = some oj → indepD T fz B D ops oj o = true) → ∃ σ1, AStep P T ops o σ σ1 ∧ AChain P T ops (l1 ++ l2) σ1 σf
 | [], W, w, a, σ, hz, h, hB, hP, hc, _ => by
  cases hc with
  | cons _ _ o' _ σ1 _ ho' hs ht =>
   rw [ho] at ho'
   cases ho'
   exact ⟨σ1, hs, ht⟩
 | j :: l1, W, w, a, σ, hz, h, hB, hP, hc, hi => by
  cases hc with
  | cons _ _ oj _ σa _ hj hs ht =>
   obtain ⟨w', a', h'⟩ := h.next hT hj hs
   obtain ⟨σb, hb, hcb⟩ := AChain.pull hT hd ho l1 (hs.fz.trans hz) h' (fun k hk => hs.boxAt h.hyg ((hd j oj hj).1 k hk) (hB k hk)) (hs.ptrIs (hd j oj hj).2 hP) ht (fun k hk => hi k (by simp [hk]))
   obtain ⟨σ1, h1, h2⟩ := commuteBD h.hyg hB hP (hd j oj hj).1 (by rw [hz]; exact hi j (by simp) oj hj) hs hb
   exact ⟨σ1, h1, .cons j _ oj _ _ _ hj h2 hcb⟩
def masks (ops : Array Oper) : List Nat :=
 ops.toList.foldl (fun acc o => acc ++ [o.after.toList.foldl (fun s e => if Region.binds .any e then s ||| (2 ^ e.on) ||| acc.getD e.on 0 else s) 0]) []
def orderOkD (T : Tab) (fz B : List Nat) (D : DC) (ops : Array Oper) : Bool :=
 let ms := masks ops
 (List.range ops.size).all fun i => match ops[i]? with
  | none => false
  | some o => ((match o.dst with | some d => !B.contains d | none => true) && derivOk D o) && o.after.toList.all (fun e => !Region.binds .any e || decide (e.on < i)) &&
   (List.range i).all fun j => match ops[j]? with
    | none => false
    | some oj => if (ms.getD i 0).testBit j then o.after.toList.any (fun e => Region.binds .any e && (e.on == j || (decide (j < e.on) && (ms.getD e.on 0).testBit j))) else indepD T fz B D ops oj o
def orderOkB (T : Tab) (fz B : List Nat) (ops : Array Oper) : Bool := orderOkD T fz B ⟨[], []⟩ ops
def orderOk (T : Tab) (fz : List Nat) (ops : Array Oper) : Bool := orderOkB T fz [] ops
theorem orderOk_spec {fz B : List Nat} {D : DC} {ops : Array Oper} (h : orderOkD T fz B D ops = true) {i : Nat} {o : Oper} (ho : ops[i]? = some o) :
  ((∀ k ∈ B, o.dst ≠ some k) ∧ derivOk D o = true) ∧ (∀ e ∈ o.after.toList, Region.binds .any e = true → e.on < i) ∧
  (∀ j oj, j < i → ops[j]? = some oj → ((masks ops).getD i 0).testBit j = true ∧ (∃ e ∈ o.after.toList, Region.binds .any e = true ∧ (e.on = j ∨ (j < e.on ∧ ((masks ops).getD e.on 0).testBit j = true))) ∨ indepD T fz B D ops oj o = true) := by
 unfold orderOkD at h
 simp only [List.all_eq_true, List.mem_range] at h
 have hlt : i < ops.size := (Array.getElem?_eq_some_iff.1 ho).1
 have h1 := h i hlt
 rw [ho] at h1
 simp only [Bool.and_eq_true, List.all_eq_true] at h1
 refine ⟨⟨fun k hk e => ?_, h1.1.1.2⟩, fun e he hb => ?_, fun j oj hj hoj => ?_⟩
 ·have := h1.1.1.1
  rw [e] at this
  simp at this
  exact this hk
 ·have := h1.1.2 e he
  rw [hb] at this
  simpa using this
 ·have := h1.2 j (by simpa using hj)
  rw [hoj] at this
  simp only at this
  split at this
  ·rename_i ht
   rw [List.any_eq_true] at this
   obtain ⟨e, he, hb⟩ := this
   simp only [Bool.and_eq_true, Bool.or_eq_true, beq_iff_eq, decide_eq_true_eq] at hb
   exact .inl ⟨ht, e, he, hb.1, hb.2⟩
  ·exact .inr this
def Closed (ops : Array Oper) (listed : Array Bool) : Prop := ∀ k o, ops[k]? = some o → listed.getD k true = true → k < listed.size → ∀ e ∈ o.after.toList, Region.binds .any e = true → listed.getD e.on false = true
theorem listed_of_mask {fz B : List Nat} {D : DC} {ops : Array Oper} (h : orderOkD T fz B D ops = true) {listed : Array Bool} (hsz : ops.size ≤ listed.size) (hc : Closed ops listed) : ∀ (n i j : Nat) (o : Oper), i ≤ n → ops[i]? = some o → j < i → ((masks ops).getD i 0).testBit j = true →
  (∃ oj, ops[j]? = some oj ∧ indep T fz ops oj o = false ∨ True) → (∀ e ∈ o.after.toList, Region.binds .any e = true → listed.getD e.on false = true) →
  (∃ e ∈ o.after.toList, Region.binds .any e = true ∧ (e.on = j ∨ (j < e.on ∧ ((masks ops).getD e.on 0).testBit j = true))) → listed.getD j false = true := by
 intro n
 induction n with
 | zero => intro i j o hi _ hj; omega
 | succ n ih =>
  intro i j o hi ho hj ht _ hl hex
  obtain ⟨e, he, hb, hcase⟩ := hex
  rcases hcase with rfl | ⟨hlt, hbit⟩
  ·exact hl e he hb
  ·have hei := (orderOk_spec h ho).2.1 e he hb
   have hsz' : i < ops.size := (Array.getElem?_eq_some_iff.1 ho).1
   obtain ⟨o', ho'⟩ : ∃ o', ops[e.on]? = some o' := ⟨ops[e.on]'(by omega), Array.getElem?_eq_getElem (by omega)⟩
   have hle := hl e he hb
   have hle' : listed.getD e.on true = true := by
    simp only [Array.getD_eq_getD_getElem?] at hle ⊢
    rw [Array.getElem?_eq_getElem (by omega)] at hle ⊢
    exact hle
   have hcl := hc e.on o' ho' hle' (by omega)
   obtain ⟨oj, hoj⟩ : ∃ oj, ops[j]? = some oj := ⟨ops[j]'(by omega), Array.getElem?_eq_getElem (by omega)⟩
   refine ih e.on j o' (by omega) ho' hlt hbit ⟨oj, .inr trivial⟩ hcl ?_
   unfold orderOkD at h
   simp only [List.all_eq_true, List.mem_range] at h
   have h1 := h e.on (by omega)
   rw [ho'] at h1
   simp only [Bool.and_eq_true, List.all_eq_true] at h1
   have h2 := h1.2 j (by simpa using hlt)
   rw [hoj] at h2
   simp only at h2
   rw [if_pos hbit, List.any_eq_true] at h2
   obtain ⟨e', he', hb'⟩ := h2
   simp only [Bool.and_eq_true, Bool.or_eq_true, beq_iff_eq, decide_eq_true_eq] at hb'
   exact ⟨e', he', hb'.1, hb'.2⟩
def rest (ops : Array Oper) (listed : Array Bool) : List Nat := (List.range ops.size).filter fun i => !listed.getD i true
theorem mem_rest {ops : Array Oper} {listed : Array Bool} {i : Nat} : i ∈ rest ops listed ↔ i < ops.size ∧ listed.getD i true = false := by
 unfold rest
 simp
theorem rest_sorted (ops : Array Oper) (listed : Array Bool) : (rest ops listed).Pairwise (· < ·) := by
 unfold rest
 exact List.Pairwise.filter _ List.pairwise_lt_range
theorem any_order (hT : TabOk P T) {fz B : List Nat} {D : DC} {ops : Array Oper} (hok : orderOkD T fz B D ops = true) {W : World} {Q : Exit → Act → World → Prop} {σf : AS} (hQ : ∀ a w, St A W w a σf → Q .normal a w) : ∀ (n : Nat) (listed : Array Bool) (a : Act) (w : World) (σ : AS),
  listed.size = ops.size → Closed ops listed → (rest ops listed).length = n → σ.fz = fz → St A W w a σ → (∀ k ∈ B, BoxAt σ k) → PtrIs D σ → AChain P T ops (rest ops listed) σ σf → wpAny P .any ops Q n listed a w := by
 intro n
 induction n with
 | zero =>
  intro listed a w σ hsz hcl hlen hz hst hB hP hch
  have hnil : rest ops listed = [] := List.eq_nil_of_length_eq_zero hlen
  rw [hnil] at hch
  cases hch
  refine ⟨?_, hQ a w hst⟩
  unfold Region.ready
  rw [List.filter_eq_nil_iff]
  intro i hi hc
  simp only [Bool.and_eq_true, Bool.not_eq_true'] at hc
  have : i ∈ rest ops listed := mem_rest.2 ⟨by simpa using hi, hc.1⟩
  rw [hnil] at this
  simp at this
 | succ n ih =>
  intro listed a w σ hsz hcl hlen hz hst hB hP hch
  have hsorted := rest_sorted ops listed
  refine ⟨fun hr => ?_, ?_⟩
  ·exfalso
   cases hL : rest ops listed with
   | nil => rw [hL] at hlen; simp at hlen
   | cons m l =>
    have hm : m ∈ rest ops listed := by rw [hL]; simp
    obtain ⟨hms, hml⟩ := mem_rest.1 hm
    obtain ⟨o, ho⟩ : ∃ o, ops[m]? = some o := ⟨ops[m]'hms, Array.getElem?_eq_getElem hms⟩
    have : m ∈ Region.ready .any ops listed := by
     unfold Region.ready
     refine List.mem_filter.2 ⟨by simpa using hms, ?_⟩
     rw [hml, ho]
     simp only [Bool.not_false, Option.map_some, Option.getD_some, Bool.true_and]
     rw [Array.all_eq_true']
     intro e he
     cases hb : Region.binds .any e with
     | false => rfl
     | true =>
      have hlt := (orderOk_spec hok ho).2.1 e (by simpa using he) hb
      simp only [Bool.not_true, Bool.false_or]
      cases hle : listed.getD e.on false with
      | true => rfl
      | false =>
       exfalso
       have hin : e.on ∈ rest ops listed := mem_rest.2 ⟨by omega, by
        simp only [Array.getD_eq_getD_getElem?] at hle ⊢
        rw [Array.getElem?_eq_getElem (by omega)] at hle ⊢
        exact hle⟩
       rw [hL] at hin hsorted
       rcases List.mem_cons.1 hin with he' | he'
       ·omega
       ·have := (List.pairwise_cons.1 hsorted).1 _ he'
        omega
    rw [hr] at this
    simp at this
  ·intro i hi
   unfold Region.ready at hi
   obtain ⟨hi1, hi2⟩ := List.mem_filter.1 hi
   simp only [Bool.and_eq_true, Bool.not_eq_true'] at hi2
   have his : i < ops.size := by simpa using hi1
   obtain ⟨o, ho⟩ : ∃ o, ops[i]? = some o := ⟨ops[i]'his, Array.getElem?_eq_getElem his⟩
   have hpre : ∀ e ∈ o.after.toList, Region.binds .any e = true → listed.getD e.on false = true := by
    have h2 := hi2.2
    rw [ho] at h2
    simp only [Option.map_some, Option.getD_some] at h2
    rw [Array.all_eq_true'] at h2
    intro e he hb
    have := h2 e (by simpa using he)
    rw [hb] at this
    simpa using this
   have hmem : i ∈ rest ops listed := mem_rest.2 ⟨his, hi2.1⟩
   obtain ⟨l1, l2, hL⟩ := List.append_of_mem hmem
   rw [hL] at hch hsorted
   have hbefore : ∀ j ∈ l1, j < i := fun j hj => (List.pairwise_append.1 hsorted).2.2 j hj i (by simp)
   obtain ⟨σ1, hs, hc1⟩ := AChain.pull hT (fun j oj hj => (orderOk_spec hok hj).1) ho l1 hz hst hB hP hch (by
    intro j hj oj hoj
    have hji := hbefore j hj
    rcases (orderOk_spec hok ho).2.2 j oj hji hoj with ⟨ht, hex⟩ | hind
    ·exfalso
     have hjl := listed_of_mask hok (Nat.le_of_eq hsz.symm) hcl i i j o (Nat.le_refl _) ho hji ht ⟨oj, .inr trivial⟩ hpre hex
     have hjr : j ∈ rest ops listed := by rw [hL]; simp [hj]
     have := (mem_rest.1 hjr).2
     simp only [Array.getD_eq_getD_getElem?] at hjl this
     rw [Array.getElem?_eq_getElem (by omega)] at hjl this
     simp at hjl this
     rw [hjl] at this
     cases this
    ·exact hind)
   refine step_sound hT hst ho hs fun a' w' hst' => ?_
   have hnodup : ∀ j, j ∈ l1 ∨ j ∈ l2 → j ≠ i := by
    intro j hj
    rcases hj with hj | hj
    ·have := hbefore j hj; omega
    ·have := (List.pairwise_cons.1 (List.pairwise_append.1 hsorted).2.1).1 j hj; omega
   have hset : ∀ k d, (listed.setIfInBounds i true).getD k d = if k = i then true else listed.getD k d := by
    intro k d
    simp only [Array.getD_eq_getD_getElem?, Array.getElem?_setIfInBounds]
    by_cases hk : i = k
    ·subst hk; simp [hsz, his]
    ·rw [if_neg hk, if_neg (fun e => hk e.symm)]
   have hrest : rest ops (listed.setIfInBounds i true) = l1 ++ l2 := by
    have e1 : rest ops (listed.setIfInBounds i true) = (rest ops listed).filter (fun j => !(j == i)) := by
     unfold rest
     rw [List.filter_filter]
     apply List.filter_congr
     intro j _
     rw [hset]
     by_cases hj : j = i
     ·simp [hj]
     ·simp [hj]
    rw [e1, hL, List.filter_append, List.filter_cons]
    simp only [beq_self_eq_true, Bool.not_true, Bool.false_eq_true, if_false]
    rw [List.filter_eq_self.2, List.filter_eq_self.2]
    ·intro j hj; simp [hnodup j (.inr hj)]
    ·intro j hj; simp [hnodup j (.inl hj)]
   refine ih _ _ _ σ1 (by simpa using hsz) ?_ ?_ (hs.fz.trans hz) hst' (fun k hk => hs.boxAt hst.hyg ((orderOk_spec hok ho).1.1 k hk) (hB k hk)) (hs.ptrIs (orderOk_spec hok ho).1.2 hP) (by rw [hrest]; exact hc1)
   ·intro k ok hk hlk hks e he hb
    rw [hset] at hlk ⊢
    by_cases hki : k = i
    ·subst hki
     rw [ho] at hk
     cases hk
     split
     ·rfl
     ·exact hpre e he hb
    ·rw [if_neg hki] at hlk
     have := hcl k ok hk hlk (by simpa using hks) e he hb
     split
     ·rfl
     ·exact this
   ·rw [hrest]
    have := congrArg List.length hL
    rw [hlen] at this
    simp at this ⊢
    omega
theorem region_draw (hT : TabOk P T) (hm : P.follows .mixedOrders = true) {id : Nat} {fz B : List Nat} {D : DC} {ops : Array Oper} (hok : orderOkD T fz B D ops = true) {W w : World} {a : Act} {σ σf : AS} (hz : σ.fz = fz) (hst : St A W w a σ) (hB : ∀ k ∈ B, BoxAt σ k) (hP : PtrIs D σ) (hch : AChain P T ops (List.range ops.size) σ σf)
  {Q : Exit → Act → World → Prop} (hQ : ∀ a w, St A W w a σf → Q .normal a w) : (Code.region id ops true).wp P Q a w := by
 refine wp_region_any hm ?_
 have hr : rest ops (Array.replicate ops.size false) = List.range ops.size := by
  unfold rest
  rw [List.filter_eq_self]
  intro i hi
  have : i < ops.size := by simpa using hi
  simp [Array.getD_eq_getD_getElem?, this]
 have hst' : St A W { w with drawn := w.drawn + 1 } a σ := by
  obtain ⟨ι, R, h⟩ := hst
  refine ⟨ι, R, h.below.drew, h.size, h.defers, h.seen, fun t => RelA.mono (w := w) (w' := w.drew) (R := R) (fun _ _ e => e) (fun _ e => e) (fun _ _ => rfl) _ _ (h.slots t), fun id b hb => RelB.mono (w := w) (w' := w.drew) (h.heap id b hb) (fun _ _ e => e) (fun _ e => e) (fun _ _ => rfl) (fun _ _ _ => rfl), h.inj, h.new, h.lt, h.out, h.arg, h.pin, h.glob⟩
 refine any_order hT hok hQ ops.size _ _ _ σ (by simp) ?_ (by rw [hr]; simp) hz hst' hB hP (by rw [hr]; exact hch)
 intro k o hk hl hks
 simp at hks
 simp [Array.getD_eq_getD_getElem?, hks] at hl
theorem region_text (hT : TabOk P T) {id : Nat} {ops : Array Oper} {W : World} {σf : AS} {Q : Exit → Act → World → Prop} (hQ : ∀ a w, St A W w a σf → Q .normal a w) : ∀ (l : List Nat) {w : World} {a : Act} {σ : AS}, St A W w a σ → AChain P T ops l σ σf → wpOps P ops Q l a w
 | [], w, a, σ, hst, hch => by cases hch; exact hQ a w hst
 | i :: l, w, a, σ, hst, hch => by
  cases hch with
  | cons _ _ o _ σ1 _ ho hs ht =>
   rw [wpOps_cons]
   exact step_sound hT hst ho hs fun a' w' hst' => region_text (id := id) hT hQ l hst' ht
end Go.Ab

