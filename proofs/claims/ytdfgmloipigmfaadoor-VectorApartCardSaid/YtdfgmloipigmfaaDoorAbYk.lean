/- Maps whose keys are structs of whole numbers. -/
import Derived.Test.YtdfgmloipigmfaaDoorAbYm
set_option linter.unusedVariables false
set_option linter.unusedSimpArgs false
set_option linter.unusedSectionVars false
namespace Go.Ab
open Go.RowKit
variable {A : Env}
variable {P : Program} {T : Tab} [OfP A P]
variable {α κ : Type}

/-- A struct of whole numbers, as a key. -/
structure Key (κ : Type) where
  f : κ → List Int
  n : Nat
  len : ∀ x, (f x).length = n
  inj : ∀ x y, f x = f y → x = y

def kget [DecidableEq κ] (k : κ) : List (κ × α) → Option α
  | [] => none
  | p :: r => bif decide (k = p.1) then some p.2 else kget k r
def kput [DecidableEq κ] (k : κ) (v : α) : List (κ × α) → List (κ × α)
  | [] => [(k, v)]
  | p :: r => bif decide (k = p.1) then (p.1, v) :: r else p :: kput k v r

def Key.v (K : Key κ) (x : κ) : Value := .agg ((K.f x).map (Value.int .i64)).toArray
def Key.K (K : Key κ) (m : List (κ × α)) : List Value := m.map fun p => K.v p.1
def Elem.kX (E : Elem α) (m : List (κ × α)) : List AV := m.map fun p => .pv (E.cf p.2 0)

theorem allI_map : ∀ l : List Int, allI (l.map (Value.int .i64)) = true
  | [] => rfl
  | _ :: l => allI_map l
theorem intsEq_map : ∀ a b : List Int, intsEq (a.map (Value.int .i64)) (b.map (Value.int .i64)) = decide (a = b)
  | [], [] => by simp [intsEq]
  | [], _ :: _ => by simp [intsEq]
  | _ :: _, [] => by simp [intsEq]
  | x :: a, y :: b => by
    simp only [List.map_cons, intsEq, intsEq_map a b, List.cons.injEq]
    by_cases h1 : x = y <;> by_cases h2 : a = b <;> simp [h1, h2]
theorem Key.aggI (K : Key κ) (x : κ) : aggI K.n (K.v x) = true := by
  unfold Key.v Go.Ab.aggI
  simp only [List.size_toArray, List.length_map, K.len, allI_map, Bool.and_true]
  exact Nat.beq_refl _
theorem Key.eq [DecidableEq κ] (K : Key κ) (x y : κ) : keyEq (K.v x) (K.v y) = decide (x = y) := by
  unfold Key.v keyEq
  simp only [intsEq_map]
  by_cases h : x = y
  · subst h; simp
  · have : K.f x ≠ K.f y := fun e => h (K.inj _ _ e)
    simp [h, this]

theorem mapGet_k [DecidableEq κ] (K : Key κ) (E : Elem α) (k : κ) : ∀ m : List (κ × α), mapGet (K.v k) (K.K m) (E.kX m) = (kget k m).map fun v => .pv (E.cf v 0)
  | [] => rfl
  | p :: r => by
    have ih := mapGet_k K E k r
    simp only [Key.K, Elem.kX, List.map_cons, mapGet, kget, K.eq] at ih ⊢
    cases decide (k = p.1) with
    | true => rfl
    | false => exact ih
theorem mapPut_k [DecidableEq κ] (K : Key κ) (E : Elem α) (k : κ) (v : α) : ∀ m : List (κ × α), mapPut (K.v k) (.pv (E.cf v 0)) (K.K m) (E.kX m) = (K.K (kput k v m), E.kX (kput k v m))
  | [] => rfl
  | p :: r => by
    have ih := mapPut_k K E k v r
    simp only [Key.K, Elem.kX, List.map_cons, mapPut, kput, K.eq] at ih ⊢
    cases decide (k = p.1) with
    | true => rfl
    | false => simp only [cond_false, ih, List.map_cons]
theorem Elem.kX_pv (E : Elem α) (m : List (κ × α)) : AllPv (E.kX m) := by
  intro c hc
  obtain ⟨p, _, rfl⟩ := List.mem_map.1 hc
  exact ⟨_, rfl⟩

theorem Key.ok (K : Key κ) {fs : Array Field} (hf : flatI T fs.toList 0 = true) (hn : fs.size = K.n) (x : κ) (m : List (κ × α)) : keysOkS T fs (K.v x) (K.K m) := by
  refine ⟨hf, by rw [hn]; exact K.aggI x, fun e he => ?_⟩
  obtain ⟨p, _, rfl⟩ := List.mem_map.1 he
  rw [hn]; exact K.aggI p.1

theorem rawsOf_map : ∀ l : List Int, rawsOf (l.map fun n => .pv (.raw (.int .i64 n))) = some (l.map (Value.int .i64))
  | [] => rfl
  | _ :: l => by simp only [List.map_cons, rawsOf, rawsOf_map l, Option.map_some]

/-- Looking up a struct. -/
def lkkV (T : Tab) (l : Lf) : Option (Nat × Nat × Nat × List AV × AV × Bool) :=
  match hardV l with
  | some (d, o) => match o.op with
    | .lookup t m k ck => match T t with
      | some { under := .map kt et, .. } => match T kt, T et with
        | some { under := .struct fs, cmp := true, .. }, some ti => match flatI T fs.toList 0, l.σ.bev m, l.σ.bev k with
          | true, .map id, .agg cs => some (d, id, fs.size, cs, zeroAV ti.zero, ck)
          | _, _, _ => none
        | _, _ => none
      | _ => none
    | _ => none
  | none => none

theorem lkk_ok [DecidableEq κ] {Q : Exit → AS → Prop} {l : Lf} {d id : Nat} {z : AV} (K : Key κ) (E : Elem α) {m : List (κ × α)} (x : κ) (v : AV) (hv : lkkV T l = some (d, id, K.n, (K.f x).map (fun n => .pv (.raw (.int .i64 n))), z, false)) (hid : l.σ.heap id = some (.map (K.K m) (E.kX m)))
    (hz : z = .pv (E.cf E.z 0)) (he : .pv (E.cf ((kget x m).getD E.z) 0) = v) (hk : VS P T Q l.rest .normal (l.σ.eff (some d) v [] [])) : V P T Q l := by
  subst he
  unfold lkkV at hv
  split at hv
  · rename_i d' o hh
    split at hv
    · rename_i t mm k ck' hop
      split at hv
      · rename_i kt et _ _ _ _ ht
        split at hv
        · rename_i fs s b zz ti hkt het
          split at hv
          · rename_i id' cs hf hm hkk
            simp only [Option.some.injEq, Prod.mk.injEq] at hv
            obtain ⟨rfl, rfl, hn, rfl, rfl, rfl⟩ := hv
            have hg := mapGet_k K E x m
            have hkey : Value.agg ((K.f x).map (Value.int .i64)).toArray = K.v x := rfl
            refine hard_ok (T := T) hh (e := .of (keysOkS T fs (K.v x) (K.K m), .pv (E.cf ((kget x m).getD E.z) 0))) ?_ (K.ok hf hn x m) (.inr trivial) hk
            unfold effOf
            simp only [hop, ht, hkt, het, hm, hkk, hid, rawsOf_map, hkey, hg, cond_false]
            rw [hz]
            cases kget x m <;> rfl
          · cases hv
        · cases hv
      · cases hv
    · cases hv
  · cases hv

/-- Something put into a map at a struct. -/
def mukV (T : Tab) (l : Lf) : Option (Nat × Nat × List AV × AV) :=
  match storeV l with
  | some o => match o.op with
    | .mapUpdate t m k x => match T t with
      | some { under := .map kt _, .. } => match T kt with
        | some { under := .struct fs, cmp := true, .. } => match flatI T fs.toList 0, l.σ.bev m, l.σ.bev k with
          | true, .map id, .agg cs => some (id, fs.size, cs, l.σ.bev x)
          | _, _, _ => none
        | _ => none
      | _ => none
    | _ => none
  | none => none

theorem muk_ok [DecidableEq κ] {Q : Exit → AS → Prop} {l : Lf} {id : Nat} (K : Key κ) (E : Elem α) {m : List (κ × α)} (x : κ) (y : α) (hv : mukV T l = some (id, K.n, (K.f x).map (fun n => .pv (.raw (.int .i64 n))), .pv (E.cf y 0))) (hid : l.σ.heap id = some (.map (K.K m) (E.kX m)))
    (h1 : (AV.pv (E.cf y 0)).one = true) (hk : VS P T Q l.rest .normal (l.σ.eff none (.raw undef) [(id, .map (K.K (kput x y m)) (E.kX (kput x y m)))] [])) : V P T Q l := by
  unfold mukV at hv
  split at hv
  · rename_i o hh
    split at hv
    · rename_i t mm k xx hop
      split at hv
      · rename_i kt et _ _ _ _ ht
        split at hv
        · rename_i fs s b zz hkt
          split at hv
          · rename_i id' cs hf hm hkk
            simp only [Option.some.injEq, Prod.mk.injEq] at hv
            obtain ⟨rfl, hn, rfl, hxx⟩ := hv
            have hkey : Value.agg ((K.f x).map (Value.int .i64)).toArray = K.v x := rfl
            refine store_ok (T := T) hh (e := ⟨keysOkS T fs (K.v x) (K.K m) ∧ (AV.pv (E.cf y 0)).one = true, .raw undef, [(_, .map (K.K (kput x y m)) (E.kX (kput x y m)))], []⟩) ?_ ⟨K.ok hf hn x m, h1⟩ hk
            unfold effOf
            simp only [hop, ht, hkt, hm, hkk, hid, rawsOf_map, hkey, hxx, mapPut_k]
          · cases hv
        · cases hv
      · cases hv
    · cases hv
  · cases hv

end Go.Ab
