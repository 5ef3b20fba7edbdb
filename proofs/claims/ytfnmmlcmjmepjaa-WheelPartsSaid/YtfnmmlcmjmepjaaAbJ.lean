import Derived.Test.YtfnmmlcmjmepjaaAbI
import Derived.Deep.AppendSrc
import Derived.Deep.DeepAppendWide
set_option linter.unusedVariables false
set_option linter.unusedSectionVars false
set_option linter.unusedSimpArgs false
namespace Go.Ab
open Go.RowKit
variable {A : Env}
variable {P : Program} {T : Tab} [OfP A P]
theorem news_sound {ι : Emb} {R : Nat → Prop} {w : World} {H : Heap} (hH : ∀ id b, H id = some b → RelB ι R w id b) (s : Nat) (hs : 0 < s) {x : AV} {u : Value} (hx : RelA ι R w x u) (h : (newsAV H s x).1) :
    ∃ a c news, u = .slice a (newsAV H s x).2.1 c ∧ RelL ι R w (newsAV H s x).2.2 news ∧ news.length = (newsAV H s x).2.1 * s ∧ Ones news ∧
      (0 < (newsAV H s x).2.1 → ∃ ad, a = some ad ∧ ∀ j v, news[j]? = some v → w.cell? (ad.add j) = some v) := by
  unfold newsAV at h ⊢
  split at h
  · obtain rfl := raw_inv hx
    exact ⟨none, 0, [], rfl, by simp [RelL], by simp, by intro u hu; simp at hu, fun h => by simp at h⟩
  · rename_i s' n c
    have h' : s' = s := h
    subst h'
    simp only [RelA, RelP] at hx
    obtain ⟨a, cap, rfl, hc, hn, hx⟩ := hx
    by_cases h0 : n = 0
    · subst h0
      exact ⟨a, cap, [], rfl, by simp [roL, RelL], by simp, by intro u hu; simp at hu, fun h => by simp at h⟩
    · obtain ⟨g, o, rfl, hg, hx⟩ := hx (by omega)
      have inner : ∀ (i : Nat), i < n → ∀ m k, k + m = s' → ∃ us : List Value, us.length = m ∧ RelL ι R w (firstPV (c i) k m) us ∧ Ones us ∧ ∀ j v, us[j]? = some v → w.cell? ⟨g, o + i * s' + k + j, none⟩ = some v := by
        intro i hi m
        induction m with
        | zero => intro k hk; exact ⟨[], rfl, by simp [firstPV, RelL], by intro u hu; simp at hu, by simp⟩
        | succ m ih =>
          intro k hk
          obtain ⟨us, h1, h2, h3, h4⟩ := ih (k + 1) (by omega)
          obtain ⟨x, hx1, hx2, hx3⟩ := hx i hi k (by omega)
          refine ⟨x :: us, by simp [h1], by simp only [firstPV, RelL, RelA]; exact ⟨hx3, h2⟩, ?_, ?_⟩
          · intro u hu
            rcases List.mem_cons.1 hu with rfl | hu
            · exact hx2
            · exact h3 u hu
          · intro j v hv
            cases j with
            | zero => simp at hv; subst hv; exact hx1
            | succ j => have := h4 j v (by simpa using hv); rw [show o + i * s' + k + (j + 1) = o + i * s' + (k + 1) + j by omega]; exact this
      have outer : ∀ m, m ≤ n → ∃ us : List Value, us.length = m * s' ∧ RelL ι R w ((List.range m).flatMap fun i => firstPV (c i) 0 s') us ∧ Ones us ∧ ∀ j v, us[j]? = some v → w.cell? ⟨g, o + j, none⟩ = some v := by
        intro m
        induction m with
        | zero => intro _; exact ⟨[], by simp, by simp [RelL], by intro u hu; simp at hu, by simp⟩
        | succ m ih =>
          intro hm
          obtain ⟨us, h1, h2, h3, h4⟩ := ih (by omega)
          obtain ⟨vs, k1, k2, k3, k4⟩ := inner m (by omega) s' 0 (by omega)
          refine ⟨us ++ vs, by simp [h1, k1, Nat.add_mul], ?_, ?_, ?_⟩
          · rw [List.range_succ, List.flatMap_append]
            simp only [List.flatMap_cons, List.flatMap_nil, List.append_nil]
            exact h2.append k2
          · intro u hu
            rcases List.mem_append.1 hu with hu | hu
            · exact h3 u hu
            · exact k3 u hu
          · intro j v hv
            by_cases hj : j < us.length
            · rw [List.getElem?_append_left hj] at hv; exact h4 j v hv
            · rw [List.getElem?_append_right (by omega)] at hv
              have := k4 _ v hv
              rw [show o + m * s' + 0 + (j - us.length) = o + j by omega] at this
              exact this
      obtain ⟨us, h1, h2, h3, h4⟩ := outer n (Nat.le_refl _)
      exact ⟨_, cap, us, rfl, h2, h1, h3, fun _ => ⟨⟨g, o, none⟩, rfl, fun j v hv => by rw [add_none]; exact h4 j v hv⟩⟩
  · rename_i id s' off len
    split at h
    · rename_i e s'' cells hid
      obtain ⟨rfl, h⟩ := h
      simp only [RelA] at hx
      have hb := hH id _ hid
      rcases hx with ⟨_, rfl, rfl, rfl⟩ | ⟨g, cp, a, hi, rfl, hl, hl0⟩
      · exact ⟨none, 0, [], rfl, by simp [RelL], by simp, by intro u hu; simp at hu, fun h => by simp at h⟩
      · by_cases hz : len = 0
        · subst hz
          exact ⟨a, _, [], rfl, by simp [RelL], by simp, by intro u hu; simp at hu, fun h => by simp at h⟩
        · obtain rfl := hl0 (by omega)
          have hne : cells ≠ [] := by
            intro he
            rw [he] at h
            have : 0 < (off + len) * s' := Nat.mul_pos (by omega) hs
            simp at h
            omega
          obtain ⟨g', c', hi', us, hr, h1, hc⟩ := hb.cells (by exact hne)
          rw [hi] at hi'
          obtain ⟨rfl, rfl⟩ : g = g' ∧ cp = c' := by simpa using hi'
          have hul := hr.length
          simp only [Blk.cells] at hul hr
          refine ⟨_, _, (us.drop (off * s')).take (len * s'), rfl, (hr.drop _).take _, ?_, ?_, fun _ => ⟨⟨g, off * s' + cp.base, none⟩, rfl, fun j v hv => ?_⟩⟩
          · rw [Nat.add_mul] at h
            simp; omega
          · intro u hu
            exact h1 u (List.mem_of_mem_drop (List.mem_of_mem_take hu))
          · rw [List.getElem?_take] at hv
            split at hv
            · rw [add_none]; show w.cell? ⟨g, off * s' + cp.base + j, none⟩ = _; rw [Nat.add_right_comm]; exact hc _ _ (by simpa using hv)
            · cases hv
    · exact h.elim
  · exact h.elim
theorem run_append_zero {w : World} {t ty e : TypeId} {i : TypeInfo} (ht : P.underlying t = some (.slice e)) (hi : P.info? e = some i) (base : Option Addr) (n cap : Nat) (hc : n ≤ cap) (a : Option Addr) (c : Nat) :
    (Builtin.append_ #[t, t] ty #[.slice base n cap, .slice a 0 c]).run P w = .ok (.slice base n cap) w := by
  cases base <;> cases a <;> simp [Builtin.append_, run_underlying ht, sizeOf, typeInfo, hi, Builtin.lenOf, hc, Builtin.firstCells, loadCells, loadCellsFrom, storeCells]
theorem below_drew_alloc (w : World) (o : Obj) : Below w.heap.size w (w.drew.alloc o) := (Below.refl _ _).drew.alloc (Nat.le_refl _) o
theorem run_append_room_at {w : World} {t ty e : TypeId} {i : TypeInfo} (ht : P.underlying t = some (.slice e)) (hi : P.info? e = some i) (g o sLen sCap : Nat) (cur : Array Value) (hg : w.heap[g]? = some (.cells cur e (0, 0)))
    (a : Addr) (m c : Nat) (news : List Value) (hl : news.length = m * i.size) (hnews : ∀ j u, news[j]? = some u → w.cell? (a.add j) = some u) (h1 : ∀ u ∈ news, u.oneCell' = true)
    (hroom : sLen + m ≤ sCap) (hfit : o + sLen * i.size + news.length ≤ cur.size) :
    (Builtin.append_ #[t, t] ty #[.slice (some ⟨g, o, none⟩) sLen sCap, .slice (some a) m c]).run P w =
      .ok (.slice (some ⟨g, o, none⟩) (sLen + m) sCap) (w.setRow g (cur.toList.take (o + sLen * i.size) ++ news ++ cur.toList.drop (o + sLen * i.size + news.length)).toArray) := by
  have hf := run_firstCells_some (P := P) w i.size m a m c news hl hnews
  have hst := run_storeCells_at P g (o + sLen * i.size) e news 0 cur w hg (by simpa using hfit) h1
  simp only [Nat.add_zero] at hst
  simp [Builtin.append_, run_underlying ht, sizeOf, typeInfo, hi, Builtin.lenOf, hroom, hf, Addr.add_lit, hst]
theorem St.Of.rebase {W w : World} {a : Act} {σ : AS} {ι : Emb} {R : Nat → Prop} (h : St.Of A W w a σ ι R) {id f e s off len g : Nat} {c : Cp} {cells : List AV} (hid : σ.heap id = some (.row e s cells)) (hl : (off + len) * s ≤ cells.length)
    (hi : ι id = some (some (g, c))) (hc : off + len ≤ c.cap) (hf : σ.seen f = false) (hb : len ≤ 140737488355328) :
    St.Of A W w a { σ with heap := upd (upd σ.heap id none) f (some (.row e s ((cells.drop (off * s)).take (len * s)))), seen := upd σ.seen f true } (upd ι f (some (some (g, ⟨c.cap - off, off * s + c.base⟩)))) R := by
  have hf0 : ι f = none := by
    cases e' : ι f with
    | none => rfl
    | some y => have := h.seen f y e'; rw [hf] at this; cases this
  obtain ⟨n, hln, hs, hn47, hb'⟩ := h.heap id _ hid
  rcases hb' with ⟨hin, _⟩ | ⟨g', cap, base, cur, hi', hh, hsz, hnc, hcm, hr, hone⟩
  · rw [hi] at hin; cases hin
  rw [hi] at hi'
  obtain ⟨rfl, rfl⟩ : g = g' ∧ c = ⟨cap, base⟩ := by simpa using hi'
  have hc : off + len ≤ cap := hc
  rw [hln] at hl
  have hon : off + len ≤ n := Nat.le_of_mul_le_mul_right hl hs
  have hsub : (cur.toList.drop (off * s + base)).take (len * s) = (((cur.toList.drop base).take (n * s)).drop (off * s)).take (len * s) := by
    rw [List.drop_take, List.take_take, List.drop_drop, Nat.min_eq_left, Nat.add_comm]
    rw [← Nat.sub_mul]; exact Nat.mul_le_mul_right _ (by omega)
  refine h.rename hid hi (by intro g1 c1 e1; cases e1; exact ⟨_, rfl⟩) hf ⟨len, ?_, hs, hb, .inr ⟨g, cap - off, off * s + base, cur, by simp [upd], hh, ?_, ?_, by omega, ?_, ?_⟩⟩
  · rw [List.length_take, List.length_drop, hln, ← Nat.sub_mul, Nat.min_eq_left]
    exact Nat.mul_le_mul_right _ (by omega)
  · rw [hsz]
    have : cap * s = off * s + (cap - off) * s := by rw [← Nat.add_mul]; congr 1; omega
    omega
  · omega
  · rw [hsub]
    refine RelL.mono ?_ (fun _ hk => hk) (fun _ _ => rfl) _ _ ((hr.drop _).take _)
    intro i' y e'
    simp only [upd]; split
    · rename_i he'; rw [he', hf0] at e'; cases e'
    · exact e'
  · rw [hsub]
    exact fun u hu => hone u (List.mem_of_mem_drop (List.mem_of_mem_take hu))
theorem append_core (hT : TabOk P T) {W w : World} {a : Act} {σ : AS} {ι : Emb} {R : Nat → Prop} (h : St.Of A W w a σ ι R) {t ty e : TypeId} {f : Nat} {ti tt : TI}
    (ht : T t = some tt) (htu : tt.under = .slice e) (he : T e = some ti) (hs : 0 < ti.size) (hz : ti.zero.cells.size = ti.size) (hf : σ.seen f = false)
    {us : Value} {ax : Option Addr} {m cx : Nat} {nc : List AV} {news : List Value} (hnr : RelL ι R w nc news) (hnl : news.length = m * ti.size) (hn1 : Ones news)
    (hna : 0 < m → ∃ ad, ax = some ad ∧ ∀ j v, news[j]? = some v → w.cell? (ad.add j) = some v) {id off len : Nat} {cells : List AV}
    (hbase : (us = .slice none 0 0 ∧ len = 0 ∧ cells = [] ) ∨ (σ.heap id = some (.row e ti.size cells) ∧ (off + len) * ti.size ≤ cells.length ∧ RelA ι R w (.row id ti.size off len) us))
    (hb1 : (len + m + (len + m) / 4 + 192) * ti.bytes ≤ 281474976710656) (hb2 : len + m ≤ 140737488355328) :
    ∃ r w' ι' R', (Builtin.append_ #[t, t] ty #[us, .slice ax m cx]).run P w = .ok r w' ∧
      St.Of A W w' a { σ with heap := upd (upd σ.heap id none) f (some (.row e ti.size ((cells.drop (off * ti.size)).take (len * ti.size) ++ nc))), seen := upd σ.seen f true } ι' R' ∧
      RelA ι' R' w' (.row f ti.size 0 (len + m)) r := by
  generalize hbs : (cells.drop (off * ti.size)).take (len * ti.size) = bs
  have hPt : P.underlying t = some (.slice e) := by rw [← htu]; exact hT.under ht
  obtain ⟨_, info, hPi, hi1, hi2, hi3, _⟩ := hT e ti he
  have hml : maxLen = 9223372036854775807 := rfl
  have hncl : nc.length = m * ti.size := by rw [hnr.length, hnl]
  have hf0 : ι f = none := by
    cases e' : ι f with
    | none => rfl
    | some y => have := h.seen f y e'; rw [hf] at this; cases this
  have hup : ∀ (y : Option (Nat × Cp)) id' x', ι id' = some x' → upd ι f (some y) id' = some x' := by
    intro y i y' e'
    simp only [upd]; split
    · rename_i he'; rw [he', hf0] at e'; cases e'
    · exact e'
  have fresh : ∀ (us' : List Value) (cap : Nat), RelL ι R w (bs ++ nc) us' → Ones us' → us'.length = (len + m) * ti.size → len + m ≤ cap → cap ≤ maxLen → ∀ cur : Array Value, cur.size = cap * ti.size → cur.toList.take ((len + m) * ti.size) = us' →
      ∃ ι' R', St.Of A W (w.drew.alloc (.cells cur e)) a { σ with heap := upd (upd σ.heap id none) f (some (.row e ti.size (bs ++ nc))), seen := upd σ.seen f true } ι' R' ∧
        RelA ι' R' (w.drew.alloc (.cells cur e)) (.row f ti.size 0 (len + m)) (.slice (some ⟨w.heap.size, 0, none⟩) (len + m) cap) := by
    intro us' cap hr ho hl hc hcm cur hcs hct
    have hbel := below_drew_alloc w (.cells cur e)
    have hnewcell : (w.drew.alloc (.cells cur e)).heap[w.heap.size]? = some (.cells cur e (0, 0)) := heap_alloc_new w.drew _
    refine ⟨upd ι f (some (some (w.heap.size, ⟨cap, 0⟩))), R, ?_, ?_⟩
    · have := (h.forget id).grow (w' := w.drew.alloc (.cells cur e)) (ι' := upd ι f (some (some (w.heap.size, ⟨cap, 0⟩)))) (R' := R) hbel [(f, .row e ti.size (bs ++ nc))]
        (by intro y hy; simp at hy; subst hy; exact hf) (hup _) (by
          intro i y hy
          simp only [upd] at hy
          split at hy
          · rename_i he'; exact .inr ⟨(f, _), List.mem_singleton.2 rfl, he'.symm⟩
          · exact .inl hy) (fun _ hk => hk) (fun _ hk => .inl hk) (by
          intro i b hib
          simp at hib
          obtain ⟨rfl, rfl⟩ := hib
          refine ⟨len + m, by rw [hr.length, hl], hs, hb2, .inr ⟨w.heap.size, cap, 0, cur, by simp [upd], hnewcell, by rw [hcs, Nat.zero_add], hc, hcm, ?_, ?_⟩⟩
          · rw [List.drop_zero, hct]
            exact RelL.mono (hup _) (fun _ hk => hk) (fun k hk => hbel.block k (h.lt k hk)) _ _ hr
          · rw [List.drop_zero, hct]; exact ho) (by
          intro i b g c hib hi'
          simp at hib
          obtain ⟨rfl, rfl⟩ := hib
          simp only [upd, if_true] at hi'
          cases hi'
          exact ⟨Nat.le_refl _, fun hk => by have := h.lt _ hk; omega⟩) (by
          intro i i' b b' g c c' h1 h2 _ _
          simp at h1 h2
          rw [h1.1, h2.1])
      exact this
    · simp only [RelA]
      exact .inr ⟨w.heap.size, ⟨cap, 0⟩, _, by simp [upd], rfl, by show 0 + (len + m) ≤ cap; omega, fun _ => by simp⟩
  have hcap : ∀ need old, need ≤ maxLen → need ≤ grownCap w need old e ∧ grownCap w need old e ≤ maxLen := fun need old hn => ⟨grownCap_ge w need old e, grownCap_le_maxLen w need old e hn⟩
  rcases hbase with ⟨rfl, rfl, rfl⟩ | ⟨hid, hcl, hus⟩
  ·
    obtain rfl : bs = [] := by rw [← hbs]; simp
    by_cases hm : m = 0
    · subst hm
      have hnc : nc = [] := List.eq_nil_of_length_eq_zero (by simpa using hncl)
      subst hnc
      refine ⟨_, w, upd ι f (some none), R, run_append_zero hPt hPi none 0 0 (Nat.le_refl _) ax cx, ?_, by simp only [RelA]; exact .inl ⟨by simp [upd], by simp, by simp, by simp⟩⟩
      have := (h.forget id).grow (w' := w) (ι' := upd ι f (some none)) (R' := R) (Below.refl _ _) [(f, .row e ti.size ([] ++ []))]
        (by intro y hy; simp at hy; subst hy; exact hf) (hup _) (by
          intro i y hy
          simp only [upd] at hy
          split at hy
          · rename_i he'; exact .inr ⟨(f, _), List.mem_singleton.2 rfl, he'.symm⟩
          · exact .inl hy) (fun _ hk => hk) (fun _ hk => .inl hk) (by
          intro i b hib
          simp at hib
          obtain ⟨rfl, rfl⟩ := hib
          exact ⟨0, by simp, hs, by omega, .inl ⟨by simp [upd], rfl⟩⟩) (by
          intro i b g c hib hi'
          simp at hib
          obtain ⟨rfl, rfl⟩ := hib
          simp [upd] at hi') (by
          intro i i' b b' g c c' h1 h2 _ _
          simp at h1 h2
          rw [h1.1, h2.1])
      exact this
    · obtain ⟨ad, rfl, hna'⟩ := hna (by omega)
      have hr := run_append_nil (P := P) w t ty e info ti.zero hPt hPi hi3 ad m cx news (by rw [hnl, hi1]) hna' (by omega) (by omega) (by rw [hi2]; simp only [Nat.zero_add] at hb1; exact Nat.le_trans (Nat.mul_le_mul_right _ (by omega)) hb1)
      obtain ⟨hg1, hg2⟩ := hcap m 0 (by omega)
      obtain ⟨ι', R', h1, h2⟩ := fresh news (grownCap w m 0 e) (by simpa using hnr) hn1 (by simpa using hnl) (by simpa using hg1) hg2 (news.toArray ++ Builtin.zeroCells ti.zero.cells (grownCap w m 0 e - m)) (by
        simp only [Array.size_append, List.size_toArray, size_zeroCells, hz, hnl, ← Nat.add_mul]
        congr 1; omega) (by simp only [Array.toList_append, Nat.zero_add]; rw [← hnl]; exact List.take_left)
      refine ⟨_, _, ι', R', hr, h1, ?_⟩
      simpa using h2
  ·
    simp only [RelA] at hus
    rcases hus with ⟨hin, _, rfl, rfl⟩ | ⟨g, cp, au, hi, rfl, hlc, h0⟩
    ·
      obtain rfl : bs = [] := by rw [← hbs]; simp
      by_cases hm : m = 0
      · subst hm
        have hnc : nc = [] := List.eq_nil_of_length_eq_zero (by simpa using hncl)
        subst hnc
        refine ⟨_, w, upd ι f (some none), R, run_append_zero hPt hPi none 0 0 (Nat.le_refl _) ax cx, ?_, by simp only [RelA]; exact .inl ⟨by simp [upd], by simp, by simp, by simp⟩⟩
        exact h.rename (x := none) (y := none) hid hin (by intro g c e'; cases e') hf ⟨0, by simp, hs, by omega, .inl ⟨by simp [upd], rfl⟩⟩
      · obtain ⟨ad, rfl, hna'⟩ := hna (by omega)
        have hr := run_append_nil (P := P) w t ty e info ti.zero hPt hPi hi3 ad m cx news (by rw [hnl, hi1]) hna' (by omega) (by omega) (by rw [hi2]; simp only [Nat.zero_add] at hb1; exact Nat.le_trans (Nat.mul_le_mul_right _ (by omega)) hb1)
        obtain ⟨hg1, hg2⟩ := hcap m 0 (by omega)
        obtain ⟨ι', R', h1, h2⟩ := fresh news (grownCap w m 0 e) (by simpa using hnr) hn1 (by simpa using hnl) (by simpa using hg1) hg2 (news.toArray ++ Builtin.zeroCells ti.zero.cells (grownCap w m 0 e - m)) (by
          simp only [Array.size_append, List.size_toArray, size_zeroCells, hz, hnl, ← Nat.add_mul]
          congr 1; omega) (by simp only [Array.toList_append, Nat.zero_add]; rw [← hnl]; exact List.take_left)
        refine ⟨_, _, ι', R', hr, h1, ?_⟩
        simpa using h2
    · have hst := h.rebase (len := len) hid hcl hi hlc hf (by omega)
      rw [hbs] at hst
      generalize hι2 : upd ι f (some (some (g, ⟨cp.cap - off, off * ti.size + cp.base⟩))) = ι2 at hst
      have hi2' : ι2 f = some (some (g, ⟨cp.cap - off, off * ti.size + cp.base⟩)) := by rw [← hι2]; simp [upd]
      have hmono : ∀ i x, ι i = some x → ι2 i = some x := by rw [← hι2]; exact hup _
      have hhf : (upd (upd σ.heap id none) f (some (Blk.row e ti.size bs))) f = some (.row e ti.size bs) := by simp [upd]
      by_cases hm : m = 0
      · subst hm
        have hnc' : nc = [] := List.eq_nil_of_length_eq_zero (by simpa using hncl)
        subst hnc'
        refine ⟨_, w, ι2, R, run_append_zero hPt hPi au len (cp.cap - off) (by omega) ax cx, by simpa using hst, by
          simp only [RelA]; exact .inr ⟨g, _, au, hi2', by simp, by show 0 + (len + 0) ≤ cp.cap - off; omega, fun hlt => by rw [h0 (by have : 0 < cp.cap - off := hlt; omega)]; simp⟩⟩
      · obtain ⟨ad, rfl, hna'⟩ := hna (by omega)
        have hb := hst.heap f _ hhf
        obtain ⟨n, hln, _, hn47, hb⟩ := hb
        rcases hb with ⟨hin, _⟩ | ⟨g', cap', base', cur, hi', hh, hsz, hnc, hcm, hr, hone⟩
        · rw [hi2'] at hin; cases hin
        rw [hi2'] at hi'
        obtain ⟨rfl, hcc, hbb⟩ : g = g' ∧ cp.cap - off = cap' ∧ off * ti.size + cp.base = base' := by simpa using hi'
        have hbl : bs.length = len * ti.size := by
          rw [← hbs, List.length_take, List.length_drop, Nat.min_eq_left]
          rw [Nat.add_mul] at hcl; omega
        obtain rfl : n = len := Nat.eq_of_mul_eq_mul_right hs (by rw [← hln, hbl])
        rw [hcc, hbb] at hi2'
        have hol : ((cur.toList.drop base').take (n * ti.size)).length = n * ti.size := by rw [← hr.length, hbl]
        have hn2 : RelL ι2 R w nc news := RelL.mono hmono (fun _ hk => hk) (fun _ _ => rfl) _ _ hnr
        rw [hcc]
        by_cases hroom : n + m ≤ cap'
        ·
          obtain rfl := h0 (by omega)
          rw [hbb]
          have hfit : base' + n * ti.size + news.length ≤ cur.size := by rw [hnl, hsz, Nat.add_assoc, ← Nat.add_mul]; exact Nat.add_le_add_left (Nat.mul_le_mul_right _ hroom) _
          have hrun := run_append_room_at (P := P) (ty := ty) hPt hPi g base' n cap' cur hh ad m cx news (by rw [hnl, hi1]) hna' hn1 hroom (by rw [hi1]; exact hfit)
          rw [hi1] at hrun
          generalize hcur' : (cur.toList.take (base' + n * ti.size) ++ news ++ cur.toList.drop (base' + n * ti.size + news.length)).toArray = cur' at hrun
          have hl' : cur'.size = base' + cap' * ti.size := by rw [← hcur', ← hsz]; simp; omega
          have htake : (cur'.toList.drop base').take ((n + m) * ti.size) = (cur.toList.drop base').take (n * ti.size) ++ news := by
            rw [← hcur']
            have e1 : (cur.toList.take (base' + n * ti.size)) = cur.toList.take base' ++ (cur.toList.drop base').take (n * ti.size) := by rw [List.take_add]
            rw [List.toList_toArray, e1, List.append_assoc, List.append_assoc, List.drop_left' (by rw [List.length_take, Array.length_toList]; omega), ← List.append_assoc]
            have : (n + m) * ti.size = ((cur.toList.drop base').take (n * ti.size) ++ news).length := by simp only [List.length_append, hol, hnl, Nat.add_mul]
            rw [this]
            exact List.take_left
          have hgR : ∀ k, R k → k ≠ g := fun k hk e' => hst.out f _ g _ hhf hi2' (e' ▸ hk)
          have hoth : ∀ k, k ≠ g → (w.setRow g cur').heap[k]? = w.heap[k]? := fun k hk => setRow_other w g k _ hk
          have hrel : RelL ι2 R (w.setRow g cur') (bs ++ nc) ((cur.toList.drop base').take (n * ti.size) ++ news) :=
            RelL.mono (fun _ _ e' => e') (fun _ e' => e') (fun k hk => hoth k (hgR k hk)) _ _ (hr.append hn2)
          have hst2 := hst.write (w' := w.setRow g cur') (b' := .row e ti.size (bs ++ nc)) hhf hi2' rfl rfl rfl (by simp [World.setRow]) hoth
            ⟨n + m, by simp [hbl, hncl, Nat.add_mul], hs, hb2, .inr ⟨g, cap', base', cur', hi2', setRow_heap w g cur _ e _ hh, hl', hroom, hcm, by rw [htake]; exact hrel, by
              rw [htake]
              intro u hu
              rcases List.mem_append.1 hu with hu | hu
              · exact hone u hu
              · exact hn1 u hu⟩⟩
          refine ⟨_, _, ι2, R, hrun, ?_, by simp only [RelA]; exact .inr ⟨g, ⟨cap', base'⟩, some ⟨g, base', none⟩, hi2', by simp, by show 0 + (n + m) ≤ cap'; omega, fun _ => by simp⟩⟩
          have e1 : upd (upd (upd σ.heap id none) f (some (.row e ti.size bs))) f (some (.row e ti.size (bs ++ nc))) = upd (upd σ.heap id none) f (some (.row e ti.size (bs ++ nc))) := by
            funext k; simp only [upd]; split <;> rfl
          have e2 : upd (upd σ.seen f true) f true = upd σ.seen f true := by
            funext k; simp only [upd]; split <;> rfl
          simpa only [e1, e2] using hst2
        ·
          have hr0 : RelL ι R w bs ((cur.toList.drop base').take (n * ti.size)) := by
            obtain ⟨n0, hln0, _, _, hb0⟩ := h.heap id _ hid
            rcases hb0 with ⟨hin0, _⟩ | ⟨g0, cap0, base0, cur0, hi0, hh0, _, _, _, hr0, _⟩
            · rw [hi] at hin0; cases hin0
            · rw [hi] at hi0
              obtain ⟨rfl, rfl⟩ : g = g0 ∧ cp = ⟨cap0, base0⟩ := by simpa using hi0
              rw [hh] at hh0
              obtain rfl : cur = cur0 := by simpa using hh0
              have hbb' : off * ti.size + base0 = base' := hbb
              rw [← hbs, ← hbb']
              have hsub : (cur.toList.drop (off * ti.size + base0)).take (n * ti.size) = (((cur.toList.drop base0).take (n0 * ti.size)).drop (off * ti.size)).take (n * ti.size) := by
                rw [List.drop_take, List.take_take, List.drop_drop, Nat.min_eq_left, Nat.add_comm base0]
                rw [hln0] at hcl
                have := Nat.le_of_mul_le_mul_right hcl hs
                rw [← Nat.sub_mul]; exact Nat.mul_le_mul_right _ (by omega)
              rw [hsub]
              exact (hr0.drop _).take _
          have hgrow : ∀ au : Option Addr, (0 < n → au = some ⟨g, base', none⟩) → (Builtin.append_ #[t, t] ty #[.slice au n cap', .slice (some ad) m cx]).run P w =
              .ok (.slice (some ⟨w.heap.size, 0, none⟩) (n + m) (grownCap w (n + m) cap' e)) (w.drew.alloc (.cells ((((cur.toList.drop base').take (n * ti.size)) ++ news).toArray ++ Builtin.zeroCells ti.zero.cells (grownCap w (n + m) cap' e - (n + m))) e)) := by
            intro au hau
            refine run_append_grow_src (P := P) w t t ty e info ti.zero hPt hPi hi3 au n cap' _ ?_ (.slice (some ad) m cx) m news (Src.ofSlice w hPt ad m cx news (by rw [hnl, hi1]) hna' hn1) (by omega) (by omega) (growslice_fits_wide (by omega) (by rw [hi2]; exact hb1))
            by_cases hn0 : n = 0
            · subst hn0
              cases au with
              | none => simpa using run_firstCells_none (P := P) w.drew info.size 0 0 cap'
              | some a0 => simpa using run_firstCells_some (P := P) w.drew info.size 0 a0 0 cap' [] (by simp) (by simp)
            · rw [hau (by omega)]
              refine run_firstCells_some (P := P) w.drew info.size n ⟨g, base', none⟩ n cap' _ (by rw [hol, hi1]) ?_
              intro j u hu
              rw [List.getElem?_take] at hu
              split at hu
              · rw [List.getElem?_drop] at hu
                have hu' : cur[base' + j]? = some u := by simpa using hu
                have hd : w.drew.heap[g]? = some (.cells cur e (0, 0)) := hh
                rw [add_none]; simp only [World.cell?, hd]; exact hu'
              · cases hu
          have hrun := hgrow au (fun hp => by rw [h0 (by omega), hbb])
          obtain ⟨hg1, hg2⟩ := hcap (n + m) cap' (by omega)
          obtain ⟨ι', R', h1, h2⟩ := fresh ((cur.toList.drop base').take (n * ti.size) ++ news) (grownCap w (n + m) cap' e) (hr0.append hnr) (by
              intro u hu
              rcases List.mem_append.1 hu with hu | hu
              · exact hone u hu
              · exact hn1 u hu) (by rw [List.length_append, hol, hnl, Nat.add_mul]) hg1 hg2
            ((((cur.toList.drop base').take (n * ti.size)) ++ news).toArray ++ Builtin.zeroCells ti.zero.cells (grownCap w (n + m) cap' e - (n + m))) (by
            simp only [Array.size_append, List.size_toArray, size_zeroCells, hz, hnl, hol, List.length_append, ← Nat.add_mul]
            congr 1; omega) (by
            simp only [Array.toList_append, List.toList_toArray]
            have : (n + m) * ti.size = ((cur.toList.drop base').take (n * ti.size) ++ news).length := by simp only [List.length_append, hol, hnl, Nat.add_mul]
            rw [this]
            exact List.take_left)
          exact ⟨_, _, ι', R', hrun, h1, h2⟩
theorem append_sound (hT : TabOk P T) {W w : World} {a : Act} {σ : AS} {ι : Emb} {R : Nat → Prop} (h : St.Of A W w a σ ι R) {t ty e : TypeId} {f : Nat} {ti tt : TI}
    (ht : T t = some tt) (htu : tt.under = .slice e) (he : T e = some ti) (hs : 0 < ti.size) (hz : ti.zero.cells.size = ti.size) (hf : σ.seen f = false)
    {x : AV} {ux us : Value} (hx : RelA ι R w x ux) (hn : (newsAV σ.heap ti.size x).1) {id off len : Nat} {cells : List AV}
    (hbase : (us = .slice none 0 0 ∧ len = 0 ∧ cells = [] ) ∨ (σ.heap id = some (.row e ti.size cells) ∧ (off + len) * ti.size ≤ cells.length ∧ RelA ι R w (.row id ti.size off len) us))
    (hb1 : (len + (newsAV σ.heap ti.size x).2.1 + (len + (newsAV σ.heap ti.size x).2.1) / 4 + 192) * ti.bytes ≤ 281474976710656) (hb2 : len + (newsAV σ.heap ti.size x).2.1 ≤ 140737488355328) :
    ∃ r w' ι' R', (Builtin.append_ #[t, t] ty #[us, ux]).run P w = .ok r w' ∧
      St.Of A W w' a { σ with heap := upd (upd σ.heap id none) f (some (.row e ti.size ((cells.drop (off * ti.size)).take (len * ti.size) ++ (newsAV σ.heap ti.size x).2.2))), seen := upd σ.seen f true } ι' R' ∧
      RelA ι' R' w' (.row f ti.size 0 (len + (newsAV σ.heap ti.size x).2.1)) r := by
  obtain ⟨ax, cx, news, rfl, hnr, hnl, hn1, hna⟩ := news_sound h.heap ti.size hs hx hn
  exact append_core (ty := ty) hT h ht htu he hs hz hf hnr hnl hn1 hna (cx := cx) hbase hb1 hb2
mutual
def AV.rb (id off f s : Nat) : AV → AV
  | .row i s' o len => bif Nat.beq i id then (bif Nat.beq o off && Nat.beq s' s then .row f s 0 len else .row i s' o len) else .row i s' o len
  | .agg xs => .agg (AV.rbL id off f s xs)
  | .tup xs => .tup (AV.rbL id off f s xs)
  | .fn g xs => .fn g (AV.rbL id off f s xs)
  | .gd g x => .gd g (AV.rb id off f s x)
  | .pv p => .pv p
  | .ptr id off => .ptr id off
  | .pix id off => .pix id off
  | .roat n c => .roat n c
  | .map i => .map i
  | .junk => .junk
def AV.rbL (id off f s : Nat) : List AV → List AV
  | [] => []
  | x :: xs => AV.rb id off f s x :: AV.rbL id off f s xs
end
def Blk.rb (id off f s : Nat) : Blk → Blk
  | .box cs => .box (AV.rbL id off f s cs)
  | .row e t cs => .row e t cs
  | .map ks xs => .map ks (AV.rbL id off f s xs)
mutual
theorem RelA.rb {ι : Emb} {R : Nat → Prop} {w : World} {id off f s : Nat} (h : ∀ len u, RelA ι R w (.row id s off len) u → RelA ι R w (.row f s 0 len) u) :
    ∀ (x : AV) (u : Value), RelA ι R w x u → RelA ι R w (x.rb id off f s) u
  | .row i s' o len, u, hu => by
    simp only [AV.rb]
    cases e1 : Nat.beq i id with
    | false => exact hu
    | true =>
      cases e2 : Nat.beq o off && Nat.beq s' s with
      | false => exact hu
      | true =>
        simp only [Bool.and_eq_true] at e2
        obtain rfl := Nat.eq_of_beq_eq_true e1
        obtain rfl := Nat.eq_of_beq_eq_true e2.1
        obtain rfl := Nat.eq_of_beq_eq_true e2.2
        exact h len u hu
  | .agg xs, u, hu => by
    simp only [RelA, AV.rb] at hu ⊢
    obtain ⟨us, rfl, hu⟩ := hu
    exact ⟨us, rfl, RelL.rb h xs _ hu⟩
  | .tup xs, u, hu => by
    simp only [RelA, AV.rb] at hu ⊢
    obtain ⟨us, rfl, hu⟩ := hu
    exact ⟨us, rfl, RelL.rb h xs _ hu⟩
  | .fn g xs, u, hu => by
    simp only [RelA, AV.rb] at hu ⊢
    obtain ⟨us, rfl, hu⟩ := hu
    exact ⟨us, rfl, RelL.rb h xs _ hu⟩
  | .gd g x, u, hu => by
    simp only [RelA, AV.rb] at hu ⊢
    exact ⟨fun hg => RelA.rb h x u (hu.1 hg), hu.2⟩
  | .pv p, u, hu => by simpa only [AV.rb] using hu
  | .ptr i o, u, hu => by simpa only [AV.rb] using hu
  | .pix i o, u, hu => by simpa only [AV.rb] using hu
  | .roat n c, u, hu => by simpa only [AV.rb] using hu
  | .map i, u, hu => by simpa only [AV.rb] using hu
  | .junk, u, hu => by simp only [AV.rb, RelA]
theorem RelL.rb {ι : Emb} {R : Nat → Prop} {w : World} {id off f s : Nat} (h : ∀ len u, RelA ι R w (.row id s off len) u → RelA ι R w (.row f s 0 len) u) :
    ∀ (xs : List AV) (us : List Value), RelL ι R w xs us → RelL ι R w (AV.rbL id off f s xs) us
  | [], [], hu => by simpa only [AV.rbL] using hu
  | x :: xs, u :: us, hu => by
    simp only [RelL, AV.rbL] at hu ⊢
    exact ⟨RelA.rb h x u hu.1, RelL.rb h xs us hu.2⟩
  | [], _ :: _, hu => by simp [RelL] at hu
  | _ :: _, [], hu => by simp [RelL] at hu
end
def AS.rb (σ : AS) (id off f e s : Nat) (cells : List AV) : AS :=
  { σ with slots := fun t => (σ.slots t).rb id off f s,
           heap := fun i => bif Nat.beq i f then some (.row e s cells) else bif Nat.beq i id then none else (σ.heap i).map (Blk.rb id off f s),
           seen := fun i => Nat.beq i f || σ.seen i }
theorem St.rb {W w : World} {a : Act} {σ : AS} (h : St A W w a σ) {id off f n e s : Nat} {cells : List AV} (hid : σ.heap id = some (.row e s cells)) (hl : (off + n) * s ≤ cells.length) (hf : σ.seen f = false) (hfp : σ.heap f = none) :
    St A W w a (σ.rb id off f e s ((cells.drop (off * s)).take (n * s))) := by
  obtain ⟨ι, R, h⟩ := h
  have hb := h.heap id _ hid
  obtain ⟨k, hk, hs, hk47, hb⟩ := hb
  have hkn : off + n ≤ k := by rw [hk] at hl; exact Nat.le_of_mul_le_mul_right hl hs
  have hn : n ≤ 140737488355328 := by omega
  obtain ⟨y, h2, hrb⟩ : ∃ y, St.Of A W w a { σ with heap := upd (upd σ.heap id none) f (some (.row e s ((cells.drop (off * s)).take (n * s)))), seen := upd σ.seen f true } (upd ι f (some y)) R ∧
      ∀ len u, RelA (upd ι f (some y)) R w (.row id s off len) u → len ≤ n ∨ True → RelA (upd ι f (some y)) R w (.row f s 0 len) u := by
    have hne : id ≠ f := by intro e'; rw [e'] at hid; rw [hid] at hfp; cases hfp
    rcases hb with ⟨hi, rfl⟩ | ⟨g, cap, base, cur, hi, _⟩
    · obtain rfl : off = 0 := by omega
      obtain rfl : n = 0 := by omega
      refine ⟨none, ?_, ?_⟩
      · exact h.rename (x := none) (y := none) hid hi (by intro g c e'; cases e') hf ⟨0, by simp, hs, by omega, .inl ⟨by simp [upd], rfl⟩⟩
      · intro len u hu _
        simp only [RelA] at hu ⊢
        have e1 : upd ι f (some none) id = some none := by simp [upd, hne, hi]
        rcases hu with ⟨_, _, rfl, rfl⟩ | ⟨g, c, a', h1, _⟩
        · exact .inl ⟨by simp [upd], by simp, by simp, by simp⟩
        · rw [e1] at h1; cases h1
    · by_cases hoc : off + n ≤ cap
      · refine ⟨some (g, ⟨cap - off, off * s + base⟩), h.rebase hid hl hi hoc hf hn, ?_⟩
        intro len u hu _
        simp only [RelA] at hu ⊢
        have e1 : upd ι f (some (some (g, ⟨cap - off, off * s + base⟩))) id = some (some (g, ⟨cap, base⟩)) := by simp [upd, hne, hi]
        rcases hu with ⟨h1, _⟩ | ⟨g', c, a', h1, rfl, h3, h4⟩
        · rw [e1] at h1; cases h1
        · rw [e1] at h1
          obtain ⟨rfl, rfl⟩ : g = g' ∧ ⟨cap, base⟩ = c := by simpa using h1
          have h3 : off + len ≤ cap := h3
          refine .inr ⟨g, ⟨cap - off, off * s + base⟩, a', by simp [upd], by simp, by show 0 + len ≤ cap - off; omega, fun hlt => ?_⟩
          have hlt : 0 < cap - off := hlt
          rw [h4 (by show off < cap; omega)]
          simp
      · obtain ⟨k', hk', _, _, hb'⟩ := h.heap id _ hid
        rcases hb' with ⟨h1, _⟩ | ⟨g', cap', base', cur', h1, _, _, h5, _⟩
        · rw [hi] at h1; cases h1
        · rw [hi] at h1
          obtain ⟨rfl, rfl, rfl⟩ : g = g' ∧ cap = cap' ∧ base = base' := by simpa using h1
          obtain rfl : k' = k := Nat.eq_of_mul_eq_mul_right hs (by omega)
          omega
  have hr : ∀ len u, RelA (upd ι f (some y)) R w (.row id s off len) u → RelA (upd ι f (some y)) R w (.row f s 0 len) u := fun len u hu => hrb len u hu (.inr trivial)
  have hheap : ∀ i b, (σ.rb id off f e s ((cells.drop (off * s)).take (n * s))).heap i = some b → ∃ b0, upd (upd σ.heap id none) f (some (.row e s ((cells.drop (off * s)).take (n * s)))) i = some b0 ∧ (b = b0 ∨ b = b0.rb id off f s) := by
    intro i b hb
    simp only [AS.rb] at hb
    simp only [upd]
    cases e1 : Nat.beq i f with
    | true =>
      rw [e1] at hb
      rw [if_pos (Nat.eq_of_beq_eq_true e1)]
      exact ⟨_, rfl, .inl (Option.some.inj hb).symm⟩
    | false =>
      rw [e1] at hb
      rw [if_neg (Nat.ne_of_beq_eq_false e1)]
      simp only [cond_false] at hb
      cases e2 : Nat.beq i id with
      | true => rw [e2] at hb; cases hb
      | false =>
        rw [e2] at hb
        rw [if_neg (Nat.ne_of_beq_eq_false e2)]
        simp only [cond_false] at hb
        cases e3 : σ.heap i with
        | none => rw [e3] at hb; cases hb
        | some b0 => rw [e3] at hb; exact ⟨b0, rfl, .inr (Option.some.inj hb).symm⟩
  refine ⟨upd ι f (some y), R, h2.below, h2.size, h2.defers, ?_, fun t => RelA.rb hr _ _ (h2.slots t), ?_, ?_, ?_, h2.lt, ?_, h2.arg, h2.pin, h2.glob⟩
  · intro i x hx
    have := h2.seen i x hx
    simp only [upd] at this
    simp only [AS.rb]
    split at this
    · rename_i he; rw [he]; simp
    · rw [this]; simp
  · intro i b hb
    obtain ⟨b0, hb0, hc⟩ := hheap i b hb
    have hrel := h2.heap i b0 hb0
    rcases hc with rfl | rfl
    · exact hrel
    · cases b0 with
      | box cs =>
        obtain ⟨g, c, cur, e', hi, hh, hrr, h1⟩ := hrel
        exact ⟨g, c, cur, e', hi, hh, RelL.rb hr _ _ hrr, h1⟩
      | row e' s' cs =>
        exact hrel
      | map ks xs =>
        obtain ⟨g, c, es, ck, hi, hh, hk, hrr, h1⟩ := hrel
        exact ⟨g, c, es, ck, hi, hh, hk, RelL.rb hr _ _ hrr, h1⟩
  · intro i j b c g c1 c2 hb hc h3 h4
    obtain ⟨b0, hb0, _⟩ := hheap i b hb
    obtain ⟨c0, hc0, _⟩ := hheap j c hc
    exact h2.inj i j b0 c0 g c1 c2 hb0 hc0 h3 h4
  · intro i b g c hb h3
    obtain ⟨b0, hb0, _⟩ := hheap i b hb
    exact h2.new i b0 g c hb0 h3
  · intro i b g c hb h3
    obtain ⟨b0, hb0, _⟩ := hheap i b hb
    exact h2.out i b0 g c hb0 h3
end Go.Ab

