/- A runner of programs on pure values, proved sound against the model: part RvC. It is about every program; the law's own text is the last. -/
import Derived.Test.YtnoanpohmppnaaaGreatDoorRvB
import Derived.Deep.LoopGhost
set_option linter.unusedVariables false
set_option linter.unusedSimpArgs false
namespace Go.Rv
open Go.RowKit
variable {Dr : Kn}
variable {R : Type} {P : Program} {tbl : Tbl} {env : Env} {ob : List Ob} {o : Oper} {K : PV → List Ob → Option R} {r : R}
theorem filter_lt {α : Type} {p q : α → Bool} (hpq : ∀ x, p x = true → q x = true) {x : α} (hq : q x = true) (hp : p x = false) : ∀ (l : List α), x ∈ l → (l.filter p).length < (l.filter q).length := by
 have le : ∀ (l : List α), (l.filter p).length ≤ (l.filter q).length := by
  intro l
  induction l with
  | nil => simp
  | cons a l ih =>
   simp only [List.filter_cons]
   by_cases h1 : p a = true
   ·rw [if_pos h1, if_pos (hpq a h1)]; simp; exact ih
   ·rw [if_neg h1]
    split
    ·simp; omega
    ·exact ih
 intro l hx
 induction l with
 | nil => simp at hx
 | cons a l ih =>
  simp only [List.filter_cons]
  rcases List.mem_cons.1 hx with rfl | hx
  ·rw [if_neg (by rw [hp]; simp), if_pos hq]
   have := le l
   simp; omega
  ·have := ih hx
   by_cases h1 : p a = true
   ·rw [if_pos h1, if_pos (hpq a h1)]; simp; exact this
   ·rw [if_neg h1]
    split
    ·simp; omega
    ·exact this
def cnt (L : Array Bool) (n : Nat) : Nat := ((List.range n).filter fun i => !(L.getD i false)).length
theorem getD_set {L : Array Bool} {i j : Nat} (hi : i < L.size) : (L.setIfInBounds i true).getD j false = (L.getD j false || j == i) := by
 by_cases h : i = j
 ·subst h; simp [hi]
 ·have : (j == i) = false := by simp; exact fun e => h e.symm
  simp [Array.getD_eq_getD_getElem?, Array.getElem?_setIfInBounds, h, this]
theorem cnt_set {L : Array Bool} {n i : Nat} (hs : L.size = n) (hi : i < n) (h : L.getD i false = false) : cnt (L.setIfInBounds i true) n < cnt L n := by
 unfold cnt
 refine filter_lt (x := i) (fun x hx => ?_) (by rw [h]; rfl) (by rw [getD_set (by omega)]; simp) _ (List.mem_range.2 hi)
 rw [getD_set (by omega)] at hx
 simp at hx ⊢
 exact hx.1
theorem cnt_pos {L : Array Bool} {n i : Nat} (hi : i < n) (h : L.getD i false = false) : 0 < cnt L n := by
 unfold cnt
 refine List.length_pos_of_mem (a := i) (List.mem_filter.2 ⟨List.mem_range.2 hi, by rw [h]; rfl⟩)
theorem withIdx_mem : ∀ (l : List Oper) (i : Nat) (p : Nat × Oper), p ∈ withIdx l i ↔ ∃ j, l[j]? = some p.2 ∧ p.1 = i + j
 | [], i, p => by simp [withIdx]
 | o :: l, i, p => by
  simp only [withIdx, List.mem_cons, withIdx_mem l (i + 1) p]
  constructor
  ·rintro (rfl | ⟨j, h1, h2⟩)
   ·exact ⟨0, rfl, rfl⟩
   ·exact ⟨j + 1, by simpa using h1, by omega⟩
  ·rintro ⟨j, h1, h2⟩
   cases j with
   | zero =>
    simp only [List.getElem?_cons_zero, Option.some.injEq] at h1
    left
    exact Prod.ext h2 h1.symm
   | succ j => exact Or.inr ⟨j, by simpa using h1, by omega⟩
theorem withIdx_sorted : ∀ (l : List Oper) (i : Nat), (withIdx l i).Pairwise (fun p q => p.1 < q.1)
 | [], i => List.Pairwise.nil
 | o :: l, i => by
  simp only [withIdx]
  refine List.pairwise_cons.2 ⟨fun q hq => ?_, withIdx_sorted l (i + 1)⟩
  obtain ⟨j, _, h⟩ := (withIdx_mem l (i + 1) q).1 hq
  simp only
  omega
theorem runOps_step (hT : ∀ g fs S, tbl g fs = some S → SumOK Dr P g S) {N : Nat} {ops : Array Oper} {X : Cx Dr} {K : Env → List Ob → Option R} {l : List Oper} {env : Env} {ob : List Ob} {g : Gh} {w : World} {a : Act} (h : runOps P tbl N ops (o :: l) env ob K = some r) (hs : Sim X g ob w) (he : RepE N g ob.length X.I w env a) :
  (Region.wanted o (yielded ops a.tmps) = true → mkr P o a w fun v w' => ∃ env' ob' g', runOps P tbl N ops l env' ob' K = some r ∧ Sim X g' ob' w' ∧ RepE N g' ob'.length X.I w' env' (a.put o.dst v)) ∧
  (Region.wanted o (yielded ops a.tmps) = false → ∃ env' ob' g', runOps P tbl N ops l env' ob' K = some r ∧ Sim X g' ob' w ∧ RepE N g' ob'.length X.I w env' (a.put o.dst undef)) := by
 simp only [runOps] at h
 split at h <;> try (cases h; done)
 rename_i hd
 have step : ∀ env1, RepE N g ob.length X.I w env1 a → evOp P tbl env1 ob o.op (fun v ob' => runOps P tbl N ops l (put env1 o.dst v) ob' K) = some r →
   mkr P o a w fun v w' => ∃ env' ob' g', runOps P tbl N ops l env' ob' K = some r ∧ Sim X g' ob' w' ∧ RepE N g' ob'.length X.I w' env' (a.put o.dst v) := fun env1 he1 h1 => by
  obtain ⟨pv, ob', h2, _, h3⟩ := evOp_wv hT h1
  refine mkr_mono ?_ (h3 X N g w a hs he1)
  rintro v w' ⟨g', _, s', k', r'⟩
  exact ⟨_, ob', g', h2, s', (he1.keep k').put hd r'⟩
 split at h
 ·rename_i hg
  refine ⟨fun _ => step env he h, fun hw => ?_⟩
  simp [Region.wanted, hg] at hw
 ·rename_i j want hg
  split at h <;> try (cases h; done)
  rename_i s hgs
  split at h <;> try (cases h; done)
  rotate_left
  ·rename_i hl
   have hw := guard_skip he hg hgs hl
   exact ⟨fun h1 => absurd h1 (by rw [hw]; simp), fun _ => ⟨_, ob, g, h, hs, he.put hd (by simp [RepV])⟩⟩
  rename_i b hl
  have hw := guard_ok he hg hgs hl
  have he1 := he.lit hl
  have h1 : (if b = want then evOp P tbl ((s, .bool b) :: env) ob o.op (fun v ob' => runOps P tbl N ops l (put ((s, .bool b) :: env) o.dst v) ob' K) else runOps P tbl N ops l (put ((s, .bool b) :: env) o.dst .skip) ob K) = some r := by
   cases b <;> simpa using h
  by_cases hbw : b = want
  ·rw [if_pos hbw] at h1
   refine ⟨fun _ => step _ he1 h1, fun h2 => ?_⟩
   rw [hw, hbw] at h2
   simp at h2
  ·rw [if_neg hbw] at h1
   refine ⟨fun h2 => ?_, fun _ => ⟨_, ob, g, h1, hs, he1.put hd (by simp [RepV])⟩⟩
   rw [hw] at h2
   simp [hbw] at h2
theorem wpOp_of {ops : Array Oper} {k : Nat} {a : Act} {w : World} {Q : Exit → Act → World → Prop} {K' : Act → World → Prop} (hk : ops[k]? = some o) (h1 : Region.wanted o (yielded ops a.tmps) = true → mkr P o a w fun v w' => K' (a.put o.dst v) w') (h2 : Region.wanted o (yielded ops a.tmps) = false → K' (a.put o.dst undef) w) : wpOp P ops Q k K' a w := by
 unfold wpOp
 rw [hk]
 simp only
 by_cases hw : Region.wanted o (yielded ops a.tmps) = true
 ·rw [if_pos hw]
  exact Or.inl (mkr_wp (h1 hw))
 ·rw [if_neg hw]
  exact h2 (by simpa using hw)
theorem closed_set {ops : Array Oper} {L : Array Bool} {i : Nat} {oi : Oper} (hs : L.size = ops.size) (hi : i < ops.size) (ho : ops[i]? = some oi) (hc : Closed ops.toList fun j => L.getD j false) (he : ∀ e ∈ oi.after, Region.binds .any e = true → L.getD e.on false = true) :
  Closed ops.toList fun j => (L.setIfInBounds i true).getD j false := by
 intro j o hj hL e hem hb
 simp only [getD_set (show i < L.size by omega), Bool.or_eq_true, beq_iff_eq] at hL ⊢
 rcases hL with hL | rfl
 ·exact Or.inl (hc j o hj hL e hem hb)
 ·have hj' : ops[j]? = some o := by simpa using hj
  rw [ho] at hj'
  obtain rfl := Option.some.inj hj'
  exact Or.inl (he e hem hb)
theorem late_ok (hT : ∀ g fs S, tbl g fs = some S → SumOK Dr P g S) {N : Nat} {ops : Array Oper} {tab : List Nat} {X : Cx Dr} {K : Env → List Ob → Option R} {Q : Exit → Act → World → Prop} (hreach : ∀ k x, (tab.getD k 0).testBit x = true → Reach ops.toList k x) (hback : Back ops.toList)
  (hQ : ∀ env' ob' g' w' a', K env' ob' = some r → Sim X g' ob' w' → RepE N g' ob'.length X.I w' env' a' → Q .normal a' w') :
  ∀ (rest : List (Nat × Oper)) (fuel : Nat) (L : Array Bool) (env : Env) (ob : List Ob) (g : Gh) (w : World) (a : Act), runOps P tbl N ops (rest.map (·.2)) env ob K = some r → Sim X g ob w → RepE N g ob.length X.I w env a →
   L.size = ops.size → cnt L ops.size ≤ fuel → (Closed ops.toList fun j => L.getD j false) → (∀ j, j < ops.size → (L.getD j false = false ↔ j ∈ rest.map (·.1))) → (∀ p ∈ rest, ops[p.1]? = some p.2) → rest.Pairwise (fun p q => p.1 < q.1) → chained tab rest = true →
   wpAny P .any ops Q fuel L a w
 | [], fuel, L, env, ob, g, w, a, h, hs, he, hsz, hcnt, hcl, hun, hat, hsort, hch => by
  have hready : Region.ready .any ops L = [] := by
   cases hr : Region.ready .any ops L with
   | nil => rfl
   | cons i rs =>
    have hi : i ∈ Region.ready .any ops L := by rw [hr]; simp
    obtain ⟨h0, o, ho, _⟩ := mem_ready.1 hi
    have hlt : i < ops.size := (Array.getElem?_eq_some_iff.1 ho).1
    have : L.getD i false = false := by
     rw [Array.getD_eq_getD_getElem?] at h0 ⊢
     have : i < L.size := by omega
     simp [this] at h0 ⊢
     exact h0
    have := (hun i hlt).1 this
    simp at this
  have hq := hQ env ob g w a h hs he
  cases fuel with
  | zero => exact ⟨hready, hq⟩
  | succ f => exact ⟨fun _ => hq, fun i hi => by rw [hready] at hi; simp at hi⟩
 | (k, o) :: rest, fuel, L, env, ob, g, w, a, h, hs, he, hsz, hcnt, hcl, hun, hat, hsort, hch => by
  have hok := hat (k, o) (by simp)
  simp only at hok
  have hklt : k < ops.size := (Array.getElem?_eq_some_iff.1 hok).1
  have hkun : L.getD k false = false := (hun k hklt).2 (by simp)
  have hs2 := List.pairwise_cons.1 hsort
  cases fuel with
  | zero => have := cnt_pos hklt hkun; omega
  | succ fuel =>
   have hedges : ∀ e ∈ o.after, Region.binds .any e = true → L.getD e.on false = true := fun e hem hb => by
    have hlt : e.on < k := hback k o (by simpa using hok) e hem hb
    cases hv : L.getD e.on false with
    | true => rfl
    | false =>
     have := (hun e.on (by omega)).1 hv
     simp only [List.map_cons, List.mem_cons] at this
     rcases this with h1 | h1
     ·omega
     ·obtain ⟨q, hq, e1⟩ := List.mem_map.1 h1
      have := hs2.1 q hq
      simp at this e1
      omega
   have hkT : L.getD k true = false := by
    rw [Array.getD_eq_getD_getElem?] at hkun ⊢
    have : k < L.size := by omega
    simp [this] at hkun ⊢
    exact hkun
   have hkready : k ∈ Region.ready .any ops L := mem_ready.2 ⟨hkT, o, hok, hedges⟩
   refine ⟨fun h0 => by rw [h0] at hkready; simp at hkready, fun i hi => ?_⟩
   obtain ⟨h0, oi, hoi, hei⟩ := mem_ready.1 hi
   have hilt : i < ops.size := (Array.getElem?_eq_some_iff.1 hoi).1
   have hiun : L.getD i false = false := by
    rw [Array.getD_eq_getD_getElem?] at h0 ⊢
    have : i < L.size := by omega
    simp [this] at h0 ⊢
    exact h0
   have hik : i = k := by
    have hmem := (hun i hilt).1 hiun
    have chain : ∀ (p0 : Nat × Oper) (l : List (Nat × Oper)), chained tab (p0 :: l) = true → ∀ q ∈ l, ∃ q' ∈ p0 :: l, (tab.getD q.1 0).testBit q'.1 = true := by
     intro p0 l
     induction l generalizing p0 with
     | nil => intro _ q hq; simp at hq
     | cons p1 l ih =>
      intro hc q hq
      obtain ⟨a0, o0⟩ := p0
      obtain ⟨a1, o1⟩ := p1
      simp only [chained, Bool.and_eq_true] at hc
      rcases List.mem_cons.1 hq with rfl | hq
      ·exact ⟨(a0, o0), by simp, hc.1⟩
      ·obtain ⟨q', h1, h2⟩ := ih (a1, o1) hc.2 q hq
       exact ⟨q', List.mem_cons_of_mem _ h1, h2⟩
    simp only [List.map_cons, List.mem_cons] at hmem
    rcases hmem with h1 | h1
    ·exact h1
    ·exfalso
     obtain ⟨q, hq, e1⟩ := List.mem_map.1 h1
     obtain ⟨q', hq', hbit⟩ := chain (k, o) rest hch q hq
     rw [e1] at hbit
     have := hreach i q'.1 hbit (fun j => L.getD j false) hcl fun o2 ho2 e he2 hb2 => by
      have : ops[i]? = some o2 := by simpa using ho2
      rw [hoi] at this
      obtain rfl := Option.some.inj this
      exact hei e he2 hb2
     have hun' := (hun q'.1 (by
      have := hat q' hq'
      exact (Array.getElem?_eq_some_iff.1 this).1)).2 (List.mem_map.2 ⟨q', hq', rfl⟩)
     rw [hun'] at this
     cases this
   subst hik
   have hstep := runOps_step hT (show runOps P tbl N ops (o :: rest.map (·.2)) env ob K = some r from h) hs he
   have hnext : ∀ (env' : Env) (ob' : List Ob) (g' : Gh) (a' : Act) (w' : World), runOps P tbl N ops (rest.map (·.2)) env' ob' K = some r → Sim X g' ob' w' → RepE N g' ob'.length X.I w' env' a' → wpAny P .any ops Q fuel (L.setIfInBounds i true) a' w' := fun env' ob' g' a' w' h1 h2 h3 => by
    refine late_ok hT hreach hback hQ rest fuel _ env' ob' g' w' a' h1 h2 h3 (by simpa using hsz) ?_ (closed_set hsz hklt hok hcl hedges) (fun j hj => ?_) (fun p hp => hat p (List.mem_cons_of_mem _ hp)) hs2.2 ?_
    ·have := cnt_set hsz hklt hkun
     omega
    ·rw [getD_set (by omega)]
     have h4 := hun j hj
     simp only [List.map_cons, List.mem_cons] at h4
     have hnot : i ∉ rest.map (·.1) := fun hm => by
      obtain ⟨q, hq, e1⟩ := List.mem_map.1 hm
      have := hs2.1 q hq
      simp at this e1
      omega
     simp only [Bool.or_eq_false_iff]
     constructor
     ·rintro ⟨h5, h6⟩
      rcases h4.1 h5 with h7 | h7
      ·simp [h7] at h6
      ·exact h7
     ·intro h5
      refine ⟨h4.2 (Or.inr h5), ?_⟩
      simp
      intro e
      exact hnot (e ▸ h5)
    ·cases rest with
     | nil => rfl
     | cons p1 rest =>
      obtain ⟨a1, o1⟩ := p1
      simp only [chained, Bool.and_eq_true] at hch
      exact hch.2
   refine wpOp_of hok (fun hw => mkr_mono ?_ (hstep.1 hw)) fun hw => ?_
   ·rintro v w' ⟨env', ob', g', h1, h2, h3⟩
    exact hnext env' ob' g' _ w' h1 h2 h3
   ·obtain ⟨env', ob', g', h1, h2, h3⟩ := hstep.2 hw
    exact hnext env' ob' g' _ w h1 h2 h3
theorem deads_ok {X : Cx Dr} {g : Gh} {w : World} : ∀ (D : List Ob) (ob : List Ob), Sim X g ob w → (∀ Y ∈ D, Y = .dead) → Sim X g (ob ++ D) w ∧ Keep g ob.length X.I w g (ob ++ D).length w
 | [], ob, s, _ => by simpa using ⟨s, s.refl⟩
 | Y :: D, ob, s, h => by
  have hY := h Y (by simp)
  subst hY
  obtain ⟨s1, k1⟩ := s.slot (g' := g) rfl (fun _ _ => Agree.refl _ _)
  obtain ⟨s2, k2⟩ := deads_ok D (ob ++ [Ob.dead]) s1 (fun Y hY => h Y (List.mem_cons_of_mem _ hY))
  have e : ob ++ [Ob.dead] ++ D = ob ++ Ob.dead :: D := by simp
  rw [e] at s2 k2
  exact ⟨s2, k1.trans k2⟩
theorem mask_none : ∀ (objs : List (Nat × List Ob)), ∀ Y ∈ maskF (fun _ => false) objs, Y = Ob.dead
 | [], Y, h => by simp [maskF] at h
 | (k, os) :: r, Y, h => by
  simp only [maskF, Bool.false_eq_true, if_false, List.mem_append] at h
  rcases h with h | h
  ·obtain ⟨i, hi⟩ := List.getElem?_of_mem h
   exact dead_get os i Y hi
  ·exact mask_none r Y h
theorem bits_all : ∀ (es : List (Nat × Oper)) (m : Nat) (x : Nat), (es.foldl (fun m p => m ||| (1 <<< p.1)) m).testBit x = true ↔ (m.testBit x = true ∨ x ∈ es.map (·.1))
 | [], m, x => by simp
 | p :: es, m, x => by
  rw [List.foldl_cons, bits_all es (m ||| (1 <<< p.1)) x]
  have h1 : (m ||| (1 <<< p.1)).testBit x = true ↔ (m.testBit x = true ∨ p.1 = x) := by
   rw [Nat.testBit_or, Bool.or_eq_true, Nat.one_shiftLeft, Nat.testBit_two_pow, decide_eq_true_eq]
  rw [h1, List.map_cons, List.mem_cons]
  constructor
  ·rintro ((h | h) | h)
   ·exact Or.inl h
   ·exact Or.inr (Or.inl h.symm)
   ·exact Or.inr (Or.inr h)
  ·rintro (h | h | h)
   ·exact Or.inl (Or.inl h)
   ·exact Or.inl (Or.inr h.symm)
   ·exact Or.inr h
theorem drawn_ok (hm : P.follows .mixedOrders = true) (hT : ∀ g fs S, tbl g fs = some S → SumOK Dr P g S) {N : Nat} {ops : Array Oper} {X : Cx Dr} {K : Env → List Ob → Option R} {g : Gh} {w : World} {a : Act} {id : Nat} {Q : Exit → Act → World → Prop} (h : runDrawn P tbl N ops env ob K = some r) (hs : Sim X g ob w) (he : RepE N g ob.length X.I w env a)
  (hQ : ∀ env' ob' g' w' a', K env' ob' = some r → Sim X g' ob' w' → RepE N g' ob'.length X.I w' env' a' → Q .normal a' w') : (Code.region id ops true).wp P Q a w := by
 unfold runDrawn at h
 simp only at h
 generalize htab : depTab ops.toList [] = tab at h
 generalize hlate : lateTab tbl tab ops.toList 0 0 = late at h
 generalize hes : (withIdx ops.toList 0).filter (fun p => !late.testBit p.1) = es at h
 generalize hls : (withIdx ops.toList 0).filter (fun p => late.testBit p.1) = ls at h
 split at h <;> try (cases h; done)
 rename_i hok
 simp only [drawnOk, Bool.and_eq_true, List.all_eq_true, decide_eq_true_eq] at hok
 obtain ⟨⟨⟨⟨_, hnd⟩, hbk⟩, hle⟩, hch⟩ := hok
 have hback : Back ops.toList := fun k o hk e he2 hbb => by
  have := hbk (k, o) ((withIdx_mem _ _ _).2 ⟨k, hk, by simp⟩)
  exact (Array.all_eq_true_iff_forall_mem.1 this e he2) |> fun h => by simpa [hbb] using h
 have hdep := depTab_ok ops.toList ops.toList [] (by simp) (fun k x hb => by simp at hb)
 rw [htab] at hdep
 have hreach : ∀ k x, (tab.getD k 0).testBit x = true → Reach ops.toList k x := fun k x hb => (hdep k x hb).1
 have hbits : ∀ k x, (tab.getD k 0).testBit x = true → x < k := fun k x hb => (hdep k x hb).2 hback
 have hsw := withIdx_sorted ops.toList 0
 have hsortE : es.Pairwise (fun p q => p.1 < q.1) := by rw [← hes]; exact List.Pairwise.filter _ hsw
 have hsortL : ls.Pairwise (fun p q => p.1 < q.1) := by rw [← hls]; exact List.Pairwise.filter _ hsw
 have hatE : ∀ p ∈ es, ops[p.1]? = some p.2 := fun p hp => by
  rw [← hes] at hp
  obtain ⟨j, h1, h2⟩ := (withIdx_mem _ _ _).1 (List.mem_filter.1 hp).1
  have : p.1 = j := by omega
  rw [this]; simpa using h1
 have hatL : ∀ p ∈ ls, ops[p.1]? = some p.2 := fun p hp => by
  rw [← hls] at hp
  obtain ⟨j, h1, h2⟩ := (withIdx_mem _ _ _).1 (List.mem_filter.1 hp).1
  have : p.1 = j := by omega
  rw [this]; simpa using h1
 have hpart : ∀ j, j < ops.size → (j ∈ es.map (·.1) ∨ j ∈ ls.map (·.1)) := fun j hj => by
  have hmem : (j, ops[j]) ∈ withIdx ops.toList 0 := (withIdx_mem _ _ _).2 ⟨j, by simp [hj], by simp⟩
  cases hb : late.testBit j with
  | true => right; rw [← hls]; exact List.mem_map.2 ⟨(j, ops[j]), List.mem_filter.2 ⟨hmem, by simp [hb]⟩, rfl⟩
  | false => left; rw [← hes]; exact List.mem_map.2 ⟨(j, ops[j]), List.mem_filter.2 ⟨hmem, by simp [hb]⟩, rfl⟩
 have hdis : ∀ j, j ∈ es.map (·.1) → j ∉ ls.map (·.1) := fun j h1 h2 => by
  rw [← hes] at h1
  rw [← hls] at h2
  obtain ⟨p, hp, e1⟩ := List.mem_map.1 h1
  obtain ⟨q, hq, e2⟩ := List.mem_map.1 h2
  have h3 := (List.mem_filter.1 hp).2
  have h4 := (List.mem_filter.1 hq).2
  rw [e1] at h3
  rw [e2] at h4
  rw [h4] at h3
  simp at h3
 obtain ⟨vals, objs, hK, hkeys, _, hall⟩ := runA_ok hT es [] [] h hsortE (fun p _ j hb => hbits p.1 j hb)
 simp only [List.nil_append] at hK hall
 refine wp_region_any hm ?_
 have hd : Below Dr w.heap.size w w.drew := (Below.refl _ _).drew
 obtain ⟨hs0, k0⟩ := hs.up hd
 have he0 := he.keep k0
 have hbase : Base ob env X := ⟨hs.nle, fun o cells ho => by
  obtain ⟨us, t, _, h2, _⟩ := hs.box o cells ho
  exact repvs_ids cells us h2, fun s => repv_ids _ _ (he.2.2 s)⟩
 have hplan : Plan Dr P N ops tab es vals objs env ob := ⟨hkeys, hsortE, hbits, hatE, hnd, hall⟩
 have hinv0 : Inv X N ops.toList vals objs env ob (fun _ => false) g a w.drew := by
  obtain ⟨s1, k1⟩ := deads_ok (maskF (fun _ => false) objs) ob hs0 (mask_none objs)
  refine ⟨s1, (he0.keep k1).1, (he0.keep k1).2.1, fun s => ?_⟩
  by_cases hex : ∃ (j : Nat) (oj : Oper), ops.toList[j]? = some oj ∧ oj.dst = some s
  ·obtain ⟨j, oj, hj, hjd⟩ := hex
   rw [look_at ops.toList 0 j oj hnd hj hjd, if_neg (by simp)]
   exact (he0.keep k1).2.2 s
  ·rw [look_none ops.toList 0 fun j oj hj e => hex ⟨j, oj, hj, e⟩]
   exact (he0.keep k1).2.2 s
 have early : ∀ (fuel : Nat) (L : Array Bool) (a : Act) (w : World) (g : Gh), L.size = ops.size → cnt L ops.size ≤ fuel → (Closed ops.toList fun j => L.getD j false) → (∀ j, L.getD j false = true → ∃ q ∈ es, q.1 = j) → Inv X N ops.toList vals objs env ob (fun j => L.getD j false) g a w → wpAny P .any ops Q fuel L a w := by
  intro fuel
  induction fuel with
  | zero =>
   intro L a w g hsz hcnt hcl hE hi
   have hnone : ∀ j, j < ops.size → L.getD j false = true := fun j hj => by
    cases hv : L.getD j false with
    | true => rfl
    | false => have := cnt_pos hj hv; omega
   have hls0 : ls = [] := by
    cases ls with
    | nil => rfl
    | cons p l =>
     have h1 := hatL p (by simp)
     have h2 := (Array.getElem?_eq_some_iff.1 h1).1
     obtain ⟨q, hq, e⟩ := hE p.1 (hnone p.1 h2)
     exact absurd (by simp) (hdis p.1 (List.mem_map.2 ⟨q, hq, e⟩))
   have hmask : maskF (fun j => L.getD j false) objs = maskO (es.foldl (fun m p => m ||| (1 <<< p.1)) 0) objs := by
    rw [maskO_eq]
    refine mask_congr objs fun k hk => ?_
    rw [hkeys] at hk
    obtain ⟨q, hq, e⟩ := List.mem_map.1 hk
    have h1 := (Array.getElem?_eq_some_iff.1 (hatE q hq)).1
    rw [hnone k (by omega)]
    exact ((bits_all es 0 k).2 (Or.inr hk)).symm
   refine late_ok hT hreach hback hQ ls 0 L _ _ g w a hK (by rw [← hmask]; exact hi.sim) ?_ hsz hcnt hcl ?_ hatL hsortL hch
   ·rw [← hmask, maskE_eq]
    have : maskG vals (oldU env) (fun k => (es.foldl (fun m p => m ||| (1 <<< p.1)) 0).testBit k) ops.toList 0 = maskG vals (oldU env) (fun j => L.getD j false) ops.toList 0 := by
     have cong : ∀ (l : List Oper) (i : Nat), i + l.length ≤ ops.size → maskG vals (oldU env) (fun k => (es.foldl (fun m p => m ||| (1 <<< p.1)) 0).testBit k) l i = maskG vals (oldU env) (fun j => L.getD j false) l i := by
      intro l
      induction l with
      | nil => intro i _; rfl
      | cons o l ih =>
       intro i hi
       simp only [List.length_cons] at hi
       have hbi : (es.foldl (fun m p => m ||| (1 <<< p.1)) 0).testBit i = L.getD i false := by
        rw [hnone i (by omega)]
        rcases hpart i (by omega) with h | h
        ·exact (bits_all es 0 i).2 (Or.inr h)
        ·rw [hls0] at h; simp at h
       simp only [maskG, hbi, ih (i + 1) (by omega)]
     exact cong ops.toList 0 (by simp)
    rw [this]
    exact hi.env
   ·intro j hj
    rw [hls0]
    simp only [List.map_nil, List.not_mem_nil, iff_false]
    rw [hnone j hj]
    simp
  | succ fuel ih =>
   intro L a w g hsz hcnt hcl hE hi
   by_cases hallE : ∀ q ∈ es, L.getD q.1 false = true
   ·-- all of them have come up
    have hbit : ∀ k, k < ops.size → (es.foldl (fun m p => m ||| (1 <<< p.1)) 0).testBit k = L.getD k false := fun k hk => by
     rcases hpart k hk with h | h
     ·obtain ⟨q, hq, e⟩ := List.mem_map.1 h
      rw [← e, hallE q hq]
      exact (bits_all es 0 q.1).2 (Or.inr (List.mem_map.2 ⟨q, hq, rfl⟩))
     ·have h1 : k ∉ es.map (·.1) := fun hm => hdis k hm h
      have h2 : L.getD k false = false := by
       cases hv : L.getD k false with
       | false => rfl
       | true =>
        obtain ⟨q, hq, e⟩ := hE k hv
        exact absurd (List.mem_map.2 ⟨q, hq, e⟩) h1
      rw [h2]
      cases hv : (es.foldl (fun m p => m ||| (1 <<< p.1)) 0).testBit k with
      | false => rfl
      | true =>
       rcases (bits_all es 0 k).1 hv with h | h
       ·simp at h
       ·exact absurd h h1
    have hmask : maskF (fun j => L.getD j false) objs = maskO (es.foldl (fun m p => m ||| (1 <<< p.1)) 0) objs := by
     rw [maskO_eq]
     refine mask_congr objs fun k hk => ?_
     rw [hkeys] at hk
     obtain ⟨q, hq, e⟩ := List.mem_map.1 hk
     have h1 := (Array.getElem?_eq_some_iff.1 (hatE q hq)).1
     exact (hbit k (by omega)).symm
    refine late_ok hT hreach hback hQ ls (fuel + 1) L _ _ g w a hK (by rw [← hmask]; exact hi.sim) ?_ hsz hcnt hcl ?_ hatL hsortL hch
    ·rw [← hmask, maskE_eq]
     have cong : ∀ (l : List Oper) (i : Nat), i + l.length ≤ ops.size → maskG vals (oldU env) (fun k => (es.foldl (fun m p => m ||| (1 <<< p.1)) 0).testBit k) l i = maskG vals (oldU env) (fun j => L.getD j false) l i := by
      intro l
      induction l with
      | nil => intro i _; rfl
      | cons o l ih =>
       intro i hi
       simp only [List.length_cons] at hi
       simp only [maskG, hbit i (by omega), ih (i + 1) (by omega)]
     rw [cong ops.toList 0 (by simp)]
     exact hi.env
    ·intro j hj
     rw [← hbit j hj]
     constructor
     ·intro hf
      rcases hpart j hj with h | h
      ·rw [(bits_all es 0 j).2 (Or.inr h)] at hf; cases hf
      ·exact h
     ·intro hl
      cases hv : (es.foldl (fun m p => m ||| (1 <<< p.1)) 0).testBit j with
      | false => rfl
      | true =>
       rcases (bits_all es 0 j).1 hv with h | h
       ·simp at h
       ·exact absurd hl (hdis j h)
   ·-- one is left
    have hleft : ∃ q ∈ es, L.getD q.1 false = false := by
     apply Classical.byContradiction
     intro hn
     exact hallE fun q hq => by
      cases hv : L.getD q.1 false with
      | true => rfl
      | false => exact absurd ⟨q, hq, hv⟩ hn
    obtain ⟨q0, hq0, hq0f⟩ := hleft
    have hq0lt := (Array.getElem?_eq_some_iff.1 (hatE q0 hq0)).1
    refine ⟨fun hr => ?_, fun i hir => ?_⟩
    ·-- the least of those that are left may come up
     exfalso
     have least : ∀ n, (∃ j, j < n ∧ j < ops.size ∧ L.getD j false = false) → ∃ j, j < ops.size ∧ L.getD j false = false ∧ ∀ j', j' < j → L.getD j' false = true := by
      intro n
      induction n with
      | zero => rintro ⟨j, h, _⟩; omega
      | succ n ihn =>
       rintro ⟨j, h1, h2, h3⟩
       by_cases hex : ∃ j, j < n ∧ j < ops.size ∧ L.getD j false = false
       ·exact ihn hex
       ·refine ⟨j, h2, h3, fun j' hj' => ?_⟩
        cases hv : L.getD j' false with
        | true => rfl
        | false => exact absurd ⟨j', by omega, by omega, hv⟩ hex
     obtain ⟨j, hj, hjf, hjl⟩ := least ops.size ⟨q0.1, hq0lt, hq0lt, hq0f⟩
     have hjT : L.getD j true = false := by
      rw [Array.getD_eq_getD_getElem?] at hjf ⊢
      have : j < L.size := by omega
      simp [this] at hjf ⊢
      exact hjf
     have : j ∈ Region.ready .any ops L := mem_ready.2 ⟨hjT, ops[j], by simp [hj], fun e hem hb => hjl e.on (hback j ops[j] (by simp [hj]) e hem hb)⟩
     rw [hr] at this
     simp at this
    ·obtain ⟨h0, oi, hoi, hei⟩ := mem_ready.1 hir
     have hilt : i < ops.size := (Array.getElem?_eq_some_iff.1 hoi).1
     have hiun : L.getD i false = false := by
      rw [Array.getD_eq_getD_getElem?] at h0 ⊢
      have : i < L.size := by omega
      simp [this] at h0 ⊢
      exact h0
     have hseen : ∀ d, (tab.getD i 0).testBit d = true → L.getD d false = true := fun d hd => hreach i d hd (fun j => L.getD j false) hcl fun o2 ho2 e he2 hb2 => by
      have : ops[i]? = some o2 := by simpa using ho2
      rw [hoi] at this
      obtain rfl := Option.some.inj this
      exact hei e he2 hb2
     have hies : (i, oi) ∈ es := by
      rcases hpart i hilt with h | h
      ·obtain ⟨q, hq, e⟩ := List.mem_map.1 h
       have h1 := hatE q hq
       rw [e, hoi] at h1
       have : q = (i, oi) := Prod.ext e (Option.some.inj h1).symm
       rw [← this]; exact hq
      ·exfalso
       obtain ⟨q, hq, e⟩ := List.mem_map.1 h
       have := hle q hq q0 hq0
       rw [e] at this
       rw [hseen q0.1 this] at hq0f
       cases hq0f
     have hclE : ∀ j, L.getD j false = true → ∀ d, (tab.getD j 0).testBit d = true → L.getD d false = true := fun j hj d hd => hreach j d hd (fun j => L.getD j false) hcl fun o2 ho2 e he2 hb2 => hcl j o2 ho2 hj e he2 hb2
     refine wpOp_mono ?_ (plan_step hbase hplan hies (E := fun j => L.getD j false) hiun hseen hclE hE hi)
     rintro a' w' ⟨g', hi'⟩
     have hfun : (fun j => (L.setIfInBounds i true).getD j false) = fun j => L.getD j false || j == i := funext fun j => getD_set (by omega)
     refine ih (L.setIfInBounds i true) a' w' g' (by simpa using hsz) ?_ (closed_set hsz hilt hoi hcl hei) (fun j hj => ?_) (by rw [hfun]; exact hi')
     ·have := cnt_set hsz hilt hiun
      omega
     ·rw [getD_set (by omega)] at hj
      simp only [Bool.or_eq_true, beq_iff_eq] at hj
      rcases hj with hj | rfl
      ·exact hE j hj
      ·exact ⟨_, hies, rfl⟩
 refine early ops.size (Array.replicate ops.size false) a w.drew g (by simp) ?_ ?_ ?_ ?_
 ·unfold cnt
  exact Nat.le_trans (List.length_filter_le _ _) (by simp)
 ·intro j o hj hL
  simp [Array.getD_eq_getD_getElem?, Array.getElem?_replicate] at hL
  split at hL <;> simp at hL
 ·intro j hj
  simp [Array.getD_eq_getD_getElem?, Array.getElem?_replicate] at hj
  split at hj <;> simp at hj
 ·have : (fun j => (Array.replicate ops.size false).getD j false) = fun _ => false := by
   funext j
   simp [Array.getD_eq_getD_getElem?, Array.getElem?_replicate]
   split <;> rfl
  rw [this]
  exact hinv0
end Go.Rv
set_option linter.unusedVariables false
set_option linter.unusedSimpArgs false
namespace Go.Rv
open Go.RowKit
variable {Dr : Kn}
theorem combine2 {X : Cx Dr} {g g' : Gh} {full part p' full' : List Ob} {w w' : World} {c m : Nat} (sE : Sim X g full w) (hpl : part.length = c) (hsub : ∀ (i : Nat) (Y : Ob), part[i]? = some Y → Y = .dead ∨ full[i]? = some Y) (hn0 : X.n0 ≤ c)
  (hcm : c + m ≤ full.length) (hfl : full'.length = full.length) (hp' : p'.length = c + m) (sN : Sim X g' p' w') (hk : Keep g c X.I w g' p'.length w') (honly : Only g part w w') (hblk : Blk g part w g' p' ∨ ∀ o, hasBlk g full o → hasBlk g part o)
  (h1 : ∀ (o : Nat) (Y : Ob), full'[o]? = some Y → (o < c + m ∧ p'[o]? = some Y) ∨ (¬ (c ≤ o ∧ o < c + m) ∧ ¬ hasBlk g part o ∧ full[o]? = some Y))
  (hid : ∀ (o : Nat) (cells : List PV), full[o]? = some (.box cells) → ∀ i ∈ idsPVs cells, ¬ (c ≤ i ∧ i < c + m)) :
  Sim X (g.mix g' c (c + m)) full' w' ∧
   (∀ v u, (∀ i ∈ idsPV v, ¬ (c ≤ i ∧ i < c + m)) → RepV g full.length X.I w v u → RepV (g.mix g' c (c + m)) full'.length X.I w' v u) ∧
   (∀ v u, RepV g' p'.length X.I w' v u → RepV (g.mix g' c (c + m)) full'.length X.I w' v u) := by
 have hheap : ∀ b, X.I b → w'.heap[b]? = w.heap[b]? := hk.heap
 have old : ∀ v u, (∀ i ∈ idsPV v, ¬ (c ≤ i ∧ i < c + m)) → RepV g full.length X.I w v u → RepV (g.mix g' c (c + m)) full'.length X.I w' v u := fun v u hi hr =>
  RepV.agree (show (g.mix g' c (c + m)).J = g.J from rfl) sE.jI hheap v u (fun i hm hn => ⟨by rw [hfl]; exact hn, mix_old (hi i hm)⟩) hr
 have olds : ∀ vs us, (∀ i ∈ idsPVs vs, ¬ (c ≤ i ∧ i < c + m)) → RepVs g full.length X.I w vs us → RepVs (g.mix g' c (c + m)) full'.length X.I w' vs us := fun v u hi hr =>
  RepVs.agree (show (g.mix g' c (c + m)).J = g.J from rfl) sE.jI hheap v u (fun i hm hn => ⟨by rw [hfl]; exact hn, mix_old (hi i hm)⟩) hr
 have agN : ∀ i, i < p'.length → i < full'.length ∧ Agree g' (g.mix g' c (c + m)) i := fun i hi => by
  refine ⟨by omega, ?_⟩
  by_cases hr : c ≤ i ∧ i < c + m
  ·exact mix_new hr
  ·have := hk.agr i (by omega)
   have h2 := mix_old (g := g) (g' := g') hr
   exact ⟨h2.A.trans this.A.symm, h2.H.trans this.H.symm, h2.L.trans this.L.symm, h2.S.trans this.S.symm, h2.pre.trans this.pre.symm, h2.post.trans this.post.symm⟩
 have new : ∀ v u, RepV g' p'.length X.I w' v u → RepV (g.mix g' c (c + m)) full'.length X.I w' v u := fun v u hr =>
  RepV.agree (show (g.mix g' c (c + m)).J = g'.J from hk.J.symm) sN.jI (fun _ _ => rfl) v u (fun i hm hn => agN i hn) hr
 have news : ∀ vs us, RepVs g' p'.length X.I w' vs us → RepVs (g.mix g' c (c + m)) full'.length X.I w' vs us := fun v u hr =>
  RepVs.agree (show (g.mix g' c (c + m)).J = g'.J from hk.J.symm) sN.jI (fun _ _ => rfl) v u (fun i hm hn => agN i hn) hr
 have stays : ∀ o, hasBlk g full o → ¬ hasBlk g part o → w'.heap[g.A o]? = w.heap[g.A o]? := fun o ho hn => honly _ (sE.blk ho).1 fun p hp e => by
  have hpf : hasBlk g full p := by
   rcases hp with ⟨cells, hp⟩ | ⟨e2, xs, hp, hn2⟩
   ·rcases hsub p _ hp with h | h
    ·cases h
    ·exact Or.inl ⟨_, h⟩
   ·rcases hsub p _ hp with h | h
    ·cases h
    ·exact Or.inr ⟨_, _, h, hn2⟩
  have := sE.inj p o hpf ho e
  subst this
  exact hn hp
 have blk : ∀ o, hasBlk (g.mix g' c (c + m)) full' o → (hasBlk g' p' o ∧ (g.mix g' c (c + m)).A o = g'.A o) ∨ (¬ (c ≤ o ∧ o < c + m) ∧ ¬ hasBlk g part o ∧ hasBlk g full o ∧ (g.mix g' c (c + m)).A o = g.A o) := fun o h => by
  rcases h with ⟨cells, h⟩ | ⟨e, xs, h, hn⟩
  ·rcases h1 o _ h with ⟨hl, h2⟩ | ⟨hr, hp, h2⟩
   ·exact Or.inl ⟨Or.inl ⟨_, h2⟩, (agN o (by omega)).2.A⟩
   ·exact Or.inr ⟨hr, hp, Or.inl ⟨_, h2⟩, (mix_old hr).A⟩
  ·rcases h1 o _ h with ⟨hl, h2⟩ | ⟨hr, hp, h2⟩
   ·rw [(agN o (by omega)).2.H] at hn
    exact Or.inl ⟨Or.inr ⟨_, _, h2, hn⟩, (agN o (by omega)).2.A⟩
   ·rw [(mix_old hr).H] at hn
    exact Or.inr ⟨hr, hp, Or.inr ⟨_, _, h2, hn⟩, (mix_old hr).A⟩
 have apart : ∀ o o', hasBlk g' p' o → hasBlk g full o' → ¬ hasBlk g part o' → g'.A o ≠ g.A o' := fun o o' h h' hn e => by
  rcases hblk with hb | hb
  ·rcases hb o h with h2 | ⟨q, hq, e2⟩
   ·have := (sE.blk h').1; omega
   ·have hqf : hasBlk g full q := by
     rcases hq with ⟨cells, hp⟩ | ⟨e3, xs, hp, hn2⟩
     ·rcases hsub q _ hp with h | h
      ·cases h
      ·exact Or.inl ⟨_, h⟩
     ·rcases hsub q _ hp with h | h
      ·cases h
      ·exact Or.inr ⟨_, _, h, hn2⟩
    have := sE.inj q o' hqf h' (e2.symm.trans e)
    subst this
    exact hn hq
  ·exact hn (hb o' h')
 refine ⟨⟨fun o cells h => ?_, fun o e xs h => ?_, fun o o' h h' e => ?_, fun o h => ?_, sN.bnd, fun b hb => sE.jI b hb, sN.upd, sN.bsz, by omega, fun o ho => (sE.kept o ho).trans (mix_old (by omega)), sE.keptJ⟩, old, new⟩
 ·rcases h1 o _ h with ⟨hl, h2⟩ | ⟨hr, hp, h2⟩
  ·obtain ⟨us, t, k1, k2, k3, k4, k5⟩ := sN.box o cells h2
   have ag := (agN o (by omega)).2
   exact ⟨us, t, by rw [ag.A, ag.pre, ag.post]; exact k1, news _ _ k2, by rw [ag.A]; exact k3, by rw [ag.S]; exact k4, by rw [ag.L]; exact k5⟩
  ·obtain ⟨us, t, k1, k2, k3, k4, k5⟩ := sE.box o cells h2
   have ag := mix_old (g := g) (g' := g') hr
   have hst := stays o (Or.inl ⟨_, h2⟩) hp
   exact ⟨us, t, by rw [ag.A, ag.pre, ag.post, hst]; exact k1, olds _ _ (hid o cells h2) k2, by rw [ag.A]; exact k3, by rw [ag.S]; exact k4, by rw [ag.L]; exact k5⟩
 ·rcases h1 o _ h with ⟨hl, h2⟩ | ⟨hr, hp, h2⟩
  ·obtain ⟨k1, k2, kp, k3⟩ := sN.arr o e xs h2
   have ag := (agN o (by omega)).2
   refine ⟨by rw [ag.S]; exact k1, by rw [ag.L]; exact k2, by rw [ag.pre]; exact kp, ?_⟩
   unfold ArrAt at *
   rw [ag.A, ag.H]
   exact k3
  ·obtain ⟨k1, k2, kp, k3⟩ := sE.arr o e xs h2
   have ag := mix_old (g := g) (g' := g') hr
   refine ⟨by rw [ag.S]; exact k1, by rw [ag.L]; exact k2, by rw [ag.pre]; exact kp, ?_⟩
   unfold ArrAt at *
   rw [ag.A, ag.H]
   rcases k3 with k3 | ⟨hne, cap, us, t, n1, n2, n2', n3, n4, n5, n6⟩
   ·exact Or.inl k3
   ·have hst := stays o (Or.inr ⟨_, _, h2, hne⟩) hp
    exact Or.inr ⟨hne, cap, us, t, n1, n2, n2', by rw [hst]; exact n3, n4, fun i x hx => RdC.keep (fun _ h => h) hheap e x _ (by exact hst) (n5 i x hx), n6⟩
 ·rcases blk o h with ⟨b1, a1⟩ | ⟨r1, p1, b1, a1⟩ <;> rcases blk o' h' with ⟨b2, a2⟩ | ⟨r2, p2, b2, a2⟩
  ·rw [a1, a2] at e; exact sN.inj o o' b1 b2 e
  ·rw [a1, a2] at e; exact absurd e (apart o o' b1 b2 p2)
  ·rw [a1, a2] at e; exact absurd e.symm (apart o' o b2 b1 p1)
  ·rw [a1, a2] at e; exact sE.inj o o' b1 b2 e
 ·rcases blk o h with ⟨b1, a1⟩ | ⟨r1, p1, b1, a1⟩
  ·rw [a1]; exact sN.base o b1
  ·rw [a1]; exact sE.base o b1
end Go.Rv
set_option linter.unusedVariables false
set_option linter.unusedSimpArgs false
namespace Go.Rv
open Go.RowKit
variable {Dr : Kn}
variable {R : Type} {P : Program} {tbl : Tbl} {env : Env} {ob : List Ob} {o : Oper} {K : PV → List Ob → Option R} {r : R}
def modAt : List (Nat × Ob) → Nat → Option Ob
 | [], _ => none
 | (i, Y) :: r, j => match modAt r j with | some Z => some Z | none => if i = j then some Y else none
theorem setMods_len : ∀ (mods : List (Nat × Ob)) (l : List Ob), (setMods l mods).length = l.length
 | [], l => rfl
 | (i, Y) :: r, l => by simp only [setMods]; rw [setMods_len r]; simp
theorem setMods_get : ∀ (mods : List (Nat × Ob)) (l : List Ob) (j : Nat), (setMods l mods)[j]? = match modAt mods j with | some Y => if j < l.length then some Y else none | none => l[j]?
 | [], l, j => rfl
 | (i, Y) :: r, l, j => by
  simp only [setMods, modAt]
  rw [setMods_get r]
  cases modAt r j with
  | some Z => simp
  | none =>
   simp only
   by_cases h : i = j
   ·subst h
    rw [if_pos rfl]
    simp only
    rw [List.getElem?_set]
    simp
   ·rw [if_neg h, List.getElem?_set_ne h]
def lastD (f : Nat → Bool) : List DRec → Nat → Option Ob
 | [], _ => none
 | h :: r, j => match lastD f r j with | some Z => some Z | none => if f h.1 = true then modAt h.2.2 j else none
theorem verD_len (f : Nat → Bool) : ∀ (hist : List DRec) (l : List Ob), (verD f hist l).length = l.length
 | [], l => rfl
 | h :: r, l => by
  simp only [verD]
  rw [verD_len f r]
  split
  ·exact setMods_len _ _
  ·rfl
theorem verD_get (f : Nat → Bool) : ∀ (hist : List DRec) (l : List Ob) (j : Nat), (verD f hist l)[j]? = match lastD f hist j with | some Y => if j < l.length then some Y else none | none => l[j]?
 | [], l, j => rfl
 | h :: r, l, j => by
  simp only [verD, lastD]
  rw [verD_get f r]
  cases lastD f r j with
  | some Z =>
   simp only
   have : (if f h.1 = true then setMods l h.2.2 else l).length = l.length := by split; exact setMods_len _ _; rfl
   rw [this]
  | none =>
   simp only
   by_cases hf : f h.1 = true
   ·rw [if_pos hf, if_pos hf, setMods_get]
   ·rw [if_neg hf, if_neg hf]
theorem lastD_app (f : Nat → Bool) : ∀ (a b : List DRec) (j : Nat), lastD f (a ++ b) j = match lastD f b j with | some Z => some Z | none => lastD f a j
 | [], b, j => by simp only [List.nil_append, lastD]; cases lastD f b j <;> rfl
 | h :: a, b, j => by
  simp only [List.cons_append, lastD]
  rw [lastD_app f a b j]
  cases lastD f b j <;> simp
theorem lastD_congr {f f' : Nat → Bool} : ∀ (hist : List DRec) (j : Nat), (∀ h ∈ hist, modAt h.2.2 j ≠ none → f h.1 = f' h.1) → lastD f hist j = lastD f' hist j
 | [], _, _ => rfl
 | h :: r, j, hh => by
  simp only [lastD]
  rw [lastD_congr r j fun x hx => hh x (List.mem_cons_of_mem _ hx)]
  cases lastD f' r j with
  | some Z => rfl
  | none =>
   simp only
   cases hm : modAt h.2.2 j with
   | none => simp
   | some Y => rw [hh h (by simp) (by rw [hm]; simp)]
theorem lastD_none {f : Nat → Bool} : ∀ (hist : List DRec) (j : Nat), (∀ h ∈ hist, modAt h.2.2 j ≠ none → f h.1 = false) → lastD f hist j = none
 | [], _, _ => rfl
 | h :: r, j, hh => by
  simp only [lastD]
  rw [lastD_none r j fun x hx => hh x (List.mem_cons_of_mem _ hx)]
  simp only
  cases hm : modAt h.2.2 j with
  | none => simp
  | some Y => rw [if_neg]; rw [hh h (by simp) (by rw [hm]; simp)]; simp
theorem lastD_mem {f : Nat → Bool} : ∀ (hist : List DRec) (j : Nat) (Y : Ob), lastD f hist j = some Y → ∃ h ∈ hist, f h.1 = true ∧ modAt h.2.2 j = some Y
 | [], _, _, h => by simp [lastD] at h
 | h :: r, j, Y, hh => by
  simp only [lastD] at hh
  cases hl : lastD f r j with
  | some Z =>
   rw [hl] at hh
   simp only at hh
   obtain ⟨x, hx, h1, h2⟩ := lastD_mem r j Y (by rw [hl]; exact hh)
   exact ⟨x, List.mem_cons_of_mem _ hx, h1, h2⟩
  | none =>
   rw [hl] at hh
   simp only at hh
   split at hh
   ·rename_i hf; exact ⟨h, by simp, hf, hh⟩
   ·cases hh
theorem keepD_len (need : List Nat) : ∀ (l : List Ob) (a : Nat), (keepD need l a).length = l.length
 | [], _ => rfl
 | Y :: r, a => by simp only [keepD, List.length_cons, keepD_len need r]
theorem keepD_get (need : List Nat) : ∀ (l : List Ob) (a i : Nat), (keepD need l a)[i]? = (l[i]?).map fun Y => if need.contains (a + i) = true then Y else .dead
 | [], a, i => by simp [keepD]
 | Y :: r, a, 0 => by simp [keepD]
 | Y :: r, a, i + 1 => by
  simp only [keepD, List.getElem?_cons_succ]
  rw [keepD_get need r (a + 1) i, show a + 1 + i = a + (i + 1) by omega]
theorem kill_ne : ∀ (ids : List Nat) (ob : List Ob) (i : Nat), i ∉ ids → (killAll ids ob)[i]? = ob[i]?
 | [], ob, i, _ => rfl
 | j :: r, ob, i, h => by
  simp only [List.mem_cons, not_or] at h
  rw [killAll, kill_ne r _ i h.2, List.getElem?_set_ne (fun e => h.1 e.symm)]
theorem setRows_get : ∀ (cs : List CT) (x : CTs.V cs) (vs : List PV) (ob : List Ob), (setRows cs x vs ob).length = ob.length ∧ ∀ i, i ∉ idsPVs vs → (setRows cs x vs ob)[i]? = ob[i]?
 | [], x, vs, ob => by cases vs <;> exact ⟨rfl, fun _ _ => rfl⟩
 | c :: cs, x, [], ob => by cases c <;> exact ⟨rfl, fun _ _ => rfl⟩
 | c :: cs, x, v :: vs, ob => by
  have ih := fun ob => setRows_get cs x.2 vs ob
  have ht : ∀ i, i ∉ idsPVs (v :: vs) → i ∉ idsPV v ∧ i ∉ idsPVs vs := fun i h => by simpa [idsPVs] using h
  cases c with
  | sl e => cases v with
   | own q =>
    simp only [setRows]
    refine ⟨by rw [(ih _).1]; simp, fun i hi => ?_⟩
    have := ht i hi
    rw [(ih _).2 i this.2, List.getElem?_set_ne (fun e => this.1 (by simp [idsPV, e]))]
   | _ => exact ⟨(ih _).1, fun i hi => (ih _).2 i (ht i hi).2⟩
  | _ => exact ⟨(ih _).1, fun i hi => (ih _).2 i (ht i hi).2⟩
theorem io_get {ob0 : List Ob} : ∀ (ins : List Par) (vs : List PV) (y : CTs.V (ioC ins)) (ob ob' : List Ob), ioAll ob0 ins vs y ob = some ob' → ob.length ≤ ob'.length ∧ ∀ i, i < ob.length → i ∉ ioIds ob0 ins vs → ob'[i]? = ob[i]?
 | [], [], y, ob, ob', h => by
  simp only [ioAll, Option.some.injEq] at h
  subst h
  exact ⟨Nat.le_refl _, fun _ _ _ => rfl⟩
 | [], _ :: _, _, _, _, h => by simp [ioAll] at h
 | _ :: _, [], _, _, _, h => by simp [ioAll] at h
 | p :: r, v :: vs, y, ob, ob', h => by
  simp only [ioAll] at h
  split at h <;> try (cases h; done)
  rename_i ob1 h1
  obtain ⟨a1, a2⟩ := io_get r vs _ ob1 ob' h
  have key : ob.length ≤ ob1.length ∧ ∀ i, i < ob.length → i ∉ ioId1 ob0 p v → ob1[i]? = ob[i]? := by
   cases p with
   | w b cs =>
    simp only [ioP, Option.map_eq_some_iff] at h1
    obtain ⟨us, hf, rfl⟩ := h1
    have := setRows_get cs (splitV (Par.w b cs).io (ioC r) y).1 us ob
    exact ⟨by rw [this.1]; exact Nat.le_refl _, fun i _ hi => this.2 i fun hm => hi (by rw [flat_ids hf] at hm; exact hm)⟩
   | m cs =>
    cases v with
    | ptr q a sz j =>
     simp only [ioP] at h1
     split at h1 <;> try (cases h1; done)
     obtain rfl := Option.some.inj h1
     refine ⟨by simp, fun i hi hn => ?_⟩
     have hq : ¬ q = i := fun e => hn (by simp [ioId1, e])
     rw [List.getElem?_set_ne hq, List.getElem?_append_left hi]
    | _ => simp [ioP] at h1
   | _ =>
    simp only [ioP, Option.some.injEq] at h1
    subst h1
    exact ⟨Nat.le_refl _, fun _ _ _ => rfl⟩
  refine ⟨Nat.le_trans key.1 a1, fun i hi hn => ?_⟩
  have hn' : i ∉ ioId1 ob0 p v ∧ i ∉ ioIds ob0 r vs := by simpa [ioIds] using hn
  rw [a2 i (Nat.lt_of_lt_of_le hi key.1) hn'.2, key.2 i hi hn'.1]
theorem callK_touch {S : Summ} {args as : List PV} {T : List Nat} {Q : List Ob → Prop} (hpk : flatPV S.pack args = some as) (hio : ∀ i ∈ ioIds ob S.ins as, i ∈ T) (h : callK ob S args K = some r)
  (hQ : ∀ ob', (ob.length ≤ ob'.length ∧ ∀ i Y, i ∉ T → ob[i]? = some Y → ob'[i]? = some Y) → Q ob') :
  callK ob S args (fun pv ob' => @ite _ (Q ob') (Classical.propDecidable _) (K pv ob') none) = some r := by
 unfold callK at h ⊢
 simp only [hpk] at h ⊢
 obtain ⟨h, _, hbnd⟩ := boundsK_ok _ _ h
 rw [hbnd]
 split at h <;> try (cases h; done)
 rename_i x hx
 (try rw [hx])
 (try simp only)
 split at h <;> try (cases h; done)
 rename_i hcond
 rw [if_pos hcond]
 obtain ⟨y, hy, h⟩ := Option.bind_eq_some_iff.1 h
 rw [hy]
 simp only [Option.bind_some]
 split at h <;> try (cases h; done)
 rename_i res ob' hres hio'
 obtain ⟨a1, a2⟩ := io_get S.ins as _ _ _ hio'
 have hl : ob.length ≤ ob'.length := Nat.le_trans (by rw [List.length_append, kill_len]; omega) a1
 have hg : ∀ i Y, i ∉ T → ob[i]? = some Y → ob'[i]? = some Y := fun i Y hi hY => by
  have hlt : i < ob.length := (List.getElem?_eq_some_iff.1 hY).1
  have hi' : i ∉ ioIds ob S.ins as := fun hm => hi (hio i hm)
  rw [a2 i (by rw [List.length_append, kill_len]; omega) hi', List.getElem?_append_left (by rw [kill_len]; exact hlt), kill_ne _ _ i hi']
  exact hY
 unfold boxK at h ⊢
 split at h
 ·simp only
  rw [if_pos (hQ ob' ⟨hl, hg⟩)]; exact h
 ·simp only
  split at h <;> try (cases h; done)
  rename_i cs hp
  rw [if_pos (hQ _ ⟨by simp; omega, fun i Y hi hY => by rw [List.getElem?_append_left (List.getElem?_eq_some_iff.1 (hg i Y hi hY)).1]; exact hg i Y hi hY⟩)]
  exact h
def TP (tbl : Tbl) (env : Env) (ob : List Ob) (o : Op) (ob' : List Ob) : Prop := ob.length ≤ ob'.length ∧ ∀ (i : Nat) (Y : Ob), i ∉ touchIds tbl env o → ob[i]? = some Y → ob'[i]? = some Y
theorem touch_ok {q : Op} (him : impure tbl env q = true) (hc : isCallV q = true → callIn tbl env ob q = true) (h : evOp P tbl env ob q K = some r) :
  evOp P tbl env ob q (fun pv ob' => @ite _ (TP tbl env ob q ob') (Classical.propDecidable _) (K pv ob') none) = some r := by
 cases q with
 | store t x y =>
  simp only [evOp] at h ⊢
  split at h <;> try (cases h; done)
  rename_i agg n qq i sz j vs hl hx hfl
  (try rw [hl, hx, hfl])
  (try simp only)
  split at h <;> try (cases h; done)
  rename_i hn
  (try rw [if_pos hn])
  have tp : ∀ Y, TP tbl env ob (.store t x y) (ob.set qq Y) := fun Y => ⟨by simp, fun i Z hi hz => by
   rw [List.getElem?_set_ne]
   ·exact hz
   ·intro e
    apply hi
    simp only [touchIds, hx, idsPV]
    simp [e]⟩
  split at h
  ·rename_i cells hq
   (try simp only [hq])
   split at h <;> try (cases h; done)
   rename_i hb
   (try rw [if_pos hb])
   rw [if_pos (tp _)]
   exact h
  ·rename_i e xs hq
   (try simp only [hq])
   split at h <;> try (cases h; done)
   rename_i y' hset
   (try simp only [hset])
   rw [if_pos (tp _)]
   exact h
  ·cases h
 | call c =>
  cases hcc : c.callee with
  | builtin bi =>
   simp only [impure, hcc] at him
   cases bi with
   | append =>
    simp only [evOp, hcc] at h ⊢
    split at h <;> try (cases h; done)
    rename_i b x t t' hargs htys
    (try rw [hargs, htys])
    (try simp only)
    split at h <;> try (cases h; done)
    rename_i e cs e' he0 hu'
    (try rw [he0, hu'])
    (try simp only)
    split at h <;> try (cases h; done)
    rename_i i hi
    (try rw [hi])
    (try simp only)
    split at h <;> try (cases h; done)
    rename_i z ys hz hys
    (try rw [hz, hys])
    (try simp only)
    split at h <;> try (cases h; done)
    rename_i hcond
    (try rw [if_pos hcond])
    obtain ⟨h, _, hbnd⟩ := bndK_ok h
    rw [hbnd]
    rw [hargs] at him
    simp only [List.map_cons, List.map_nil] at him
    split at him
    ·rename_i q0 rest hev
     have hev1 := (List.cons.inj hev).1
     (try rw [hev1] at h)
     (try rw [hev1])
     (try simp only at h ⊢)
     split at h <;> try (cases h; done)
     rename_i e1 xs hq
     (try simp only [hq])
     split at h <;> try (cases h; done)
     rename_i hbq
     (try rw [dif_pos hbq])
     split at h <;> try (cases h; done)
     rename_i hroom
     (try rw [if_pos hroom])
     split at h <;> try (cases h; done)
     rename_i hroom2
     (try rw [if_pos hroom2])
     rw [if_pos]
     ·exact h
     ·refine ⟨by simp, fun i Z hi hz => ?_⟩
      have hlt : i < ob.length := (List.getElem?_eq_some_iff.1 hz).1
      rw [List.getElem?_append_left (by simpa using hlt), List.getElem?_set_ne]
      ·exact hz
      ·intro e2
       apply hi
       simp only [touchIds, hcc, hargs, List.map_cons, hev1]
       simp [e2]
    ·cases him
   | _ => cases him
  | value f =>
   have hc2 := hc (by simp only [isCallV, hcc])
   simp only [evOp, hcc] at h ⊢
   split at h <;> try (cases h; done)
   rename_i gf caps hf
   (try rw [hf])
   (try simp only)
   split at h <;> try (cases h; done)
   rename_i S hS
   (try rw [hS])
   (try simp only)
   simp only [callIn, callS, hcc, hf, hS] at hc2
   split at hc2 <;> try (cases hc2; done)
   rename_i S' as hcs
   split at hcs <;> try (cases hcs; done)
   rename_i as' hpk
   obtain ⟨rfl, rfl⟩ := Prod.mk.inj (Option.some.inj hcs)
   have ht : touchIds tbl env (.call c) = tIds S.ins as' := by simp only [touchIds, callS, hcc, hf, hS, hpk]
   refine callK_touch (T := tIds S.ins as') hpk (fun i hi => ?_) h fun ob' hh => ?_
   ·simpa using List.all_eq_true.1 hc2 i hi
   ·exact ⟨hh.1, fun i Y hi hY => hh.2 i Y (by rw [ht] at hi; exact hi) hY⟩
  | _ => simp [evOp, hcc] at h
 | _ => simp [impure] at him
end Go.Rv
set_option linter.unusedVariables false
set_option linter.unusedSimpArgs false
namespace Go.Rv
open Go.RowKit
variable {Dr : Kn}
variable {R : Type} {P : Program} {tbl : Tbl} {env : Env} {ob : List Ob} {o : Oper} {K : PV → List Ob → Option R} {r : R}
def WX (Dr : Kn) (P : Program) (part : List Ob) (env : Env) (o : Oper) (pv : PV) (ob' : List Ob) : Prop :=
 ∀ (X : Cx Dr) (N : Nat) (g : Gh) (w : World) (a : Act), Sim X g part w → RepE N g part.length X.I w env a →
  mkr P o a w fun v w' => ∃ g', Only g part w w' ∧ Blk g part w g' ob' ∧ Sim X g' ob' w' ∧ Keep g part.length X.I w g' ob'.length w' ∧ RepV g' ob'.length X.I w' pv v
theorem blk_of {part ob' : List Ob} {pv : PV}
  (h : ∀ (X : Cx Dr) (N : Nat) (g : Gh) (w : World) (a : Act), Sim X g part w → RepE N g part.length X.I w env a →
   mkr P o a w fun v w' => ∃ g', Only g part w w' ∧ Sim X g' ob' w' ∧ Keep g part.length X.I w g' ob'.length w' ∧ RepV g' ob'.length X.I w' pv v) : WX Dr P part env o pv ob' := by
 intro X N g w a hs he
 have hT2 : ∀ b, b ∈ ((List.range part.length).filter fun q => @decide (hasBlk g part q) (Classical.propDecidable _)).map g.A ↔ ∃ q, hasBlk g part q ∧ b = g.A q := fun b => by
  constructor
  ·intro hm
   obtain ⟨q, hq, rfl⟩ := List.mem_map.1 hm
   have := (List.mem_filter.1 hq).2
   exact ⟨q, by simpa using this, rfl⟩
  ·rintro ⟨q, hq, rfl⟩
   exact List.mem_map.2 ⟨q, List.mem_filter.2 ⟨by simpa using hq.lt, by simpa using hq⟩, rfl⟩
 let X2 : Cx Dr := ⟨w.heap.size, w, ((List.range part.length).filter fun q => @decide (hasBlk g part q) (Classical.propDecidable _)).map g.A, X.I, X.n0, X.g0, by have := hs.tab; rw [hs.keptJ] at this; exact this, fun b hb => ⟨hs.bnd b (hs.jI b (by rw [hs.keptJ]; exact hb)), fun hm => by
  obtain ⟨q, hq, rfl⟩ := (hT2 b).1 hm
  exact (hs.blk hq).2 (hs.jI _ (by rw [hs.keptJ]; exact hb))⟩⟩
 have hs2 : Sim X2 g part w := ⟨hs.box, hs.arr, hs.inj, fun q hq => Or.inr ((hT2 _).2 ⟨q, hq, rfl⟩), hs.bnd, hs.jI, Upd.refl _ _ _, Nat.le_refl _, hs.nle, hs.kept, hs.keptJ⟩
 refine mkr_mono ?_ (h X2 N g w a hs2 he)
 rintro v w' ⟨g', ho, s', k', r'⟩
 have hblk : Blk g part w g' ob' := fun q hq => by
  rcases s'.base q hq with h | h
  ·exact Or.inl h
  ·obtain ⟨p, hp, e⟩ := (hT2 _).1 h
   exact Or.inr ⟨p, hp, e⟩
 have hu : Upd Dr w.heap.size _ w w' := s'.upd
 refine ⟨g', ho, hblk, ⟨s'.box, s'.arr, s'.inj, fun q hq => ?_, s'.bnd, s'.jI, ?_, Nat.le_trans hs.bsz hu.size, s'.nle, s'.kept, s'.keptJ⟩, k', r'⟩
 ·rcases hblk q hq with h | ⟨p, hp, e⟩
  ·exact Or.inl (Nat.le_trans hs.bsz h)
  ·rw [e]; exact hs.base p hp
 ·refine hs.upd.trans ⟨hu.os, hu.tape, hu.output, hu.size, fun k hk hn => hu.block k (Nat.lt_of_lt_of_le hk hs.bsz) fun hm => ?_, hu.drawn⟩
  obtain ⟨p, hp, e⟩ := (hT2 _).1 hm
  rcases hs.base p hp with h | h
  ·omega
  ·exact hn (e ▸ h)
theorem evOp_wx (hT : ∀ g fs S, tbl g fs = some S → SumOK Dr P g S) (hc : (isCallV o.op && (impure tbl env o.op && !callIn tbl env ob o.op)) = false) (h : evOp P tbl env ob o.op K = some r) :
  ∃ pv ob', K pv ob' = some r ∧ WX Dr P ob env o pv ob' ∧ ob.length ≤ ob'.length ∧ ∀ (i : Nat) (Y : Ob), i ∉ touchIds tbl env o.op → ob[i]? = some Y → ob'[i]? = some Y := by
 cases him : impure tbl env o.op with
 | false =>
  obtain ⟨pv, ob', h1, happ, hwv⟩ := evOp_wv hT h
  obtain ⟨new, rfl⟩ := happ him
  refine ⟨pv, _, h1, fun X N g w a hs he => mkr_mono ?_ (hwv X N g w a hs he), by simp, fun i Y _ hY => ?_⟩
  ·rintro v w' ⟨g', ⟨hf, ho, _⟩, s', k', r'⟩
   exact ⟨g', ho, (hf him).blk k', s', k', r'⟩
  ·rw [List.getElem?_append_left (List.getElem?_eq_some_iff.1 hY).1]; exact hY
 | true =>
  rw [him, Bool.true_and] at hc
  have hc' : isCallV o.op = true → callIn tbl env ob o.op = true := fun hv => by rw [hv, Bool.true_and] at hc; simpa using hc
  obtain ⟨pv, ob', h1, happ, hwv⟩ := evOp_wv hT (touch_ok him hc' h)
  by_cases hp : TP tbl env ob o.op ob'
  ·rw [if_pos hp] at h1
   refine ⟨pv, ob', h1, blk_of fun X N g w a hs he => mkr_mono ?_ (hwv X N g w a hs he), hp.1, hp.2⟩
   rintro v w' ⟨g', ⟨_, ho, hb⟩, s', k', r'⟩
   exact ⟨g', ho, s', k', r'⟩
  ·rw [if_neg hp] at h1; cases h1
structure DPOp (Dr : Kn) (P : Program) (N : Nat) (ops : List Oper) (tab : List Nat) (env0 : Env) (ob0 : List Ob) (vals : List (Nat × PV)) (objs : List (Nat × List Ob)) (hist : List DRec) (k : Nat) (o : Oper) : Prop where
 dst : okDst N o.dst = true
 idv : ∀ i ∈ idsPV (valOf vals k), okId tab ob0.length objs k i
 ex : ∃ A os B H1 need mods H2, objs = A ++ (k, os) :: B ∧ hist = H1 ++ (k, need, mods) :: H2 ∧
  (∀ cells, Ob.box cells ∈ os → ∀ i ∈ idsPVs cells, okId tab ob0.length objs k i) ∧
  (∀ j cells, modAt mods j = some (.box cells) → ∀ i ∈ idsPVs cells, okId tab ob0.length objs k i) ∧
  (∀ j, modAt mods j ≠ none → j ∈ need) ∧
  (∀ i ∈ need, i < ob0.length + total A ∧ (i < ob0.length ∨ ∃ d, tagOf objs (i - ob0.length) = some d ∧ (tab.getD k 0).testBit d = true) ∧ ∀ h ∈ H1, modAt h.2.2 i ≠ none → (tab.getD k 0).testBit h.1 = true) ∧
  (∀ i, modAt mods i ≠ none → ∀ h ∈ H1, i ∈ h.2.1 → (tab.getD k 0).testBit h.1 = true) ∧
  ((∃ g want s, o.guard = some (g, want) ∧ (tab.getD k 0).testBit g = true ∧ (ops[g]?).bind (·.dst) = some s ∧ (valOf vals g = .skip ∨ ∃ b, valOf vals g = .bool b ∧ b ≠ want) ∧ valOf vals k = .skip ∧ os = [] ∧ mods = []) ∨
  ((o.guard = none ∨ ∃ g want s, o.guard = some (g, want) ∧ (tab.getD k 0).testBit g = true ∧ (ops[g]?).bind (·.dst) = some s ∧ valOf vals g = .bool want) ∧
   ∃ ob', WX Dr P (keepD need (verD (fun j => (tab.getD k 0).testBit j) H1 (ob0 ++ maskF (fun j => (tab.getD k 0).testBit j) A)) 0) (maskG vals (uOf tab env0 k) (fun j => (tab.getD k 0).testBit j) ops 0 ++ env0) o (valOf vals k) ob' ∧
    ob'.length = ob0.length + total A + os.length ∧ (∀ j, j < os.length → ob'[ob0.length + total A + j]? = os[j]?) ∧ (∀ i Y, modAt mods i = some Y → ob'[i]? = some Y) ∧
    ∀ i Y, modAt mods i = none → (keepD need (verD (fun j => (tab.getD k 0).testBit j) H1 (ob0 ++ maskF (fun j => (tab.getD k 0).testBit j) A)) 0)[i]? = some Y → ob'[i]? = some Y))
theorem modAt_map (T : List Nat) (f : Nat → Ob) : ∀ (j : Nat), modAt (T.map fun i => (i, f i)) j = if j ∈ T then some (f j) else none := by
 induction T with
 | nil => intro j; simp [modAt]
 | cons a T ih =>
  intro j
  simp only [List.map_cons, modAt, ih j]
  by_cases h : j ∈ T
  ·simp [h]
  ·by_cases h2 : a = j
   ·subst h2; simp [h]
   ·have : ¬ j = a := fun e => h2 e.symm
    simp [h, h2, this]
theorem bound_mod {hist : List DRec} {m i : Nat} (h : boundD hist m i = true) (x : DRec) (hx : x ∈ hist) (hm : modAt x.2.2 i ≠ none) : m.testBit x.1 = true := by
 unfold boundD at h
 have h1 := List.all_eq_true.1 h x hx
 simp only [Bool.or_eq_true, Bool.not_eq_true'] at h1
 rcases h1 with h1 | h1
 ·exfalso
  have key : ∀ (l : List (Nat × Ob)), modAt l i ≠ none → (l.any fun p => p.1 == i) = true := by
   intro l
   induction l with
   | nil => intro h; simp [modAt] at h
   | cons p l ih =>
    obtain ⟨a, Y⟩ := p
    intro h
    simp only [modAt] at h
    simp only [List.any_cons, Bool.or_eq_true]
    cases hl : modAt l i with
    | some Z => right; exact ih (by rw [hl]; simp)
    | none =>
     rw [hl] at h
     simp only at h
     left
     by_cases ha : a = i
     ·simp [ha]
     ·rw [if_neg ha] at h; exact absurd rfl h
  rw [key _ hm] at h1
  cases h1
 ·exact h1
set_option maxHeartbeats 1000000 in
theorem runD_ok (hT : ∀ g fs S, tbl g fs = some S → SumOK Dr P g S) {N : Nat} {ops : List Oper} {tab : List Nat} {env0 : Env} {ob0 : List Ob} {K : List (Nat × PV) → List (Nat × List Ob) → List DRec → Option R} : ∀ (l : List (Nat × Oper)) (vals : List (Nat × PV)) (objs : List (Nat × List Ob)) (hist : List DRec),
  runD P tbl N ops tab env0 ob0 l vals objs hist K = some r → l.Pairwise (fun p q => p.1 < q.1) → (∀ p ∈ l, ∀ j, (tab.getD p.1 0).testBit j = true → j < p.1) →
  ∃ vals' objs2 hist2, K vals' (objs ++ objs2) (hist ++ hist2) = some r ∧ objs2.map (·.1) = l.map (·.1) ∧ hist2.map (·.1) = l.map (·.1) ∧ (∀ j, j ∉ l.map (·.1) → valOf vals' j = valOf vals j) ∧ ∀ p ∈ l, DPOp Dr P N ops tab env0 ob0 vals' (objs ++ objs2) (hist ++ hist2) p.1 p.2
 | [], vals, objs, hist, h, _, _ => ⟨vals, [], [], by rw [List.append_nil, List.append_nil]; simpa only [runD] using h, rfl, rfl, fun _ _ => rfl, by simp⟩
 | (k, o) :: l, vals, objs, hist, h, hp, hb => by
  simp only [runD] at h
  split at h <;> try (cases h; done)
  rename_i hd
  have hp2 := List.pairwise_cons.1 hp
  have hk : k ∉ l.map (·.1) := fun hm => by
   obtain ⟨q, hq, he⟩ := List.mem_map.1 hm
   have := hp2.1 q hq
   simp at this he
   omega
  have hlt : ∀ j, j < k → j ∉ ((k, o) :: l).map (·.1) := fun j hj hm => by
   simp only [List.map_cons, List.mem_cons] at hm
   rcases hm with rfl | hm
   ·omega
   ·obtain ⟨q, hq, he⟩ := List.mem_map.1 hm
    have := hp2.1 q hq
    simp at this he
    omega
  have hbk := hb (k, o) (by simp)
  simp only at hbk
  have go : ∀ vals1 : List (Nat × PV), (∀ j, valOf vals1 j = valOf vals j) → (o.guard = none ∨ ∃ g want s, o.guard = some (g, want) ∧ (tab.getD k 0).testBit g = true ∧ (ops[g]?).bind (·.dst) = some s ∧ valOf vals g = .bool want) →
    (if (isCallV o.op && (impure tbl (maskE vals1 (uOf tab env0 k) (tab.getD k 0) ops 0 ++ env0) o.op && !callIn tbl (maskE vals1 (uOf tab env0 k) (tab.getD k 0) ops 0 ++ env0) (partD ob0 objs hist (tab.getD k 0) (needD (maskE vals1 (uOf tab env0 k) (tab.getD k 0) ops 0 ++ env0) ob0.length objs hist (tab.getD k 0) o.op)) o.op)) = true then none else
     if freeD hist (tab.getD k 0) (touchIds tbl (maskE vals1 (uOf tab env0 k) (tab.getD k 0) ops 0 ++ env0) o.op) (needD (maskE vals1 (uOf tab env0 k) (tab.getD k 0) ops 0 ++ env0) ob0.length objs hist (tab.getD k 0) o.op) = true then
      evOp P tbl (maskE vals1 (uOf tab env0 k) (tab.getD k 0) ops 0 ++ env0) (partD ob0 objs hist (tab.getD k 0) (needD (maskE vals1 (uOf tab env0 k) (tab.getD k 0) ops 0 ++ env0) ob0.length objs hist (tab.getD k 0) o.op)) o.op fun v ob' =>
       if (decide (ob0.length + total objs ≤ ob'.length) && okIdsD ob0.length (ob0.length + total objs) ob'.length objs (tab.getD k 0) (idsPV v) && (ob'.drop (ob0.length + total objs)).all (okObD ob0.length (ob0.length + total objs) ob'.length objs (tab.getD k 0)) &&
         (touchIds tbl (maskE vals1 (uOf tab env0 k) (tab.getD k 0) ops 0 ++ env0) o.op).all fun i => okObD ob0.length (ob0.length + total objs) ob'.length objs (tab.getD k 0) (ob'.getD i .dead)) = true then
        runD P tbl N ops tab env0 ob0 l ((k, v) :: vals1) (objs ++ [(k, ob'.drop (ob0.length + total objs))])
         (hist ++ [(k, needD (maskE vals1 (uOf tab env0 k) (tab.getD k 0) ops 0 ++ env0) ob0.length objs hist (tab.getD k 0) o.op, (touchIds tbl (maskE vals1 (uOf tab env0 k) (tab.getD k 0) ops 0 ++ env0) o.op).map fun i => (i, ob'.getD i .dead))]) K
       else none
     else none) = some r →
    ∃ vals' objs2 hist2, K vals' (objs ++ objs2) (hist ++ hist2) = some r ∧ objs2.map (·.1) = ((k, o) :: l).map (·.1) ∧ hist2.map (·.1) = ((k, o) :: l).map (·.1) ∧ (∀ j, j ∉ ((k, o) :: l).map (·.1) → valOf vals' j = valOf vals j) ∧ ∀ p ∈ (k, o) :: l, DPOp Dr P N ops tab env0 ob0 vals' (objs ++ objs2) (hist ++ hist2) p.1 p.2 := by
   intro vals1 hv hguard h
   split at h <;> try (cases h; done)
   rename_i hcv
   split at h <;> try (cases h; done)
   rename_i hfree
   generalize hneed : needD (maskE vals1 (uOf tab env0 k) (tab.getD k 0) ops 0 ++ env0) ob0.length objs hist (tab.getD k 0) o.op = need at h hfree hcv
   generalize hTT : touchIds tbl (maskE vals1 (uOf tab env0 k) (tab.getD k 0) ops 0 ++ env0) o.op = T at h hfree
   obtain ⟨pv, ob', h1, hwx, hle, hrest⟩ := evOp_wx hT (by simpa using hcv) h
   rw [hTT] at hrest
   split at h1 <;> try (cases h1; done)
   rename_i hlive
   simp only [Bool.and_eq_true, decide_eq_true_eq] at hlive
   obtain ⟨⟨⟨hl0, hl1⟩, hl2⟩, hl3⟩ := hlive
   obtain ⟨vals', objs2, hist2, k1, k2, k2', k3, k4⟩ := runD_ok hT l _ _ _ h1 hp2.2 (fun p hpm => hb p (List.mem_cons_of_mem _ hpm))
   generalize hnew : ob'.drop (ob0.length + total objs) = new at *
   have hnl : new.length = ob'.length - (ob0.length + total objs) := by rw [← hnew, List.length_drop]
   have hobj : objs ++ [(k, new)] ++ objs2 = objs ++ ((k, new) :: objs2) := by simp
   have hhis : hist ++ [(k, need, T.map fun i => (i, ob'.getD i .dead))] ++ hist2 = hist ++ ((k, need, T.map fun i => (i, ob'.getD i .dead)) :: hist2) := by simp
   rw [hobj, hhis] at k1 k4
   have hvk : valOf vals' k = pv := by rw [k3 k hk]; simp [valOf]
   have hvj : ∀ j, j ∉ ((k, o) :: l).map (·.1) → valOf vals' j = valOf vals j := fun j hj => by
    simp only [List.map_cons, List.mem_cons, not_or] at hj
    rw [k3 j hj.2]
    simp only [valOf]
    rw [if_neg (fun e => hj.1 e.symm), hv j]
   have hmv : ∀ j, (tab.getD k 0).testBit j = true → valOf vals1 j = valOf vals' j := fun j hj => by
    rw [hvj j (hlt j (hbk j hj)), hv j]
   have okI : ∀ ids, okIdsD ob0.length (ob0.length + total objs) ob'.length objs (tab.getD k 0) ids = true → ∀ i ∈ ids, okId tab ob0.length (objs ++ (k, new) :: objs2) k i := fun ids hids i hi => by
    have h0 := List.all_eq_true.1 hids i hi
    simp only [Bool.and_eq_true, Bool.or_eq_true, decide_eq_true_eq] at h0
    obtain ⟨ha, hb2⟩ := h0
    by_cases hn0 : i < ob0.length
    ·exact Or.inl hn0
    ·right
     by_cases hc : i - ob0.length < total objs
     ·rcases hb2 with hb2 | hb2
      ·omega
      ·unfold madeD at hb2
       simp only [Bool.or_eq_true, decide_eq_true_eq] at hb2
       rcases hb2 with hb2 | hb2
       ·omega
       ·cases ht : tagOf objs (i - ob0.length) with
        | none => rw [ht] at hb2; cases hb2
        | some d =>
         rw [ht] at hb2
         exact ⟨d, by rw [tag_app _ _ _ hc]; exact ht, Or.inl hb2⟩
     ·refine ⟨k, ?_, Or.inr rfl⟩
      have := tag_mid objs objs2 k new (i - ob0.length - total objs) (by omega)
      rw [show total objs + (i - ob0.length - total objs) = i - ob0.length by omega] at this
      exact this
   have okB : ∀ Y, okObD ob0.length (ob0.length + total objs) ob'.length objs (tab.getD k 0) Y = true → ∀ cells, Y = .box cells → ∀ i ∈ idsPVs cells, okId tab ob0.length (objs ++ (k, new) :: objs2) k i := fun Y hY cells e => by
    subst e
    exact okI _ hY
   unfold freeD at hfree
   simp only [Bool.and_eq_true] at hfree
   obtain ⟨hfr1, hfr2⟩ := hfree
   have hmodT : ∀ j, modAt (T.map fun i => (i, ob'.getD i .dead)) j ≠ none → j ∈ T := fun j hj => by
    rw [modAt_map T (fun i => ob'.getD i .dead)] at hj
    by_cases h : j ∈ T
    ·exact h
    ·rw [if_neg h] at hj; exact absurd rfl hj
   have hneedF : ∀ i ∈ need, i < ob0.length + total objs ∧ madeD ob0.length objs (tab.getD k 0) i = true ∧ boundD hist (tab.getD k 0) i = true := fun i hi => by
    rw [← hneed] at hi
    unfold needD at hi
    have := (List.mem_filter.1 hi).2
    simpa using this
   have hpl : (partD ob0 objs hist (tab.getD k 0) need).length = ob0.length + total objs := by
    unfold partD
    rw [keepD_len, verD_len, maskO_eq]; simp [maskF_len]
   refine ⟨vals', (k, new) :: objs2, (k, need, T.map fun i => (i, ob'.getD i .dead)) :: hist2, k1, by simp [k2], by simp [k2'], hvj, fun p hpm => ?_⟩
   rcases List.mem_cons.1 hpm with rfl | hpm
   ·refine ⟨hd, fun i hi => okI _ hl1 i (by rw [hvk] at hi; exact hi), objs, new, objs2, hist, need, _, hist2, rfl, rfl, fun cells hc => okB _ (List.all_eq_true.1 hl2 _ hc) cells rfl, fun j cells hm => ?_, fun j hj => ?_, fun i hi => ?_, fun i hi x hx hxn => ?_, Or.inr ⟨?_, ob', ?_, by omega, fun j hj => ?_, fun i Y hm => ?_, fun i Y hm hY => ?_⟩⟩
    ·have hj := hmodT j (by rw [hm]; simp)
     rw [modAt_map T (fun i => ob'.getD i .dead), if_pos hj] at hm
     exact okB _ (List.all_eq_true.1 hl3 j hj) cells (Option.some.inj hm)
    ·have := List.all_eq_true.1 hfr1 j (hmodT j hj)
     simpa using this
    ·obtain ⟨n1, n2, n3⟩ := hneedF i hi
     refine ⟨n1, ?_, fun x hx hm => bound_mod n3 x hx hm⟩
     unfold madeD at n2
     simp only [Bool.or_eq_true, decide_eq_true_eq] at n2
     rcases n2 with n2 | n2
     ·exact Or.inl n2
     ·by_cases hn0 : i < ob0.length
      ·exact Or.inl hn0
      ·right
       cases ht : tagOf objs (i - ob0.length) with
       | none => rw [ht] at n2; cases n2
       | some d =>
        rw [ht] at n2
        exact ⟨d, by rw [tag_app _ _ _ (by omega)]; exact ht, n2⟩
    ·have := List.all_eq_true.1 hfr2 x hx
     simp only [Bool.or_eq_true, List.all_eq_true, Bool.not_eq_true'] at this
     rcases this with h5 | h5
     ·exact h5
     ·have := h5 i hxn
      simp [hmodT i hi] at this
    ·rcases hguard with hg | ⟨g, want, s, hg, hbit, hs, hval⟩
     ·exact Or.inl hg
     ·exact Or.inr ⟨g, want, s, hg, hbit, hs, by rw [hvj g (hlt g (hbk g hbit)), hval]⟩
    ·have h7 := hwx
     unfold partD at h7
     rw [maskO_eq, maskE_eq, maskG_congr hmv] at h7
     rw [hvk]
     exact h7
    ·rw [← hnew, List.getElem?_drop]
    ·have hj := hmodT i (by rw [hm]; simp)
     rw [modAt_map T (fun i => ob'.getD i .dead), if_pos hj] at hm
     have h8 := List.all_eq_true.1 hfr1 i hj
     have h9 := (hneedF i (by simpa using h8)).1
     rw [← Option.some.inj hm, List.getD_eq_getElem?_getD, List.getElem?_eq_getElem (by omega)]
     rfl
    ·have hnT : i ∉ T := fun hin => by
      rw [modAt_map T (fun i => ob'.getD i .dead), if_pos hin] at hm; cases hm
     refine hrest i Y hnT ?_
     unfold partD
     rw [maskO_eq]
     exact hY
   ·exact k4 p hpm
  have over : ∀ vals1 : List (Nat × PV), (∀ j, valOf vals1 j = valOf vals j) → ∀ g want s, o.guard = some (g, want) → (tab.getD k 0).testBit g = true → (ops[g]?).bind (·.dst) = some s → (valOf vals g = .skip ∨ ∃ b, valOf vals g = .bool b ∧ b ≠ want) →
    runD P tbl N ops tab env0 ob0 l ((k, .skip) :: vals1) (objs ++ [(k, [])]) (hist ++ [(k, [], [])]) K = some r →
    ∃ vals' objs2 hist2, K vals' (objs ++ objs2) (hist ++ hist2) = some r ∧ objs2.map (·.1) = ((k, o) :: l).map (·.1) ∧ hist2.map (·.1) = ((k, o) :: l).map (·.1) ∧ (∀ j, j ∉ ((k, o) :: l).map (·.1) → valOf vals' j = valOf vals j) ∧ ∀ p ∈ (k, o) :: l, DPOp Dr P N ops tab env0 ob0 vals' (objs ++ objs2) (hist ++ hist2) p.1 p.2 := by
   intro vals1 hv g want s hg hbit hs hval h1
   obtain ⟨vals', objs2, hist2, k1, k2, k2', k3, k4⟩ := runD_ok hT l _ _ _ h1 hp2.2 (fun p hpm => hb p (List.mem_cons_of_mem _ hpm))
   have hobj : objs ++ [(k, ([] : List Ob))] ++ objs2 = objs ++ ((k, []) :: objs2) := by simp
   have hhis : hist ++ [(k, ([] : List Nat), ([] : List (Nat × Ob)))] ++ hist2 = hist ++ ((k, [], []) :: hist2) := by simp
   rw [hobj, hhis] at k1 k4
   have hvk : valOf vals' k = .skip := by rw [k3 k hk]; simp [valOf]
   have hvj : ∀ j, j ∉ ((k, o) :: l).map (·.1) → valOf vals' j = valOf vals j := fun j hj => by
    simp only [List.map_cons, List.mem_cons, not_or] at hj
    rw [k3 j hj.2]
    simp only [valOf]
    rw [if_neg (fun e => hj.1 e.symm), hv j]
   refine ⟨vals', (k, []) :: objs2, (k, [], []) :: hist2, k1, by simp [k2], by simp [k2'], hvj, fun p hpm => ?_⟩
   rcases List.mem_cons.1 hpm with rfl | hpm
   ·refine ⟨hd, fun i hi => by rw [hvk] at hi; simp [idsPV] at hi, objs, [], objs2, hist, [], [], hist2, rfl, rfl, fun cells hc => by simp at hc, fun j cells hm => by simp [modAt] at hm, fun j hj => by simp [modAt] at hj, fun i hi => by simp at hi, fun i hi => by simp [modAt] at hi, Or.inl ⟨g, want, s, hg, hbit, hs, ?_, hvk, rfl, rfl⟩⟩
    rw [hvj g (hlt g (hbk g hbit))]
    exact hval
   ·exact k4 p hpm
  split at h
  ·rename_i hg
   exact go vals (fun _ => rfl) (Or.inl hg) h
  ·rename_i g want hg
   split at h <;> try (cases h; done)
   rename_i hbit
   split at h <;> try (cases h; done)
   ·rename_i s b hs hval
    have hsame : ∀ j, valOf ((g, PV.bool b) :: vals) j = valOf vals j := fun j => by
     simp only [valOf]
     split
     ·rename_i e; rw [← e, hval]
     ·rfl
    cases b with
    | true =>
     simp only [cond_true] at h
     by_cases hbw : true = want
     ·rw [if_pos hbw] at h
      exact go _ hsame (Or.inr ⟨g, want, s, hg, hbit, hs, by rw [hval, hbw]⟩) h
     ·rw [if_neg hbw] at h
      exact over _ hsame g want s hg hbit hs (Or.inr ⟨true, hval, hbw⟩) h
    | false =>
     simp only [cond_false] at h
     by_cases hbw : false = want
     ·rw [if_pos hbw] at h
      exact go _ hsame (Or.inr ⟨g, want, s, hg, hbit, hs, by rw [hval, hbw]⟩) h
     ·rw [if_neg hbw] at h
      exact over _ hsame g want s hg hbit hs (Or.inr ⟨false, hval, hbw⟩) h
   ·rename_i s hs hval
    exact over vals (fun _ => rfl) g want s hg hbit hs (Or.inl hval) h
end Go.Rv
set_option linter.unusedVariables false
set_option linter.unusedSimpArgs false
namespace Go.Rv
open Go.RowKit
variable {Dr : Kn}
variable {R : Type} {P : Program} {tbl : Tbl} {env : Env} {ob : List Ob} {o : Oper} {K : PV → List Ob → Option R} {r : R}
def stD (ob0 : List Ob) (objs : List (Nat × List Ob)) (hist : List DRec) (E : Nat → Bool) : List Ob := verD E hist (ob0 ++ maskF E objs)
theorem stD_len (ob0 : List Ob) (objs : List (Nat × List Ob)) (hist : List DRec) (E : Nat → Bool) : (stD ob0 objs hist E).length = ob0.length + total objs := by
 unfold stD; rw [verD_len]; simp [maskF_len]
structure DInv (X : Cx Dr) (N : Nat) (ops : List Oper) (vals : List (Nat × PV)) (objs : List (Nat × List Ob)) (hist : List DRec) (env0 : Env) (ob0 : List Ob) (E : Nat → Bool) (g : Gh) (a : Act) (w : World) : Prop where
 sim : Sim X g (stD ob0 objs hist E) w
 env : RepE N g (stD ob0 objs hist E).length X.I w (maskG vals (oldU env0) E ops 0 ++ env0) a
structure DPlan (Dr : Kn) (P : Program) (N : Nat) (ops : Array Oper) (tab : List Nat) (es : List (Nat × Oper)) (vals : List (Nat × PV)) (objs : List (Nat × List Ob)) (hist : List DRec) (env0 : Env) (ob0 : List Ob) : Prop where
 keys : objs.map (·.1) = es.map (·.1)
 keysH : hist.map (·.1) = es.map (·.1)
 sorted : es.Pairwise (fun p q => p.1 < q.1)
 bits : ∀ k j, (tab.getD k 0).testBit j = true → j < k
 at_ : ∀ p ∈ es, ops[p.1]? = some p.2
 nodup : noDup (dstList ops.toList) = true
 all : ∀ p ∈ es, DPOp Dr P N ops.toList tab env0 ob0 vals objs hist p.1 p.2
theorem uniq_key {β : Type} : ∀ (L : List (Nat × β)), (L.map (·.1)).Pairwise (· < ·) → ∀ d x y, (d, x) ∈ L → (d, y) ∈ L → x = y := by
 intro L
 induction L with
 | nil => intro _ d x y hx; simp at hx
 | cons p L ih =>
  intro hpw d x y hx hy
  have hpw2 := List.pairwise_cons.1 hpw
  rcases List.mem_cons.1 hx with hx | hx <;> rcases List.mem_cons.1 hy with hy | hy
  ·rw [← hx] at hy; cases hy; rfl
  ·have := hpw2.1 d (List.mem_map.2 ⟨_, hy, rfl⟩)
   rw [← hx] at this; simp at this
  ·have := hpw2.1 d (List.mem_map.2 ⟨_, hx, rfl⟩)
   rw [← hy] at this; simp at this
  ·exact ih hpw2.2 d x y hx hy
theorem owner {f : Nat → Bool} {d : Nat} (hd : f d = true) : ∀ (L : List (Nat × List Ob)) (i : Nat) (Y : Ob), (maskF f L)[i]? = some Y → tagOf L i = some d → ∃ os', (d, os') ∈ L ∧ Y ∈ os' := by
 intro L
 induction L with
 | nil => intro i Y h; simp [maskF] at h
 | cons p L ih =>
  obtain ⟨kp, op⟩ := p
  intro i Y h ht
  simp only [maskF] at h
  simp only [tagOf] at ht
  have hl : (if f kp = true then op else deadL op).length = op.length := by split <;> simp [dead_len]
  split at ht
  ·rename_i hi
   have := Option.some.inj ht
   subst this
   rw [List.getElem?_append_left (by omega), if_pos hd] at h
   exact ⟨op, by simp, List.mem_of_getElem? h⟩
  ·rename_i hi
   rw [List.getElem?_append_right (by omega), hl] at h
   obtain ⟨os', h1, h2⟩ := ih _ _ h ht
   exact ⟨os', List.mem_cons_of_mem _ h1, h2⟩
theorem mid_same (a os b : List Ob) (j : Nat) (h : ¬ (a.length ≤ j ∧ j < a.length + os.length)) : (a ++ os ++ b)[j]? = (a ++ deadL os ++ b)[j]? := by
 rw [List.append_assoc, List.append_assoc]
 by_cases h1 : j < a.length
 ·rw [List.getElem?_append_left h1, List.getElem?_append_left h1]
 ·rw [List.getElem?_append_right (by omega), List.getElem?_append_right (l₁ := a) (by omega), List.getElem?_append_right (l₁ := os) (by omega), List.getElem?_append_right (l₁ := deadL os) (by rw [dead_len]; omega), dead_len]
set_option maxHeartbeats 1000000 in
theorem dplan_step {X : Cx Dr} {N : Nat} {ops : Array Oper} {tab : List Nat} {es : List (Nat × Oper)} {vals : List (Nat × PV)} {objs : List (Nat × List Ob)} {hist : List DRec} {env0 : Env} {ob0 : List Ob} (hb : Base ob0 env0 X) (hp : DPlan Dr P N ops tab es vals objs hist env0 ob0)
  {k : Nat} (hk : (k, o) ∈ es) {E : Nat → Bool} (hE : E k = false) (hcl : ∀ d, (tab.getD k 0).testBit d = true → E d = true) (hclE : ∀ j, E j = true → ∀ d, (tab.getD j 0).testBit d = true → E d = true) (hEs : ∀ j, E j = true → ∃ q ∈ es, q.1 = j) {g : Gh} {a : Act} {w : World} (hi : DInv X N ops.toList vals objs hist env0 ob0 E g a w) {Q : Exit → Act → World → Prop} :
  wpOp P ops Q k (fun a' w' => ∃ g', DInv X N ops.toList vals objs hist env0 ob0 (fun j => E j || j == k) g' a' w') a w := by
 obtain ⟨hdst, hidv, A, os, B, H1, need, mods, H2, hobj, hhist, hids, hidm, hmn, hneed, hc2, hcase⟩ := hp.all _ hk
 simp only at hdst hidv hobj hhist hids hidm hmn hneed hc2 hcase
 have hopk := hp.at_ _ hk
 simp only at hopk
 have hkeys : (objs.map (·.1)).Pairwise (· < ·) := by
  rw [hp.keys]
  exact List.pairwise_map.2 hp.sorted
 have hkeysH : (hist.map (·.1)).Pairwise (· < ·) := by
  rw [hp.keysH]
  exact List.pairwise_map.2 hp.sorted
 have hsrt : (A.map (·.1) ++ k :: B.map (·.1)).Pairwise (· < ·) := by rw [hobj] at hkeys; simpa using hkeys
 have hs1 := List.pairwise_append.1 hsrt
 have hAk : ∀ q ∈ A.map (·.1), q < k := fun q hq => hs1.2.2 q hq k (by simp)
 have hBk : ∀ q ∈ B, k < q.1 := fun q hq => (List.pairwise_cons.1 hs1.2.1).1 q.1 (List.mem_map.2 ⟨q, hq, rfl⟩)
 have hA : k ∉ A.map (·.1) := fun hm => by have := hAk k hm; omega
 have hB : k ∉ B.map (·.1) := fun hm => by
  obtain ⟨q, hq, e⟩ := List.mem_map.1 hm
  have := hBk q hq
  omega
 obtain ⟨hm1, hm2⟩ := mask_step (os := os) hA hB hE
 have htA : (maskF E A).length = total A := maskF_len E A
 have hsrtH : (H1.map (·.1) ++ k :: H2.map (·.1)).Pairwise (· < ·) := by rw [hhist] at hkeysH; simpa using hkeysH
 have hsH := List.pairwise_append.1 hsrtH
 have hH1 : ∀ h ∈ H1, h.1 < k := fun h hh => hsH.2.2 h.1 (List.mem_map.2 ⟨h, hh, rfl⟩) k (by simp)
 have hH2 : ∀ h ∈ H2, k < h.1 := fun h hh => (List.pairwise_cons.1 hsH.2.1).1 h.1 (List.mem_map.2 ⟨h, hh, rfl⟩)
 have hrec : (k, need, mods) ∈ hist := by rw [hhist]; simp
 have recOf : ∀ h ∈ hist, ∃ q ∈ es, q.1 = h.1 := fun h hh => by
  have : h.1 ∈ es.map (·.1) := by rw [← hp.keysH]; exact List.mem_map.2 ⟨h, hh, rfl⟩
  obtain ⟨q, hq, e⟩ := List.mem_map.1 this
  exact ⟨q, hq, e⟩
 have rec1 : ∀ h ∈ hist, ∀ i, modAt h.2.2 i ≠ none → (i < ob0.length ∨ ∃ d, tagOf objs (i - ob0.length) = some d ∧ (tab.getD h.1 0).testBit d = true) ∧ (∀ x ∈ hist, x.1 < h.1 → i ∈ x.2.1 → (tab.getD h.1 0).testBit x.1 = true) ∧ (∀ cells, modAt h.2.2 i = some (.box cells) → ∀ z ∈ idsPVs cells, okId tab ob0.length objs h.1 z) := fun h hh i hm => by
  obtain ⟨q, hq, e⟩ := recOf h hh
  obtain ⟨_, _, A2, os2, B2, G1, need2, mods2, G2, _, hhist2, _, hidm2, hmn2, hneed2, hc22, _⟩ := hp.all q hq
  rw [e] at hhist2 hidm2 hneed2 hc22
  have hmem : (h.1, need2, mods2) ∈ hist := by rw [hhist2]; simp
  have hu : h.2 = (need2, mods2) := uniq_key hist hkeysH h.1 h.2 (need2, mods2) hh hmem
  have hu2 : h.2.2 = mods2 := by rw [hu]
  rw [hu2] at hm
  refine ⟨(hneed2 i (hmn2 i hm)).2.1, fun x hx hlt hxi => ?_, fun cells hcells => ?_⟩
  ·refine hc22 i hm x ?_ hxi
   rw [hhist2] at hx hkeysH
   have hsG : (G1.map (·.1) ++ h.1 :: G2.map (·.1)).Pairwise (· < ·) := by simpa using hkeysH
   have hsG2 := List.pairwise_append.1 hsG
   rcases List.mem_append.1 hx with hx | hx
   ·exact hx
   ·rcases List.mem_cons.1 hx with hx | hx
    ·rw [hx] at hlt; simp at hlt
    ·have := (List.pairwise_cons.1 hsG2.2.1).1 x.1 (List.mem_map.2 ⟨x, hx, rfl⟩)
     omega
  ·rw [hu2] at hcells
   exact hidm2 i cells hcells
 have lookE : ∀ (u : Nat → Nat → PV) (f : Nat → Bool) (j : Nat) (oj : Oper) (s : Nat), ops[j]? = some oj → oj.dst = some s → look (maskG vals u f ops.toList 0 ++ env0) s = if f j = true then valOf vals j else u j s := fun u f j oj s hj hd => by
  have := look_at (vals := vals) (u := u) (f := f) (env0 := env0) ops.toList 0 j oj hp.nodup (by simpa using hj) hd
  simpa using this
 have lookN : ∀ (u : Nat → Nat → PV) (f : Nat → Bool) (s : Nat), (∀ (j : Nat) (oj : Oper), ops[j]? = some oj → oj.dst ≠ some s) → look (maskG vals u f ops.toList 0 ++ env0) s = look env0 s := fun u f s h =>
  look_none ops.toList 0 fun j oj hj => h j oj (by simpa using hj)
 have range : ∀ i, ob0.length + total A ≤ i → i < ob0.length + total A + os.length → tagOf objs (i - ob0.length) = some k := fun i h1 h2 => by
  have := tag_mid A B k os (i - ob0.length - total A) (by omega)
  rw [show total A + (i - ob0.length - total A) = i - ob0.length by omega] at this
  rw [hobj]; exact this
 have notIn : ∀ j, E j = true → ∀ i, okId tab ob0.length objs j i → ¬ (ob0.length + total A ≤ i ∧ i < ob0.length + total A + os.length) := fun j hj i hok hr => by
  rcases hok with h | ⟨d, h1, h2⟩
  ·omega
  ·rw [range i hr.1 hr.2] at h1
   have := Option.some.inj h1
   subst this
   rcases h2 with h2 | h2
   ·rw [hclE j hj k h2] at hE; cases hE
   ·rw [h2, hj] at hE; cases hE
 have early : ∀ j, j < k → ∀ i, okId tab ob0.length objs j i → i < ob0.length + total A := fun j hj i hok => by
  rcases hok with h | ⟨d, h1, h2⟩
  ·omega
  ·have hd : d < k := by
    rcases h2 with h2 | h2
    ·have := hp.bits j d h2; omega
    ·omega
   rw [hobj] at h1
   have := tag_lt A os B _ d hBk h1 hd
   omega
 have popOf : ∀ j, E j = true → ∀ i ∈ idsPV (valOf vals j), okId tab ob0.length objs j i := fun j hEj i hii => by
  obtain ⟨q, hq, e⟩ := hEs j hEj
  have := (hp.all q hq).idv i (by rw [e]; exact hii)
  rw [e] at this
  exact this
 have main : ∀ (v : Value) (w' : World) (g' : Gh), Sim X g' (stD ob0 objs hist fun j => E j || j == k) w' → (∀ z u, (∀ i ∈ idsPV z, ¬ (ob0.length + total A ≤ i ∧ i < ob0.length + total A + os.length)) → RepV g (stD ob0 objs hist E).length X.I w z u → RepV g' (stD ob0 objs hist fun j => E j || j == k).length X.I w' z u) →
   RepV g' (stD ob0 objs hist fun j => E j || j == k).length X.I w' (valOf vals k) v → ∃ g', DInv X N ops.toList vals objs hist env0 ob0 (fun j => E j || j == k) g' (a.put o.dst v) w' := by
  intro v w' g' s' hold hv
  refine ⟨g', s', ?_, ?_, fun s => ?_⟩
  ·have := hi.env.1
   cases hd : o.dst <;> simp [Act.put, this]
  ·have := hi.env.2.1
   cases hd : o.dst <;> simp [Act.put, this]
  ·have ht : ∀ (h : o.dst ≠ some s), (a.put o.dst v).tmps.getD s undef = a.tmps.getD s undef := fun h => by
    cases hd : o.dst with
    | none => rfl
    | some d =>
     have hne : d ≠ s := fun e => h (by rw [hd, e])
     simp [Act.put, Array.getD_eq_getD_getElem?, Array.getElem?_setIfInBounds, hne]
   have hslot := hi.env.2.2 s
   by_cases hex : ∃ (j : Nat) (oj : Oper), ops[j]? = some oj ∧ oj.dst = some s
   ·obtain ⟨j, oj, hj, hjd⟩ := hex
    rw [lookE _ _ j oj s hj hjd]
    by_cases hjk : j = k
    ·subst hjk
     rw [hopk] at hj
     obtain rfl := Option.some.inj hj
     have hsN : s < N := by rw [hjd] at hdst; simpa [okDst] using hdst
     have : (a.put o.dst v).tmps.getD s undef = v := by
      rw [hjd]
      simp [Act.put, Array.getD_eq_getD_getElem?, hi.env.1, hsN]
     rw [this]
     simpa using hv
    ·have hne : o.dst ≠ some s := fun e => hjk (dst_one ops.toList j k oj o hp.nodup (by simpa using hj) (by simpa using hopk) hjd e)
     rw [ht hne]
     rw [lookE _ E j oj s hj hjd] at hslot
     by_cases hEj : E j = true
     ·have e1 : (E j || j == k) = true := by simp [hEj]
      rw [if_pos e1]
      rw [if_pos hEj] at hslot
      exact hold _ _ (fun i hii => notIn j hEj i (popOf j hEj i hii)) hslot
     ·have e1 : ¬ (E j || j == k) = true := by simp [hEj, hjk]
      rw [if_neg e1]
      rw [if_neg hEj] at hslot
      exact hold _ _ (fun i hii hr => by have := hb.env s i hii; omega) hslot
   ·have hnone : ∀ (j : Nat) (oj : Oper), ops[j]? = some oj → oj.dst ≠ some s := fun j oj hj e => hex ⟨j, oj, hj, e⟩
    rw [lookN _ _ s hnone]
    rw [lookN _ E s hnone] at hslot
    rw [ht (hnone k o hopk)]
    exact hold _ _ (fun i hii hr => by have := hb.env s i hii; omega) hslot
 have hwp : ∀ (K' : Act → World → Prop), (Region.wanted o (yielded ops a.tmps) = true → mkr P o a w fun v w' => K' (a.put o.dst v) w') → (Region.wanted o (yielded ops a.tmps) = false → K' (a.put o.dst undef) w) → wpOp P ops Q k K' a w := fun K' h1 h2 => by
  unfold wpOp
  rw [hopk]
  simp only
  by_cases hw : Region.wanted o (yielded ops a.tmps) = true
  ·rw [if_pos hw]
   exact Or.inl (mkr_wp (h1 hw))
  ·rw [if_neg hw]
   exact h2 (by simpa using hw)
 have guardE : ∀ gd s, (tab.getD k 0).testBit gd = true → (ops.toList[gd]?).bind (·.dst) = some s → look (maskG vals (oldU env0) E ops.toList 0 ++ env0) s = valOf vals gd ∧ gslot ops gd = some s := fun gd s hbit hs => by
  have hs' : (ops[gd]?).bind (·.dst) = some s := by simpa using hs
  obtain ⟨og, ho1, ho2⟩ := Option.bind_eq_some_iff.1 hs'
  refine ⟨?_, hs'⟩
  rw [lookE _ E gd og s ho1 ho2, if_pos (hcl gd hbit)]
 have notLate : ∀ i ∈ need, ∀ h ∈ H2, modAt h.2.2 i ≠ none → E h.1 = false := fun i hin h hh hm => by
  cases hEh : E h.1 with
  | false => rfl
  | true =>
   have hhm : h ∈ hist := by rw [hhist]; simp [hh]
   have := (rec1 h hhm i hm).2.1 (k, need, mods) hrec (hH2 h hh) hin
   have := hclE h.1 hEh k this
   rw [hE] at this
   cases this
 have lastE : ∀ i ∈ need, lastD E hist i = lastD (fun j => (tab.getD k 0).testBit j) H1 i := fun i hin => by
  rw [hhist, lastD_app, lastD_none ((k, need, mods) :: H2) i fun h hh hm => ?_]
  ·exact lastD_congr H1 i fun h hh hm => by
    have := (hneed i hin).2.2 h hh hm
    rw [this]
    exact hcl h.1 this
  ·rcases List.mem_cons.1 hh with rfl | hh
   ·exact hE
   ·exact notLate i hin h hh hm
 have hlen' : ∀ f, (stD ob0 objs hist f).length = ob0.length + total A + os.length + total B := fun f => by
  rw [stD_len, hobj, total_app]; simp only [total]; omega
 have baseE : ob0 ++ maskF E objs = ob0 ++ (maskF E A ++ deadL os ++ maskF E B) := by rw [hobj, hm1]
 have baseE' : ob0 ++ maskF (fun j => E j || j == k) objs = ob0 ++ (maskF E A ++ os ++ maskF E B) := by rw [hobj, hm2]
 have baseSame : ∀ i, ¬ (ob0.length + total A ≤ i ∧ i < ob0.length + total A + os.length) → (ob0 ++ (maskF E A ++ os ++ maskF E B))[i]? = (ob0 ++ (maskF E A ++ deadL os ++ maskF E B))[i]? := fun i hr => by
  by_cases h0 : i < ob0.length
  ·rw [List.getElem?_append_left h0, List.getElem?_append_left h0]
  ·rw [List.getElem?_append_right (by omega), List.getElem?_append_right (l₁ := ob0) (by omega)]
   exact mid_same (maskF E A) os (maskF E B) _ (by omega)
 have lastNo : ∀ i, modAt mods i = none → lastD (fun j => E j || j == k) hist i = lastD E hist i := fun i hm => lastD_congr hist i fun h hh hhm => by
  by_cases e : h.1 = k
  ·exfalso
   have : h.2 = (need, mods) := uniq_key hist hkeysH k h.2 (need, mods) (by rw [← e]; exact hh) hrec
   rw [this] at hhm
   exact hhm hm
  ·simp [e]
 rcases hcase with ⟨gd, want, s, hg, hbit, hs, hval, hvk, rfl, rfl⟩ | ⟨hguard, ob', hwx, hol, hos, hmd, hrest⟩
 ·-- stepped over
  obtain ⟨hl, hgs⟩ := guardE gd s hbit hs
  have hwant : Region.wanted o (yielded ops a.tmps) = false := by
   rcases hval with hval | ⟨b, hval, hne⟩
   ·exact guard_skip hi.env hg hgs (by rw [hl, hval])
   ·rw [guard_ok hi.env hg hgs (by rw [hl, hval])]
    simpa using hne
  refine hwp _ (fun h => by rw [hwant] at h; cases h) fun _ => ?_
  have hst : (stD ob0 objs hist fun j => E j || j == k) = stD ob0 objs hist E := by
   apply List.ext_getElem?
   intro i
   unfold stD
   rw [verD_get, verD_get, lastNo i rfl, baseE, baseE']
   rw [baseSame i (by simp)]
   cases lastD E hist i <;> simp [dead_len]
  refine main undef w g (by rw [hst]; exact hi.sim) (fun z u _ hz => by rw [hst]; exact hz) (by rw [hvk]; simp [RepV])
 ·have hwant : Region.wanted o (yielded ops a.tmps) = true := by
   rcases hguard with hg | ⟨gd, want, s, hg, hbit, hs, hval⟩
   ·simp [Region.wanted, hg]
   ·obtain ⟨hl, hgs⟩ := guardE gd s hbit hs
    rw [guard_ok hi.env hg hgs (by rw [hl, hval])]
    simp
  refine hwp _ (fun _ => ?_) fun h => by rw [hwant] at h; cases h
  generalize hpart : keepD need (verD (fun j => (tab.getD k 0).testBit j) H1 (ob0 ++ maskF (fun j => (tab.getD k 0).testBit j) A)) 0 = part at hwx hrest
  have hml : part.length = ob0.length + total A := by rw [← hpart, keepD_len, verD_len]; simp [maskF_len]
  have pget : ∀ (i : Nat) (Y : Ob), part[i]? = some Y → Y = .dead ∨ (i ∈ need ∧ (verD (fun j => (tab.getD k 0).testBit j) H1 (ob0 ++ maskF (fun j => (tab.getD k 0).testBit j) A))[i]? = some Y) := fun i Y h => by
   rw [← hpart, keepD_get, Nat.zero_add] at h
   obtain ⟨Z, hZ, hY⟩ := Option.map_eq_some_iff.1 h
   by_cases hc : need.contains i = true
   ·rw [if_pos hc] at hY
    subst hY
    exact Or.inr ⟨by simpa using hc, hZ⟩
   ·rw [if_neg hc] at hY
    exact Or.inl hY.symm
  have hsub : ∀ (i : Nat) (Y : Ob), part[i]? = some Y → Y = .dead ∨ (stD ob0 objs hist E)[i]? = some Y := fun i Y h => by
   rcases pget i Y h with h | ⟨hin, h⟩
   ·exact Or.inl h
   ·rw [verD_get] at h
    unfold stD
    rw [verD_get, lastE i hin]
    cases hl : lastD (fun j => (tab.getD k 0).testBit j) H1 i with
    | some Z =>
     rw [hl] at h
     simp only at h ⊢
     split at h <;> try (cases h; done)
     have hlt := (hneed i hin).1
     rw [if_pos (by rw [List.length_append, maskF_len, hobj, total_app]; omega)]
     exact Or.inr h
    | none =>
     rw [hl] at h
     simp only at h ⊢
     by_cases ho : i < ob0.length
     ·rw [List.getElem?_append_left ho] at h ⊢
      exact Or.inr h
     ·rw [List.getElem?_append_right (by omega)] at h ⊢
      have hlt : i - ob0.length < total A := by
       have := (List.getElem?_eq_some_iff.1 h).1
       rwa [maskF_len] at this
      rcases mask_sub (f' := E) (fun j hj => hcl j hj) A _ Y h with h1 | h1
      ·exact Or.inl h1
      ·right
       rw [hobj, maskF_app, List.getElem?_append_left (by rw [maskF_len]; exact hlt)]
       exact h1
  have ownOk : ∀ (f : Nat → Bool) (L : List (Nat × List Ob)) (C2 : List (Nat × List Ob)), objs = L ++ C2 → ∀ (i d : Nat) (cells : List PV), (maskF f L)[i]? = some (.box cells) → tagOf L i = some d → f d = true → ∀ z ∈ idsPVs cells, okId tab ob0.length objs d z := fun f L C2 hL i d cells h ht hd z hz => by
   have hmem := tag_mem _ _ _ ht
   have hde : d ∈ es.map (·.1) := by rw [← hp.keys, hL]; simp at hmem ⊢; exact Or.inl hmem
   obtain ⟨q, hq, e⟩ := List.mem_map.1 hde
   obtain ⟨_, _, A2, os2, B2, _, _, _, _, hobj2, _, hids2, _⟩ := hp.all q hq
   rw [e] at hobj2 hids2
   obtain ⟨os', h1, h2⟩ := owner hd L i _ h ht
   have m1 : (d, os') ∈ objs := by rw [hL]; simp [h1]
   have m2 : (d, os2) ∈ objs := by rw [hobj2]; simp
   rw [uniq_key objs hkeys d os' os2 m1 m2] at h2
   exact hids2 cells h2 z hz
  have hbox : ∀ (o : Nat) (cells : List PV), part[o]? = some (.box cells) → ∀ i ∈ idsPVs cells, i < part.length := fun o cells h i hii => by
   rw [hml]
   rcases pget o _ h with h | ⟨hin, h⟩
   ·cases h
   ·rw [verD_get] at h
    cases hl : lastD (fun j => (tab.getD k 0).testBit j) H1 o with
    | some Z =>
     rw [hl] at h
     simp only at h
     split at h <;> try (cases h; done)
     have hZ := Option.some.inj h
     obtain ⟨x, hx, hx1, hx2⟩ := lastD_mem H1 o Z hl
     rw [hZ] at hx2
     have hxm : x ∈ hist := by rw [hhist]; simp [hx]
     exact early x.1 (hH1 x hx) i ((rec1 x hxm o (by rw [hx2]; simp)).2.2 cells hx2 i hii)
    | none =>
     rw [hl] at h
     simp only at h
     by_cases ho : o < ob0.length
     ·rw [List.getElem?_append_left ho] at h
      have := hb.ob o cells h i hii
      omega
     ·rw [List.getElem?_append_right (by omega)] at h
      obtain ⟨d, hd1, hd2⟩ := mask_live _ A _ _ h (by simp)
      exact early d (hp.bits k d hd2) i (ownOk _ A _ hobj _ d cells h hd1 hd2 i hii)
  have hsm : Sim X g part w := hi.sim.part (by rw [hml, hlen']; omega) (by rw [hml]; have := hb.n0; omega) hsub hbox
  have hem : RepE N g part.length X.I w (maskG vals (uOf tab env0 k) (fun j => (tab.getD k 0).testBit j) ops.toList 0 ++ env0) a := by
   refine ⟨hi.env.1, hi.env.2.1, fun s => ?_⟩
   have hslot := hi.env.2.2 s
   have move : ∀ z u, (∀ i ∈ idsPV z, i < ob0.length + total A) → RepV g (stD ob0 objs hist E).length X.I w z u → RepV g part.length X.I w z u := fun z u hz hr =>
    RepV.agree rfl hi.sim.jI (fun _ _ => rfl) z u (fun i hii _ => ⟨by rw [hml]; exact hz i hii, Agree.refl _ _⟩) hr
   by_cases hex : ∃ (j : Nat) (oj : Oper), ops[j]? = some oj ∧ oj.dst = some s
   ·obtain ⟨j, oj, hj, hjd⟩ := hex
    rw [lookE _ _ j oj s hj hjd]
    rw [lookE _ E j oj s hj hjd] at hslot
    by_cases hbj : (tab.getD k 0).testBit j = true
    ·rw [if_pos hbj]
     rw [if_pos (hcl j hbj)] at hslot
     exact move _ _ (fun i hii => early j (hp.bits k j hbj) i (popOf j (hcl j hbj) i hii)) hslot
    ·rw [if_neg hbj]
     simp only [uOf]
     by_cases hl : (tab.getD j 0).testBit k = true
     ·rw [if_pos hl]
      have hEj : ¬ E j = true := fun h => by
       have := hclE j h k hl
       rw [hE] at this
       cases this
      rw [if_neg hEj] at hslot
      exact move _ _ (fun i hii => by have := hb.env s i hii; omega) hslot
     ·rw [if_neg hl]
      simp [RepV]
   ·have hnone : ∀ (j : Nat) (oj : Oper), ops[j]? = some oj → oj.dst ≠ some s := fun j oj hj e => hex ⟨j, oj, hj, e⟩
    rw [lookN _ _ s hnone]
    rw [lookN _ E s hnone] at hslot
    exact move _ _ (fun i hii => by have := hb.env s i hii; omega) hslot
  refine mkr_mono ?_ (hwx X N g w a hsm hem)
  rintro v w' ⟨g', honly, hblk, s', k', r'⟩
  have hidE : ∀ (o : Nat) (cells : List PV), (stD ob0 objs hist E)[o]? = some (.box cells) → ∀ i ∈ idsPVs cells, ¬ (ob0.length + total A ≤ i ∧ i < ob0.length + total A + os.length) := fun o cells h i hii => by
   unfold stD at h
   rw [verD_get] at h
   cases hl : lastD E hist o with
   | some Z =>
    rw [hl] at h
    simp only at h
    split at h <;> try (cases h; done)
    have hZ := Option.some.inj h
    obtain ⟨x, hx, hx1, hx2⟩ := lastD_mem hist o Z hl
    rw [hZ] at hx2
    exact notIn x.1 hx1 i ((rec1 x hx o (by rw [hx2]; simp)).2.2 cells hx2 i hii)
   | none =>
    rw [hl] at h
    simp only at h
    by_cases ho : o < ob0.length
    ·rw [List.getElem?_append_left ho] at h
     have := hb.ob o cells h i hii
     omega
    ·rw [List.getElem?_append_right (by omega)] at h
     obtain ⟨d, hd1, hd2⟩ := mask_live _ objs _ _ h (by simp)
     exact notIn d hd2 i (ownOk E objs [] (by simp) _ d cells h hd1 hd2 i hii)
  have hnew : ∀ (o : Nat) (Y : Ob), (stD ob0 objs hist fun j => E j || j == k)[o]? = some Y → (o < ob0.length + total A + os.length ∧ ob'[o]? = some Y) ∨ (¬ (ob0.length + total A ≤ o ∧ o < ob0.length + total A + os.length) ∧ ¬ hasBlk g part o ∧ (stD ob0 objs hist E)[o]? = some Y) := fun o Y h => by
   by_cases hr : ob0.length + total A ≤ o ∧ o < ob0.length + total A + os.length
   ·left
    refine ⟨hr.2, ?_⟩
    unfold stD at h
    rw [verD_get, lastD_none hist o fun x hx hm => ?_, baseE'] at h
    ·simp only at h
     rw [List.getElem?_append_right (by omega), List.append_assoc, List.getElem?_append_right (by omega), List.getElem?_append_left (by omega)] at h
     have := hos (o - ob0.length - (maskF E A).length) (by omega)
     rw [show ob0.length + total A + (o - ob0.length - (maskF E A).length) = o by omega] at this
     rw [this]
     exact h
    ·cases hEx : (E x.1 || x.1 == k) with
     | false => rfl
     | true =>
      exfalso
      rcases (rec1 x hx o hm).1 with h0 | ⟨d, hd1, hd2⟩
      ·omega
      ·rw [range o hr.1 hr.2] at hd1
       have := Option.some.inj hd1
       subst this
       by_cases e : x.1 = k
       ·rw [e] at hd2; have := hp.bits k k hd2; omega
       ·have hEx1 : E x.1 = true := by simpa [e] using hEx
        have := hclE x.1 hEx1 k hd2
        rw [hE] at this
        cases this
   ·cases hmo : modAt mods o with
    | some Z =>
     have hin := hmn o (by rw [hmo]; simp)
     have hlt := (hneed o hin).1
     left
     refine ⟨by omega, ?_⟩
     have hlast : lastD (fun j => E j || j == k) hist o = some Z := by
      rw [hhist, lastD_app]
      have h2 : lastD (fun j => E j || j == k) H2 o = none := lastD_none H2 o fun x hx hm => by
       have hne : x.1 ≠ k := fun e => by have := hH2 x hx; omega
       have := notLate o hin x hx hm
       simp [this, hne]
      simp only [lastD, h2]
      simp [hmo]
     unfold stD at h
     rw [verD_get, hlast] at h
     simp only at h
     split at h <;> try (cases h; done)
     rw [← Option.some.inj h]
     exact hmd o Z hmo
    | none =>
     have hsame : (stD ob0 objs hist E)[o]? = some Y := by
      unfold stD at h ⊢
      rw [verD_get, lastNo o hmo, baseE'] at h
      rw [verD_get, baseE]
      rw [baseSame o hr] at h
      cases hl : lastD E hist o with
      | some Z => rw [hl] at h; simpa [dead_len] using h
      | none => rw [hl] at h; exact h
     by_cases hbk : hasBlk g part o
     ·left
      have hlt := hbk.lt
      have hp1 : part[o]? = some Y := by
       rcases hbk with ⟨cells, hbk⟩ | ⟨e, xs, hbk, _⟩
       ·rcases hsub o _ hbk with h3 | h3
        ·cases h3
        ·rw [hsame] at h3; rw [h3]; exact hbk
       ·rcases hsub o _ hbk with h3 | h3
        ·cases h3
        ·rw [hsame] at h3; rw [h3]; exact hbk
      exact ⟨by omega, hrest o Y hmo hp1⟩
     ·exact Or.inr ⟨hr, hbk, hsame⟩
  rw [hml] at k'
  obtain ⟨c1, c2, c3⟩ := combine2 (full := stD ob0 objs hist E) (full' := stD ob0 objs hist fun j => E j || j == k) (c := ob0.length + total A) (m := os.length) hi.sim hml hsub (by have := hb.n0; omega) (by rw [hlen']; omega) (by rw [hlen', hlen']) hol s' k' honly (Or.inl hblk) hnew hidE
  exact main v w' _ c1 c2 (c3 _ _ r')
end Go.Rv
set_option linter.unusedVariables false
set_option linter.unusedSimpArgs false
namespace Go.Rv
open Go.RowKit
variable {Dr : Kn}
variable {R : Type} {P : Program} {tbl : Tbl} {env : Env} {ob : List Ob} {o : Oper} {r : R}
theorem verD_congr {f f' : Nat → Bool} : ∀ (hist : List DRec) (l : List Ob), (∀ h ∈ hist, f h.1 = f' h.1) → verD f hist l = verD f' hist l
 | [], _, _ => rfl
 | h :: r, l, hh => by
  simp only [verD]
  rw [hh h (by simp), verD_congr r _ fun x hx => hh x (List.mem_cons_of_mem _ hx)]
theorem verD_none : ∀ (hist : List DRec) (l : List Ob), verD (fun _ => false) hist l = l
 | [], _ => rfl
 | h :: r, l => by simp only [verD, Bool.false_eq_true, if_false]; exact verD_none r l
theorem drawnD_ok (hm : P.follows .mixedOrders = true) (hT : ∀ g fs S, tbl g fs = some S → SumOK Dr P g S) {N : Nat} {ops : Array Oper} {X : Cx Dr} {K : Env → List Ob → Option R} {g : Gh} {w : World} {a : Act} {id : Nat} {Q : Exit → Act → World → Prop} (h : runDrawnD P tbl N ops env ob K = some r) (hs : Sim X g ob w) (he : RepE N g ob.length X.I w env a)
  (hQ : ∀ env' ob' g' w' a', K env' ob' = some r → Sim X g' ob' w' → RepE N g' ob'.length X.I w' env' a' → Q .normal a' w') : (Code.region id ops true).wp P Q a w := by
 unfold runDrawnD at h
 generalize htab : depTab ops.toList [] = tab at h
 generalize hes : withIdx ops.toList 0 = es at h
 split at h <;> try (cases h; done)
 rename_i hok
 simp only [Bool.and_eq_true, List.all_eq_true] at hok
 obtain ⟨hnd, hbk⟩ := hok
 have hback : Back ops.toList := fun k o hk e he2 hbb => by
  have := hbk (k, o) (by rw [← hes]; exact (withIdx_mem _ _ _).2 ⟨k, hk, by simp⟩)
  exact (Array.all_eq_true_iff_forall_mem.1 this e he2) |> fun h => by simpa [hbb] using h
 have hdep := depTab_ok ops.toList ops.toList [] (by simp) (fun k x hb => by simp at hb)
 rw [htab] at hdep
 have hreach : ∀ k x, (tab.getD k 0).testBit x = true → Reach ops.toList k x := fun k x hb => (hdep k x hb).1
 have hbits : ∀ k x, (tab.getD k 0).testBit x = true → x < k := fun k x hb => (hdep k x hb).2 hback
 have hsort : es.Pairwise (fun p q => p.1 < q.1) := by rw [← hes]; exact withIdx_sorted ops.toList 0
 have hat : ∀ p ∈ es, ops[p.1]? = some p.2 := fun p hp => by
  rw [← hes] at hp
  obtain ⟨j, h1, h2⟩ := (withIdx_mem _ _ _).1 hp
  have : p.1 = j := by omega
  rw [this]; simpa using h1
 have hpart : ∀ j, (hj : j < ops.size) → (j, ops[j]) ∈ es := fun j hj => by
  rw [← hes]; exact (withIdx_mem _ _ _).2 ⟨j, by simp [hj], by simp⟩
 obtain ⟨vals, objs, hist, hK, hkeys, hkeysH, _, hall⟩ := runD_ok hT es [] [] [] h hsort (fun p _ j hb => hbits p.1 j hb)
 simp only [List.nil_append] at hK hall
 refine wp_region_any hm ?_
 have hd : Below Dr w.heap.size w w.drew := (Below.refl _ _).drew
 obtain ⟨hs0, k0⟩ := hs.up hd
 have he0 := he.keep k0
 have hbase : Base ob env X := ⟨hs.nle, fun o cells ho => by
  obtain ⟨us, t, _, h2, _⟩ := hs.box o cells ho
  exact repvs_ids cells us h2, fun s => repv_ids _ _ (he.2.2 s)⟩
 have hplan : DPlan Dr P N ops tab es vals objs hist env ob := ⟨hkeys, hkeysH, hsort, hbits, hat, hnd, hall⟩
 have hall' : ∀ k, k < ops.size → (allBits es).testBit k = true := fun k hk => (bits_all es 0 k).2 (Or.inr (List.mem_map.2 ⟨_, hpart k hk, rfl⟩))
 have hinv0 : DInv X N ops.toList vals objs hist env ob (fun _ => false) g a w.drew := by
  obtain ⟨s1, k1⟩ := deads_ok (maskF (fun _ => false) objs) ob hs0 (mask_none objs)
  have e0 : stD ob objs hist (fun _ => false) = ob ++ maskF (fun _ => false) objs := verD_none hist _
  refine ⟨by rw [e0]; exact s1, ?_⟩
  rw [e0]
  refine ⟨(he0.keep k1).1, (he0.keep k1).2.1, fun s => ?_⟩
  by_cases hex : ∃ (j : Nat) (oj : Oper), ops.toList[j]? = some oj ∧ oj.dst = some s
  ·obtain ⟨j, oj, hj, hjd⟩ := hex
   rw [look_at ops.toList 0 j oj hnd hj hjd, if_neg (by simp)]
   exact (he0.keep k1).2.2 s
  ·rw [look_none ops.toList 0 fun j oj hj e => hex ⟨j, oj, hj, e⟩]
   exact (he0.keep k1).2.2 s
 have fin : ∀ (L : Array Bool) (a : Act) (w : World) (g : Gh), (∀ j, j < ops.size → L.getD j false = true) → DInv X N ops.toList vals objs hist env ob (fun j => L.getD j false) g a w → Q .normal a w := fun L a w g hL hi => by
  have kO : ∀ k ∈ objs.map (·.1), L.getD k false = (allBits es).testBit k := fun k hk => by
   rw [hkeys] at hk
   obtain ⟨q, hq, e⟩ := List.mem_map.1 hk
   have h1 := (Array.getElem?_eq_some_iff.1 (hat q hq)).1
   rw [hL k (by omega), hall' k (by omega)]
  have kH : ∀ x ∈ hist, L.getD x.1 false = (allBits es).testBit x.1 := fun x hx => by
   have : x.1 ∈ es.map (·.1) := by rw [← hkeysH]; exact List.mem_map.2 ⟨x, hx, rfl⟩
   obtain ⟨q, hq, e⟩ := List.mem_map.1 this
   have h1 := (Array.getElem?_eq_some_iff.1 (hat q hq)).1
   rw [hL x.1 (by omega), hall' x.1 (by omega)]
  have e1 : stD ob objs hist (fun j => L.getD j false) = verD (fun j => (allBits es).testBit j) hist (ob ++ maskO (allBits es) objs) := by
   unfold stD
   rw [maskO_eq, mask_congr (f := fun j => L.getD j false) (f' := fun j => (allBits es).testBit j) objs kO]
   exact verD_congr hist _ kH
  have cong : ∀ (l : List Oper) (i : Nat), i + l.length ≤ ops.size → maskG vals (oldU env) (fun k => (allBits es).testBit k) l i = maskG vals (oldU env) (fun j => L.getD j false) l i := by
   intro l
   induction l with
   | nil => intro i _; rfl
   | cons o l ih =>
    intro i hi
    simp only [List.length_cons] at hi
    have : (allBits es).testBit i = L.getD i false := by rw [hall' i (by omega), hL i (by omega)]
    simp only [maskG, this, ih (i + 1) (by omega)]
  have h1 := hi.sim
  have h2 := hi.env
  rw [e1] at h1 h2
  rw [← cong ops.toList 0 (by simp), ← maskE_eq] at h2
  exact hQ _ _ g w a hK h1 h2
 have key : ∀ (fuel : Nat) (L : Array Bool) (a : Act) (w : World) (g : Gh), L.size = ops.size → cnt L ops.size ≤ fuel → (Closed ops.toList fun j => L.getD j false) → DInv X N ops.toList vals objs hist env ob (fun j => L.getD j false) g a w → wpAny P .any ops Q fuel L a w := by
  intro fuel
  induction fuel with
  | zero =>
   intro L a w g hsz hcnt hcl hi
   have hnone : ∀ j, j < ops.size → L.getD j false = true := fun j hj => by
    cases hv : L.getD j false with
    | true => rfl
    | false => have := cnt_pos hj hv; omega
   have hready : Region.ready .any ops L = [] := by
    cases hr : Region.ready .any ops L with
    | nil => rfl
    | cons i rs =>
     have hi : i ∈ Region.ready .any ops L := by rw [hr]; simp
     obtain ⟨h0, o, ho, _⟩ := mem_ready.1 hi
     have hlt : i < ops.size := (Array.getElem?_eq_some_iff.1 ho).1
     have h1 := hnone i hlt
     rw [Array.getD_eq_getD_getElem?] at h0 h1
     have : i < L.size := by omega
     simp [this] at h0 h1
     rw [h0] at h1; cases h1
   exact ⟨hready, fin L a w g hnone hi⟩
  | succ fuel ih =>
   intro L a w g hsz hcnt hcl hi
   refine ⟨fun hr => ?_, fun i hir => ?_⟩
   ·refine fin L a w g (fun j hj => ?_) hi
    cases hv : L.getD j false with
    | true => rfl
    | false =>
     exfalso
     have least : ∀ n, (∃ j, j < n ∧ j < ops.size ∧ L.getD j false = false) → ∃ j, j < ops.size ∧ L.getD j false = false ∧ ∀ j', j' < j → L.getD j' false = true := by
      intro n
      induction n with
      | zero => rintro ⟨j, h, _⟩; omega
      | succ n ihn =>
       rintro ⟨j, h1, h2, h3⟩
       by_cases hex : ∃ j, j < n ∧ j < ops.size ∧ L.getD j false = false
       ·exact ihn hex
       ·refine ⟨j, h2, h3, fun j' hj' => ?_⟩
        cases hv : L.getD j' false with
        | true => rfl
        | false => exact absurd ⟨j', by omega, by omega, hv⟩ hex
     obtain ⟨j, hj, hjf, hjl⟩ := least ops.size ⟨j, hj, hj, hv⟩
     have hjT : L.getD j true = false := by
      rw [Array.getD_eq_getD_getElem?] at hjf ⊢
      have : j < L.size := by omega
      simp [this] at hjf ⊢
      exact hjf
     have : j ∈ Region.ready .any ops L := mem_ready.2 ⟨hjT, ops[j], by simp [hj], fun e hem hb => hjl e.on (hback j ops[j] (by simp [hj]) e hem hb)⟩
     rw [hr] at this
     simp at this
   ·obtain ⟨h0, oi, hoi, hei⟩ := mem_ready.1 hir
    have hilt : i < ops.size := (Array.getElem?_eq_some_iff.1 hoi).1
    have hiun : L.getD i false = false := by
     rw [Array.getD_eq_getD_getElem?] at h0 ⊢
     have : i < L.size := by omega
     simp [this] at h0 ⊢
     exact h0
    have hseen : ∀ d, (tab.getD i 0).testBit d = true → L.getD d false = true := fun d hd => hreach i d hd (fun j => L.getD j false) hcl fun o2 ho2 e he2 hb2 => by
     have : ops[i]? = some o2 := by simpa using ho2
     rw [hoi] at this
     obtain rfl := Option.some.inj this
     exact hei e he2 hb2
    have hies : (i, oi) ∈ es := by
     have h1 := hpart i hilt
     have h2 : ops[i] = oi := by
      have := Array.getElem?_eq_getElem hilt
      rw [hoi] at this
      exact (Option.some.inj this).symm
     rw [h2] at h1
     exact h1
    have hclE : ∀ j, L.getD j false = true → ∀ d, (tab.getD j 0).testBit d = true → L.getD d false = true := fun j hj d hd => by
     have hjlt : j < ops.size := by
      apply Classical.byContradiction
      intro hn
      rw [Array.getD_eq_getD_getElem?, Array.getElem?_eq_none (by omega)] at hj
      cases hj
     exact hreach j d hd (fun j => L.getD j false) hcl fun o2 ho2 e he2 hb2 => hcl j o2 ho2 hj e he2 hb2
    have hEs : ∀ j, L.getD j false = true → ∃ q ∈ es, q.1 = j := fun j hj => by
     have hjlt : j < ops.size := by
      apply Classical.byContradiction
      intro hn
      rw [Array.getD_eq_getD_getElem?, Array.getElem?_eq_none (by omega)] at hj
      cases hj
     exact ⟨_, hpart j hjlt, rfl⟩
    refine wpOp_mono ?_ (dplan_step hbase hplan hies (E := fun j => L.getD j false) hiun hseen hclE hEs hi)
    rintro a' w' ⟨g', hi'⟩
    have heq : (fun j => L.getD j false || j == i) = fun j => (L.setIfInBounds i true).getD j false := by
     funext j
     rw [getD_set (by omega)]
    rw [heq] at hi'
    refine ih _ a' w' g' (by simpa using hsz) ?_ (closed_set hsz hilt hoi hcl hei) hi'
    have := cnt_set hsz hilt hiun
    omega
 refine key ops.size (Array.replicate ops.size false) a w.drew g (by simp) ?_ ?_ ?_
 ·unfold cnt
  exact Nat.le_trans (List.length_filter_le _ _) (by simp)
 ·intro j o hj hL
  simp [Array.getD_eq_getD_getElem?, Array.getElem?_replicate] at hL
  split at hL <;> simp at hL
 ·have : (fun j => (Array.replicate ops.size false).getD j false) = fun _ => false := by
   funext j
   simp [Array.getD_eq_getD_getElem?, Array.getElem?_replicate]
   split <;> rfl
  rw [this]
  exact hinv0
end Go.Rv
set_option linter.unusedVariables false
set_option linter.unusedSimpArgs false
namespace Go.Rv
open Go.RowKit
variable {Dr : Kn}
variable {P : Program} {tbl : Tbl}
def toExit : Ex → Exit
 | .normal => .normal
 | .exit i => .exit i
 | .ret => .ret
theorem runCode_ok {R : Type} {r : R} (hm : P.follows .mixedOrders = true) (hT : ∀ g fs S, tbl g fs = some S → SumOK Dr P g S) {N n0 : Nat} {cfg : Nat → List Nat × List Nat} {k : Nat} {X : Cx Dr} (hn0 : X.n0 = n0) :
  ∀ (c : Code) (env : Env) (ob : List Ob) (K : Kont R) (g : Gh) (w : World) (a : Act) (Q : Exit → Act → World → Prop), runCode P tbl N n0 cfg k c env ob K = some r → Sim X g ob w → RepE N g ob.length X.I w env a →
   (∀ e env' ob' g' w' a', K e env' ob' = some r → Sim X g' ob' w' → RepE N g' ob'.length X.I w' env' a' → Q (toExit e) a' w') → c.wp P Q a w := by
 intro c
 induction c with
 | skip =>
  intro env ob K g w a Q h hs he hQ
  simp only [runCode] at h
  exact wp_skip (hQ .normal _ _ _ _ _ h hs he)
 | region id ops draw =>
  intro env ob K g w a Q h hs he hQ
  simp only [runCode] at h
  cases draw with
  | false =>
   simp only [Bool.false_eq_true, if_false] at h
   exact wp_region_list (runOps_list hT _ env ob g w a h hs he fun env' ob' g' w' a' h' hs' he' => hQ .normal _ _ _ _ _ h' hs' he')
  | true =>
   simp only [if_true] at h
   unfold runDrawn2 at h
   split at h
   ·exact drawn_ok hm hT h hs he fun env' ob' g' w' a' h' hs' he' => hQ .normal _ _ _ _ _ h' hs' he'
   ·exact drawnD_ok hm hT h hs he fun env' ob' g' w' a' h' hs' he' => hQ .normal _ _ _ _ _ h' hs' he'
 | seq x y ihx ihy =>
  intro env ob K g w a Q h hs he hQ
  simp only [runCode] at h
  refine wp_seq (ihx env ob _ g w a _ h hs he fun e env' ob' g' w' a' h' hs' he' => ?_)
  cases e with
  | normal => exact ihy env' ob' K g' w' a' Q h' hs' he' hQ
  | exit i => exact hQ _ _ _ _ _ _ h' hs' he'
  | ret => exact hQ _ _ _ _ _ _ h' hs' he'
 | cond c x y ihx ihy =>
  intro env ob K g w a Q h hs he hQ
  cases c with
  | tmp s =>
   simp only [runCode] at h
   split at h <;> try (simp at h; done)
   ·rename_i t hl
    have h1 := he.ev (.tmp s)
    simp only [Rv.ev] at h1
    rw [hl] at h1
    simp only [RepV] at h1
    have he1 := he.lit hl
    cases t with
    | true => exact wp_cond_true h1 (ihx _ ob K g w a Q (by simpa using h) hs he1 hQ)
    | false => exact wp_cond_false h1 (ihy _ ob K g w a Q (by simpa using h) hs he1 hQ)
   ·rename_i hl
    have h1 := he.ev (.tmp s)
    simp only [Rv.ev] at h1
    rw [hl] at h1
    simp only [RepV] at h1
    obtain ⟨b, h1⟩ := h1
    have he1 : RepE N g ob.length X.I w ((s, .bool b) :: env) a := by
     refine ⟨he.1, he.2.1, fun s' => ?_⟩
     simp only [look]
     by_cases e : s = s'
     ·subst e; rw [if_pos rfl]; exact h1
     ·rw [if_neg e]; exact he.2.2 s'
    by_cases hab : runCode P tbl N n0 cfg k x ((s, .bool true) :: env) ob K = runCode P tbl N n0 cfg k y ((s, .bool false) :: env) ob K
    ·rw [if_pos hab] at h
     cases b with
     | true => exact wp_cond_true h1 (ihx _ ob K g w a Q (hab.trans h) hs he1 hQ)
     | false => exact wp_cond_false h1 (ihy _ ob K g w a Q h hs he1 hQ)
    ·rw [if_neg hab] at h; simp at h
  | _ => simp [runCode] at h
 | block id c ih =>
  intro env ob K g w a Q h hs he hQ
  simp only [runCode] at h
  refine wp_block (ih env ob _ g w a _ h hs he fun e env' ob' g' w' a' h' hs' he' => ?_)
  cases e with
  | normal => exact hQ .normal _ _ _ _ _ h' hs' he'
  | exit i =>
   simp only [blockK] at h'
   simp only [toExit, Exit.inBlock]
   split at h'
   ·rename_i hi
    rw [if_pos hi]
    exact hQ .normal _ _ _ _ _ h' hs' he'
   ·rename_i hi
    rw [if_neg hi]
    exact hQ (.exit i) _ _ _ _ _ h' hs' he'
  | ret => exact hQ .ret _ _ _ _ _ h' hs' he'
 | loop c ih =>
  intro env ob K g w a Q h hs he hQ
  simp only [runCode] at h
  obtain ⟨env1, ob1, h1, hc1⟩ := clean_ok h
  obtain ⟨g1, s1, e1⟩ := hc1 X N g w a hn0 hs he
  refine wp_loop_ghost (fun n a w => ∃ env ob g, iter n0 (cfg (loopKey c)).1 (cfg (loopKey c)).2 (fun env ob K => runCode P tbl N n0 cfg k c env ob K) n env ob K = some r ∧ Sim X g ob w ∧ RepE N g ob.length X.I w env a) k ⟨env1, ob1, g1, h1, s1, e1⟩ ?_
  rintro n a w ⟨env, ob, g, h, hs, he⟩
  cases n with
  | zero => simp [iter] at h
  | succ n =>
   simp only [iter] at h
   refine ih env ob _ g w a _ h hs he fun e env' ob' g' w' a' h' hs' he' => ?_
   cases e with
   | normal =>
    simp only [loopK] at h'
    obtain ⟨env2, ob2, h2, hc2⟩ := clean_ok h'
    obtain ⟨g2, s2, e2⟩ := hc2 X N g' w' a' hn0 hs' he'
    exact ⟨n, Nat.lt_succ_self _, env2, ob2, g2, h2, s2, e2⟩
   | exit i =>
    simp only [loopK] at h'
    obtain ⟨env2, ob2, h2, hc2⟩ := clean_ok h'
    obtain ⟨g2, s2, e2⟩ := hc2 X N g' w' a' hn0 hs' he'
    exact hQ (.exit i) _ _ _ _ _ h2 s2 e2
   | ret =>
    simp only [loopK] at h'
    obtain ⟨env2, ob2, h2, hc2⟩ := clean_ok h'
    obtain ⟨g2, s2, e2⟩ := hc2 X N g' w' a' hn0 hs' he'
    exact hQ .ret _ _ _ _ _ h2 s2 e2
 | exit id =>
  intro env ob K g w a Q h hs he hQ
  simp only [runCode] at h
  exact wp_exit (hQ (.exit id) _ _ _ _ _ h hs he)
 | ret =>
  intro env ob K g w a Q h hs he hQ
  simp only [runCode] at h
  exact wp_ret (hQ .ret _ _ _ _ _ h hs he)
 | _ => intro env ob K g w a Q h; simp [runCode] at h
theorem pvs_ok {g : Gh} {n : Nat} {I : Nat → Prop} {w : World} : ∀ (cs : List CT) (x : CTs.V cs) (us : List Value), CellsRep I g.J w cs x us → RepVs g n I w (pvsT cs x) us
 | [], x, us, h => by simpa [pvsT, RepVs, CellsRep] using h
 | c :: cs, x, us, h => by
  simp only [CellsRep] at h
  obtain ⟨u, t, rfl, h1, h2⟩ := h
  simp only [pvsT, RepVs]
  exact ⟨u, t, rfl, rep_pvT h1, pvs_ok cs x.2 t h2⟩
theorem grp_rep {g : Gh} {n : Nat} {I : Nat → Prop} {w : World} {agg : Bool} {ps : List PV} {us : List Value} {v : Value} (h : RepVs g n I w ps us) (hg : Grp agg us v) : RepV g n I w (grp agg ps) v := by
 cases agg with
 | true =>
  have hv : v = .agg us.toArray := hg
  simp only [grp, RepV]
  exact ⟨us, hv, h⟩
 | false =>
  have hv : us = [v] := hg
  subst hv
  cases ps with
  | nil => simp [RepVs] at h
  | cons p ps =>
   simp only [RepVs] at h
   obtain ⟨u, t, h1, h2, h3⟩ := h
   simp only [List.cons.injEq] at h1
   simp only [grp, List.headD_cons]
   rw [h1.1]
   exact h2
theorem caps_rep {g : Gh} {n : Nat} {I : Nat → Prop} {w : World} : ∀ (caps : List (List CT)) (x : CTs.V (catL caps)) (us : List Value), CapsRep I w caps x us → RepVs g n I w (capPVs caps x) us
 | [], x, us, h => by simpa [capPVs, RepVs, CapsRep] using h
 | cs :: r, x, us, h => by
  simp only [CapsRep] at h
  obtain ⟨ad, t, rfl, h1, h2, h3⟩ := h
  simp only [capPVs, RepVs, RepV]
  exact ⟨_, t, rfl, ⟨ad, by simp [Addr.add], h1, h2⟩, caps_rep r _ t h3⟩
def Gh.atB (g : Gh) (n b : Nat) (pre post : List Value) : Gh :=
 ⟨fun o => if o = n then b else g.A o, g.H, fun o => if o = n then 1 else g.L o, fun o => if o = n then 0 else g.S o, fun o => if o = n then pre else g.pre o, fun o => if o = n then post else g.post o, g.J⟩
theorem atB_agree {g : Gh} {n b : Nat} {pre post : List Value} {o : Nat} (h : o ≠ n) : Agree g (g.atB n b pre post) o := ⟨if_neg h, rfl, if_neg h, if_neg h, if_neg h, if_neg h⟩
theorem startM_ok {X : Cx Dr} {w : World} (cs : List CT) (x : CTs.V cs) (v : Value) (bs : List Nat) (g : Gh) (ob : List Ob) (h : ∃ b pre us post t bt, bs = b :: bt ∧ v = .pointer (some ⟨b, pre.length, none⟩) ∧ w.heap[b]? = some (.cells (pre ++ us ++ post).toArray t (0, 0)) ∧ OwnCells w g.J cs x us bt) (hn : bs.Nodup) (hb : ∀ b ∈ bs, (X.B ≤ b ∨ b ∈ X.T) ∧ ¬ X.I b ∧ ∀ o, hasBlk g ob o → g.A o ≠ b) (s : Sim X g ob w) :
  ∃ g', Sim X g' (ob ++ (Ob.box (takeOut cs x (ob.length + 1)).1 :: (takeOut cs x (ob.length + 1)).2)) w ∧ Keep g ob.length X.I w g' (ob ++ (Ob.box (takeOut cs x (ob.length + 1)).1 :: (takeOut cs x (ob.length + 1)).2)).length w ∧ RepV g' (ob ++ (Ob.box (takeOut cs x (ob.length + 1)).1 :: (takeOut cs x (ob.length + 1)).2)).length X.I w (.ptr ob.length 0 0 0) v ∧
   ∀ o, hasBlk g' (ob ++ (Ob.box (takeOut cs x (ob.length + 1)).1 :: (takeOut cs x (ob.length + 1)).2)) o → (o < ob.length ∧ hasBlk g ob o) ∨ g'.A o ∈ bs := by
 obtain ⟨b, pre, us, post, t, bt, rfl, h1, h2, h3⟩ := h
 have hn2 := List.nodup_cons.1 hn
 obtain ⟨s1, k1⟩ := s.slot (g' := g.atB ob.length b pre post) rfl (fun o ho => atB_agree (by omega))
 have hslot : ∀ o, hasBlk (g.atB ob.length b pre post) (ob ++ [Ob.dead]) o → o < ob.length ∧ hasBlk g ob o := fun o ho => by
  have hlt : o < ob.length := by
   have h1 := ho.lt
   simp at h1
   rcases Nat.lt_or_ge o ob.length with h | h
   ·exact h
   ·have : o = ob.length := by omega
    subst this
    rcases ho with ⟨c, ho⟩ | ⟨e, xs, ho, _⟩ <;> simp at ho
  refine ⟨hlt, ?_⟩
  rcases ho with ⟨c, ho⟩ | ⟨e, xs, ho, hne⟩
  ·rw [List.getElem?_append_left hlt] at ho; exact Or.inl ⟨_, ho⟩
  ·rw [List.getElem?_append_left hlt] at ho; exact Or.inr ⟨_, _, ho, hne⟩
 obtain ⟨g', s', k', r', n'⟩ := take_ok cs x us bt (g.atB ob.length b pre post) (ob ++ [Ob.dead]) h3 rfl hn2.2 (fun b' hb' => ⟨(hb b' (by simp [hb'])).1, (hb b' (by simp [hb'])).2.1, fun o ho e => by
  obtain ⟨h4, h5⟩ := hslot o ho
  rw [(atB_agree (Nat.ne_of_lt h4)).A] at e
  exact (hb b' (by simp [hb'])).2.2 o h5 e⟩) s1
 have hl1 : (ob ++ [Ob.dead]).length = ob.length + 1 := by simp
 rw [hl1] at s' k' r' n' k1
 have ag : Agree (g.atB ob.length b pre post) g' ob.length := k'.agr _ (by omega)
 have hA : g'.A ob.length = b := by rw [ag.A]; simp [Gh.atB]
 have hpre : g'.pre ob.length = pre := by rw [ag.pre]; simp [Gh.atB]
 have hpost : g'.post ob.length = post := by rw [ag.post]; simp [Gh.atB]
 have hS : g'.S ob.length = 0 := by rw [ag.S]; simp [Gh.atB]
 have hL : g'.L ob.length = 1 := by rw [ag.L]; simp [Gh.atB]
 have hbq := hb b (by simp)
 have e0 : ob ++ [Ob.dead] ++ (takeOut cs x (ob.length + 1)).2 = ob ++ (Ob.dead :: (takeOut cs x (ob.length + 1)).2) := by simp
 rw [e0] at s' k' r' n'
 have hdead : (ob ++ (Ob.dead :: (takeOut cs x (ob.length + 1)).2))[ob.length]? = some .dead := by simp
 have s2 := s'.revive hdead (.box (takeOut cs x (ob.length + 1)).1) (by
  intro cells hh
  cases hh
  exact ⟨us, t, by rw [hA, hpre, hpost]; exact h2, r', by rw [hA]; exact hbq.2.1, hS, hL⟩) (by intro e xs hh; cases hh) (by
  intro _
  rw [hA]
  refine ⟨hbq.1, fun o ho e => ?_⟩
  rcases n' o ho with ⟨h4, h5⟩ | h4
  ·obtain ⟨h6, h7⟩ := hslot o h5
   rw [(k'.agr o h4).A, (atB_agree (Nat.ne_of_lt h6)).A] at e
   exact hbq.2.2 o h7 e
  ·rw [e] at h4
   exact hn2.1 h4)
 have e1 : (ob ++ (Ob.dead :: (takeOut cs x (ob.length + 1)).2)).set ob.length (.box (takeOut cs x (ob.length + 1)).1) = ob ++ (Ob.box (takeOut cs x (ob.length + 1)).1 :: (takeOut cs x (ob.length + 1)).2) := by
  rw [List.set_append_right _ _ (Nat.le_refl _)]
  simp
 have e2 : (ob ++ (Ob.box (takeOut cs x (ob.length + 1)).1 :: (takeOut cs x (ob.length + 1)).2)).length = (ob ++ (Ob.dead :: (takeOut cs x (ob.length + 1)).2)).length := by rw [← e1]; simp
 rw [e1] at s2
 refine ⟨g', s2, ?_, ?_, fun o ho => ?_⟩
 ·rw [e2]; exact k1.trans k'
 ·rw [e2]
  simp only [RepV]
  exact ⟨by simp, by rw [hL]; omega, hS.symm, by rw [h1, hA, hpre]; simp⟩
 ·by_cases hoq : o = ob.length
  ·right; rw [hoq, hA]; simp
  ·have : hasBlk g' (ob ++ (Ob.dead :: (takeOut cs x (ob.length + 1)).2)) o := by
    rw [← e1] at ho
    rcases ho with ⟨c, ho⟩ | ⟨e, xs, ho, hne⟩
    ·rcases set_get ho with ⟨h4, _⟩ | ⟨_, h4⟩
     ·exact absurd h4 hoq
     ·exact Or.inl ⟨_, h4⟩
    ·rcases set_get ho with ⟨h4, _⟩ | ⟨_, h4⟩
     ·exact absurd h4 hoq
     ·exact Or.inr ⟨_, _, h4, hne⟩
   rcases n' o this with ⟨h4, h5⟩ | h4
   ·exact Or.inl (hslot o h5)
   ·right; exact List.mem_cons_of_mem _ h4
theorem startP_ok {X : Cx Dr} {w : World} (p : Par) (x : CTs.V p.cells) (v : Value) (bs : List Nat) (g : Gh) (ob : List Ob) (h : ArgP X.I g.J w p x v bs) (hn : bs.Nodup) (hb : ∀ b ∈ bs, (X.B ≤ b ∨ b ∈ X.T) ∧ ¬ X.I b ∧ ∀ o, hasBlk g ob o → g.A o ≠ b) (s : Sim X g ob w) :
  ∃ g', Sim X g' (ob ++ (startP p x ob.length).2) w ∧ Keep g ob.length X.I w g' (ob ++ (startP p x ob.length).2).length w ∧ RepV g' (ob ++ (startP p x ob.length).2).length X.I w (startP p x ob.length).1 v ∧
   ∀ o, hasBlk g' (ob ++ (startP p x ob.length).2) o → (o < ob.length ∧ hasBlk g ob o) ∨ g'.A o ∈ bs := by
 have same : ∀ pv, RepV g ob.length X.I w pv v → ∃ g', Sim X g' (ob ++ []) w ∧ Keep g ob.length X.I w g' (ob ++ []).length w ∧ RepV g' (ob ++ []).length X.I w pv v ∧ ∀ o, hasBlk g' (ob ++ []) o → (o < ob.length ∧ hasBlk g ob o) ∨ g'.A o ∈ bs := fun pv hr => by
  rw [List.append_nil]
  exact ⟨g, s, s.refl, hr, fun o ho => Or.inl ⟨ho.lt, ho⟩⟩
 have rows : ∀ (agg : Bool) (cs : List CT) (y : CTs.V cs) (us : List Value), OwnCells w g.J cs y us bs → Grp agg us v →
   ∃ g', Sim X g' (ob ++ (takeOut cs y ob.length).2) w ∧ Keep g ob.length X.I w g' (ob ++ (takeOut cs y ob.length).2).length w ∧ RepV g' (ob ++ (takeOut cs y ob.length).2).length X.I w (grp agg (takeOut cs y ob.length).1) v ∧
    ∀ o, hasBlk g' (ob ++ (takeOut cs y ob.length).2) o → (o < ob.length ∧ hasBlk g ob o) ∨ g'.A o ∈ bs := fun agg cs y us ho hg => by
  obtain ⟨g', s', k', r', n'⟩ := take_ok cs y us bs g ob ho rfl hn hb s
  exact ⟨g', s', k', grp_rep r' hg, n'⟩
 cases p with
 | v agg cs =>
  obtain ⟨us, h1, h2, _⟩ := h
  exact same _ (grp_rep (pvs_ok cs x us h1) h2)
 | r cs =>
  obtain ⟨ad, h1, h2, h3, _⟩ := h
  exact same (.eptr cs x 0) (by simp only [RepV]; exact ⟨ad, by simpa [Addr.add] using h1, h2, h3⟩)
 | cl f caps =>
  obtain ⟨us, h1, h2, _⟩ := h
  exact same (.fn f (capPVs caps x)) (by simp only [RepV]; exact ⟨us, h1, caps_rep caps x us h2⟩)
 | w agg cs =>
  obtain ⟨us, h1, h2⟩ := h
  exact rows agg cs x us h1 h2
 | c agg cs =>
  obtain ⟨us, h1, h2⟩ := h
  exact rows agg cs x us h1 h2
 | m cs => exact startM_ok cs x v bs g ob h hn hb s
theorem start_ok {X : Cx Dr} {w : World} : ∀ (ins : List Par) (x : CTs.V (insC ins)) (vs : List Value) (bs : List Nat) (g : Gh) (ob : List Ob), ArgsP X.I g.J w ins x vs bs → bs.Nodup → (∀ b ∈ bs, (X.B ≤ b ∨ b ∈ X.T) ∧ ¬ X.I b ∧ ∀ o, hasBlk g ob o → g.A o ≠ b) → Sim X g ob w →
  ∃ g', Sim X g' (ob ++ (start ins x ob.length).2) w ∧ Keep g ob.length X.I w g' (ob ++ (start ins x ob.length).2).length w ∧ RepVs g' (ob ++ (start ins x ob.length).2).length X.I w (start ins x ob.length).1 vs
 | [], x, vs, bs, g, ob, h, hn, hb, s => by
  simp only [ArgsP] at h
  obtain ⟨rfl, rfl⟩ := h
  exact ⟨g, by simpa [start] using s, by simpa [start] using s.refl, by simp [start, RepVs]⟩
 | p :: r, x, vs, bs, g, ob, h, hn, hb, s => by
  simp only [ArgsP] at h
  obtain ⟨v, t, b1, b2, rfl, rfl, h1, h2⟩ := h
  have hn2 := List.nodup_append.1 hn
  obtain ⟨g1, s1, k1, r1, n1⟩ := startP_ok p _ v b1 g ob h1 hn2.1 (fun b hb' => hb b (by simp [hb'])) s
  have hlen : (ob ++ (startP p (splitV p.cells (insC r) x).1 ob.length).2).length = ob.length + (startP p (splitV p.cells (insC r) x).1 ob.length).2.length := by simp
  obtain ⟨g2, s2, k2, r2⟩ := start_ok r _ t b2 g1 _ (by rw [k1.J]; exact h2) hn2.2.1 (fun b hb' => ⟨(hb b (by simp [hb'])).1, (hb b (by simp [hb'])).2.1, fun o ho e => by
   rcases n1 o ho with ⟨h4, h5⟩ | h4
   ·rw [(k1.agr o h4).A] at e
    exact (hb b (by simp [hb'])).2.2 o h5 e
   ·rw [e] at h4
    exact hn2.2.2 b h4 b hb' rfl⟩) s1
  rw [hlen] at s2 k2 r2
  have e : ob ++ (startP p (splitV p.cells (insC r) x).1 ob.length).2 ++ (start r (splitV p.cells (insC r) x).2 (ob.length + (startP p (splitV p.cells (insC r) x).1 ob.length).2.length)).2 = ob ++ (start (p :: r) x ob.length).2 := by
   simp [start, List.append_assoc]
  rw [e] at s2 k2 r2
  rw [hlen] at k1
  refine ⟨g2, s2, k1.trans k2, ?_⟩
  show RepVs g2 _ X.I w ((startP p (splitV p.cells (insC r) x).1 ob.length).1 :: _) (v :: t)
  simp only [RepVs]
  refine ⟨v, t, rfl, RepV.keep k2 _ _ ?_, r2⟩
  rw [hlen] at r1
  exact r1
end Go.Rv
set_option linter.unusedVariables false
set_option linter.unusedSimpArgs false
namespace Go.Rv
open Go.RowKit
variable {Dr : Kn}
variable {P : Program} {tbl : Tbl}
def resSem (tmps : Array Value) : ResultVar → Sem Value
 | .tmp t => pure (tmps.getD t undef)
 | .cell a t => do loadVar t (← asAddr (tmps.getD a undef))
theorem resPV_ok {X : Cx Dr} {N : Nat} {g : Gh} {ob : List Ob} {w : World} {env : Env} {a : Act} (s : Sim X g ob w) (he : RepE N g ob.length X.I w env a) {x : ResultVar} {v : PV} (h : resPV P env ob x = some v) :
  ∃ u, (resSem a.tmps x).run P w = .ok u w ∧ RepV g ob.length X.I w v u := by
 cases x with
 | tmp t =>
  simp only [resPV, Option.some.injEq] at h
  subst h
  exact ⟨_, rfl, he.2.2 t⟩
 | cell q t =>
  simp only [resPV] at h
  split at h <;> try (simp at h; done)
  rename_i agg n o i sz j hl hx
  split at h <;> try (simp at h; done)
  rename_i cells hq
  split at h <;> try (simp at h; done)
  rename_i hi
  have h1 := he.2.2 q
  rw [hx] at h1
  obtain ⟨us, t', h2, k1, k2⟩ := box_at (N := N) s hq hi h1
  have hlen := repvs_len _ _ k2
  cases agg with
  | true =>
   simp only [if_true] at h
   split at h <;> try (simp at h; done)
   rename_i hb
   obtain rfl := Option.some.inj h
   refine ⟨.agg ((us.drop j).take n).toArray, ?_, by simp only [RepV]; exact ⟨_, rfl, repvs_take _ _ _ (repvs_drop _ _ _ k2)⟩⟩
   have := run_loadN (P := P) (ad := ⟨g.A o, (g.pre o).length + j, none⟩) (w := w) hl (us := (us.drop j).take n) (by simp; omega) (fun i u hu => by
    rw [aat]
    have hi : i < n := by
     rcases Nat.lt_or_ge i n with h | h
     ·exact h
     ·rw [List.getElem?_eq_none (by simp; omega)] at hu; simp at hu
    rw [List.getElem?_take_of_lt hi, List.getElem?_drop] at hu
    rw [Nat.add_assoc]
    exact box_cell (X := X) k1 hu)
   simpa [resSem, h2, asAddr, Instr.loadAt, Instr.sureAddr] using this
  | false =>
   simp only [Bool.false_eq_true, if_false] at h
   split at h <;> try (simp at h; done)
   rename_i hb
   obtain rfl := Option.some.inj h
   obtain ⟨u, hu, hr⟩ := repvs_get _ _ k2 j hb
   refine ⟨u, ?_, hr⟩
   have := run_load1 (P := P) (ad := ⟨g.A o, (g.pre o).length + j, none⟩) (w := w) hl (u := u) (box_cell (X := X) k1 hu)
   simpa [resSem, h2, asAddr, Instr.loadAt, Instr.sureAddr] using this
theorem resPVs_ok {X : Cx Dr} {N : Nat} {g : Gh} {ob : List Ob} {w : World} {env : Env} {a : Act} (s : Sim X g ob w) (he : RepE N g ob.length X.I w env a) : ∀ (rs : List ResultVar) (ps : List PV), resPVs P env ob rs = some ps →
  ∃ us, (rs.mapM (resSem a.tmps)).run P w = .ok us w ∧ RepVs g ob.length X.I w ps us
 | [], ps, h => by
  simp only [resPVs, Option.some.injEq] at h
  subst h
  exact ⟨[], by simp, by simp [RepVs]⟩
 | x :: r, ps, h => by
  simp only [resPVs] at h
  split at h <;> try (simp at h; done)
  rename_i v vs h1 h2
  obtain rfl := Option.some.inj h
  obtain ⟨u, k1, k2⟩ := resPV_ok s he h1
  obtain ⟨us, m1, m2⟩ := resPVs_ok s he r vs h2
  exact ⟨u :: us, by simp [List.mapM_cons, k1, m1], by simp only [RepVs]; exact ⟨u, us, rfl, k2, m2⟩⟩
theorem run_results (fn : Func) (tmps : Array Value) (w : World) (us : List Value) (h : (fn.results.toList.mapM (resSem tmps)).run P w = .ok us w) : (results fn tmps).run P w = .ok (oneOrTupV us) w := by
 have e : results fn tmps = (do let vs ← fn.results.mapM (resSem tmps); pure (if h : vs.size = 1 then vs[0] else .tuple vs)) := by
  unfold results
  congr 1
 rw [e, Sem.run_bind, Array.mapM_eq_mapM_toList, Sem.run_map, h]
 simp only [Result.andThen_ok, Sem.run_pure]
 congr 1
 match us with
 | [] => rfl
 | [v] => rfl
 | v :: v' :: r => rfl
theorem run_enter {f : FuncId} (h : entersB P f = true) (args : Array Value) (w : World) : (callFunc f args).run P w = .ok (.enter f args) w := by
 unfold entersB at h
 split at h
 ·rename_i fn hf
  simp only [Bool.and_eq_true, bne_iff_ne, ne_eq, Option.isSome_iff_ne_none] at h
  have hb : fn.body.isNone = false := by cases hb : fn.body <;> simp_all
  simp [callFunc, hf, h.1, hb]
  intro hx
  exact absurd hx h.2
 ·cases h
theorem env_look : ∀ (ps : List PV) (i s : Nat), look (envOf i ps) s = if i ≤ s then ps.getD (s - i) .undef else .undef
 | [], i, s => by simp [envOf, look]
 | p :: r, i, s => by
  simp only [envOf, look]
  by_cases h : i = s
  ·subst h; simp
  ·rw [if_neg h, env_look r (i + 1) s]
   by_cases h2 : i + 1 ≤ s
   ·rw [if_pos h2, if_pos (by omega), show s - i = (s - (i + 1)) + 1 by omega]
    simp
   ·rw [if_neg h2, if_neg (by omega)]
theorem outCells_ok {g : Gh} {n : Nat} {I : Nat → Prop} {w : World} : ∀ (outs : List (Bool × List CT)) (ps : List PV) (vals : List Value) (vs : List PV), RepVs g n I w ps vals → outCells outs ps = some vs → ∃ us, RepVs g n I w vs us ∧ Grouped outs us vals
 | [], [], vals, vs, h, hf => by
  simp only [RepVs] at h
  simp only [outCells, Option.some.injEq] at hf
  subst h; subst hf
  exact ⟨[], by simp [RepVs], rfl, rfl⟩
 | [], _ :: _, vals, vs, h, hf => by simp [outCells] at hf
 | _ :: _, [], vals, vs, h, hf => by simp [outCells] at hf
 | (b, cs) :: r, p :: ps, vals, vs, h, hf => by
  simp only [RepVs] at h
  obtain ⟨u, t, rfl, h1, h2⟩ := h
  simp only [outCells] at hf
  split at hf <;> try (cases hf; done)
  rename_i hsh
  split at hf <;> try (cases hf; done)
  rename_i a c f1 f2
  obtain rfl := Option.some.inj hf
  obtain ⟨us1, k1, k2, k3⟩ := grp_ok h1 hsh f1
  obtain ⟨us2, m1, m2⟩ := outCells_ok r ps t c h2 f2
  exact ⟨us1 ++ us2, repvs_app _ _ _ _ k1 m1, us1, us2, u, t, rfl, k3, rfl, k2, m2⟩
theorem args_pure {I J : Nat → Prop} {w : World} : ∀ (ins : List Par) (x : CTs.V (insC ins)) (vs : List Value) (bs : List Nat), ins.all Par.pure = true → ArgsP I J w ins x vs bs → bs = []
 | [], x, vs, bs, _, h => h.2
 | p :: r, x, vs, bs, hp, h => by
  obtain ⟨v, t, b1, b2, rfl, rfl, h1, h2⟩ := h
  simp only [List.all_cons, Bool.and_eq_true] at hp
  rw [args_pure r _ _ _ hp.2 h2, List.append_nil]
  cases p with
  | v agg cs => obtain ⟨_, _, _, h⟩ := h1; exact h
  | r cs => obtain ⟨_, _, _, _, h⟩ := h1; exact h
  | cl f caps => obtain ⟨_, _, _, h⟩ := h1; exact h
  | w agg cs => simp [Par.pure] at hp
  | c agg cs => simp [Par.pure] at hp
  | m cs => simp [Par.pure] at hp
theorem own_cons {w : World} {J : Nat → Prop} {c : CT} {cs : List CT} {y1 : c.V} {y2 : CTs.V cs} {u : Value} {t : List Value} {b1 b2 : List Nat} (h1 : OwnCells w J [c] (y1, ()) [u] b1) (h2 : OwnCells w J cs y2 t b2) : OwnCells w J (c :: cs) (y1, y2) (u :: t) (b1 ++ b2) := by
 cases c with
 | sl e =>
  simp only [OwnCells] at h1 ⊢
  obtain ⟨hd, t', e1, h⟩ := h1
  simp only [List.cons.injEq] at e1
  obtain ⟨rfl, rfl⟩ := e1
  rcases h with ⟨g1, g2, _, rfl⟩ | ⟨b, bt, rfl, g1, _, rfl⟩
  ·exact ⟨u, t, rfl, Or.inl ⟨g1, g2, h2⟩⟩
  ·exact ⟨u, t, rfl, Or.inr ⟨b, b2, rfl, g1, h2⟩⟩
 | _ =>
  simp only [OwnCells] at h1 ⊢
  obtain ⟨hd, t', e1, h, _, rfl⟩ := h1
  simp only [List.cons.injEq] at e1
  obtain ⟨rfl, rfl⟩ := e1
  exact ⟨u, t, rfl, h, h2⟩
theorem outCellR_ok {X : Cx Dr} {g : Gh} {ob : List Ob} {w : World} (s : Sim X g ob w) (c : CT) (p : PV) (y : c.V) (u : Value) (hf : c.flat = true) (hn : (idsPV p).Nodup) (hp : refsP ob p) (h : outCellR ob c p = some y) (hu : RepV g ob.length X.I w p u) :
  ∃ bs, OwnCells w g.J [c] (y, ()) [u] bs ∧ bs.Nodup ∧ ∀ b ∈ bs, ∃ o ∈ idsPV p, hasBlk g ob o ∧ b = g.A o := by
 unfold outCellR at h
 split at h
 ·rename_i e q sz len
  obtain ⟨e', xs, hq, h⟩ : ∃ (e' : List CT) (xs : List (CTs.V e')), ob[q]? = some (.arr e' xs) ∧ castL e' e (xs.take len) = some y := by
   generalize ob[q]? = Y at h
   match Y, h with
   | some (.arr e' xs), h => exact ⟨e', xs, rfl, h⟩
   | some (.box _), h => cases h
   | some .dead, h => cases h
   | none, h => cases h
  have hlen := hp _ _ _ rfl _ _ hq
  obtain ⟨he, hy⟩ := castL_ok h
  subst he
  have hy : y = xs.take len := hy
  subst hy
  simp only [RepV] at hu
  obtain ⟨_, _, a, l, cc, a', c', hH, rfl, hlc, _, h0⟩ := hu
  obtain ⟨rfl, rfl⟩ := h0 trivial
  obtain ⟨_, _, _, ka⟩ := s.arr q e' _ hq
  have htl : (xs.take len).length = len := by rw [List.length_take]; omega
  rcases ka with ka | ⟨hne, cap, cells, te, n1, n2, n2', n3, n4, n5, n6⟩
  ·obtain ⟨b0, hb0⟩ := ka.2
   rw [hH] at hb0
   simp only [Value.slice.injEq] at hb0
   have hx : xs = [] := ka.1
   have hl0 : len = 0 := by rw [hx] at hlen; simpa using hlen
   subst hl0
   obtain ⟨_, _, rfl⟩ := hb0
   exact ⟨[], ⟨_, [], rfl, Or.inl ⟨by rw [hx]; rfl, ⟨_, rfl⟩, rfl, rfl⟩⟩, List.nodup_nil, by simp⟩
  ·rw [n1] at hH
   simp only [Value.slice.injEq] at hH
   obtain ⟨rfl, _, rfl⟩ := hH
   have hbk : hasBlk g ob q := Or.inr ⟨_, _, hq, hne⟩
   have hcap : ¬ cap = 0 := fun e => hne ⟨some ⟨g.A q, 0, none⟩, by rw [n1, e]; congr 1; omega⟩
   refine ⟨[g.A q], ⟨_, [], rfl, Or.inr ⟨g.A q, [], rfl, ⟨?_, cap, cells, te, by show Value.slice _ len cap = .slice _ (xs.take len).length cap; rw [htl], by show (xs.take len).length ≤ cap; rw [htl]; exact hlc, n2', n3, n4, fun i x hx => ?_⟩, rfl, rfl⟩⟩, by simp, fun b hb => ⟨q, by simp [idsPV], hbk, by simpa using hb⟩⟩
   ·rintro ⟨b0, hb0⟩
    simp only [Value.slice.injEq] at hb0
    exact hcap hb0.2.2
   ·have hx' : (xs.take len)[i]? = some x := hx
    have hi : i < len := by have := (List.getElem?_eq_some_iff.1 hx').1; omega
    rw [List.getElem?_take_of_lt hi] at hx'
    exact rdc_scalar _ _ _ hf (n5 i x hx')
 ·obtain ⟨bs, h1, h2, h3⟩ := outV_ok s [c] [p] (y, ()) [u] (by simpa using hf) (by simpa [idsPVs] using hn) (by simp only [outV]; rw [h]) (by simp only [RepVs]; exact ⟨u, [], rfl, hu, rfl⟩)
  exact ⟨bs, h1, h2, fun b hb => by simpa [idsPVs] using h3 b hb⟩
theorem outVR_ok {X : Cx Dr} {g : Gh} {ob : List Ob} {w : World} (s : Sim X g ob w) : ∀ (cs : List CT) (ps : List PV) (y : CTs.V cs) (us : List Value), cs.all CT.flat = true → (idsPVs ps).Nodup → (∀ v ∈ ps, refsP ob v) → outVR ob cs ps = some y → RepVs g ob.length X.I w ps us →
  ∃ bs, OwnCells w g.J cs y us bs ∧ bs.Nodup ∧ ∀ b ∈ bs, ∃ o ∈ idsPVs ps, hasBlk g ob o ∧ b = g.A o
 | [], [], y, us, _, _, _, h, hr => by
  simp only [RepVs] at hr
  exact ⟨[], by simp [OwnCells, hr], List.nodup_nil, by simp⟩
 | [], _ :: _, y, us, _, _, _, h, hr => by simp [outVR] at h
 | _ :: _, [], y, us, _, _, _, h, hr => by simp [outVR] at h
 | c :: cs, p :: ps, y, us, hf, hn, hp, h, hr => by
  simp only [List.all_cons, Bool.and_eq_true] at hf
  simp only [outVR] at h
  split at h <;> try (cases h; done)
  rename_i y1 y2 h1 h2
  have := Option.some.inj h
  subst this
  simp only [RepVs] at hr
  obtain ⟨u, t, rfl, hu, ht⟩ := hr
  simp only [idsPVs] at hn ⊢
  have hn2 := List.nodup_append.1 hn
  obtain ⟨b1, i1, i2, i3⟩ := outCellR_ok s c p y1 u hf.1 hn2.1 (hp p (by simp)) h1 hu
  obtain ⟨b2, k1, k2, k3⟩ := outVR_ok s cs ps y2 t hf.2 hn2.2.1 (fun v hv => hp v (by simp [hv])) h2 ht
  refine ⟨b1 ++ b2, own_cons i1 k1, List.nodup_append.2 ⟨i2, k2, fun a1 ha1 a2 ha2 e => ?_⟩, fun b hb => ?_⟩
  ·obtain ⟨o1, p1, w1, f1⟩ := i3 a1 ha1
   obtain ⟨o2, p2, w2, f2⟩ := k3 a2 ha2
   have := s.inj o1 o2 w1 w2 (by rw [← f1, ← f2, e])
   exact hn2.2.2 _ p1 _ p2 this
  ·rcases List.mem_append.1 hb with hb | hb
   ·obtain ⟨o, p1, r⟩ := i3 b hb; exact ⟨o, List.mem_append.2 (Or.inl p1), r⟩
   ·obtain ⟨o, p1, r⟩ := k3 b hb; exact ⟨o, List.mem_append.2 (Or.inr p1), r⟩
theorem ret_ok {X : Cx Dr} {g : Gh} {ob : List Ob} {w0 w : World} (s : Sim X g ob w) (hB : X.B = w0.heap.size) {pu : Bool} (hT : pu = true → X.T = []) (outs : List (Bool × List CT)) (ps : List PV) (rs : List Value) (vs : List PV × List Nat)
  (q2 : RepVs g ob.length X.I w ps rs) (h : retCells (isBox outs) pu ob outs ps = some vs) :
  ∃ us vr, RepVs g ob.length X.I w vs.1 us ∧ (us.length = (outC outs).length → Grouped (outs1 outs) us vr) ∧ (idsPVs vs.1).Sublist vs.2 ∧
   ∀ l, (vs.2 ++ l).Nodup → ∀ bs, (∀ b ∈ bs, ∃ o, o ∈ idsPVs vs.1 ++ l ∧ hasBlk g ob o ∧ b = g.A o) → Answer (isBox outs) w0 w bs vr (.returned (oneOrTupV rs)) := by
 cases hbx : isBox outs with
 | false =>
  rw [hbx] at h
  simp only [retCells] at h
  split at h <;> try (cases h; done)
  rename_i v hv
  obtain rfl := Option.some.inj h
  obtain ⟨us, k1, k2⟩ := outCells_ok outs _ _ v q2 hv
  exact ⟨us, rs, k1, fun _ => by rw [(grouped_nobox k2).2]; exact k2, List.Sublist.refl _, fun _ _ _ _ => rfl⟩
 | true =>
  rw [hbx] at h
  simp only [retCells] at h
  split at h <;> try (cases h; done)
  rename_i q
  split at h <;> try (cases h; done)
  rename_i cells hq
  obtain rfl := Option.some.inj h
  simp only [RepVs, RepV] at q2
  obtain ⟨u, t, rfl, ⟨_, _, _, rfl⟩, rfl⟩ := q2
  obtain ⟨us, te, k1, k2, k3, _, _⟩ := s.box q cells hq
  have hk : hasBlk g ob q := Or.inl ⟨_, hq⟩
  refine ⟨us, [.agg us.toArray], k2, fun hl => ?_, List.sublist_cons_self _ _, fun l hn bs hbs => ⟨g.A q, g.pre q, us, g.post q, te, rfl, by simp [oneOrTupV], k1, ?_, fun hm => ?_⟩⟩
  ·unfold isBox at hbx
   split at hbx <;> try (cases hbx; done)
   rename_i cs
   simp only [outC, List.append_nil] at hl
   exact ⟨us, [], _, [], by simp, hl, rfl, rfl, rfl, rfl⟩
  ·rcases s.base q hk with h | h
   ·rw [← hB]; exact h
   ·rw [hT rfl] at h; simp at h
  ·obtain ⟨o, h1, h2, h3⟩ := hbs _ hm
   have := s.inj _ _ hk h2 h3
   subst this
   exact (List.nodup_cons.1 hn).1 h1
theorem take_len : ∀ (cs : List CT) (x : CTs.V cs) (k : Nat), (takeOut cs x k).1.length = cs.length
 | [], _, _ => rfl
 | c :: cs, x, k => by
  cases c <;> simp [takeOut, take_len cs]
theorem finP_ok {X : Cx Dr} {g : Gh} {ob0 ob : List Ob} {w w' : World} (s0 : Sim X X.g0 ob0 w) (s : Sim X g ob w') (hn0 : X.n0 = ob0.length) (hheap : ∀ b, X.I b → w'.heap[b]? = w.heap[b]?) (p : Par) (x : CTs.V p.cells) (k : Nat) (v : Value) (b0 : List Nat) (y : CTs.V p.io) (ids : List Nat) (hok : p.ok = true) (harg : ArgP X.I X.g0.J w p x v b0)
  (hr : RepV X.g0 ob0.length X.I w (startP p x k).1 v) (hst : ∀ i Y, (startP p x k).2[i]? = some Y → ob0[k + i]? = some Y) (h : finP ob p x k = some (y, ids)) (hnd : ids.Nodup) :
  ∃ bs, IoP w w' X.g0.J p y v bs ∧ bs.Nodup ∧ ∀ b ∈ bs, ∃ o ∈ ids, hasBlk g ob o ∧ b = g.A o := by
 have none_ : (p.io = [] ) → True := fun _ => trivial
 cases p with
 | v agg cs => exact ⟨[], rfl, List.nodup_nil, by simp⟩
 | r cs => exact ⟨[], rfl, List.nodup_nil, by simp⟩
 | cl f caps => exact ⟨[], rfl, List.nodup_nil, by simp⟩
 | c agg cs => exact ⟨[], rfl, List.nodup_nil, by simp⟩
 | w agg cs =>
  have h' : (outV ob cs (takeOut cs x k).1).map (fun y => (y, idsPVs (takeOut cs x k).1)) = some (y, ids) := h
  obtain ⟨y', h1, h2⟩ := Option.map_eq_some_iff.1 h'
  cases h2
  obtain ⟨us, a1, a2⟩ := harg
  have hlen := own_len _ _ _ _ a1
  have hr' : RepV X.g0 ob0.length X.I w (grp agg (takeOut cs x k).1) v := hr
  have hrs : RepVs X.g0 ob0.length X.I w (takeOut cs x k).1 us := by
   cases agg with
   | true =>
    have hv : v = .agg us.toArray := a2
    have hr2 : RepV X.g0 ob0.length X.I w (.agg (takeOut cs x k).1) v := hr'
    simp only [RepV] at hr2
    obtain ⟨us', e1, e2⟩ := hr2
    rw [hv] at e1
    have : us = us' := by simpa using e1
    rw [this]; exact e2
   | false =>
    have hv : us = [v] := a2
    subst hv
    have hl := take_len cs x k
    simp at hlen
    rw [← hlen] at hl
    have hr2 : RepV X.g0 ob0.length X.I w ((takeOut cs x k).1.headD .undef) v := hr'
    cases hc : (takeOut cs x k).1 with
    | nil => rw [hc] at hl; simp at hl
    | cons q ps =>
     rw [hc] at hl hr2
     have : ps = [] := List.eq_nil_of_length_eq_zero (by simpa using hl)
     subst this
     simp only [RepVs]
     exact ⟨v, [], rfl, by simpa using hr2, rfl⟩
  have hrs' : RepVs g ob.length X.I w' (takeOut cs x k).1 us := RepVs.agree s.keptJ s0.jI hheap _ _ (fun o ho hlt => ⟨by have := s.nle; omega, s.kept o (by omega)⟩) hrs
  obtain ⟨bs, m1, m2, m3⟩ := outV_ok s cs _ y us hok hnd h1 hrs'
  rw [s.keptJ] at m1
  exact ⟨bs, ⟨us, a2, m1⟩, m2, m3⟩
 | m cs =>
  have h' : (match ob[k]? with | some (.box cells) => (outV ob cs cells).map fun y => (y, k :: idsPVs cells) | _ => none) = some (y, ids) := h
  clear h
  split at h' <;> try (cases h'; done)
  rename_i cells hq
  obtain ⟨y', h1, h2⟩ := Option.map_eq_some_iff.1 h'
  cases h2
  have hk0 : ob0[k]? = some (.box (takeOut cs x (k + 1)).1) := by have := hst 0 _ rfl; simpa using this
  obtain ⟨us0, t0, p1, p2, p3, p4, p5⟩ := s0.box k _ hk0
  have hkl : k < X.n0 := by rw [hn0]; exact (List.getElem?_eq_some_iff.1 hk0).1
  obtain ⟨us1, t1, q1, q2, _⟩ := s.box k cells hq
  have ag := s.kept k hkl
  rw [ag.A, ag.pre, ag.post] at q1
  have hr' : RepV X.g0 ob0.length X.I w (.ptr k 0 0 0) v := hr
  simp only [RepV] at hr'
  have hl0 : us0.length = cs.length := (repvs_len _ _ p2).trans (take_len cs x (k + 1))
  have hnd2 := List.nodup_cons.1 hnd
  obtain ⟨bt, m1, m2, m3⟩ := outV_ok s cs cells y us1 hok hnd2.2 h1 q2
  rw [s.keptJ] at m1
  have hbk : hasBlk g ob k := Or.inl ⟨_, hq⟩
  refine ⟨X.g0.A k :: bt, ⟨X.g0.A k, X.g0.pre k, us0, us1, X.g0.post k, t0, t1, bt, rfl, by simpa using hr'.2.2.2, p1, hl0, q1, m1⟩, List.nodup_cons.2 ⟨fun hm => ?_, m2⟩, fun b hb => ?_⟩
  ·obtain ⟨o, ho, hob, hA⟩ := m3 _ hm
   have := s.inj k o hbk hob (by rw [ag.A]; exact hA)
   subst this
   exact hnd2.1 ho
  ·rcases List.mem_cons.1 hb with rfl | hb
   ·exact ⟨k, by simp, hbk, ag.A.symm⟩
   ·obtain ⟨o, ho, hk⟩ := m3 b hb
    exact ⟨o, List.mem_cons_of_mem _ ho, hk⟩
theorem finIO_ok {X : Cx Dr} {g : Gh} {ob0 ob : List Ob} {w w' : World} (s0 : Sim X X.g0 ob0 w) (s : Sim X g ob w') (hn0 : X.n0 = ob0.length) (hheap : ∀ b, X.I b → w'.heap[b]? = w.heap[b]?) : ∀ (ins : List Par) (x : CTs.V (insC ins)) (k : Nat) (vs : List Value) (b0 : List Nat) (io : CTs.V (ioC ins) × List Nat), ins.all Par.ok = true → ArgsP X.I X.g0.J w ins x vs b0 →
  RepVs X.g0 ob0.length X.I w (start ins x k).1 vs → (∀ i Y, (start ins x k).2[i]? = some Y → ob0[k + i]? = some Y) → finIO ob ins x k = some io → io.2.Nodup →
  ∃ bs, IosP w w' X.g0.J ins io.1 vs bs ∧ bs.Nodup ∧ ∀ b ∈ bs, ∃ o ∈ io.2, hasBlk g ob o ∧ b = g.A o
 | [], x, k, vs, b0, io, hok, harg, hr, hst, h, hnd => by
  simp only [ArgsP] at harg
  simp only [finIO, Option.some.injEq] at h
  subst h
  exact ⟨[], ⟨harg.1, rfl⟩, List.nodup_nil, by simp⟩
 | p :: r, x, k, vs, b0, io, hok, harg, hr, hst, h, hnd => by
  simp only [ArgsP] at harg
  obtain ⟨v, t, b1, b2, rfl, rfl, h1, h2⟩ := harg
  simp only [List.all_cons, Bool.and_eq_true] at hok
  simp only [finIO] at h
  split at h <;> try (cases h; done)
  rename_i a c e1 e2
  obtain rfl := Option.some.inj h
  simp only at hnd
  have hn2 := List.nodup_append.1 hnd
  have hr' : RepVs X.g0 ob0.length X.I w ((startP p (splitV p.cells (insC r) x).1 k).1 :: (start r (splitV p.cells (insC r) x).2 (k + (startP p (splitV p.cells (insC r) x).1 k).2.length)).1) (v :: t) := hr
  simp only [RepVs] at hr'
  obtain ⟨u0, t0, e3, r1, r2⟩ := hr'
  simp only [List.cons.injEq] at e3
  obtain ⟨rfl, rfl⟩ := e3
  have hst' : ∀ i Y, ((startP p (splitV p.cells (insC r) x).1 k).2 ++ (start r (splitV p.cells (insC r) x).2 (k + (startP p (splitV p.cells (insC r) x).1 k).2.length)).2)[i]? = some Y → ob0[k + i]? = some Y := hst
  obtain ⟨bs1, k1, k2, k3⟩ := finP_ok s0 s hn0 hheap p _ k v b1 a.1 a.2 hok.1 h1 r1 (fun i Y hi => hst' i Y (by rw [List.getElem?_append_left (List.getElem?_eq_some_iff.1 hi).1]; exact hi)) e1 hn2.1
  obtain ⟨bs2, m1, m2, m3⟩ := finIO_ok s0 s hn0 hheap r _ _ t b2 c hok.2 h2 r2 (fun i Y hi => by
   have := hst' ((startP p (splitV p.cells (insC r) x).1 k).2.length + i) Y (by rw [List.getElem?_append_right (by omega), Nat.add_sub_cancel_left]; exact hi)
   rw [Nat.add_assoc]; exact this) e2 hn2.2.1
  refine ⟨bs1 ++ bs2, ?_, List.nodup_append.2 ⟨k2, m2, fun a1 ha1 a2 ha2 e => ?_⟩, fun b hb => ?_⟩
  ·simp only [IosP, split_join]
   exact ⟨v, t, bs1, bs2, rfl, rfl, k1, m1⟩
  ·obtain ⟨o1, p1, q1, f1⟩ := k3 a1 ha1
   obtain ⟨o2, p2, q2, f2⟩ := m3 a2 ha2
   have := s.inj o1 o2 q1 q2 (by rw [← f1, ← f2, e])
   exact hn2.2.2 _ p1 _ p2 this
  ·rcases List.mem_append.1 hb with hb | hb
   ·obtain ⟨o, ho, hk⟩ := k3 b hb
    exact ⟨o, List.mem_append.2 (Or.inl ho), hk⟩
   ·obtain ⟨o, ho, hk⟩ := m3 b hb
    exact ⟨o, List.mem_append.2 (Or.inr ho), hk⟩
theorem runFn_ok (hm : P.follows .mixedOrders = true) (hT : ∀ g fs S, tbl g fs = some S → SumOK Dr P g S) {f : FuncId} (hent : entersB P f = true) {ins : List Par} {outs : List (Bool × List CT)} {F : CTs.V (insC ins) → Option (CTs.V (outC outs ++ ioC ins))}
  {pk : List (Option (FuncId × Nat))} (h : ∀ x y, F x = some y → ∃ cfg k, runFn P tbl cfg k f ins outs pk x = some y) : SumOK Dr P f ⟨ins, outs, F, pk⟩ := by
 refine ⟨fun args w => run_enter hent args w, fun w T J x y vals avals hJ hTn htab hargs hF hpack => ?_⟩
 simp only at hargs hF ⊢
 obtain ⟨cfg, k, hr⟩ := h x y hF
 unfold runFn at hr
 split at hr <;> try (cases hr; done)
 rename_i fn hf
 split at hr <;> try (cases hr; done)
 rename_i c hb
 split at hr <;> try (cases hr; done)
 rename_i hcond
 obtain ⟨hl, hfl, hok⟩ := hcond
 let gz : Gh := ⟨fun _ => 0, fun _ => undef, fun _ => 0, fun _ => 0, fun _ => [], fun _ => [], J⟩
 let Xz : Cx Dr := ⟨w.heap.size, w, T, fun b => b < w.heap.size ∧ b ∉ T, 0, gz, htab, hJ⟩
 have sz : Sim Xz gz [] w := ⟨fun o cells h => by simp at h, fun o e xs h => by simp at h, fun o o' h => by rcases h with ⟨_, h⟩ | ⟨_, _, h, _⟩ <;> simp at h, fun o h => by rcases h with ⟨_, h⟩ | ⟨_, _, h, _⟩ <;> simp at h, fun b hb => hb.1, hJ, Upd.refl _ _ _, Nat.le_refl _, Nat.le_refl _, fun o ho => by simp [Xz] at ho, rfl⟩
 obtain ⟨g0, s1, k1, r1⟩ := start_ok ins x vals T gz [] hargs hTn (fun b hb' => ⟨Or.inr hb', fun hI => (show b < w.heap.size ∧ b ∉ T from hI).2 hb', fun o ho => by rcases ho with ⟨_, ho⟩ | ⟨_, _, ho, _⟩ <;> simp at ho⟩) sz
 simp only [List.nil_append, List.length_nil] at s1 k1 r1
 let X : Cx Dr := ⟨w.heap.size, w, T, fun b => b < w.heap.size ∧ b ∉ T, (start ins x 0).2.length, g0, by rw [k1.J]; exact htab, fun b hb => hJ b (by rw [k1.J] at hb; exact hb)⟩
 have s0 : Sim X X.g0 (start ins x 0).2 w := ⟨s1.box, s1.arr, s1.inj, s1.base, s1.bnd, s1.jI, s1.upd, s1.bsz, Nat.le_refl _, fun o _ => Agree.refl _ _, rfl⟩
 have r2 := pack_ok pk _ _ _ hpack r1
 have hlen := repvs_len _ _ r2
 have hJ0 : g0.J = J := k1.J
 refine calls_of_wp hf hb ?_
 have e0 : RepE fn.ntmps g0 (start ins x 0).2.length X.I w (envOf 0 (packPV pk (start ins x 0).1)) { tmps := avals.toArray ++ Array.replicate (fn.ntmps - avals.toArray.size) undef, defers := [] } := by
  refine ⟨by simp; omega, rfl, fun s => ?_⟩
  rw [env_look, if_pos (Nat.zero_le _), Nat.sub_zero]
  by_cases hs : s < (packPV pk (start ins x 0).1).length
  ·obtain ⟨u, hu, hr⟩ := repvs_get _ _ r2 s hs
   have : (avals.toArray ++ Array.replicate (fn.ntmps - avals.toArray.size) undef).getD s undef = u := by
    rw [Array.getD_eq_getD_getElem?, Array.getElem?_append_left (by simp; omega)]
    simp [hu]
   rw [this]
   exact hr
  ·have : (packPV pk (start ins x 0).1).getD s .undef = .undef := by simp [List.getD_eq_getElem?_getD, List.getElem?_eq_none (Nat.le_of_not_lt hs)]
   rw [this]
   simp [RepV]
 refine runCode_ok hm hT (X := X) rfl c _ _ _ g0 w _ _ hr s0 e0 fun e env' ob' g' w' a' hk hs' he' => ?_
 have main : ∀ {e}, e = Ex.normal ∨ e = Ex.ret → finK P fn.results.toList ins outs x e env' ob' = some y → a'.defers = [] ∧ ∃ v, (results fn a'.tmps).run P w' = .ok v w' ∧ (Upd Dr w.heap.size T w w' ∧ ∃ us vs bs bs', Answer (isBox outs) w w' (bs ++ bs') vs (Ending.returned v) ∧ OwnCells w' J (outC outs) (splitV (outC outs) (ioC ins) y).1 us bs ∧ Grouped (outs1 outs) us vs ∧
   IosP w w' J ins (splitV (outC outs) (ioC ins) y).2 vals bs' ∧ (bs ++ bs').Nodup ∧ ∀ b ∈ bs ++ bs', b ∈ T ∨ w.heap.size ≤ b) := by
  intro e hex hk
  have hk' : (match resPVs P env' ob' fn.results.toList with
   | some ps => match retCells (isBox outs) (ins.all Par.pure) ob' outs ps with
    | some vs => match finIO ob' ins x 0 with
     | some io => if noDup (vs.2 ++ io.2) = true then refsK ob' vs.1 ((outVR ob' (outC outs) vs.1).map fun y => joinV (outC outs) (ioC ins) y io.1) else none
     | none => none
    | none => none
   | none => none) = some y := by rcases hex with rfl | rfl <;> exact hk
  split at hk' <;> try (cases hk'; done)
  rename_i ps hps
  split at hk' <;> try (cases hk'; done)
  rename_i vs hoc
  split at hk' <;> try (cases hk'; done)
  rename_i io hio
  split at hk' <;> try (cases hk'; done)
  rename_i hnd
  obtain ⟨hrefs, hk'⟩ := refsK_ok _ hk'
  obtain ⟨yo, ho, rfl⟩ := Option.map_eq_some_iff.1 hk'
  have hnd := noDup_ok _ hnd
  have hn2 := List.nodup_append.1 hnd
  obtain ⟨rs, q1, q2⟩ := resPVs_ok hs' he' _ ps hps
  obtain ⟨us, vr, m1, m2, m4, m3⟩ := ret_ok (w0 := w) hs' rfl (fun hp => args_pure ins x vals T hp hargs) outs ps rs vs q2 hoc
  have hn3 : (idsPVs vs.1).Nodup := hn2.1.sublist m4
  obtain ⟨bs, n1, n2, n3⟩ := outVR_ok hs' (outC outs) vs.1 yo us hfl hn3 hrefs ho m1
  have hheap : ∀ b, X.I b → w'.heap[b]? = w.heap[b]? := fun b hb => hs'.upd.block b hb.1 hb.2
  obtain ⟨bs', z1, z2, z3⟩ := finIO_ok s0 hs' rfl hheap ins x 0 vals T io hok (by rw [show X.g0.J = J from hJ0]; exact hargs) r1 (fun i Y hi => by simpa using hi) hio hn2.2.1
  rw [show X.g0.J = J from hJ0] at z1
  rw [hs'.keptJ, show X.g0.J = J from hJ0] at n1
  refine ⟨he'.2.1, _, run_results fn a'.tmps w' rs q1, hs'.upd, us, vr, bs, bs', m3 io.2 hnd (bs ++ bs') (fun b hb => ?_), ?_, m2 (own_len _ _ _ _ n1), ?_, List.nodup_append.2 ⟨n2, z2, fun a1 ha1 a2 ha2 e => ?_⟩, fun b hb' => ?_⟩
  ·rcases List.mem_append.1 hb with hb | hb
   ·obtain ⟨o, p1, p2, p3⟩ := n3 b hb; exact ⟨o, List.mem_append.2 (Or.inl p1), p2, p3⟩
   ·obtain ⟨o, p1, p2, p3⟩ := z3 b hb; exact ⟨o, List.mem_append.2 (Or.inr p1), p2, p3⟩
  ·rw [split_join]; exact n1
  ·rw [split_join]; exact z1
  ·obtain ⟨o1, p1, w1, f1⟩ := n3 a1 ha1
   obtain ⟨o2, p2, w2, f2⟩ := z3 a2 ha2
   have := hs'.inj o1 o2 w1 w2 (by rw [← f1, ← f2, e])
   exact hn2.2.2 _ (m4.subset p1) _ p2 this
  ·have : ∃ o, hasBlk g' ob' o ∧ b = g'.A o := by
    rcases List.mem_append.1 hb' with hb' | hb'
    ·obtain ⟨o, _, w1, f1⟩ := n3 b hb'; exact ⟨o, w1, f1⟩
    ·obtain ⟨o, _, w1, f1⟩ := z3 b hb'; exact ⟨o, w1, f1⟩
   obtain ⟨o, w1, rfl⟩ := this
   rcases hs'.base o w1 with h | h
   ·exact Or.inr h
   ·exact Or.inl h
 cases e with
 | normal => exact main (Or.inl rfl) hk
 | ret => exact main (Or.inr rfl) hk
 | exit i => simp [finK] at hk
end Go.Rv
