/- A runner of programs on pure values, proved sound against the model: part RvB. It is about every program; the law's own text is the last. -/
import Derived.Test.YtnoanpohmppnaaaGreatDoorRvA
import Derived.Orders
set_option linter.unusedVariables false
set_option linter.unusedSimpArgs false
namespace Go.Rv
open Go.RowKit
variable {Dr : Kn}
variable {R : Type} {P : Program} {tbl : Tbl} {env : Env} {ob : List Ob} {o : Oper} {K : PV → List Ob → Option R} {r : R}
def cellRep (I J : Nat → Prop) (w : World) : (c : CT) → c.V → Value → Prop
 | .sh e, x, u => RepC J w (.sl e) x u
 | .int k, x, u => RepC I w (.int k) x u
 | .bool, x, u => RepC I w .bool x u
 | .str, x, u => RepC I w .str x u
 | .sl e, x, u => RepC I w (.sl e) x u
def CellsRep (I J : Nat → Prop) (w : World) : (cs : List CT) → CTs.V cs → List Value → Prop
 | [], _, us => us = []
 | c :: cs, x, us => ∃ u t, us = u :: t ∧ cellRep I J w c x.1 u ∧ CellsRep I J w cs x.2 t
def OwnAt (w : World) (h : Value) (b : Nat) (e : List CT) (xs : List (CTs.V e)) : Prop :=
 ¬ isEmp h ∧ ∃ cap us t, h = .slice (some ⟨b, 0, none⟩) xs.length cap ∧ xs.length ≤ cap ∧ cap ≤ maxLen ∧ w.heap[b]? = some (.cells us t (0, 0)) ∧ us.size = cap * e.length ∧ ∀ i x, xs[i]? = some x → RdC (fun _ => False) w e x ⟨b, i * e.length, none⟩
def OwnCells (w : World) (J : Nat → Prop) : (cs : List CT) → CTs.V cs → List Value → List Nat → Prop
 | [], _, us, bs => us = [] ∧ bs = []
 | .sl e :: cs, x, us, bs => ∃ h t, us = h :: t ∧ ((lst e x.1 = [] ∧ isEmp h ∧ OwnCells w J cs x.2 t bs) ∨ ∃ b bt, bs = b :: bt ∧ OwnAt w h b e (lst e x.1) ∧ OwnCells w J cs x.2 t bt)
 | .sh e :: cs, x, us, bs => ∃ u t, us = u :: t ∧ RepC J w (.sl e) (lst e x.1) u ∧ OwnCells w J cs x.2 t bs
 | .int k :: cs, x, us, bs => ∃ u t, us = u :: t ∧ RepC (fun _ => False) w (.int k) x.1 u ∧ OwnCells w J cs x.2 t bs
 | .bool :: cs, x, us, bs => ∃ u t, us = u :: t ∧ RepC (fun _ => False) w .bool x.1 u ∧ OwnCells w J cs x.2 t bs
 | .str :: cs, x, us, bs => ∃ u t, us = u :: t ∧ RepC (fun _ => False) w .str x.1 u ∧ OwnCells w J cs x.2 t bs
theorem own_len {w : World} {J : Nat → Prop} : ∀ (cs : List CT) (x : CTs.V cs) (us : List Value) (bs : List Nat), OwnCells w J cs x us bs → us.length = cs.length
 | [], x, us, bs, h => by simp [OwnCells] at h; simp [h]
 | c :: cs, x, us, bs, h => by
  cases c with
  | sl e =>
   simp only [OwnCells] at h
   obtain ⟨hd, t, rfl, h | ⟨b, bt, _, _, h⟩⟩ := h
   ·simp [own_len cs _ _ _ h.2.2]
   ·simp [own_len cs _ _ _ h]
  | _ =>
   simp only [OwnCells] at h
   obtain ⟨u, t, rfl, _, h⟩ := h
   simp [own_len cs _ _ _ h]
def Grp (agg : Bool) (us : List Value) (v : Value) : Prop := match agg with | true => v = .agg us.toArray | false => us = [v]
def Grouped : List (Bool × List CT) → List Value → List Value → Prop
 | [], us, vs => us = [] ∧ vs = []
 | (agg, cs) :: r, us, vs => ∃ a b v rest, us = a ++ b ∧ a.length = cs.length ∧ vs = v :: rest ∧ Grp agg a v ∧ Grouped r b rest
def CapsRep (I : Nat → Prop) (w : World) : (caps : List (List CT)) → CTs.V (catL caps) → List Value → Prop
 | [], _, us => us = []
 | cs :: r, x, us => ∃ ad t, us = .pointer (some ad) :: t ∧ I ad.block ∧ RdC I w cs (splitV cs (catL r) x).1 ad ∧ CapsRep I w r (splitV cs (catL r) x).2 t
def ArgP (I J : Nat → Prop) (w : World) : (p : Par) → CTs.V p.cells → Value → List Nat → Prop
 | .v agg cs, x, v, bs => ∃ us, CellsRep I J w cs x us ∧ Grp agg us v ∧ bs = []
 | .r cs, x, v, bs => ∃ ad, v = .pointer (some ad) ∧ I ad.block ∧ RdC I w cs x ad ∧ bs = []
 | .cl h caps, x, v, bs => ∃ us, v = .func (.func h) #[] us.toArray ∧ CapsRep I w caps x us ∧ bs = []
 | .w agg cs, x, v, bs => ∃ us, OwnCells w J cs x us bs ∧ Grp agg us v
 | .c agg cs, x, v, bs => ∃ us, OwnCells w J cs x us bs ∧ Grp agg us v
 | .m cs, x, v, bs => ∃ b pre us post t bt, bs = b :: bt ∧ v = .pointer (some ⟨b, pre.length, none⟩) ∧ w.heap[b]? = some (.cells (pre ++ us ++ post).toArray t (0, 0)) ∧ OwnCells w J cs x us bt
def ArgsP (I J : Nat → Prop) (w : World) : (ins : List Par) → CTs.V (insC ins) → List Value → List Nat → Prop
 | [], _, vs, bs => vs = [] ∧ bs = []
 | p :: r, x, vs, bs => ∃ v t b1 b2, vs = v :: t ∧ bs = b1 ++ b2 ∧ ArgP I J w p (splitV p.cells (insC r) x).1 v b1 ∧ ArgsP I J w r (splitV p.cells (insC r) x).2 t b2
def IoP (w w' : World) (J : Nat → Prop) : (p : Par) → CTs.V p.io → Value → List Nat → Prop
 | .w agg cs, y, v, bs => ∃ us, Grp agg us v ∧ OwnCells w' J cs y us bs
 | .m cs, y, v, bs => ∃ b pre us0 us post t t' bt, bs = b :: bt ∧ v = .pointer (some ⟨b, pre.length, none⟩) ∧ w.heap[b]? = some (.cells (pre ++ us0 ++ post).toArray t (0, 0)) ∧ us0.length = cs.length ∧ w'.heap[b]? = some (.cells (pre ++ us ++ post).toArray t' (0, 0)) ∧ OwnCells w' J cs y us bt
 | .v _ _, _, _, bs => bs = []
 | .r _, _, _, bs => bs = []
 | .cl _ _, _, _, bs => bs = []
 | .c _ _, _, _, bs => bs = []
def IosP (w w' : World) (J : Nat → Prop) : (ins : List Par) → CTs.V (ioC ins) → List Value → List Nat → Prop
 | [], _, vs, bs => vs = [] ∧ bs = []
 | p :: r, y, vs, bs => ∃ v t b1 b2, vs = v :: t ∧ bs = b1 ++ b2 ∧ IoP w w' J p (splitV p.io (ioC r) y).1 v b1 ∧ IosP w w' J r (splitV p.io (ioC r) y).2 t b2
def oneOrTupV : List Value → Value
 | [v] => v
 | vs => .tuple vs.toArray
def Answer : Bool → World → World → List Nat → List Value → Ending → Prop
 | false, _, _, _, vs, e => e = .returned (oneOrTupV vs)
 | true, w, w', bs, vs, e => ∃ (b : Nat) (pr us po : List Value) (t : TypeId), vs = [.agg us.toArray] ∧ e = .returned (.pointer (some ⟨b, pr.length, none⟩)) ∧ w'.heap[b]? = some (.cells (pr ++ us ++ po).toArray t (0, 0)) ∧ w.heap.size ≤ b ∧ b ∉ bs
theorem grouped_nobox : ∀ {outs : List (Bool × List CT)} {us vs : List Value}, Grouped outs us vs → isBox outs = false ∧ outs1 outs = outs
 | outs, us, vs, h => by
  unfold isBox outs1
  split
  ·obtain ⟨_, b, _, rest, _, _, _, _, h⟩ := h
   obtain ⟨a, _, _, _, _, hl, _, hg, _⟩ := h
   have : a = [_] := hg
   rw [this] at hl
   simp at hl
  ·exact ⟨rfl, rfl⟩
def SumOK (Dr : Kn) (P : Program) (f : FuncId) (S : Summ) : Prop :=
 (∀ args w, (callFunc f args).run P w = .ok (.enter f args) w) ∧
 ∀ (w : World) (T : List Nat) (J : Nat → Prop) (x : CTs.V (insC S.ins)) (y : CTs.V (outC S.outs ++ ioC S.ins)) (vals avals : List Value),
  (∀ b, J b → b < w.heap.size ∧ b ∉ T) → T.Nodup → Dr.tab J w → ArgsP (fun b => b < w.heap.size ∧ b ∉ T) J w S.ins x vals T → S.F x = some y → Packed S.pack vals avals →
  Calls P f avals.toArray w fun e w' => Upd Dr w.heap.size T w w' ∧ ∃ us vs bs bs', Answer (isBox S.outs) w w' (bs ++ bs') vs e ∧ OwnCells w' J (outC S.outs) (splitV (outC S.outs) (ioC S.ins) y).1 us bs ∧ Grouped (outs1 S.outs) us vs ∧
   IosP w w' J S.ins (splitV (outC S.outs) (ioC S.ins) y).2 vals bs' ∧ (bs ++ bs').Nodup ∧ ∀ b ∈ bs ++ bs', b ∈ T ∨ w.heap.size ≤ b
theorem split_join : ∀ (cs ds : List CT) (x : CTs.V cs) (y : CTs.V ds), splitV cs ds (joinV cs ds x y) = (x, y)
 | [], ds, x, y => rfl
 | c :: cs, ds, x, y => by
  simp only [joinV, splitV]
  rw [split_join cs ds x.2 y]
  rfl
theorem inCell_own {e : List CT} {q : Nat} {y : List (CTs.V e)} (h : inCell ob (.sl e) (.own q) = some y) : ∃ e' xs, ob[q]? = some (.arr e' xs) ∧ castL e' e xs = some y := by
 have h' : (match ob[q]? with | some (.arr e' xs) => castL e' e xs | _ => none) = some y := h
 clear h
 split at h'
 ·rename_i e' xs hq
  exact ⟨e', xs, hq, h'⟩
 ·cases h'
theorem outCell_own {e : List CT} {q : Nat} {y : List (CTs.V e)} (h : outCell ob (.sl e) (.own q) = some y) : ∃ e' xs, ob[q]? = some (.arr e' xs) ∧ castL e' e xs = some y := by
 have h' : (match ob[q]? with | some (.arr e' xs) => castL e' e xs | _ => none) = some y := h
 clear h
 split at h'
 ·rename_i e' xs hq
  exact ⟨e', xs, hq, h'⟩
 ·cases h'
theorem inCell_ref {e : List CT} {q sz off len : Nat} {y : List (CTs.V e)} (h : inCell ob (.sl e) (.ref q sz off len) = some y) : ∃ e' xs, ob[q]? = some (.arr e' xs) ∧ off + len ≤ xs.length ∧ castL e' e ((xs.drop off).take len) = some y := by
 have h' : (match ob[q]? with | some (.arr e' xs) => if off + len ≤ xs.length then castL e' e ((xs.drop off).take len) else none | _ => none) = some y := h
 clear h
 split at h'
 ·rename_i e' xs hq
  split at h'
  ·rename_i hol
   exact ⟨e', xs, hq, hol, h'⟩
  ·cases h'
 ·cases h'
theorem inCell_ok {X : Cx Dr} {g : Gh} {w : World} (s : Sim X g ob w) {I' : Nat → Prop} (hI : ∀ b, X.I b → I' b) {c : CT} {p : PV} {y : c.V} {u : Value} (hro : ∀ o ∈ idsPV p, hasBlk g ob o → I' (g.A o)) (h : inCell ob c p = some y) (hr : RepV g ob.length X.I w p u) :
  cellRep I' g.J w c y u := by
 have old : ∀ {c : CT} {y : c.V}, CT.unpv c p = some y → RepC I' w c y u := fun h => RepC.keep hI (fun _ _ => rfl) _ _ _ (unpv_ok s.jI h hr)
 have fromSl : ∀ {e : List CT} {ys : List (CTs.V e)} (q : Nat) (e' : List CT) (xs : List (CTs.V e')), q ∈ idsPV p → ob[q]? = some (.arr e' xs) → SlAt X.I w e ys u → (∀ a c n, u = .slice (some a) n c → n ≠ 0 → a.block = g.A q) → (ys.length = 0 ∨ hasBlk g ob q) → RepC I' w (.sl e) ys u := by
  intro e ys q e' xs hq hob hs hblk hb
  obtain ⟨a, cap, k1, k2, k3⟩ := hs
  simp only [RepC]
  refine ⟨a, cap, k1, k2, ?_⟩
  by_cases h0 : ys.length = 0
  ·exact Or.inl h0
  rcases k3 with k3 | ⟨ad, rfl, k5⟩
  ·exact Or.inl k3
  ·refine Or.inr ⟨ad, rfl, ?_, fun i x hx => RdC.keep hI (fun _ _ => rfl) _ _ _ rfl (k5 i x hx)⟩
   rw [hblk ad cap _ k1 h0]
   rcases hb with hb | hb
   ·exact absurd hb h0
   ·exact hro q hq hb
 cases c with
 | int k =>
  have h' : CT.unpv (.int k) p = some y := by cases p <;> exact h
  exact old h'
 | bool =>
  have h' : CT.unpv .bool p = some y := by cases p <;> exact h
  exact old h'
 | str =>
  have h' : CT.unpv .str p = some y := by cases p <;> exact h
  exact old h'
 | sl e =>
  cases p with
  | own q =>
   have hsl := rdSl_ok s (e := e) (v := .own q) h hr
   obtain ⟨e', xs, hq, h'⟩ := inCell_own h
   simp only [RepV] at hr
   have hlen := castL_elim h' (fun e ys => ys.length = xs.length) rfl
   obtain ⟨k1, k2, kp, h3⟩ := s.arr q e' xs hq
   refine fromSl q e' xs (by simp [idsPV]) hq hsl ?_ ?_
   ·intro a c n hu hn
    rw [hr.2.1] at hu
    rcases h3 with h3 | ⟨_, cap, us, t', h3, _⟩
    ·obtain ⟨a', ha'⟩ := h3.2
     rw [ha'] at hu
     simp only [Value.slice.injEq] at hu
     omega
    ·rw [h3] at hu
     simp only [Value.slice.injEq, Option.some.injEq] at hu
     rw [← hu.1]
   ·rcases h3 with h3 | ⟨hne, _⟩
    ·exact Or.inl (by rw [hlen, h3.1]; rfl)
    ·exact Or.inr (Or.inr ⟨_, _, hq, hne⟩)
  | ref q sz off len =>
   have hsl := rdSl_ok s (e := e) (v := .ref q sz off len) h hr
   obtain ⟨e', xs, hq, hol, h'⟩ := inCell_ref h
   simp only [RepV] at hr
   obtain ⟨_, hsz, aq, l, c, a', c', hH, hu, hlc, h4⟩ := hr
   have hlen := castL_elim h' (fun e ys => ys.length = len) (by simp; omega)
   obtain ⟨k1, k2, kp, h3⟩ := s.arr q e' xs hq
   refine fromSl q e' xs (by simp [idsPV]) hq hsl ?_ ?_
   ·intro a c n hu' hn
    rw [hu] at hu'
    simp only [Value.slice.injEq] at hu'
    rcases h4 with h4 | ⟨ad, had, ha'⟩
    ·omega
    ·rcases h3 with h3 | ⟨_, cap, us, t', h3, _⟩
     ·have : xs.length = 0 := by rw [h3.1]; rfl
      omega
     ·rw [h3, had] at hH
      simp only [Value.slice.injEq, Option.some.injEq] at hH
      rw [ha'] at hu'
      have := Option.some.inj hu'.1
      rw [← this, ablk, ← hH.1]
   ·rcases h3 with h3 | ⟨hne, _⟩
    ·have : xs.length = 0 := by rw [h3.1]; rfl
     exact Or.inl (by rw [hlen]; omega)
    ·exact Or.inr (Or.inr ⟨_, _, hq, hne⟩)
  | _ => exact old h
 | sh e =>
  cases p with
  | sh e' xs =>
   have h' : castL e' e xs = some y := h
   simp only [RepV] at hr
   exact castL_elim h' (fun e ys => RepC g.J w (.sl e) ys u) hr
  | _ => cases h
theorem inV_ok {X : Cx Dr} {g : Gh} {w : World} (s : Sim X g ob w) {I' : Nat → Prop} (hI : ∀ b, X.I b → I' b) : ∀ (cs : List CT) (ps : List PV) (x : CTs.V cs) (us : List Value), (∀ o ∈ idsPVs ps, hasBlk g ob o → I' (g.A o)) → inV ob cs ps = some x → RepVs g ob.length X.I w ps us → CellsRep I' g.J w cs x us
 | [], [], x, us, _, h, hr => by simpa [RepVs, CellsRep] using hr
 | [], _ :: _, x, us, _, h, hr => by simp [inV] at h
 | _ :: _, [], x, us, _, h, hr => by simp [inV] at h
 | c :: cs, p :: ps, x, us, hro, h, hr => by
  simp only [inV] at h
  split at h
  ·rename_i y z h1 h2
   have := Option.some.inj h
   subst this
   simp only [RepVs] at hr
   obtain ⟨u, t, rfl, k1, k2⟩ := hr
   simp only [CellsRep]
   exact ⟨u, t, rfl, inCell_ok s hI (fun o ho => hro o (by simp [idsPVs, ho])) h1 k1, inV_ok s hI cs ps z t (fun o ho => hro o (by simp [idsPVs, ho])) h2 k2⟩
  ·cases h
theorem rdc_scalar {I I' : Nat → Prop} {w : World} : ∀ (e : List CT) (x : CTs.V e) (a : Addr), e.all CT.scalar = true → RdC I w e x a → RdC I' w e x a
 | [], _, _, _, _ => by simp [RdC]
 | c :: cs, x, a, h, hr => by
  simp only [List.all_cons, Bool.and_eq_true] at h
  simp only [RdC] at hr ⊢
  obtain ⟨⟨u, hu, hc⟩, hr⟩ := hr
  refine ⟨⟨u, hu, ?_⟩, rdc_scalar cs x.2 _ h.2 hr⟩
  cases c with
  | sl e => simp [CT.scalar] at h
  | sh e => simp [CT.scalar] at h
  | _ => simpa [RepC] using hc
theorem outV_ok {X : Cx Dr} {g : Gh} {w : World} (s : Sim X g ob w) : ∀ (cs : List CT) (ps : List PV) (y : CTs.V cs) (us : List Value), cs.all CT.flat = true → (idsPVs ps).Nodup → outV ob cs ps = some y → RepVs g ob.length X.I w ps us →
  ∃ bs, OwnCells w g.J cs y us bs ∧ bs.Nodup ∧ ∀ b ∈ bs, ∃ o ∈ idsPVs ps, hasBlk g ob o ∧ b = g.A o
 | [], [], y, us, _, _, h, hr => by
  simp only [RepVs] at hr
  exact ⟨[], by simp [OwnCells, hr], List.nodup_nil, by simp⟩
 | [], _ :: _, y, us, _, _, h, hr => by simp [outV] at h
 | _ :: _, [], y, us, _, _, h, hr => by simp [outV] at h
 | c :: cs, p :: ps, y, us, hf, hn, h, hr => by
  simp only [List.all_cons, Bool.and_eq_true] at hf
  simp only [outV] at h
  split at h <;> try (cases h; done)
  rename_i y1 y2 h1 h2
  have := Option.some.inj h
  subst this
  simp only [RepVs] at hr
  obtain ⟨u, t, rfl, hu, ht⟩ := hr
  simp only [idsPVs] at hn ⊢
  have hn2 := List.nodup_append.1 hn
  obtain ⟨bs, k1, k2, k3⟩ := outV_ok s cs ps y2 t hf.2 hn2.2.1 h2 ht
  have k3' : ∀ b ∈ bs, ∃ o ∈ idsPV p ++ idsPVs ps, hasBlk g ob o ∧ b = g.A o := fun b hb => by
   obtain ⟨o, ho, hk⟩ := k3 b hb
   exact ⟨o, List.mem_append.2 (Or.inr ho), hk⟩
  cases c with
  | sl e =>
   cases p with
   | own q =>
    obtain ⟨e', xs, hq, h'⟩ := outCell_own h1
    obtain ⟨he, hy⟩ := castL_ok h'
    subst he
    subst hy
    simp only [RepV] at hu
    obtain ⟨_, hu1, _⟩ := hu
    obtain ⟨_, _, _, ka⟩ := s.arr q e' _ hq
    rcases ka with ka | ⟨hne, cap, cells, te, n1, n2, n2', n3, n4, n5, n6⟩
    ·exact ⟨bs, by simp only [OwnCells]; exact ⟨u, t, rfl, Or.inl ⟨ka.1, by rw [hu1]; exact ka.2, k1⟩⟩, k2, k3'⟩
    ·have hbk : hasBlk g ob q := Or.inr ⟨_, _, hq, hne⟩
     refine ⟨g.A q :: bs, ?_, ?_, ?_⟩
     ·simp only [OwnCells]
      exact ⟨u, t, rfl, Or.inr ⟨g.A q, bs, rfl, ⟨by rw [hu1]; exact hne, cap, cells, te, by rw [hu1, n1], n2, n2', n3, n4, fun i x hx => rdc_scalar _ _ _ hf.1 (n5 i x hx)⟩, k1⟩⟩
     ·refine List.nodup_cons.2 ⟨fun hm => ?_, k2⟩
      obtain ⟨o, ho, hob, hA⟩ := k3 _ hm
      have := s.inj q o hbk hob hA
      subst this
      exact hn2.2.2 _ (by simp [idsPV]) _ ho rfl
     ·intro b hb'
      rcases List.mem_cons.1 hb' with rfl | hb'
      ·exact ⟨q, by simp [idsPV], hbk, rfl⟩
      ·exact k3' b hb'
   | nils =>
    have h3 : some ([] : List (CTs.V e)) = some y1 := h1
    have := Option.some.inj h3
    subst this
    simp only [RepV] at hu
    exact ⟨bs, ⟨u, t, rfl, Or.inl ⟨rfl, ⟨none, hu⟩, k1⟩⟩, k2, k3'⟩
   | emp =>
    have h3 : some ([] : List (CTs.V e)) = some y1 := h1
    have := Option.some.inj h3
    subst this
    simp only [RepV] at hu
    exact ⟨bs, ⟨u, t, rfl, Or.inl ⟨rfl, hu, k1⟩⟩, k2, k3'⟩
   | _ => cases h1
  | sh e =>
   cases p with
   | sh e' xs =>
    have h' : castL e' e xs = some y1 := h1
    simp only [RepV] at hu
    refine ⟨bs, ?_, k2, k3'⟩
    simp only [OwnCells]
    exact ⟨u, t, rfl, castL_elim h' (fun e ys => RepC g.J w (.sl e) ys u) hu, k1⟩
   | _ => cases h1
  | int k =>
   have h3 : CT.unpv (.int k) p = some y1 := by cases p <;> exact h1
   have := unpv_ok s.jI h3 hu
   exact ⟨bs, by simp only [OwnCells]; exact ⟨u, t, rfl, by simpa [RepC] using this, k1⟩, k2, k3'⟩
  | bool =>
   have h3 : CT.unpv .bool p = some y1 := by cases p <;> exact h1
   have := unpv_ok s.jI h3 hu
   exact ⟨bs, by simp only [OwnCells]; exact ⟨u, t, rfl, by simpa [RepC] using this, k1⟩, k2, k3'⟩
  | str =>
   have h3 : CT.unpv .str p = some y1 := by cases p <;> exact h1
   have := unpv_ok s.jI h3 hu
   exact ⟨bs, by simp only [OwnCells]; exact ⟨u, t, rfl, by simpa [RepC] using this, k1⟩, k2, k3'⟩
theorem grp_ok {g : Gh} {n : Nat} {I : Nat → Prop} {w : World} {b : Bool} {cs : List CT} {v : PV} {u : Value} {vs : List PV} (h : RepV g n I w v u) (hs : shape1 b cs v = true) (hf : flat v = some vs) : ∃ us, RepVs g n I w vs us ∧ Grp b us u ∧ us.length = cs.length := by
 obtain ⟨us, m1, m2⟩ := flat_ok h hf
 have hl := repvs_len _ _ m2
 refine ⟨us, m2, ?_⟩
 cases v <;> simp only [Rv.flat, Option.some.injEq] at hf <;> (try (simp [shape1] at hs; done)) <;> (try (cases hf; done))
 case agg ws =>
  subst hf
  simp only [shape1, Bool.and_eq_true, beq_iff_eq] at hs
  simp only [RepV] at h
  obtain ⟨us', rfl, _⟩ := h
  have : us' = us := by simpa [Value.cells] using m1
  subst this
  obtain ⟨rfl, hs2⟩ := hs
  exact ⟨rfl, by rw [hl]; exact hs2⟩
 all_goals
  subst hf
  simp only [shape1, Bool.and_eq_true, beq_iff_eq, Bool.not_eq_true'] at hs
  obtain ⟨rfl, hs2⟩ := hs
  simp only [RepVs] at m2
  obtain ⟨u', t', rfl, hu', rfl⟩ := m2
  have hone : u.cells = #[u] := by
   have := cell_one h rfl
   cases u <;> first | rfl | simp [Value.oneCell'] at this
  rw [hone] at m1
  have : u = u' := by simpa using m1
  subst this
  exact ⟨rfl, by simp [hs2]⟩
end Go.Rv
set_option linter.unusedVariables false
set_option linter.unusedSimpArgs false
namespace Go.Rv
open Go.RowKit
variable {Dr : Kn}
variable {R : Type} {P : Program} {tbl : Tbl} {env : Env} {ob : List Ob} {o : Oper} {K : PV → List Ob → Option R} {r : R}
theorem Sim.slot {X : Cx Dr} {g g' : Gh} {w : World} (s : Sim X g ob w) (hJ : g'.J = g.J) (ha : ∀ o, o < ob.length → Agree g g' o) : Sim X g' (ob ++ [Ob.dead]) w ∧ Keep g ob.length X.I w g' (ob ++ [Ob.dead]).length w := by
 have hk : Keep g ob.length X.I w g' (ob ++ [Ob.dead]).length w := ⟨by simp, ha, hJ, s.jI, fun _ _ => rfl⟩
 have old : ∀ (o : Nat) (Z : Ob), (ob ++ [Ob.dead])[o]? = some Z → Z = .dead ∨ (o < ob.length ∧ ob[o]? = some Z) := fun o Z h => by
  rcases Nat.lt_trichotomy o ob.length with h1 | h1 | h1
  ·rw [List.getElem?_append_left h1] at h; exact Or.inr ⟨h1, h⟩
  ·subst h1; simp at h; exact Or.inl h.symm
  ·rw [List.getElem?_eq_none (by simp; omega)] at h; simp at h
 have blk : ∀ o, hasBlk g' (ob ++ [Ob.dead]) o → o < ob.length ∧ hasBlk g ob o := fun o h => by
  rcases h with ⟨cells, h⟩ | ⟨e, xs, h, hn⟩
  ·rcases old o _ h with h1 | ⟨h1, h2⟩
   ·cases h1
   ·exact ⟨h1, Or.inl ⟨_, h2⟩⟩
  ·rcases old o _ h with h1 | ⟨h1, h2⟩
   ·cases h1
   ·rw [(ha o h1).H] at hn
    exact ⟨h1, Or.inr ⟨_, _, h2, hn⟩⟩
 refine ⟨⟨fun o cells h => ?_, fun o e xs h => ?_, fun o o' h h' e => ?_, fun o h => ?_, s.bnd, by rw [hJ]; exact s.jI, s.upd, s.bsz, by have := s.nle; simp; omega, fun o ho => (s.kept o ho).trans (ha o (by have := s.nle; omega)), by rw [hJ]; exact s.keptJ⟩, hk⟩
 ·rcases old o _ h with h1 | ⟨h1, h2⟩
  ·cases h1
  ·obtain ⟨us, t, k1, k2, k3, k4, k5⟩ := s.box o cells h2
   have ag := ha o h1
   exact ⟨us, t, by rw [ag.A, ag.pre, ag.post]; exact k1, RepVs.keep hk _ _ k2, by rw [ag.A]; exact k3, by rw [ag.S]; exact k4, by rw [ag.L]; exact k5⟩
 ·rcases old o _ h with h1 | ⟨h1, h2⟩
  ·cases h1
  ·obtain ⟨k1, k2, kp, k3⟩ := s.arr o e xs h2
   have ag := ha o h1
   refine ⟨by rw [ag.S]; exact k1, by rw [ag.L]; exact k2, by rw [ag.pre]; exact kp, ?_⟩
   unfold ArrAt at *
   rw [ag.A, ag.H]
   exact k3
 ·obtain ⟨h1, h2⟩ := blk o h
  obtain ⟨h3, h4⟩ := blk o' h'
  rw [(ha o h1).A, (ha o' h3).A] at e
  exact s.inj o o' h2 h4 e
 ·obtain ⟨h1, h2⟩ := blk o h
  rw [(ha o h1).A]
  exact s.base o h2
theorem Sim.revive {X : Cx Dr} {g : Gh} {w : World} (s : Sim X g ob w) {q : Nat} (hq : ob[q]? = some .dead) (Y : Ob)
  (hbox : ∀ cells, Y = .box cells → ∃ us t, w.heap[g.A q]? = some (.cells (g.pre q ++ us ++ g.post q).toArray t (0, 0)) ∧ RepVs g ob.length X.I w cells us ∧ ¬ X.I (g.A q) ∧ g.S q = 0 ∧ g.L q = 1)
  (harr : ∀ e xs, Y = .arr e xs → g.S q = e.length ∧ g.L q = xs.length ∧ g.pre q = [] ∧ ArrAt g X.I w q e xs)
  (hb : (∃ cells, Y = .box cells) ∨ (∃ e xs, Y = .arr e xs ∧ ¬ isEmp (g.H q)) → (X.B ≤ g.A q ∨ g.A q ∈ X.T) ∧ ∀ o, hasBlk g ob o → g.A o ≠ g.A q) :
  Sim X g (ob.set q Y) w := by
 have blk : ∀ o, hasBlk g (ob.set q Y) o → (o = q ∧ ((∃ cells, Y = .box cells) ∨ (∃ e xs, Y = .arr e xs ∧ ¬ isEmp (g.H q)))) ∨ (o ≠ q ∧ hasBlk g ob o) := fun o h => by
  rcases h with ⟨cells, h⟩ | ⟨e, xs, h, hn⟩
  ·rcases set_get h with ⟨h1, h2⟩ | ⟨h1, h2⟩
   ·exact Or.inl ⟨h1, Or.inl ⟨_, h2.symm⟩⟩
   ·exact Or.inr ⟨h1, Or.inl ⟨_, h2⟩⟩
  ·rcases set_get h with ⟨h1, h2⟩ | ⟨h1, h2⟩
   ·subst h1; exact Or.inl ⟨rfl, Or.inr ⟨_, _, h2.symm, hn⟩⟩
   ·exact Or.inr ⟨h1, Or.inr ⟨_, _, h2, hn⟩⟩
 refine ⟨fun o cells h => ?_, fun o e xs h => ?_, fun o o' h h' e => ?_, fun o h => ?_, s.bnd, s.jI, s.upd, s.bsz, by simpa using s.nle, s.kept, s.keptJ⟩
 ·rw [List.length_set]
  rcases set_get h with ⟨h1, h2⟩ | ⟨h1, h2⟩
  ·subst h1; exact hbox _ h2.symm
  ·exact s.box o cells h2
 ·rcases set_get h with ⟨h1, h2⟩ | ⟨h1, h2⟩
  ·subst h1; exact harr _ _ h2.symm
  ·exact s.arr o e xs h2
 ·rcases blk o h with ⟨h1, h2⟩ | ⟨h1, h2⟩ <;> rcases blk o' h' with ⟨h3, h4⟩ | ⟨h3, h4⟩
  ·rw [h1, h3]
  ·rw [h1] at e; exact absurd e.symm ((hb h2).2 o' h4)
  ·rw [h3] at e; exact absurd e ((hb h4).2 o h2)
  ·exact s.inj o o' h2 h4 e
 ·rcases blk o h with ⟨h1, h2⟩ | ⟨h1, h2⟩
  ·rw [h1]; exact (hb h2).1
  ·exact s.base o h2
theorem rep_pvT {g : Gh} {n : Nat} {I : Nat → Prop} {w : World} {c : CT} {x : c.V} {u : Value} (h : cellRep I g.J w c x u) : RepV g n I w (c.pvT x) u := by
 cases c <;> simpa [CT.pvT, RepV, RepC, cellRep] using h
theorem own_row {I : Nat → Prop} {w : World} {h : Value} {b : Nat} {e : List CT} {xs : List (CTs.V e)} (ho : OwnAt w h b e xs) (hI : ¬ I b) :
  ¬ isEmp h ∧ ∃ cap us t, h = .slice (some ⟨b, 0, none⟩) xs.length cap ∧ xs.length ≤ cap ∧ cap ≤ maxLen ∧ w.heap[b]? = some (.cells us t (0, 0)) ∧ us.size = cap * e.length ∧ (∀ i x, xs[i]? = some x → RdC I w e x ⟨b, i * e.length, none⟩) ∧ ¬ I b := by
 obtain ⟨h0, cap, us, t, h1, h2, h3, h4, h5, h6⟩ := ho
 exact ⟨h0, cap, us, t, h1, h2, h3, h4, h5, fun i x hx => RdC.keep (fun _ h => h.elim) (fun _ h => h.elim) _ _ _ rfl (h6 i x hx), hI⟩
theorem take_ok {X : Cx Dr} {w : World} {J : Nat → Prop} : ∀ (cs : List CT) (y : CTs.V cs) (us : List Value) (bs : List Nat) (g : Gh) (ob : List Ob), OwnCells w J cs y us bs → g.J = J → bs.Nodup →
  (∀ b ∈ bs, (X.B ≤ b ∨ b ∈ X.T) ∧ ¬ X.I b ∧ ∀ o, hasBlk g ob o → g.A o ≠ b) → Sim X g ob w →
  ∃ g', Sim X g' (ob ++ (takeOut cs y ob.length).2) w ∧ Keep g ob.length X.I w g' (ob ++ (takeOut cs y ob.length).2).length w ∧ RepVs g' (ob ++ (takeOut cs y ob.length).2).length X.I w (takeOut cs y ob.length).1 us ∧
   ∀ o, hasBlk g' (ob ++ (takeOut cs y ob.length).2) o → (o < ob.length ∧ hasBlk g ob o) ∨ g'.A o ∈ bs
 | [], y, us, bs, g, ob, h, hJ, hn, hd, s => by
  simp only [OwnCells] at h
  obtain ⟨rfl, rfl⟩ := h
  exact ⟨g, by simpa [takeOut] using s, by simpa [takeOut] using s.refl, by simp [takeOut, RepVs], fun o ho => by simp [takeOut] at ho; exact Or.inl ⟨ho.lt, ho⟩⟩
 | .sl e :: cs, y, us, bs, g, ob, h, hJ, hn, hd, s => by
  simp only [OwnCells] at h
  obtain ⟨hd', t, rfl, h⟩ := h
  have step : ∀ (b0 : Nat) (g1 : Gh), Sim X g1 (ob ++ [Ob.arr e y.1]) w → Keep g ob.length X.I w g1 (ob ++ [Ob.arr e y.1]).length w → (g1.H ob.length = hd') → (∃ a l c, hd' = .slice a l c) →
    (∀ o, hasBlk g1 (ob ++ [Ob.arr e y.1]) o → (o < ob.length ∧ hasBlk g ob o) ∨ g1.A o = b0) → ∀ bt, (∀ b ∈ bt, b ∈ bs) → (b0 ∈ bs ∨ ∀ o, hasBlk g1 (ob ++ [Ob.arr e y.1]) o → o < ob.length ∧ hasBlk g ob o) → OwnCells w J cs y.2 t bt → bt.Nodup → (∀ b ∈ bt, ∀ o, hasBlk g1 (ob ++ [Ob.arr e y.1]) o → g1.A o ≠ b) →
    ∃ g', Sim X g' (ob ++ (takeOut (.sl e :: cs) y ob.length).2) w ∧ Keep g ob.length X.I w g' (ob ++ (takeOut (.sl e :: cs) y ob.length).2).length w ∧ RepVs g' (ob ++ (takeOut (.sl e :: cs) y ob.length).2).length X.I w (takeOut (.sl e :: cs) y ob.length).1 (hd' :: t) ∧
     ∀ o, hasBlk g' (ob ++ (takeOut (.sl e :: cs) y ob.length).2) o → (o < ob.length ∧ hasBlk g ob o) ∨ g'.A o ∈ bs := by
   intro b0 g1 s1 k1 hH hsl hblk1 bt hsub hb0 ho hnb hdb
   obtain ⟨g2, s2, k2, r2, n2⟩ := take_ok cs y.2 t bt g1 (ob ++ [Ob.arr e y.1]) ho (by rw [k1.J, hJ]) hnb (fun b hb => ⟨(hd b (hsub b hb)).1, (hd b (hsub b hb)).2.1, hdb b hb⟩) s1
   have e1 : (ob ++ [Ob.arr e y.1]).length = ob.length + 1 := by simp
   rw [e1] at s2 k2 r2 n2
   have e2 : ob ++ [Ob.arr e y.1] ++ (takeOut cs y.2 (ob.length + 1)).2 = ob ++ (takeOut (.sl e :: cs) y ob.length).2 := by simp [takeOut]
   rw [e2] at s2 k2 r2 n2
   rw [e1] at k1
   refine ⟨g2, s2, k1.trans k2, ?_, fun o ho => ?_⟩
   ·have e3 : (takeOut (.sl e :: cs) y ob.length).1 = .own ob.length :: (takeOut cs y.2 (ob.length + 1)).1 := by simp [takeOut]
    rw [e3]
    simp only [RepVs]
    refine ⟨hd', t, rfl, ?_, r2⟩
    simp only [RepV]
    exact ⟨Nat.lt_of_lt_of_le (Nat.lt_succ_self _) k2.le, by rw [(k2.agr _ (Nat.lt_succ_self _)).H, hH], hsl⟩
   ·rcases n2 o ho with ⟨h1, h2⟩ | h1
    ·rcases hb0 with hb0 | hb0
     ·rcases hblk1 o h2 with h3 | h3
      ·exact Or.inl h3
      ·right; rw [(k2.agr o h1).A, h3]; exact hb0
     ·exact Or.inl (hb0 o h2)
    ·exact Or.inr (hsub _ h1)
  rcases h with ⟨hx, hemp, ho⟩ | ⟨b, bt, rfl, hown, ho⟩
  ·have hnew : ∀ o, hasBlk (g.push ob.length 0 hd' 0 e.length) (ob ++ [Ob.arr e y.1]) o → o < ob.length ∧ hasBlk g ob o := by
    rintro o (⟨cells, h⟩ | ⟨e', xs, h, hne⟩)
    ·rcases Nat.lt_trichotomy o ob.length with h1 | h1 | h1
     ·rw [List.getElem?_append_left h1] at h
      exact ⟨h1, Or.inl ⟨_, h⟩⟩
     ·subst h1; simp at h
     ·rw [List.getElem?_eq_none (by simp; omega)] at h; simp at h
    ·rcases Nat.lt_trichotomy o ob.length with h1 | h1 | h1
     ·rw [List.getElem?_append_left h1] at h
      simp only [Gh.push, Gh.pushP, if_neg (Nat.ne_of_lt h1)] at hne
      exact ⟨h1, Or.inr ⟨_, _, h, hne⟩⟩
     ·subst h1; simp [Gh.push, Gh.pushP] at hne; exact absurd hemp hne
     ·rw [List.getElem?_eq_none (by simp; omega)] at h; simp at h
   obtain ⟨a0, ha0⟩ := hemp
   refine step 0 (g.push ob.length 0 hd' 0 e.length) (s.add _ 0 _ _ _ (fun _ h => by cases h) ?_ ?_) (by simpa using Keep.push s.jI) (by simp [Gh.push, Gh.pushP]) ⟨_, _, _, ha0⟩ (fun o ho => Or.inl (hnew o ho)) bs (fun _ h => h) (Or.inr hnew) ho hn ?_
   ·intro e' xs hx'
    cases hx'
    exact ⟨rfl, by rw [show y.1 = [] from hx]; rfl, Or.inl ⟨hx, ⟨a0, ha0⟩⟩⟩
   ·rintro (⟨_, h⟩ | ⟨_, _, _, h⟩)
    ·cases h
    ·exact absurd ⟨a0, ha0⟩ h
   ·intro b hb o ho
    obtain ⟨h1, h2⟩ := hnew o ho
    rw [(push_agree (Nat.ne_of_lt h1)).A]
    exact (hd b hb).2.2 o h2
  ·obtain ⟨hb1, hb2, hb3⟩ := hd b (by simp)
   have hrow := own_row (I := X.I) hown hb2
   have hbt := List.nodup_cons.1 hn
   obtain ⟨hne, cap, cells, te, o1, o2, o2', o3, o4, o5, o6⟩ := hrow
   have hcase : ∀ o, hasBlk (g.push ob.length b hd' (lst e y.1).length e.length) (ob ++ [Ob.arr e y.1]) o → (o < ob.length ∧ hasBlk g ob o) ∨ (g.push ob.length b hd' (lst e y.1).length e.length).A o = b := by
    intro o h
    have hlt : o < ob.length ∨ o = ob.length := by have := h.lt; simp at this; omega
    rcases hlt with h1 | h1
    ·left
     refine ⟨h1, ?_⟩
     rcases h with ⟨c', h⟩ | ⟨e', xs, h, hne⟩
     ·rw [List.getElem?_append_left h1] at h; exact Or.inl ⟨_, h⟩
     ·rw [List.getElem?_append_left h1] at h
      simp only [Gh.push, Gh.pushP, if_neg (Nat.ne_of_lt h1)] at hne
      exact Or.inr ⟨_, _, h, hne⟩
    ·right; subst h1; simp [Gh.push, Gh.pushP]
   refine step b (g.push ob.length b hd' (lst e y.1).length e.length) (s.add _ b _ _ _ (fun _ h => by cases h) ?_ ?_) (by simpa using Keep.push s.jI) (by simp [Gh.push, Gh.pushP]) ⟨_, _, _, o1⟩ hcase bt (fun _ h => List.mem_cons_of_mem _ h) (Or.inl (by simp)) ho hbt.2 ?_
   ·intro e' xs hx'
    cases hx'
    exact ⟨rfl, rfl, Or.inr ⟨hne, cap, cells, te, o1, o2, o2', o3, o4, o5, o6⟩⟩
   ·intro _
    exact ⟨hb1, hb3⟩
   ·intro b' hb' o ho
    rcases hcase o ho with ⟨h1, h2⟩ | h1
    ·rw [(push_agree (Nat.ne_of_lt h1)).A]
     exact (hd b' (List.mem_cons_of_mem _ hb')).2.2 o h2
    ·rw [h1]
     intro e'
     exact hbt.1 (e' ▸ hb')
 | .sh e :: cs, y, us, bs, g, ob, h, hJ, hn, hd, s => by
  simp only [OwnCells] at h
  obtain ⟨u, t, rfl, hr, ho⟩ := h
  obtain ⟨g', s', k', r', n'⟩ := take_ok cs y.2 t bs g ob ho hJ hn hd s
  refine ⟨g', s', k', ?_, n'⟩
  simp only [takeOut, RepVs]
  exact ⟨u, t, rfl, by simp only [CT.pvT, RepV]; rw [k'.J, hJ]; exact hr, r'⟩
 | .int k :: cs, y, us, bs, g, ob, h, hJ, hn, hd, s => by
  simp only [OwnCells] at h
  obtain ⟨u, t, rfl, hr, ho⟩ := h
  obtain ⟨g', s', k', r', n'⟩ := take_ok cs y.2 t bs g ob ho hJ hn hd s
  refine ⟨g', s', k', ?_, n'⟩
  simp only [takeOut, RepVs]
  exact ⟨u, t, rfl, by simpa [CT.pvT, RepV, RepC] using hr, r'⟩
 | .bool :: cs, y, us, bs, g, ob, h, hJ, hn, hd, s => by
  simp only [OwnCells] at h
  obtain ⟨u, t, rfl, hr, ho⟩ := h
  obtain ⟨g', s', k', r', n'⟩ := take_ok cs y.2 t bs g ob ho hJ hn hd s
  refine ⟨g', s', k', ?_, n'⟩
  simp only [takeOut, RepVs]
  exact ⟨u, t, rfl, by simpa [CT.pvT, RepV, RepC] using hr, r'⟩
 | .str :: cs, y, us, bs, g, ob, h, hJ, hn, hd, s => by
  simp only [OwnCells] at h
  obtain ⟨u, t, rfl, hr, ho⟩ := h
  obtain ⟨g', s', k', r', n'⟩ := take_ok cs y.2 t bs g ob ho hJ hn hd s
  refine ⟨g', s', k', ?_, n'⟩
  simp only [takeOut, RepVs]
  exact ⟨u, t, rfl, by simpa [CT.pvT, RepV, RepC] using hr, r'⟩
theorem regroup_ok {g : Gh} {n : Nat} {I : Nat → Prop} {w : World} : ∀ (outs : List (Bool × List CT)) (ps : List PV) (us vs : List Value) (res : List PV), RepVs g n I w ps us → Grouped outs us vs → regroup outs ps = some res → RepVs g n I w res vs
 | [], ps, us, vs, res, h, hg, hr => by
  simp only [Grouped] at hg
  simp only [regroup, Option.some.injEq] at hr
  subst hr
  simp [RepVs, hg.2]
 | (b, cs) :: r, ps, us, vs, res, h, hg, hr => by
  simp only [Grouped] at hg
  obtain ⟨a, c, v, rest, rfl, hl, rfl, hv, hg⟩ := hg
  simp only [regroup] at hr
  have hd := repvs_drop _ _ cs.length h
  have ht := repvs_take _ _ cs.length h
  rw [← hl, List.drop_left] at hd
  rw [← hl, List.take_left] at ht
  rw [← hl] at hr
  split at hr
  ·rename_i rest' hrr
   have ih := regroup_ok r _ _ rest rest' hd hg hrr
   split at hr
   ·obtain rfl := Option.some.inj hr
    simp only [RepVs]
    exact ⟨v, rest, rfl, by simp only [RepV]; exact ⟨_, hv, ht⟩, ih⟩
   ·rename_i pv hp
    obtain rfl := Option.some.inj hr
    rw [hp] at ht
    simp only [RepVs] at ht
    obtain ⟨u, t, h1, h2, h3⟩ := ht
    have hv' : a = [v] := hv
    rw [hv'] at h1
    simp only [List.cons.injEq] at h1
    simp only [RepVs]
    exact ⟨v, rest, rfl, by rw [h1.1]; exact h2, ih⟩
   ·cases hr
  ·cases hr
theorem oneOrTup_ok {g : Gh} {n : Nat} {I : Nat → Prop} {w : World} (res : List PV) (vs : List Value) (h : RepVs g n I w res vs) : RepV g n I w (oneOrTup res) (oneOrTupV vs) := by
 match res, vs, h with
 | [], vs, h =>
  simp only [RepVs] at h
  subst h
  simp only [oneOrTup, oneOrTupV, RepV]
  exact ⟨[], rfl, by simp [RepVs]⟩
 | [p], vs, h =>
  simp only [RepVs] at h
  obtain ⟨u, t, rfl, h1, rfl⟩ := h
  exact h1
 | p :: q :: r, vs, h =>
  have h' := h
  simp only [RepVs] at h
  obtain ⟨u, t, rfl, h1, u2, t2, rfl, h2, h3⟩ := h
  simp only [oneOrTup, oneOrTupV, RepV]
  exact ⟨_, rfl, h'⟩
end Go.Rv
set_option linter.unusedVariables false
set_option linter.unusedSimpArgs false
namespace Go.Rv
open Go.RowKit
variable {Dr : Kn}
variable {R : Type} {P : Program} {tbl : Tbl} {env : Env} {ob : List Ob} {o : Oper} {K : PV → List Ob → Option R} {r : R}
theorem ids_app : ∀ (a b : List PV), idsPVs (a ++ b) = idsPVs a ++ idsPVs b
 | [], b => rfl
 | v :: r, b => by simp [idsPVs, ids_app r b]
theorem flat_ids {v : PV} {vs : List PV} (h : flat v = some vs) : idsPVs vs = idsPV v := by
 cases v <;> simp only [flat, Option.some.injEq] at h <;> (try (cases h; done)) <;> subst h <;> simp [idsPV, idsPVs]
theorem rdc_of_cells {I J : Nat → Prop} {w : World} (hJ : ∀ b, J b → I b) : ∀ (cs : List CT) (x : CTs.V cs) (us : List Value) (ad : Addr), CellsRep I J w cs x us → (∀ i u, us[i]? = some u → w.cell? (ad.add i) = some u) → RdC I w cs x ad
 | [], x, us, ad, h, hc => by simp [RdC]
 | c :: cs, x, us, ad, h, hc => by
  simp only [CellsRep] at h
  obtain ⟨u, t, rfl, h1, h2⟩ := h
  simp only [RdC]
  refine ⟨⟨u, by simpa [Addr.add] using hc 0 u rfl, ?_⟩, rdc_of_cells hJ cs x.2 t _ h2 fun i z hz => by
   have := hc (i + 1) z (by simpa using hz)
   rw [aadd, Nat.add_comm]; exact this⟩
  cases c with
  | sh e =>
   have := RepC.keep hJ (fun _ _ => rfl) _ _ _ h1
   simpa only [RepC] using this
  | _ => exact h1
theorem getN_ids (e : List CT) (x : CTs.V e) : ∀ (n j : Nat) (vs : List PV), getN e x j n = some vs → idsPVs vs = []
 | 0, j, vs, h => by simp only [getN, Option.some.injEq] at h; subst h; rfl
 | n + 1, j, vs, h => by
  simp only [getN] at h
  split at h <;> try (cases h; done)
  rename_i v r h1 h2
  obtain rfl := Option.some.inj h
  simp only [idsPVs, getN_ids e x n (j + 1) r h2, List.append_nil]
  have hg : ∀ (e : List CT) (x : CTs.V e) (j : Nat) (v : PV), CTs.get e x j = some v → idsPV v = [] := by
   intro e
   induction e with
   | nil => intro x j v h; simp [CTs.get] at h
   | cons c cs ih =>
    intro x j v h
    cases j with
    | zero =>
     simp only [CTs.get, Option.some.injEq] at h
     subst h
     cases c <;> simp [CT.pv, idsPV]
    | succ j => exact ih x.2 j v h
  exact hg e x j v h1
theorem cellsAt_ok {X : Cx Dr} {g : Gh} {w : World} (s : Sim X g ob w) {n : Nat} {v : PV} {u : Value} {cells : List PV} (h : cellsAt ob n v = some cells) (hr : RepV g ob.length X.I w v u) :
  ∃ ad us, u = .pointer (some ad) ∧ RepVs g ob.length X.I w cells us ∧ us.length = n ∧ (∀ i z, us[i]? = some z → w.cell? (ad.add i) = some z) ∧ (X.I ad.block ∨ ∃ q ∈ idsPV v, hasBlk g ob q ∧ ad.block = g.A q) := by
 cases v with
 | ptr q i sz j =>
  have h' : (match ob[q]? with | some (.box cells) => if i = 0 ∧ j + n ≤ cells.length then some ((cells.drop j).take n) else none | _ => none) = some cells := h
  clear h
  split at h' <;> try (cases h'; done)
  rename_i cs hq
  split at h' <;> try (cases h'; done)
  rename_i hc
  obtain ⟨hi, hb⟩ := hc
  obtain rfl := Option.some.inj h'
  obtain ⟨us, t, h1, h2, h3⟩ := box_at (N := 0) s hq hi hr
  have hlen := repvs_len _ _ h3
  refine ⟨_, (us.drop j).take n, h1, repvs_take _ _ _ (repvs_drop _ _ _ h3), by simp; omega, fun k z hz => ?_, Or.inr ⟨q, by simp [idsPV], Or.inl ⟨_, hq⟩, rfl⟩⟩
  rw [aat]
  have hk : k < n := by
   rcases Nat.lt_or_ge k n with h | h
   ·exact h
   ·rw [List.getElem?_eq_none (by simp; omega)] at hz; simp at hz
  rw [List.getElem?_take_of_lt hk, List.getElem?_drop] at hz
  rw [Nat.add_assoc]
  exact box_cell (X := X) h2 hz
 | eptr e x j =>
  have h' : getN e x j n = some cells := h
  simp only [RepV] at hr
  obtain ⟨ad, h1, h2, h3⟩ := hr
  obtain ⟨us, m1, m2, m3⟩ := getN_ok e _ _ h3 n j cells h'
  exact ⟨_, us, h1, m2 _ _, m1, fun k z hz => by rw [aadd]; exact m3 k z hz, Or.inl (by rw [ablk]; exact h2)⟩
 | _ => cases h
theorem cellsRep_app {I J : Nat → Prop} {w : World} : ∀ (cs ds : List CT) (x : CTs.V (cs ++ ds)) (a b : List Value), a.length = cs.length → CellsRep I J w (cs ++ ds) x (a ++ b) → CellsRep I J w cs (splitV cs ds x).1 a ∧ CellsRep I J w ds (splitV cs ds x).2 b
 | [], ds, x, a, b, hl, h => by
  have : a = [] := List.eq_nil_of_length_eq_zero hl
  subst this
  exact ⟨rfl, h⟩
 | c :: cs, ds, x, a, b, hl, h => by
  cases a with
  | nil => simp at hl
  | cons v a =>
   have h' : ∃ u t, v :: a ++ b = u :: t ∧ cellRep I J w c x.1 u ∧ CellsRep I J w (cs ++ ds) x.2 t := h
   obtain ⟨u, t, h1, h2, h3⟩ := h'
   simp only [List.cons_append, List.cons.injEq] at h1
   obtain ⟨rfl, rfl⟩ := h1
   obtain ⟨k1, k2⟩ := cellsRep_app cs ds x.2 a b (by simpa using hl) h3
   exact ⟨⟨_, _, rfl, h2, k1⟩, k2⟩
theorem capsAt_ok {X : Cx Dr} {g : Gh} {w : World} (s : Sim X g ob w) {I' : Nat → Prop} (hI : ∀ b, X.I b → I' b) : ∀ (caps : List (List CT)) (ps : List PV) (us : List Value) (cells : List PV) (x : CTs.V (catL caps)), capsAt ob caps ps = some cells → RepVs g ob.length X.I w ps us →
  (∀ o ∈ idsPVs ps ++ idsPVs cells, hasBlk g ob o → I' (g.A o)) → inV ob (catL caps) cells = some x → CapsRep I' w caps x us
 | [], [], us, cells, x, h, hr, hro, hx => by
  simp only [RepVs] at hr
  simp [CapsRep, hr]
 | [], _ :: _, us, cells, x, h, hr, hro, hx => by simp [capsAt] at h
 | _ :: _, [], us, cells, x, h, hr, hro, hx => by simp [capsAt] at h
 | cs :: r, v :: vs, us, cells, x, h, hr, hro, hx => by
  simp only [capsAt] at h
  split at h <;> try (cases h; done)
  rename_i c1 c2 h1 h2
  obtain rfl := Option.some.inj h
  simp only [RepVs] at hr
  obtain ⟨u, t, rfl, r1, r2⟩ := hr
  obtain ⟨ad, us1, k1, k2, k3, k4, k5⟩ := cellsAt_ok s h1 r1
  have hlc : c1.length = cs.length := by rw [← repvs_len _ _ k2, k3]
  have inV_app : ∀ (as bs : List CT) (p q : List PV) (z : CTs.V (as ++ bs)), p.length = as.length → inV ob (as ++ bs) (p ++ q) = some z → inV ob as p = some (splitV as bs z).1 ∧ inV ob bs q = some (splitV as bs z).2 := by
   intro as
   induction as with
   | nil =>
    intro bs p q z hl hz
    have : p = [] := List.eq_nil_of_length_eq_zero hl
    subst this
    exact ⟨rfl, hz⟩
   | cons c as ih =>
    intro bs p q z hl hz
    cases p with
    | nil => simp at hl
    | cons p0 p =>
     have hz' : inV ob (c :: (as ++ bs)) (p0 :: (p ++ q)) = some z := hz
     simp only [inV] at hz'
     split at hz' <;> try (cases hz'; done)
     rename_i y ys e1 e2
     obtain rfl := Option.some.inj hz'
     obtain ⟨k1, k2⟩ := ih bs p q ys (by simpa using hl) e2
     refine ⟨?_, k2⟩
     simp only [inV, e1, k1]
     rfl
  obtain ⟨x1, x2⟩ := inV_app cs (catL r) c1 c2 x hlc hx
  simp only [idsPVs, ids_app] at hro
  have hc := inV_ok s hI cs c1 _ us1 (fun o ho => hro o (by simp [ho])) x1 k2
  simp only [CapsRep]
  refine ⟨ad, t, by rw [k1], ?_, rdc_of_cells (fun b hb => hI b (s.jI b hb)) cs _ us1 ad hc k4, capsAt_ok s hI r vs t c2 _ h2 r2 (fun o ho => hro o ?_) x2⟩
  ·rcases k5 with k5 | ⟨q, hq, hb, he⟩
   ·exact hI _ k5
   ·rw [he]; exact hro q (by simp [hq]) hb
  ·rcases List.mem_append.1 ho with ho | ho <;> simp [ho]
theorem inP_ok {X : Cx Dr} {g : Gh} {w : World} (s : Sim X g ob w) (p : Par) (v : PV) (x : CTs.V p.cells) (u : Value) (hok : p.ok = true) (h : inP ob p v = some x) (hr : RepV g ob.length X.I w v u) (hnd : (ioId1 ob p v).Nodup) :
  ∃ bs, bs.Nodup ∧ (∀ b ∈ bs, ∃ o ∈ ioId1 ob p v, hasBlk g ob o ∧ b = g.A o) ∧ ∀ I', (∀ b, X.I b → I' b) → (∀ o ∈ roId1 ob p v, hasBlk g ob o → I' (g.A o)) → ArgP I' g.J w p x u bs := by
 have ownCase : ∀ (b : Bool) (cs : List CT) (x : CTs.V cs), cs.all CT.flat = true → (idsPV v).Nodup → (if shape1 b cs v = true then (flat v).bind (outV ob cs) else none) = some x →
   ∃ bs, bs.Nodup ∧ (∀ b ∈ bs, ∃ o ∈ idsPV v, hasBlk g ob o ∧ b = g.A o) ∧ ∃ us, OwnCells w g.J cs x us bs ∧ Grp b us u := by
  intro b cs x hf hnd h
  split at h <;> try (cases h; done)
  rename_i hsh
  obtain ⟨vs, h1, h2⟩ := Option.bind_eq_some_iff.1 h
  obtain ⟨us, k1, k2, k3⟩ := grp_ok hr hsh h1
  have hids := flat_ids h1
  obtain ⟨bs, m1, m2, m3⟩ := outV_ok s cs vs x us hf (by rw [hids]; exact hnd) h2 k1
  rw [hids] at m3
  exact ⟨bs, m2, m3, us, m1, k2⟩
 cases p with
 | v b cs =>
  have h' : (if shape1 b cs v = true then (flat v).bind (inV ob cs) else none) = some x := h
  clear h
  split at h' <;> try (cases h'; done)
  rename_i hsh
  obtain ⟨vs, h1, h2⟩ := Option.bind_eq_some_iff.1 h'
  obtain ⟨us, k1, k2, k3⟩ := grp_ok hr hsh h1
  refine ⟨[], List.nodup_nil, by simp, fun I' hI hro => ⟨us, inV_ok s hI cs vs x us (fun o ho => hro o (by rw [flat_ids h1] at ho; exact ho)) h2 k1, k2, rfl⟩⟩
 | r cs =>
  have h' : (cellsAt ob cs.length v).bind (inV ob cs) = some x := h
  clear h
  obtain ⟨vs, h1, h2⟩ := Option.bind_eq_some_iff.1 h'
  obtain ⟨ad, us, k1, k2, k3, k4, k5⟩ := cellsAt_ok s h1 hr
  refine ⟨[], List.nodup_nil, by simp, fun I' hI hro => ⟨ad, k1, ?_, ?_, rfl⟩⟩
  ·rcases k5 with k5 | ⟨q, hq, hb, he⟩
   ·exact hI _ k5
   ·rw [he]; exact hro q (List.mem_append.2 (Or.inl hq)) hb
  ·exact rdc_of_cells (fun b hb => hI b (s.jI b hb)) cs x us ad (inV_ok s hI cs vs x us (fun o ho => hro o (List.mem_append.2 (Or.inr (by rw [h1]; exact ho)))) h2 k2) k4
 | cl f caps =>
  cases v with
  | fn f' ps =>
   have h' : (if f = f' then (capsAt ob caps ps).bind (inV ob (catL caps)) else none) = some x := h
   clear h
   split at h' <;> try (cases h'; done)
   rename_i hf
   subst hf
   obtain ⟨vs, h1, h2⟩ := Option.bind_eq_some_iff.1 h'
   simp only [RepV] at hr
   obtain ⟨us, k1, k2⟩ := hr
   refine ⟨[], List.nodup_nil, by simp, fun I' hI hro => ⟨us, k1, capsAt_ok s hI caps ps us vs x h1 k2 (fun o ho => hro o ?_) h2, rfl⟩⟩
   show o ∈ idsPVs ps ++ idsPVs ((capsAt ob caps ps).getD [])
   rw [h1]
   exact ho
  | _ => cases h
 | w b cs =>
  obtain ⟨bs, k1, k2, us, k3, k4⟩ := ownCase b cs x hok hnd h
  exact ⟨bs, k1, k2, fun _ _ _ => ⟨us, k3, k4⟩⟩
 | c b cs =>
  obtain ⟨bs, k1, k2, us, k3, k4⟩ := ownCase b cs x hok hnd h
  exact ⟨bs, k1, k2, fun _ _ _ => ⟨us, k3, k4⟩⟩
 | m cs =>
  cases v with
  | ptr q i sz j =>
   have h' : (cellsAt ob cs.length (.ptr q i sz j)).bind (outV ob cs) = some x := h
   clear h
   obtain ⟨vs, h1, h2⟩ := Option.bind_eq_some_iff.1 h'
   have h1' : (match ob[q]? with | some (.box cells) => if i = 0 ∧ j + cs.length ≤ cells.length then some ((cells.drop j).take cs.length) else none | _ => none) = some vs := h1
   split at h1' <;> try (cases h1'; done)
   rename_i cells hq
   split at h1' <;> try (cases h1'; done)
   rename_i hc
   obtain ⟨hi, hb⟩ := hc
   obtain rfl := Option.some.inj h1'
   obtain ⟨us, t, m1, m2, m3⟩ := box_at (N := 0) s hq hi hr
   have hlen := repvs_len _ _ m3
   have hnd' : (q :: idsPVs ((cells.drop j).take cs.length)).Nodup := by
    have : ioId1 ob (.m cs) (.ptr q i sz j) = q :: idsPVs ((cells.drop j).take cs.length) := by
     show q :: idsPVs ((cellsAt ob cs.length (.ptr q i sz j)).getD []) = _
     rw [h1]; rfl
    rw [this] at hnd
    exact hnd
   have hio : ioId1 ob (.m cs) (.ptr q i sz j) = q :: idsPVs ((cells.drop j).take cs.length) := by
    show q :: idsPVs ((cellsAt ob cs.length (.ptr q i sz j)).getD []) = _
    rw [h1]; rfl
   have hnd2 := List.nodup_cons.1 hnd'
   obtain ⟨bs, n1, n2, n3⟩ := outV_ok s cs _ x _ hok hnd2.2 h2 (repvs_take _ _ cs.length (repvs_drop _ _ j m3))
   have hbq : hasBlk g ob q := Or.inl ⟨_, hq⟩
   refine ⟨g.A q :: bs, List.nodup_cons.2 ⟨fun hm => ?_, n2⟩, fun b hb' => ?_, fun I' hI hro => ?_⟩
   ·obtain ⟨o, ho, hob, hA⟩ := n3 _ hm
    have := s.inj q o hbq hob hA
    subst this
    exact hnd2.1 ho
   ·rw [hio]
    rcases List.mem_cons.1 hb' with rfl | hb'
    ·exact ⟨q, by simp, hbq, rfl⟩
    ·obtain ⟨o, ho, hk⟩ := n3 b hb'
     exact ⟨o, List.mem_cons_of_mem _ ho, hk⟩
   ·refine ⟨g.A q, g.pre q ++ us.take j, (us.drop j).take cs.length, us.drop (j + cs.length) ++ g.post q, t, bs, rfl, ?_, ?_, n1⟩
    ·rw [m1]
     congr 2
     simp; omega
    ·rw [m2]
     have : us = us.take j ++ (us.drop j).take cs.length ++ us.drop (j + cs.length) := by
      rw [List.append_assoc, ← List.drop_drop, List.take_append_drop, List.take_append_drop]
     conv => lhs; rw [this]
     simp only [List.append_assoc]
  | _ => cases h
theorem inIns_ok {X : Cx Dr} {g : Gh} {w : World} (s : Sim X g ob w) : ∀ (ins : List Par) (ps : List PV) (x : CTs.V (insC ins)) (us : List Value), ins.all Par.ok = true → inIns ob ins ps = some x → RepVs g ob.length X.I w ps us → (ioIds ob ins ps).Nodup →
  ∃ bs, bs.Nodup ∧ (∀ b ∈ bs, ∃ o ∈ ioIds ob ins ps, hasBlk g ob o ∧ b = g.A o) ∧ ∀ I', (∀ b, X.I b → I' b) → (∀ o ∈ roIds ob ins ps, hasBlk g ob o → I' (g.A o)) → ArgsP I' g.J w ins x us bs
 | [], [], x, us, hok, h, hr, hnd => by
  simp only [RepVs] at hr
  exact ⟨[], List.nodup_nil, by simp, fun _ _ _ => ⟨hr, rfl⟩⟩
 | [], _ :: _, x, us, hok, h, hr, hnd => by simp [inIns] at h
 | _ :: _, [], x, us, hok, h, hr, hnd => by simp [inIns] at h
 | p :: r, v :: vs, x, us, hok, h, hr, hnd => by
  simp only [inIns] at h
  split at h <;> try (cases h; done)
  rename_i a b h1 h2
  obtain rfl := Option.some.inj h
  simp only [RepVs] at hr
  obtain ⟨u, t, rfl, r1, r2⟩ := hr
  simp only [List.all_cons, Bool.and_eq_true] at hok
  simp only [ioIds] at hnd ⊢
  simp only [roIds]
  have hn2 := List.nodup_append.1 hnd
  obtain ⟨b1, k1, k2, k3⟩ := inP_ok s p v a u hok.1 h1 r1 hn2.1
  obtain ⟨b2, m1, m2, m3⟩ := inIns_ok s r vs b t hok.2 h2 r2 hn2.2.1
  refine ⟨b1 ++ b2, List.nodup_append.2 ⟨k1, m1, fun a1 ha1 a2 ha2 e => ?_⟩, fun z hz => ?_, fun I' hI hro => ?_⟩
  ·obtain ⟨o1, p1, q1, e1⟩ := k2 a1 ha1
   obtain ⟨o2, p2, q2, e2⟩ := m2 a2 ha2
   have := s.inj o1 o2 q1 q2 (by rw [← e1, ← e2, e])
   exact hn2.2.2 _ p1 _ p2 this
  ·rcases List.mem_append.1 hz with hz | hz
   ·obtain ⟨o, ho, hk⟩ := k2 z hz
    exact ⟨o, List.mem_append.2 (Or.inl ho), hk⟩
   ·obtain ⟨o, ho, hk⟩ := m2 z hz
    exact ⟨o, List.mem_append.2 (Or.inr ho), hk⟩
  ·simp only [ArgsP, split_join]
   exact ⟨u, t, b1, b2, rfl, rfl, k3 I' hI fun o ho => hro o (List.mem_append.2 (Or.inl ho)), m3 I' hI fun o ho => hro o (List.mem_append.2 (Or.inr ho))⟩
end Go.Rv
set_option linter.unusedVariables false
set_option linter.unusedSimpArgs false
namespace Go.Rv
open Go.RowKit
variable {Dr : Kn}
variable {R : Type} {P : Program} {tbl : Tbl} {env : Env} {ob : List Ob} {o : Oper} {K : PV → List Ob → Option R} {r : R}
theorem outCell_sl {e : List CT} {v : PV} {y : List (CTs.V e)} (h : outCell ob (.sl e) v = some y) : (∃ q, v = .own q) ∨ v = .nils ∨ v = .emp := by
 cases v with
 | own q => exact Or.inl ⟨q, rfl⟩
 | nils => exact Or.inr (Or.inl rfl)
 | emp => exact Or.inr (Or.inr rfl)
 | _ => cases h
theorem outV_cons {c : CT} {cs : List CT} {p : PV} {ps : List PV} {y : CTs.V (c :: cs)} (h : outV ob (c :: cs) (p :: ps) = some y) : outCell ob c p = some y.1 ∧ outV ob cs ps = some y.2 := by
 simp only [outV] at h
 split at h <;> try (cases h; done)
 rename_i y1 y2 h1 h2
 obtain rfl := Option.some.inj h
 exact ⟨h1, h2⟩
theorem outV_scalar_ids {c : CT} {p : PV} {y : c.V} (h : outCell ob c p = some y) (hc : ∀ e, c ≠ .sl e) : idsPV p = [] := by
 cases c with
 | sl e => exact absurd rfl (hc e)
 | sh e => cases p <;> first | rfl | cases h
 | _ => cases p <;> first | rfl | cases h
theorem rows_back {X : Cx Dr} {g0 gc : Gh} {ob0 : List Ob} {w w' : World} (s0 : Sim X g0 ob0 w) (ha : ∀ o, o < ob0.length → Agree g0 gc o) : ∀ (cs : List CT) (x0 y : CTs.V cs) (vs : List PV) (us : List Value) (bs : List Nat) (obc : List Ob), Sim X gc obc w' →
  RepVs g0 ob0.length X.I w vs us → outV ob0 cs vs = some x0 → OwnCells w' g0.J cs y us bs → (idsPVs vs).Nodup → (∀ o ∈ idsPVs vs, obc[o]? = some .dead) → bs.Nodup → (∀ b ∈ bs, (X.B ≤ b ∨ b ∈ X.T) ∧ ¬ X.I b ∧ ∀ o, hasBlk gc obc o → gc.A o ≠ b) →
  Sim X gc (setRows cs y vs obc) w' ∧ (setRows cs y vs obc).length = obc.length ∧ (∀ o, hasBlk gc (setRows cs y vs obc) o → hasBlk gc obc o ∨ gc.A o ∈ bs) ∧ ∀ o, o ∉ idsPVs vs → (setRows cs y vs obc)[o]? = obc[o]?
 | [], x0, y, vs, us, bs, obc, s, hr, hx, ho, hnd, hdead, hbn, hb => by
  have : setRows [] y vs obc = obc := by cases vs <;> rfl
  rw [this]
  exact ⟨s, rfl, fun o h => Or.inl h, fun _ _ => rfl⟩
 | c :: cs, x0, y, [], us, bs, obc, s, hr, hx, ho, hnd, hdead, hbn, hb => by simp [outV] at hx
 | c :: cs, x0, y, v :: vs, us, bs, obc, s, hr, hx, ho, hnd, hdead, hbn, hb => by
  obtain ⟨hx1, hx2⟩ := outV_cons hx
  simp only [RepVs] at hr
  obtain ⟨u, t, rfl, r1, r2⟩ := hr
  simp only [idsPVs] at hnd hdead
  have hn2 := List.nodup_append.1 hnd
  have skip : idsPV v = [] → setRows (c :: cs) y (v :: vs) obc = setRows cs y.2 vs obc → ∀ bs', (∀ b ∈ bs', b ∈ bs) → OwnCells w' g0.J cs y.2 t bs' → bs'.Nodup →
    Sim X gc (setRows (c :: cs) y (v :: vs) obc) w' ∧ (setRows (c :: cs) y (v :: vs) obc).length = obc.length ∧ (∀ o, hasBlk gc (setRows (c :: cs) y (v :: vs) obc) o → hasBlk gc obc o ∨ gc.A o ∈ bs) ∧ ∀ o, o ∉ idsPVs (v :: vs) → (setRows (c :: cs) y (v :: vs) obc)[o]? = obc[o]? := by
   intro hi hset bs' hsub ho' hn'
   rw [hset]
   obtain ⟨k1, k2, k3, k4⟩ := rows_back s0 ha cs x0.2 y.2 vs t bs' obc s r2 hx2 ho' hn2.2.1 (fun o ho => hdead o (by simp [ho])) hn' (fun b hb' => hb b (hsub b hb'))
   refine ⟨k1, k2, fun o h => ?_, fun o h => k4 o (fun hm => h (by simp [idsPVs, hm]))⟩
   rcases k3 o h with h | h
   ·exact Or.inl h
   ·exact Or.inr (hsub _ h)
  cases c with
  | sl e =>
   simp only [OwnCells] at ho
   obtain ⟨hd, t', e1, ho⟩ := ho
   simp only [List.cons.injEq] at e1
   obtain ⟨rfl, rfl⟩ := e1
   rcases outCell_sl hx1 with ⟨q, rfl⟩ | rfl | rfl
   ·obtain ⟨e', xs0, hq, hcast⟩ := outCell_own hx1
    obtain ⟨he, _⟩ := castL_ok hcast
    subst he
    obtain ⟨a1, a2, a3, a4⟩ := s0.arr q e' xs0 hq
    have hql : q < ob0.length := (List.getElem?_eq_some_iff.1 hq).1
    have ag := ha q hql
    simp only [RepV] at r1
    obtain ⟨_, r1, _⟩ := r1
    have hqd : obc[q]? = some .dead := hdead q (by simp [idsPV])
    have hset : setRows (.sl e' :: cs) y (.own q :: vs) obc = setRows cs y.2 vs (obc.set q (.arr e' y.1)) := rfl
    have one : ∀ bt, (∀ b ∈ bt, b ∈ bs) → OwnCells w' g0.J cs y.2 t bt → bt.Nodup → Sim X gc (obc.set q (.arr e' y.1)) w' → (∀ o, hasBlk gc (obc.set q (.arr e' y.1)) o → hasBlk gc obc o ∨ (gc.A o ∈ bs ∧ gc.A o ∉ bt)) →
      Sim X gc (setRows (.sl e' :: cs) y (.own q :: vs) obc) w' ∧ (setRows (.sl e' :: cs) y (.own q :: vs) obc).length = obc.length ∧ (∀ o, hasBlk gc (setRows (.sl e' :: cs) y (.own q :: vs) obc) o → hasBlk gc obc o ∨ gc.A o ∈ bs) ∧ ∀ o, o ∉ idsPVs (.own q :: vs) → (setRows (.sl e' :: cs) y (.own q :: vs) obc)[o]? = obc[o]? := by
     intro bt hsub ho' hn' s1 hblk
     rw [hset]
     obtain ⟨k1, k2, k3, k4⟩ := rows_back s0 ha cs x0.2 y.2 vs t bt (obc.set q (.arr e' y.1)) s1 r2 hx2 ho' hn2.2.1 (fun o ho => by
      rw [List.getElem?_set_ne (fun e => hn2.2.2 q (by simp [idsPV]) o ho e)]
      exact hdead o (by simp [ho])) hn' (fun b hb' => ⟨(hb b (hsub b hb')).1, (hb b (hsub b hb')).2.1, fun o ho e => by
       rcases hblk o ho with h | h
       ·exact (hb b (hsub b hb')).2.2 o h e
       ·exact h.2 (by rw [e]; exact hb')⟩)
     refine ⟨k1, by rw [k2]; simp, fun o h => ?_, fun o h => ?_⟩
     ·rcases k3 o h with h | h
      ·rcases hblk o h with h | h
       ·exact Or.inl h
       ·exact Or.inr h.1
      ·exact Or.inr (hsub _ h)
     ·simp only [idsPVs, idsPV, List.mem_append, List.mem_singleton, not_or] at h
      rw [k4 o h.2, List.getElem?_set_ne (Ne.symm h.1)]
    rcases ho with ⟨hy, hemp, ho⟩ | ⟨b, bt, rfl, hown, ho⟩
    ·have hL : xs0.length = 0 := by
      rcases a4 with a4 | ⟨hne, _⟩
      ·rw [a4.1]; rfl
      ·exact absurd (by rw [← r1]; exact hemp) hne
     have hemp' : isEmp (gc.H q) := by rw [ag.H, ← r1]; exact hemp
     refine one bs (fun _ h => h) ho hbn (s.revive hqd _ (fun _ h => by cases h) ?_ ?_) ?_
     ·intro e1 xs1 hh
      cases hh
      refine ⟨by rw [ag.S]; exact a1, by rw [ag.L, a2, hL]; rw [show y.1 = [] from hy]; rfl, by rw [ag.pre]; exact a3, Or.inl ⟨hy, hemp'⟩⟩
     ·rintro (⟨_, hh⟩ | ⟨_, _, _, hh⟩)
      ·cases hh
      ·exact absurd hemp' hh
     ·rintro o (⟨cells, hh⟩ | ⟨e1, xs1, hh, hn⟩)
      ·rcases set_get hh with ⟨_, h2⟩ | ⟨_, h2⟩
       ·cases h2
       ·exact Or.inl (Or.inl ⟨_, h2⟩)
      ·rcases set_get hh with ⟨h1, h2⟩ | ⟨_, h2⟩
       ·subst h1; exact absurd hemp' hn
       ·exact Or.inl (Or.inr ⟨_, _, h2, hn⟩)
    ·obtain ⟨hb1, hb2, hb3⟩ := hb b (by simp)
     obtain ⟨hne, cap, us', te, o1, o2, o2', o3, o4, o5, o6⟩ := own_row (I := X.I) hown hb2
     have hbt := List.nodup_cons.1 hbn
     rcases a4 with a4 | ⟨hne0, cap0, us0, t0, n1, n2, n2', n3, n4, n5, n6⟩
     ·exact absurd (by rw [r1]; exact a4.2) hne
     rw [r1, n1] at o1
     simp only [Value.slice.injEq, Option.some.injEq, Addr.mk.injEq, and_true] at o1
     obtain ⟨hA, hlen, hcap⟩ := o1
     have hlen' : xs0.length = (lst e' y.1).length := hlen
     have hAq : gc.A q = b := by rw [ag.A]; exact hA
     refine one bt (fun _ h => List.mem_cons_of_mem _ h) ho hbt.2 (s.revive hqd _ (fun _ h => by cases h) ?_ ?_) ?_
     ·intro e1 xs1 hh
      cases hh
      refine ⟨by rw [ag.S]; exact a1, by rw [ag.L, a2]; exact hlen', by rw [ag.pre]; exact a3, Or.inr ⟨by rw [ag.H]; exact hne0, cap, us', te, ?_, o2, o2', by rw [hAq]; exact o3, o4, by rw [hAq]; exact o5, by rw [hAq]; exact o6⟩⟩
      rw [ag.H, n1, hAq, hA, hlen, hcap]
     ·intro _
      rw [hAq]
      exact ⟨hb1, hb3⟩
     ·rintro o (⟨cells, hh⟩ | ⟨e1, xs1, hh, hn⟩)
      ·rcases set_get hh with ⟨_, h2⟩ | ⟨_, h2⟩
       ·cases h2
       ·exact Or.inl (Or.inl ⟨_, h2⟩)
      ·rcases set_get hh with ⟨h1, h2⟩ | ⟨_, h2⟩
       ·subst h1
        exact Or.inr ⟨by rw [hAq]; simp, by rw [hAq]; exact hbt.1⟩
       ·exact Or.inl (Or.inr ⟨_, _, h2, hn⟩)
   all_goals
    rcases ho with ⟨hy, hemp, ho⟩ | ⟨b, bt, rfl, hown, ho⟩
    ·exact skip rfl rfl bs (fun _ h => h) ho hbn
    ·exact skip rfl rfl bt (fun _ h => List.mem_cons_of_mem _ h) ho (List.nodup_cons.1 hbn).2
  | sh e =>
   simp only [OwnCells] at ho
   obtain ⟨u', t', e1, _, ho⟩ := ho
   simp only [List.cons.injEq] at e1
   obtain ⟨rfl, rfl⟩ := e1
   have hi := outV_scalar_ids hx1 (fun e h => by cases h)
   exact skip hi (by cases v <;> rfl) bs (fun _ h => h) ho hbn
  | int k =>
   simp only [OwnCells] at ho
   obtain ⟨u', t', e1, _, ho⟩ := ho
   simp only [List.cons.injEq] at e1
   obtain ⟨rfl, rfl⟩ := e1
   have hi := outV_scalar_ids hx1 (fun e h => by cases h)
   exact skip hi (by cases v <;> rfl) bs (fun _ h => h) ho hbn
  | bool =>
   simp only [OwnCells] at ho
   obtain ⟨u', t', e1, _, ho⟩ := ho
   simp only [List.cons.injEq] at e1
   obtain ⟨rfl, rfl⟩ := e1
   have hi := outV_scalar_ids hx1 (fun e h => by cases h)
   exact skip hi (by cases v <;> rfl) bs (fun _ h => h) ho hbn
  | str =>
   simp only [OwnCells] at ho
   obtain ⟨u', t', e1, _, ho⟩ := ho
   simp only [List.cons.injEq] at e1
   obtain ⟨rfl, rfl⟩ := e1
   have hi := outV_scalar_ids hx1 (fun e h => by cases h)
   exact skip hi (by cases v <;> rfl) bs (fun _ h => h) ho hbn
theorem grp_fun {b : Bool} {us us' : List Value} {v : Value} (h : Grp b us v) (h' : Grp b us' v) : us = us' := by
 cases b with
 | true =>
  have h1 : v = .agg us.toArray := h
  have h2 : v = .agg us'.toArray := h'
  rw [h1] at h2
  simpa using h2
 | false =>
  have h1 : us = [v] := h
  have h2 : us' = [v] := h'
  rw [h1, h2]
theorem ioId_lt {X : Cx Dr} {g : Gh} {w : World} {p : Par} {v : PV} {x : CTs.V p.cells} {u : Value} (s : Sim X g ob w) (h : inP ob p v = some x) (hr : RepV g ob.length X.I w v u) : True := trivial
theorem io_ok {X : Cx Dr} {g0 gc : Gh} {ob0 obc : List Ob} {w w' : World} (s0 : Sim X g0 ob0 w) (hw : ∀ b, X.I b → w'.heap[b]? = w.heap[b]?) (hJ : gc.J = g0.J) (hle : ob0.length ≤ obc.length) (ha : ∀ o, o < ob0.length → Agree g0 gc o) (s : Sim X gc obc w') (p : Par) (v : PV) (x : CTs.V p.cells) (y : CTs.V p.io) (u : Value) (bs : List Nat) (ob' : List Ob)
  (hin : inP ob0 p v = some x) (hr : RepV g0 ob0.length X.I w v u) (hio : IoP w w' g0.J p y u bs) (hnd : (ioId1 ob0 p v).Nodup) (hdead : ∀ o ∈ ioId1 ob0 p v, obc[o]? = some .dead) (hbn : bs.Nodup)
  (hb : ∀ b ∈ bs, (X.B ≤ b ∨ b ∈ X.T) ∧ ¬ X.I b ∧ ∀ o, hasBlk gc obc o → gc.A o ≠ b) (h : ioP ob0 p v y obc = some ob') :
  ∃ g', Sim X g' ob' w' ∧ Keep gc obc.length X.I w' g' ob'.length w' ∧ (∀ o, hasBlk g' ob' o → (o < obc.length ∧ hasBlk gc obc o) ∨ g'.A o ∈ bs) ∧ ∀ o, o < obc.length → o ∉ ioId1 ob0 p v → ob'[o]? = obc[o]? := by
 have same : obc = ob' → ∃ g', Sim X g' ob' w' ∧ Keep gc obc.length X.I w' g' ob'.length w' ∧ (∀ o, hasBlk g' ob' o → (o < obc.length ∧ hasBlk gc obc o) ∨ g'.A o ∈ bs) ∧ ∀ o, o < obc.length → o ∉ ioId1 ob0 p v → ob'[o]? = obc[o]? := by
  intro e
  subst e
  exact ⟨gc, s, s.refl, fun o ho => Or.inl ⟨ho.lt, ho⟩, fun _ _ _ => rfl⟩
 cases p with
 | v b cs => exact same (Option.some.inj h)
 | r cs => exact same (Option.some.inj h)
 | cl f caps => exact same (Option.some.inj (by cases v <;> exact h))
 | c b cs => exact same (Option.some.inj h)
 | w b cs =>
  have h1 : (flat v).map (fun vs => setRows cs y vs obc) = some ob' := h
  obtain ⟨vs, hf, rfl⟩ := Option.map_eq_some_iff.1 h1
  have h2 : (if shape1 b cs v = true then (flat v).bind (outV ob0 cs) else none) = some x := hin
  split at h2 <;> try (cases h2; done)
  rename_i hsh
  rw [hf] at h2
  have hx0 : outV ob0 cs vs = some x := h2
  obtain ⟨us, k1, k2, k3⟩ := grp_ok hr hsh hf
  obtain ⟨us', m1, m2⟩ := hio
  obtain rfl := grp_fun k2 m1
  have hids : ioId1 ob0 (.w b cs) v = idsPVs vs := by rw [flat_ids hf]; rfl
  rw [hids] at hnd hdead ⊢
  obtain ⟨n1, n2, n3, n4⟩ := rows_back s0 ha cs x y vs us bs obc s k1 hx0 m2 hnd hdead hbn hb
  refine ⟨gc, n1, by rw [n2]; exact s.refl, fun o ho => ?_, fun o _ ho => n4 o ho⟩
  rcases n3 o ho with h | h
  ·exact Or.inl ⟨h.lt, h⟩
  ·exact Or.inr h
 | m cs =>
  cases v with
  | ptr q i sz j =>
   have h1 : (match ob0[q]? with | some (.box cells) => some ((obc ++ (takeOut cs y obc.length).2).set q (.box (setL cells j (takeOut cs y obc.length).1))) | _ => none) = some ob' := h
   have h2 : (cellsAt ob0 cs.length (.ptr q i sz j)).bind (outV ob0 cs) = some x := hin
   obtain ⟨vs, hc1, hc2⟩ := Option.bind_eq_some_iff.1 h2
   have hc1' : (match ob0[q]? with | some (.box cells) => if i = 0 ∧ j + cs.length ≤ cells.length then some ((cells.drop j).take cs.length) else none | _ => none) = some vs := hc1
   have hid : ioId1 ob0 (.m cs) (.ptr q i sz j) = q :: idsPVs vs := by
    show q :: idsPVs ((cellsAt ob0 cs.length (.ptr q i sz j)).getD []) = _
    rw [hc1]; rfl
   rw [hid] at hnd hdead ⊢
   split at hc1' <;> try (cases hc1'; done)
   rename_i cells hq
   split at hc1' <;> try (cases hc1'; done)
   rename_i hc
   obtain ⟨hi, hbnd⟩ := hc
   obtain rfl := Option.some.inj hc1'
   rw [hq] at h1
   obtain rfl := Option.some.inj h1
   obtain ⟨us, t, m1, m2, m3⟩ := box_at (N := 0) s0 hq hi hr
   obtain ⟨_, _, _, _, mI, mS, mL⟩ := s0.box q cells hq
   have hlen := repvs_len _ _ m3
   obtain ⟨b, pre, us0, us', post, t1, t2, bt, rfl, p1, p2, p3, p4, p5⟩ := hio
   rw [m1] at p1
   simp only [Value.pointer.injEq, Option.some.injEq, Addr.mk.injEq, and_true] at p1
   obtain ⟨hA, hpre⟩ := p1
   subst hA
   rw [m2] at p2
   simp only [Option.some.injEq, Obj.cells.injEq, and_true] at p2
   obtain ⟨p2, rfl⟩ := p2
   have p2' : g0.pre q ++ us ++ g0.post q = pre ++ us0 ++ post := by simpa using congrArg Array.toList p2
   have hus' : us'.length = cs.length := own_len _ _ _ _ p5
   have hsplit : pre = g0.pre q ++ us.take j ∧ post = us.drop (j + cs.length) ++ g0.post q := by
    have e1 := congrArg (List.take pre.length) p2'
    have e2 := congrArg (List.drop (pre.length + us0.length)) p2'
    rw [List.append_assoc pre, List.take_left] at e1
    rw [show pre ++ us0 ++ post = (pre ++ us0) ++ post from rfl, show pre.length + us0.length = (pre ++ us0).length by simp, List.drop_left] at e2
    rw [← hpre, List.append_assoc, List.take_length_add_append, List.take_append_of_le_length (by omega)] at e1
    rw [List.length_append, ← hpre, p3, Nat.add_assoc, List.append_assoc, List.drop_length_add_append, List.drop_append_of_le_length (by omega)] at e2
    exact ⟨e1.symm, e2.symm⟩
   have hbt := List.nodup_cons.1 hbn
   obtain ⟨g', s', k', r', n'⟩ := take_ok cs y us' bt gc obc p5 hJ hbt.2 (fun b' hb' => hb b' (List.mem_cons_of_mem _ hb')) s
   have hql : q < ob0.length := (List.getElem?_eq_some_iff.1 hq).1
   have ag : Agree g0 g' q := (ha q hql).trans (k'.agr q (by omega))
   have hqd : (obc ++ (takeOut cs y obc.length).2)[q]? = some .dead := by
    rw [List.getElem?_append_left (by omega)]
    exact hdead q (by simp)
   have hbq := hb (g0.A q) (by simp)
   have hk0 : Keep g0 ob0.length X.I w g' (obc ++ (takeOut cs y obc.length).2).length w' := ⟨Nat.le_trans hle k'.le, fun o ho => (ha o ho).trans (k'.agr o (by omega)), by rw [k'.J, hJ], s0.jI, hw⟩
   have hblk' : ∀ o, hasBlk g' (obc ++ (takeOut cs y obc.length).2) o → g'.A o ≠ g0.A q := by
    intro o ho e
    rcases n' o ho with ⟨h1, h2⟩ | h1
    ·rw [(k'.agr o h1).A] at e
     exact hbq.2.2 o h2 e
    ·rw [e] at h1
     exact hbt.1 h1
   have s2 := s'.revive hqd (.box (setL cells j (takeOut cs y obc.length).1)) (by
    intro cells' hh
    cases hh
    refine ⟨setU us j us', t2, ?_, repvs_setL _ _ _ _ _ r' (RepVs.keep hk0 _ _ m3), by rw [ag.A]; exact mI, by rw [ag.S]; exact mS, by rw [ag.L]; exact mL⟩
    rw [ag.A, ag.pre, ag.post, p4, setU_eq _ _ _ (by omega), hsplit.1, hsplit.2, hus']
    simp only [List.append_assoc]) (by intro e xs hh; cases hh) (by
    intro _
    rw [ag.A]
    exact ⟨hbq.1, hblk'⟩)
   refine ⟨g', s2, ⟨by rw [List.length_set]; exact k'.le, k'.agr, k'.J, k'.jI, k'.heap⟩, fun o ho => ?_, fun o hol ho => ?_⟩
   ·have : o = q ∨ hasBlk g' (obc ++ (takeOut cs y obc.length).2) o := by
     rcases ho with ⟨cells', hh⟩ | ⟨e1, xs1, hh, hn⟩
     ·rcases set_get hh with ⟨h1, _⟩ | ⟨_, h2⟩
      ·exact Or.inl h1
      ·exact Or.inr (Or.inl ⟨_, h2⟩)
     ·rcases set_get hh with ⟨h1, _⟩ | ⟨_, h2⟩
      ·exact Or.inl h1
      ·exact Or.inr (Or.inr ⟨_, _, h2, hn⟩)
    rcases this with rfl | h
    ·right; rw [ag.A]; simp
    ·rcases n' o h with h | h
     ·exact Or.inl h
     ·exact Or.inr (List.mem_cons_of_mem _ h)
   ·have hne : q ≠ o := fun e => ho (by simp [e])
    rw [List.getElem?_set_ne hne, List.getElem?_append_left hol]
  | _ => cases hin
theorem ios_ok {X : Cx Dr} {g0 : Gh} {ob0 : List Ob} {w w' : World} (s0 : Sim X g0 ob0 w) (hw : ∀ b, X.I b → w'.heap[b]? = w.heap[b]?) : ∀ (ins : List Par) (ps : List PV) (x : CTs.V (insC ins)) (y : CTs.V (ioC ins)) (us : List Value) (bs : List Nat) (gc : Gh) (obc ob' : List Ob), gc.J = g0.J → ob0.length ≤ obc.length → (∀ o, o < ob0.length → Agree g0 gc o) → Sim X gc obc w' →
  inIns ob0 ins ps = some x → RepVs g0 ob0.length X.I w ps us → IosP w w' g0.J ins y us bs → (ioIds ob0 ins ps).Nodup → (∀ o ∈ ioIds ob0 ins ps, o < ob0.length ∧ obc[o]? = some .dead) → bs.Nodup →
  (∀ b ∈ bs, (X.B ≤ b ∨ b ∈ X.T) ∧ ¬ X.I b ∧ ∀ o, hasBlk gc obc o → gc.A o ≠ b) → ioAll ob0 ins ps y obc = some ob' →
  ∃ g', Sim X g' ob' w' ∧ Keep gc obc.length X.I w' g' ob'.length w'
 | [], [], x, y, us, bs, gc, obc, ob', hJ, hle, ha, s, hin, hr, hio, hnd, hdead, hbn, hb, h => by
  simp only [ioAll, Option.some.injEq] at h
  subst h
  exact ⟨gc, s, s.refl⟩
 | [], _ :: _, x, y, us, bs, gc, obc, ob', hJ, hle, ha, s, hin, hr, hio, hnd, hdead, hbn, hb, h => by simp [inIns] at hin
 | _ :: _, [], x, y, us, bs, gc, obc, ob', hJ, hle, ha, s, hin, hr, hio, hnd, hdead, hbn, hb, h => by simp [inIns] at hin
 | p :: r, v :: vs, x, y, us, bs, gc, obc, ob', hJ, hle, ha, s, hin, hr, hio, hnd, hdead, hbn, hb, h => by
  simp only [inIns] at hin
  split at hin <;> try (cases hin; done)
  rename_i a b h1 h2
  simp only [RepVs] at hr
  obtain ⟨u, t, rfl, r1, r2⟩ := hr
  simp only [IosP] at hio
  obtain ⟨u', t', b1, b2, e1, rfl, i1, i2⟩ := hio
  simp only [List.cons.injEq] at e1
  obtain ⟨rfl, rfl⟩ := e1
  simp only [ioIds] at hnd hdead
  have hn2 := List.nodup_append.1 hnd
  have hbn2 := List.nodup_append.1 hbn
  simp only [ioAll] at h
  split at h <;> try (cases h; done)
  rename_i obm hm
  obtain ⟨gm, sm, km, nm, om⟩ := io_ok s0 hw hJ hle ha s p v a _ u b1 obm h1 r1 i1 hn2.1 (fun o ho => (hdead o (by simp [ho])).2) hbn2.1 (fun b hb' => hb b (by simp [hb'])) hm
  obtain ⟨g', s', k'⟩ := ios_ok s0 hw r vs b _ t b2 gm obm ob' (by rw [km.J, hJ]) (Nat.le_trans hle km.le) (fun o ho => (ha o ho).trans (km.agr o (by omega))) sm h2 r2 i2 hn2.2.1 (fun o ho => by
   obtain ⟨d1, d2⟩ := hdead o (by simp [ho])
   refine ⟨d1, ?_⟩
   rw [om o (by omega) (fun hm => hn2.2.2 o hm o ho rfl)]
   exact d2) hbn2.2.1 (fun b hb' => ⟨(hb b (by simp [hb'])).1, (hb b (by simp [hb'])).2.1, fun o ho e => by
    rcases nm o ho with ⟨h1, h2⟩ | h1
    ·rw [(km.agr o h1).A] at e
     exact (hb b (by simp [hb'])).2.2 o h2 e
    ·rw [e] at h1
     exact hbn2.2.2 b h1 b hb' rfl⟩) h
  exact ⟨g', s', km.trans k'⟩
end Go.Rv
set_option linter.unusedVariables false
set_option linter.unusedSimpArgs false
namespace Go.Rv
open Go.RowKit
variable {Dr : Kn}
variable {R : Type} {P : Program} {tbl : Tbl} {env : Env} {ob : List Ob} {o : Oper} {K : PV → List Ob → Option R} {r : R}
def mkr (P : Program) (o : Oper) (a : Act) (w : World) (K : Value → World → Prop) : Prop := match (execOp a.eval o).run P w with
 | .ok (.value u) w' => K u w'
 | .ok .skip w' => K undef w'
 | .ok (.enter f args) w' => Calls P f args w' fun e w'' => ∃ v, e = .returned v ∧ K v w''
 | _ => False
theorem mkr_mono {a : Act} {w : World} {K K' : Value → World → Prop} (h : ∀ v w, K v w → K' v w) (hh : mkr P o a w K) : mkr P o a w K' := by
 unfold mkr at *
 generalize (execOp a.eval o).run P w = r at *
 cases r with
 | ok n w' =>
  cases n <;> first
   | exact h _ _ hh
   | exact hh.mono fun e w'' ⟨v, h1, h2⟩ => ⟨v, h1, h _ _ h2⟩
   | exact hh
 | halt x w' => exact hh
theorem mkr_wp {a : Act} {w : World} {next : Act → World → Prop} {Q : Exit → Act → World → Prop} (hh : mkr P o a w fun v w' => next (a.put o.dst v) w') : o.wp P a w next Q := by
 unfold mkr at hh
 unfold Oper.wp
 generalize (execOp a.eval o).run P w = r at *
 cases r with
 | ok n w' =>
  cases n <;> simp only [Oper.upon] <;> first
   | exact hh
   | exact hh.mono fun e w'' ⟨v, h1, h2⟩ => by subst h1; exact h2
   | exact hh.elim
 | halt x w' => exact hh.elim
def WV (Dr : Kn) (P : Program) (ob : List Ob) (env : Env) (o : Oper) (im : Bool) (pv : PV) (ob' : List Ob) : Prop :=
 (im = false → ∃ new, ob' = ob ++ new) ∧
 ∀ (X : Cx Dr) (N : Nat) (g : Gh) (w : World) (a : Act), Sim X g ob w → RepE N g ob.length X.I w env a →
  mkr P o a w fun v w' => ∃ g', ((im = false → Fresh Dr g ob.length w g' ob' w') ∧ Only g ob w w' ∧ (isCallV o.op = false → Blk g ob w g' ob')) ∧ Sim X g' ob' w' ∧ Keep g ob.length X.I w g' ob'.length w' ∧ RepV g' ob'.length X.I w' pv v
theorem EV.wv {im : Bool} {pv : PV} {ob' : List Ob} (h : EV Dr P ob env o im pv ob') : WV Dr P ob env o im pv ob' := ⟨h.1, fun X N g w a hs he => by
 obtain ⟨v, w', g', h1, hb, s', k', r'⟩ := h.2 X N g w a hs he
 unfold mkr
 rcases h1 with h1 | ⟨h1, rfl⟩
 ·rw [h1]; exact ⟨g', ⟨hb.1, hb.2.1, fun _ => hb.2.2⟩, s', k', r'⟩
 ·rw [h1]; exact ⟨g', ⟨hb.1, hb.2.1, fun _ => hb.2.2⟩, s', k', r'⟩⟩
theorem QV.wv {pv : PV} (h : QV Dr P ob env o pv) (im : Bool) : WV Dr P ob env o im pv ob := ⟨fun _ => ⟨[], by simp⟩, fun X N g w a hs he => by
 obtain ⟨v, hv, h1⟩ := h X N g w a hs he
 unfold mkr
 rw [h1 w (Go.RowKit.Below.refl _ _)]
 exact ⟨g, ⟨fun _ => ⟨Below.refl _ _, fun o ho hb => absurd hb.lt (by omega)⟩, fun _ _ _ => rfl, fun _ => Blk.refl _ _ _⟩, hs, hs.refl, hv⟩⟩
theorem enter_run {g : FuncId} (h : ∀ args w, (callFunc g args).run P w = .ok (.enter g args) w) {c : Call} {f : Operand} (hc : c.callee = .value f) {a : Act} {us : Array Value} (hf : a.eval f = .func (.func g) #[] us) (hop : o.op = .call c) (w : World) :
  (execOp a.eval o).run P w = .ok (.enter g (c.args.map a.eval ++ us)) w := by
 simp only [execOp, hop, resolve, hc, hf, Deferred.ofValue]
 simp [invoke, h]
theorem pure_ids (ob : List Ob) : ∀ (ins : List Par) (ps : List PV), ins.all Par.pure = true → ioIds ob ins ps = []
 | [], ps, _ => by cases ps <;> rfl
 | p :: r, [], _ => rfl
 | p :: r, v :: vs, h => by
  simp only [List.all_cons, Bool.and_eq_true] at h
  simp only [ioIds, pure_ids ob r vs h.2, List.append_nil]
  cases p <;> first | rfl | (simp [Par.pure] at h; done)
theorem pure_io (ob0 : List Ob) : ∀ (ins : List Par) (ps : List PV) (y : CTs.V (ioC ins)) (ob ob' : List Ob), ins.all Par.pure = true → ioAll ob0 ins ps y ob = some ob' → ob' = ob
 | [], [], y, ob, ob', _, h => (Option.some.inj h).symm
 | [], _ :: _, y, ob, ob', _, h => by simp [ioAll] at h
 | _ :: _, [], y, ob, ob', _, h => by simp [ioAll] at h
 | p :: r, v :: vs, y, ob, ob', hp, h => by
  simp only [List.all_cons, Bool.and_eq_true] at hp
  simp only [ioAll] at h
  split at h <;> try (cases h; done)
  rename_i obm hm
  have : obm = ob := by cases p <;> first | (simp [Par.pure] at hp; done) | exact (Option.some.inj hm).symm
  rw [this] at h
  exact pure_io ob0 r vs _ ob ob' hp.2 h
theorem ioIds_lt {X : Cx Dr} {g : Gh} {w : World} (s : Sim X g ob w) : ∀ (ins : List Par) (ps : List PV) (x : CTs.V (insC ins)), inIns ob ins ps = some x → ∀ o ∈ ioIds ob ins ps, o < ob.length
 | [], [], x, h, o, ho => by simp [ioIds] at ho
 | [], _ :: _, x, h, o, ho => by simp [inIns] at h
 | _ :: _, [], x, h, o, ho => by simp [inIns] at h
 | p :: r, v :: vs, x, h, o, ho => by
  simp only [inIns] at h
  split at h <;> try (cases h; done)
  rename_i a b h1 h2
  simp only [ioIds, List.mem_append] at ho
  rcases ho with ho | ho
  ·have ownLt : ∀ (cs : List CT) (ps : List PV) (y : CTs.V cs), outV ob cs ps = some y → ∀ o ∈ idsPVs ps, o < ob.length := by
    intro cs
    induction cs with
    | nil => intro ps y h o ho; cases ps; simp [idsPVs] at ho; simp [outV] at h
    | cons c cs ih =>
     intro ps y h o ho
     cases ps with
     | nil => simp [outV] at h
     | cons q ps =>
      obtain ⟨e1, e2⟩ := outV_cons h
      simp only [idsPVs, List.mem_append] at ho
      rcases ho with ho | ho
      ·cases c with
       | sl e =>
        rcases outCell_sl e1 with ⟨z, rfl⟩ | rfl | rfl
        ·obtain ⟨e', xs, hq, _⟩ := outCell_own e1
         simp [idsPV] at ho
         subst ho
         exact (List.getElem?_eq_some_iff.1 hq).1
        ·simp [idsPV] at ho
        ·simp [idsPV] at ho
       | _ => rw [outV_scalar_ids e1 (fun e h => by cases h)] at ho; simp at ho
      ·exact ih ps y.2 e2 o ho
   have own2 : ∀ (b : Bool) (cs : List CT) (y : CTs.V cs), (if shape1 b cs v = true then (flat v).bind (outV ob cs) else none) = some y → ∀ o ∈ idsPV v, o < ob.length := by
    intro b cs y h o ho
    split at h <;> try (cases h; done)
    obtain ⟨vs', e1, e2⟩ := Option.bind_eq_some_iff.1 h
    rw [← flat_ids e1] at ho
    exact ownLt cs vs' y e2 o ho
   cases p with
   | v b cs => simp [ioId1] at ho
   | r cs => simp [ioId1] at ho
   | cl f caps => cases v <;> simp [ioId1] at ho
   | w b cs => exact own2 b cs a h1 o ho
   | c b cs => exact own2 b cs a h1 o ho
   | m cs =>
    cases v with
    | ptr q i sz j =>
     have h' : (cellsAt ob cs.length (.ptr q i sz j)).bind (outV ob cs) = some a := h1
     obtain ⟨vs', e1, e2⟩ := Option.bind_eq_some_iff.1 h'
     have ho' : o ∈ q :: idsPVs ((cellsAt ob cs.length (.ptr q i sz j)).getD []) := ho
     rw [e1] at ho'
     rcases List.mem_cons.1 ho' with rfl | ho'
     ·have e1' : (match ob[o]? with | some (.box cells) => if i = 0 ∧ j + cs.length ≤ cells.length then some ((cells.drop j).take cs.length) else none | _ => none) = some vs' := e1
      split at e1' <;> try (cases e1'; done)
      rename_i cells hq
      exact (List.getElem?_eq_some_iff.1 hq).1
     ·exact ownLt cs vs' a e2 o ho'
    | _ => cases h1
  ·exact ioIds_lt s r vs b h2 o ho
theorem upd_nil {D : Kn} {B : Nat} {w w' : World} (h : Upd D B [] w w') : Below D B w w' := h.below
theorem repvs_app2 {g : Gh} {n : Nat} {I : Nat → Prop} {w : World} : ∀ (a b : List PV) (us vs : List Value), RepVs g n I w a us → RepVs g n I w b vs → RepVs g n I w (a ++ b) (us ++ vs)
 | [], b, us, vs, h, h' => by simp only [RepVs] at h; subst h; exact h'
 | v :: a, b, us, vs, h, h' => by
  simp only [RepVs] at h
  obtain ⟨u, t, rfl, h1, h2⟩ := h
  exact ⟨u, t ++ vs, rfl, h1, repvs_app2 a b t vs h2 h'⟩
theorem repvs_cut {g : Gh} {n : Nat} {I : Nat → Prop} {w : World} : ∀ (a b : List PV) (us : List Value), RepVs g n I w (a ++ b) us → ∃ x y, us = x ++ y ∧ x.length = a.length ∧ RepVs g n I w a x ∧ RepVs g n I w b y
 | [], b, us, h => ⟨[], us, rfl, rfl, by simp [RepVs], h⟩
 | v :: a, b, us, h => by
  simp only [List.cons_append, RepVs] at h
  obtain ⟨u, t, rfl, h1, h2⟩ := h
  obtain ⟨x, y, rfl, h3, h4, h5⟩ := repvs_cut a b t h2
  exact ⟨u :: x, y, rfl, by simp [h3], ⟨u, x, rfl, h1, h4⟩, h5⟩
theorem flatpk_ok {g : Gh} {n : Nat} {I : Nat → Prop} {w : World} : ∀ (pk : List (Option (FuncId × Nat))) (args args' : List PV) (avals : List Value), flatPV pk args = some args' → RepVs g n I w args avals → ∃ vals, RepVs g n I w args' vals ∧ Packed pk vals avals
 | [], args, args', avals, h, hr => by
  simp only [flatPV, Option.some.injEq] at h
  subst h
  exact ⟨avals, hr, rfl⟩
 | none :: pk, [], _, _, h, _ => by simp [flatPV] at h
 | none :: pk, v :: vs, args', avals, h, hr => by
  simp only [flatPV, Option.map_eq_some_iff] at h
  obtain ⟨l, h1, rfl⟩ := h
  simp only [RepVs] at hr
  obtain ⟨u, t, rfl, h2, h3⟩ := hr
  obtain ⟨vals, h4, h5⟩ := flatpk_ok pk vs l t h1 h3
  exact ⟨u :: vals, ⟨u, vals, rfl, h2, h4⟩, u, vals, t, rfl, rfl, h5⟩
 | some (f, m) :: pk, [], _, _, h, _ => by simp [flatPV] at h
 | some (f, m) :: pk, v :: vs, args', avals, h, hr => by
  cases v with
  | fn f' caps =>
   simp only [flatPV] at h
   split at h <;> try (cases h; done)
   rename_i hc
   obtain ⟨rfl, rfl⟩ := hc
   simp only [Option.map_eq_some_iff] at h
   obtain ⟨l, h1, rfl⟩ := h
   simp only [RepVs] at hr
   obtain ⟨u, t, rfl, h2, h3⟩ := hr
   simp only [RepV] at h2
   obtain ⟨us, rfl, h2⟩ := h2
   obtain ⟨vals, h4, h5⟩ := flatpk_ok pk vs l t h1 h3
   exact ⟨us ++ vals, repvs_app2 caps l us vals h2 h4, us, vals, t, rfl, repvs_len _ _ h2, rfl, h5⟩
  | _ => simp [flatPV] at h
theorem pack_ok {g : Gh} {n : Nat} {I : Nat → Prop} {w : World} : ∀ (pk : List (Option (FuncId × Nat))) (ps : List PV) (vals avals : List Value), Packed pk vals avals → RepVs g n I w ps vals → RepVs g n I w (packPV pk ps) avals
 | [], ps, vals, avals, h, hr => by simp only [Packed] at h; subst h; exact hr
 | none :: pk, ps, vals, avals, h, hr => by
  obtain ⟨v, a, b, rfl, rfl, h⟩ := h
  cases ps with
  | nil => simp [RepVs] at hr
  | cons p ps =>
   simp only [RepVs] at hr
   obtain ⟨u, t, e, h1, h2⟩ := hr
   cases e
   exact ⟨_, _, rfl, h1, pack_ok pk ps _ b h h2⟩
 | some (f, m) :: pk, ps, vals, avals, h, hr => by
  obtain ⟨us, a, b, rfl, rfl, rfl, h⟩ := h
  have hl := repvs_len _ _ hr
  simp only [List.length_append] at hl
  rw [← List.take_append_drop us.length ps] at hr
  obtain ⟨x, y, e, hx, h1, h2⟩ := repvs_cut _ _ _ hr
  have hxl : x.length = us.length := by rw [hx, List.length_take]; omega
  obtain ⟨rfl, rfl⟩ := List.append_inj e hxl.symm
  exact ⟨_, _, rfl, ⟨us, rfl, h1⟩, pack_ok pk _ _ b h h2⟩
theorem callK_core {g0f : FuncId} {S : Summ} (hS : SumOK Dr P g0f S) {args0 args : List PV} {x : CTs.V (insC S.ins)} {y : CTs.V (outC S.outs ++ ioC S.ins)} {res : List PV} {ob' : List Ob} (hpk : flatPV S.pack args0 = some args) (hx : inIns ob S.ins args = some x)
  (hnd : (ioIds ob S.ins args).Nodup) (hro : ∀ i ∈ roIds ob S.ins args, (!(ioIds ob S.ins args).contains i) = true) (hok : ∀ p ∈ S.ins, p.ok = true) (hy : S.F x = some y)
  (hres : regroup (outs1 S.outs) (takeOut (outC S.outs) (splitV (outC S.outs) (ioC S.ins) y).1 ob.length).1 = some res)
  (hio : ioAll ob S.ins args (splitV (outC S.outs) (ioC S.ins) y).2 (killAll (ioIds ob S.ins args) ob ++ (takeOut (outC S.outs) (splitV (outC S.outs) (ioC S.ins) y).1 ob.length).2) = some ob')
  (X : Cx Dr) (g : Gh) (w : World) (avals : List Value) (hs : Sim X g ob w) (hr0 : RepVs g ob.length X.I w args0 avals) :
  Calls P g0f avals.toArray w fun e w' => ∃ vs bb g', Answer (isBox S.outs) w w' bb vs e ∧ ((S.ins.all Par.pure = true → Fresh Dr g ob.length w g' ob' w' ∧ ∀ o, hasBlk g' ob' o → g'.A o < w.heap.size ∨ g'.A o ∈ bb) ∧ Only g ob w w') ∧ Sim X g' ob' w' ∧ Keep g ob.length X.I w g' ob'.length w' ∧ RepVs g' ob'.length X.I w' res vs := by
 obtain ⟨vals, hr, hpacked⟩ := flatpk_ok S.pack args0 args avals hpk hr0
 obtain ⟨hent, hsum⟩ := hS
 obtain ⟨T, t1, t2, t3⟩ := inIns_ok hs S.ins args x vals (List.all_eq_true.2 hok) hx hr hnd
 have hTI : ∀ b ∈ T, ¬ X.I b ∧ (X.B ≤ b ∨ b ∈ X.T) ∧ b < w.heap.size := fun b hb => by
  obtain ⟨o, ho, hob, rfl⟩ := t2 b hb
  exact ⟨(hs.blk hob).2, hs.base o hob, (hs.blk hob).1⟩
 have hargs := t3 (fun b => b < w.heap.size ∧ b ∉ T) (fun b hb => ⟨hs.bnd b hb, fun hm => (hTI b hm).1 hb⟩) (fun o ho hob => ⟨(hs.blk hob).1, fun hm => by
  obtain ⟨o', ho', hob', e⟩ := t2 _ hm
  have := hs.inj o o' hob hob' e
  subst this
  have := hro o ho
  simp at this
  exact this ho'⟩)
 have := hsum w T g.J x y vals avals (fun b hb => ⟨hs.bnd b (hs.jI b hb), fun hm => (hTI b hm).1 (hs.jI b hb)⟩) t1 hs.tab hargs hy hpacked
 refine this.mono ?_
 rintro e w' ⟨hupd, us, vs, bs, bs', hans, ho, hgr, hios, hbn, hbT⟩
 have hbn2 := List.nodup_append.1 hbn
 have hkill := hs.kill (ioIds ob S.ins args)
 have hklen := kill_len (ioIds ob S.ins args) ob
 have notT : ∀ o, hasBlk g (killAll (ioIds ob S.ins args) ob) o → hasBlk g ob o ∧ g.A o ∉ T := fun o hb => by
  have hb1 : hasBlk g ob o := by
   rcases hb with ⟨cells, hb⟩ | ⟨e, xs, hb, hn⟩
   ·rcases (kill_get _ _ _ _ hb).1 with h | h
    ·cases h
    ·exact Or.inl ⟨_, h⟩
   ·rcases (kill_get _ _ _ _ hb).1 with h | h
    ·cases h
    ·exact Or.inr ⟨_, _, h, hn⟩
  refine ⟨hb1, fun hm => ?_⟩
  obtain ⟨o', ho', hob', e⟩ := t2 _ hm
  have := hs.inj o o' hb1 hob' e
  subst this
  rcases hb with ⟨cells, hb⟩ | ⟨e, xs, hb, hn⟩
  ·have := (kill_get _ _ _ _ hb).2 ho'; cases this
  ·have := (kill_get _ _ _ _ hb).2 ho'; cases this
 obtain ⟨s1, k1⟩ := hkill.step hupd (fun b hb => ⟨(hTI b hb).1, (hTI b hb).2.1, fun o ho e => (notT o ho).2 (e ▸ hb)⟩)
 rw [hklen] at k1
 have hbs : ∀ b ∈ bs ++ bs', (X.B ≤ b ∨ b ∈ X.T) ∧ ¬ X.I b ∧ ∀ o, hasBlk g (killAll (ioIds ob S.ins args) ob) o → g.A o ≠ b := fun b hb => by
  rcases hbT b hb with h | h
  ·exact ⟨(hTI b h).2.1, (hTI b h).1, fun o ho e => (notT o ho).2 (e ▸ h)⟩
  ·exact ⟨Or.inl (Nat.le_trans hs.bsz h), fun hI => by have := hs.bnd b hI; omega, fun o ho e => by have := (hs.blk (notT o ho).1).1; omega⟩
 obtain ⟨g1, s2, k2, r2, n2⟩ := take_ok (outC S.outs) _ us bs g _ ho rfl hbn2.1 (fun b hb => hbs b (by simp [hb])) s1
 rw [hklen] at s2 k2 r2 n2
 have hdl : ob.length ≤ (killAll (ioIds ob S.ins args) ob ++ (takeOut (outC S.outs) (splitV (outC S.outs) (ioC S.ins) y).1 ob.length).2).length := k2.le
 have hw' : ∀ b, X.I b → w'.heap[b]? = w.heap[b]? := fun b hb => k1.heap b hb
 obtain ⟨g', s3, k3⟩ := ios_ok hs hw' S.ins args x _ vals bs' g1 _ ob' k2.J hdl (fun o ho => k2.agr o ho) s2 hx hr hios hnd (fun o ho => by
  have hlt := ioIds_lt hs S.ins args x hx o ho
  refine ⟨hlt, ?_⟩
  rw [List.getElem?_append_left (by rw [hklen]; exact hlt)]
  have hlt' : o < (killAll (ioIds ob S.ins args) ob).length := by rw [hklen]; exact hlt
  rw [List.getElem?_eq_getElem hlt']
  congr 1
  exact (kill_get _ _ _ _ (List.getElem?_eq_getElem hlt')).2 ho) hbn2.2.1 (fun b hb => ⟨(hbs b (by simp [hb])).1, (hbs b (by simp [hb])).2.1, fun o ho e => by
   rcases n2 o ho with ⟨h1, h2⟩ | h1
   ·rw [(k2.agr o h1).A] at e
    exact (hbs b (by simp [hb])).2.2 o h2 e
   ·rw [e] at h1
    exact hbn2.2.2 b h1 b hb rfl⟩) hio
 have kk : Keep g ob.length X.I w g' ob'.length w' := (k1.trans k2).trans k3
 refine ⟨vs, bs ++ bs', g', hans, ⟨fun hp => ?_, fun b hb hn => hupd.block b hb fun hT => by
  obtain ⟨o, _, hob, e⟩ := t2 b hT
  exact hn o hob e.symm⟩, s3, kk, RepVs.keep k3 _ _ (regroup_ok _ _ _ _ _ r2 hgr hres)⟩
 have hids := pure_ids ob S.ins args hp
 have hT : T = [] := by
  cases T with
  | nil => rfl
  | cons b T =>
   obtain ⟨o, ho, _⟩ := t2 b (by simp)
   rw [hids] at ho
   simp at ho
 subst hT
 have e1 := pure_io ob S.ins args _ _ ob' hp hio
 rw [hids] at e1
 have key : ∀ o, hasBlk g' ob' o → (o < ob.length ∧ g'.A o < w.heap.size) ∨ g'.A o ∈ bs := fun o hb => by
  rw [e1] at hb s3 k3
  have hb1 : hasBlk g1 (killAll (ioIds ob S.ins args) ob ++ (takeOut (outC S.outs) (splitV (outC S.outs) (ioC S.ins) y).1 ob.length).2) o := by
   rw [hids]
   have hl := hb.lt
   have hag : Agree g1 g' o := by
    have := k3.agr o (by rw [hids]; exact hl)
    exact this
   rcases hb with ⟨cells, hb⟩ | ⟨e, xs, hb, hn⟩
   ·exact Or.inl ⟨_, hb⟩
   ·rw [hag.H] at hn; exact Or.inr ⟨_, _, hb, hn⟩
  have hA : g'.A o = g1.A o := (k3.agr o hb1.lt).A
  rw [hA]
  rcases n2 o hb1 with ⟨h1, h2⟩ | h1
  ·left
   rw [(k2.agr o h1).A]
   exact ⟨h1, (hs.blk (notT o h2).1).1⟩
  ·exact Or.inr h1
 refine ⟨⟨hupd.below, fun o ho hb => ?_⟩, fun o hb => ?_⟩
 ·rcases key o hb with ⟨h1, _⟩ | h1
  ·omega
  ·rcases hbT _ (List.mem_append.2 (Or.inl h1)) with h | h
   ·simp at h
   ·exact h
 ·rcases key o hb with ⟨_, h1⟩ | h1
  ·exact Or.inl h1
  ·exact Or.inr (List.mem_append.2 (Or.inl h1))
theorem callK_ok {g0f : FuncId} {S : Summ} (hS : SumOK Dr P g0f S) {args0 : List PV} (h : callK ob S args0 K = some r) : ∃ pv ob', K pv ob' = some r ∧ (S.ins.all Par.pure = true → ∃ new, ob' = ob ++ new) ∧
  ∀ (X : Cx Dr) (g : Gh) (w : World) (avals : List Value), Sim X g ob w → RepVs g ob.length X.I w args0 avals →
   Calls P g0f avals.toArray w fun e w' => ∃ v, e = .returned v ∧ ∃ g', ((S.ins.all Par.pure = true → Fresh Dr g ob.length w g' ob' w') ∧ Only g ob w w') ∧ Sim X g' ob' w' ∧ Keep g ob.length X.I w g' ob'.length w' ∧ RepV g' ob'.length X.I w' pv v := by
 unfold callK at h
 split at h <;> try (cases h; done)
 rename_i args hpk
 obtain ⟨h, hbnd, _⟩ := boundsK_ok _ _ h
 split at h <;> try (cases h; done)
 rename_i x hx
 rw [hbnd] at hx
 split at h <;> try (cases h; done)
 rename_i hcond
 simp only [Bool.and_eq_true, List.all_eq_true] at hcond
 obtain ⟨⟨⟨hnd, hro⟩, hok⟩, hflat⟩ := hcond
 have hnd := (show ∀ l, noDup l = true → l.Nodup from fun l => by
  induction l with
  | nil => intro _; exact List.nodup_nil
  | cons a l ih =>
   intro h
   simp only [noDup, Bool.and_eq_true, Bool.not_eq_true', List.contains_eq_mem, decide_eq_false_iff_not] at h
   exact List.nodup_cons.2 ⟨h.1, ih h.2⟩) _ hnd
 obtain ⟨y, hy, h⟩ := Option.bind_eq_some_iff.1 h
 split at h <;> try (cases h; done)
 rename_i res ob' hres hio
 have hpo : S.ins.all Par.pure = true → ∃ new, ob' = ob ++ new := fun hp => by
  have h1 := pure_io ob S.ins args _ _ ob' hp hio
  rw [pure_ids ob S.ins args hp] at h1
  exact ⟨_, h1⟩
 have core := callK_core hS hpk hx hnd hro hok hy hres hio
 cases hbx : isBox S.outs with
 | false =>
  rw [hbx] at h
  refine ⟨_, ob', h, hpo, fun X g w avals hs hr0 => ?_⟩
  refine (core X g w avals hs hr0).mono ?_
  rintro e w' ⟨vs, bb, g', ha, ⟨h1, h2⟩, h3, h4, h5⟩
  rw [hbx] at ha
  exact ⟨_, ha, g', ⟨fun hp => (h1 hp).1, h2⟩, h3, h4, oneOrTup_ok _ _ h5⟩
 | true =>
  rw [hbx] at h
  unfold boxK at h
  simp only at h
  split at h <;> try (cases h; done)
  rename_i b cs hp
  refine ⟨_, _, h, fun _ => ?_, fun X g w avals hs hr0 => ?_⟩
  ·obtain ⟨new, e⟩ := hpo hp
   exact ⟨new ++ [.box cs], by rw [e, List.append_assoc]⟩
  refine (core X g w avals hs hr0).mono ?_
  rintro e w' ⟨vs, bb, g', ha, ⟨h1, h2⟩, h3, h4, h5⟩
  rw [hbx] at ha
  obtain ⟨b, pr, us, po, t, rfl, rfl, hw, hb1, hb2⟩ := ha
  obtain ⟨hf, hblk⟩ := h1 hp
  simp only [RepVs] at h5
  obtain ⟨u, t', e5, h5, _⟩ := h5
  cases e5
  simp only [RepV] at h5
  obtain ⟨us', e6, h5⟩ := h5
  have e6 : us = us' := by have := congrArg (fun v => match v with | Value.agg a => a.toList | _ => []) e6; simpa using this
  subst e6
  have hne : ∀ o, hasBlk g' ob' o → g'.A o ≠ b := fun o ho e => by
   rcases hblk o ho with h | h
   ·omega
   ·rw [e] at h; exact hb2 h
  have hnI : ¬ X.I b := fun hI => by have := hs.bnd b hI; omega
  have s4 := h3.addP (.box cs) b undef 1 0 pr po (fun cells hc => by cases hc; exact ⟨us, t, hw, h5, hnI, rfl, rfl⟩) (fun _ _ hc => by cases hc) (fun _ => ⟨Or.inl (Nat.le_trans hs.bsz hb1), hne⟩)
  have k4 : Keep g' ob'.length X.I w' (g'.pushP ob'.length b undef 1 0 pr po) (ob' ++ [Ob.box cs]).length w' := by simpa using Keep.pushP h3.jI
  refine ⟨_, rfl, g'.pushP ob'.length b undef 1 0 pr po, ⟨fun _ => ⟨hf.below, fun o ho hb' => ?_⟩, h2⟩, s4, h4.trans k4, ?_⟩
  ·by_cases ho' : o = ob'.length
   ·subst ho'; simpa [Gh.pushP] using hb1
   ·rw [(pushP_agree ho').A]
    refine hf.fresh o ho ?_
    have hl := hb'.lt
    simp only [List.length_append, List.length_cons, List.length_nil] at hl
    have hl2 : o < ob'.length := by omega
    rcases hb' with ⟨c', hb'⟩ | ⟨e', xs, hb', hn⟩
    ·rw [List.getElem?_append_left hl2] at hb'; exact Or.inl ⟨_, hb'⟩
    ·rw [List.getElem?_append_left hl2] at hb'
     rw [(pushP_agree ho').H] at hn
     exact Or.inr ⟨_, _, hb', hn⟩
  ·simp only [RepV]
   exact ⟨by simp, by simp [Gh.pushP], by simp [Gh.pushP], by simp [Gh.pushP]⟩
theorem w_call (hT : ∀ g fs S, tbl g fs = some S → SumOK Dr P g S) {c : Call} {f : Operand} (hc : c.callee = .value f) (hop : o.op = .call c) (h : evOp P tbl env ob o.op K = some r) : ∃ pv ob', K pv ob' = some r ∧ WV Dr P ob env o (impure tbl env o.op) pv ob' := by
 rw [hop] at h ⊢
 simp only [evOp, hc] at h
 split at h <;> try (cases h; done)
 rename_i gf caps hf
 split at h <;> try (cases h; done)
 rename_i S hS
 have hsum := hT gf _ S hS
 obtain ⟨pv, ob', h1, h2, h3⟩ := callK_ok hsum h
 have him : impure tbl env (.call c) = !S.ins.all Par.pure := by
  simp only [impure, hc, hf, hS]
 rw [him]
 refine ⟨pv, ob', h1, fun hp => h2 (by simpa using hp), fun X N g w a hs he => ?_⟩
 have hfv := he.ev f
 rw [hf] at hfv
 simp only [RepV] at hfv
 obtain ⟨us, hfv, hcaps⟩ := hfv
 unfold mkr
 rw [enter_run hsum.1 hc hfv hop]
 simp only []
 have hvals : RepVs g ob.length X.I w (c.args.toList.map (ev env) ++ caps) (c.args.toList.map a.eval ++ us) := repvs_app _ _ _ _ (repvs_map he _) hcaps
 have := h3 X g w _ hs hvals
 have e1 : (c.args.toList.map a.eval ++ us).toArray = c.args.map a.eval ++ us.toArray := by
  apply Array.ext'
  simp
 rw [e1] at this
 refine this.mono ?_
 rintro e w' ⟨v, rfl, g', hp, k1, k2, k3⟩
 exact ⟨v, rfl, g', ⟨fun hh => hp.1 (by simpa using hh), hp.2, fun hh => by rw [hop] at hh; simp [isCallV, hc] at hh⟩, k1, k2, k3⟩
end Go.Rv
set_option linter.unusedVariables false
set_option linter.unusedSimpArgs false
namespace Go.Rv
open Go.RowKit
variable {Dr : Kn}
def Gh.sel (g : Gh) (ids : List Nat) : Gh := ⟨fun j => g.A (ids.getD j 0), fun j => g.H (ids.getD j 0), fun j => g.L (ids.getD j 0), fun j => g.S (ids.getD j 0), fun j => g.pre (ids.getD j 0), fun j => g.post (ids.getD j 0), g.J⟩
theorem place_ok (ids : List Nat) (o : Nat) (h : o ∈ ids) : place ids o < ids.length ∧ ids.getD (place ids o) 0 = o := by
 unfold place
 have h1 : ids.findIdx (· == o) < ids.length := List.findIdx_lt_length_of_exists ⟨o, h, by simp⟩
 refine ⟨h1, ?_⟩
 have h2 := List.findIdx_getElem (w := h1)
 simp only [List.getD_eq_getElem?_getD, List.getElem?_eq_getElem h1, Option.getD_some]
 simpa using h2
mutual
theorem ren_ok {g : Gh} {n : Nat} {I : Nat → Prop} {w : World} (ids : List Nat) : ∀ (v : PV) (u : Value), (∀ i ∈ idsPV v, i ∈ ids) → RepV g n I w v u → RepV (g.sel ids) ids.length I w (ren ids v) u
 | .int _ _, _, _, h => by simpa [ren, RepV] using h
 | .bool _, _, _, h => by simpa [ren, RepV] using h
 | .str _, _, _, h => by simpa [ren, RepV] using h
 | .sl _ _, _, _, h => by simpa [ren, RepV] using h
 | .own o, u, hi, h => by
  obtain ⟨h1, h2⟩ := place_ok ids o (hi o (by simp [idsPV]))
  simp only [ren, RepV, Gh.sel, h2] at h ⊢
  exact ⟨h1, h.2⟩
 | .sh _ _, _, _, h => by simpa [ren, RepV, Gh.sel] using h
 | .emp, _, _, h => by simpa [ren, RepV] using h
 | .ref o sz off len, u, hi, h => by
  obtain ⟨h1, h2⟩ := place_ok ids o (hi o (by simp [idsPV]))
  simp only [ren, RepV, Gh.sel, h2] at h ⊢
  exact ⟨h1, h.2⟩
 | .ptr o i sz j, u, hi, h => by
  obtain ⟨h1, h2⟩ := place_ok ids o (hi o (by simp [idsPV]))
  simp only [ren, RepV, Gh.sel, h2] at h ⊢
  exact ⟨h1, h.2⟩
 | .eptr _ _ _, _, _, h => by simpa [ren, RepV] using h
 | .nilp, _, _, h => by simpa [ren, RepV] using h
 | .nils, _, _, h => by simpa [ren, RepV] using h
 | .either, _, _, h => by simpa [ren, RepV] using h
 | .agg vs, u, hi, h => by
  simp only [ren, RepV] at h ⊢
  obtain ⟨us, hu, hr⟩ := h
  exact ⟨us, hu, rens_ok ids vs us (by simpa [idsPV] using hi) hr⟩
 | .tup vs, u, hi, h => by
  simp only [ren, RepV] at h ⊢
  obtain ⟨us, hu, hr⟩ := h
  exact ⟨us, hu, rens_ok ids vs us (by simpa [idsPV] using hi) hr⟩
 | .fn f vs, u, hi, h => by
  simp only [ren, RepV] at h ⊢
  obtain ⟨us, hu, hr⟩ := h
  exact ⟨us, hu, rens_ok ids vs us (by simpa [idsPV] using hi) hr⟩
 | .undef, _, _, _ => by simp [ren, RepV]
 | .skip, _, _, h => by simpa [ren, RepV] using h
theorem rens_ok {g : Gh} {n : Nat} {I : Nat → Prop} {w : World} (ids : List Nat) : ∀ (vs : List PV) (us : List Value), (∀ i ∈ idsPVs vs, i ∈ ids) → RepVs g n I w vs us → RepVs (g.sel ids) ids.length I w (rens ids vs) us
 | [], us, _, h => by simpa [rens, RepVs] using h
 | v :: r, us, hi, h => by
  simp only [rens, RepVs] at h ⊢
  obtain ⟨u, t, hu, h1, h2⟩ := h
  exact ⟨u, t, hu, ren_ok ids v u (fun i hm => hi i (by simp [idsPVs, hm])) h1, rens_ok ids r t (fun i hm => hi i (by simp [idsPVs, hm])) h2⟩
end
theorem noDup_ok : ∀ (l : List Nat), noDup l = true → l.Nodup
 | [], _ => List.nodup_nil
 | x :: r, h => by
  simp only [noDup, Bool.and_eq_true, Bool.not_eq_true', List.contains_eq_mem, decide_eq_false_iff_not] at h
  exact List.nodup_cons.2 ⟨h.1, noDup_ok r h.2⟩
theorem look_clean (ids : List Nat) (env : Env) : ∀ (keep : List Nat) (s : Nat), (s ∈ keep ∧ look (cleanEnv ids env keep) s = ren ids (look env s)) ∨ look (cleanEnv ids env keep) s = .undef
 | [], s => Or.inr rfl
 | k :: r, s => by
  simp only [cleanEnv, look]
  by_cases h : k = s
  ·subst h; rw [if_pos rfl]; exact Or.inl ⟨by simp, rfl⟩
  ·rw [if_neg h]
   rcases look_clean ids env r s with ⟨h1, h2⟩ | h2
   ·exact Or.inl ⟨List.mem_cons_of_mem _ h1, h2⟩
   ·exact Or.inr h2
theorem ids_sub : ∀ (vs : List PV) (v : PV), v ∈ vs → ∀ i ∈ idsPV v, i ∈ idsPVs vs
 | [], v, h, i, hi => by simp at h
 | x :: r, v, h, i, hi => by
  simp only [idsPVs, List.mem_append]
  rcases List.mem_cons.1 h with rfl | h
  ·exact Or.inl hi
  ·exact Or.inr (ids_sub r v h i hi)
theorem clean_ok {R : Type} {n0 : Nat} {keep : List Nat} {env : Env} {ob : List Ob} {K : Env → List Ob → Option R} {r : R} (h : clean n0 keep env ob K = some r) :
  ∃ env' ob', K env' ob' = some r ∧ ∀ (X : Cx Dr) (N : Nat) (g : Gh) (w : World) (a : Act), X.n0 = n0 → Sim X g ob w → RepE N g ob.length X.I w env a →
   ∃ g', Sim X g' ob' w ∧ RepE N g' ob'.length X.I w env' a := by
 unfold clean at h
 split at h <;> try (simp at h; done)
 rename_i hc
 refine ⟨_, _, h, fun X N g w a hn0 s he => ?_⟩
 subst hn0
 clear h
 generalize reach X.n0 (keep.map (look env)) ob = ids at hc ⊢
 simp only [closedB, Bool.and_eq_true, List.all_eq_true, List.contains_eq_mem, decide_eq_true_eq, List.mem_range, beq_iff_eq] at hc
 obtain ⟨⟨⟨hnd, hids⟩, hcl⟩, hpre⟩ := hc
 have hnd := noDup_ok _ hnd
 have getX : ∀ j X, (ids.map fun i => renOb ids ob[i]?)[j]? = some X → ∃ i, ids[j]? = some i ∧ X = renOb ids ob[i]? ∧ ids.getD j 0 = i := fun j X hX => by
  rw [List.getElem?_map, Option.map_eq_some_iff] at hX
  obtain ⟨i, hi, rfl⟩ := hX
  exact ⟨i, hi, rfl, by simp [List.getD_eq_getElem?_getD, hi]⟩
 have len : (ids.map fun i => renOb ids ob[i]?).length = ids.length := by simp
 have toBlk : ∀ j, hasBlk (g.sel ids) (ids.map fun i => renOb ids ob[i]?) j → j < ids.length ∧ hasBlk g ob (ids.getD j 0) := fun j hb => by
  have hj : j < ids.length := by have := hb.lt; rwa [len] at this
  refine ⟨hj, ?_⟩
  rcases hb with ⟨cells, hb⟩ | ⟨e, xs, hb, hn⟩
  ·obtain ⟨i, hi, hX, hg⟩ := getX j _ hb
   rw [hg]
   cases hob : ob[i]? with
   | none => rw [hob] at hX; simp [renOb] at hX
   | some Y =>
    rw [hob] at hX
    cases Y <;> simp [renOb] at hX
    exact Or.inl ⟨_, hob⟩
  ·obtain ⟨i, hi, hX, hg⟩ := getX j _ hb
   have hn' : ¬ isEmp (g.H (ids.getD j 0)) := hn
   rw [hg] at hn' ⊢
   cases hob : ob[i]? with
   | none => rw [hob] at hX; simp [renOb] at hX
   | some Y =>
    rw [hob] at hX
    cases Y <;> simp [renOb] at hX
    exact Or.inr ⟨_, _, hob, hn'⟩
 have hlen0 : X.n0 ≤ ids.length := by
  rcases Nat.eq_zero_or_pos X.n0 with h0 | h0
  ·omega
  ·have := hpre (X.n0 - 1) (by omega)
   have := (List.getElem?_eq_some_iff.1 this).1
   omega
 refine ⟨g.sel ids, ⟨?_, ?_, ?_, ?_, s.bnd, s.jI, s.upd, s.bsz, by rw [len]; exact hlen0, fun o ho => ?_, s.keptJ⟩, he.1, he.2.1, fun sl => ?_⟩
 ·intro j cells hb
  obtain ⟨i, hi, hX, hg⟩ := getX j _ hb
  cases hob : ob[i]? with
  | none => rw [hob] at hX; simp [renOb] at hX
  | some Y =>
   rw [hob] at hX
   cases Y with
   | box c0 =>
    simp only [renOb, Ob.box.injEq] at hX
    obtain ⟨us, t, k1, k2, k3, k4, k5⟩ := s.box i c0 hob
    refine ⟨us, t, ?_, ?_, ?_, ?_, ?_⟩
    ·show w.heap[g.A (ids.getD j 0)]? = some (.cells (g.pre (ids.getD j 0) ++ us ++ g.post (ids.getD j 0)).toArray t (0, 0)); rw [hg]; exact k1
    ·rw [hX, len]
     refine rens_ok ids c0 us (fun z hz => hcl i (List.mem_of_getElem? hi) z ?_) k2
     rw [hob]; exact hz
    ·show ¬ X.I (g.A (ids.getD j 0)); rw [hg]; exact k3
    ·show g.S (ids.getD j 0) = 0; rw [hg]; exact k4
    ·show g.L (ids.getD j 0) = 1; rw [hg]; exact k5
   | arr e xs => simp [renOb] at hX
   | dead => simp [renOb] at hX
 ·intro j e xs hb
  obtain ⟨i, hi, hX, hg⟩ := getX j _ hb
  cases hob : ob[i]? with
  | none => rw [hob] at hX; simp [renOb] at hX
  | some Y =>
   rw [hob] at hX
   cases Y with
   | box c0 => simp [renOb] at hX
   | arr e' xs' =>
    simp only [renOb] at hX
    cases hX
    obtain ⟨k1, k2, kp, k3⟩ := s.arr i e xs hob
    refine ⟨?_, ?_, ?_, ?_⟩
    ·show g.S (ids.getD j 0) = _; rw [hg]; exact k1
    ·show g.L (ids.getD j 0) = _; rw [hg]; exact k2
    ·show g.pre (ids.getD j 0) = _; rw [hg]; exact kp
    ·unfold ArrAt at *
     simp only [Gh.sel, hg]
     exact k3
   | dead => simp [renOb] at hX
 ·intro j j' hb hb' e
  obtain ⟨h1, h2⟩ := toBlk j hb
  obtain ⟨h3, h4⟩ := toBlk j' hb'
  have := s.inj _ _ h2 h4 e
  simp only [List.getD_eq_getElem?_getD, List.getElem?_eq_getElem h1, List.getElem?_eq_getElem h3, Option.getD_some] at this
  have hp := List.pairwise_iff_getElem.1 hnd
  rcases Nat.lt_trichotomy j j' with hlt | heq | hgt
  ·exact absurd this (hp j j' h1 h3 hlt)
  ·exact heq
  ·exact absurd this.symm (hp j' j h3 h1 hgt)
 ·intro j hb
  obtain ⟨h1, h2⟩ := toBlk j hb
  exact s.base _ h2
 ·have h1 : ids.getD o 0 = o := by simp [List.getD_eq_getElem?_getD, hpre o ho]
  have h2 := s.kept o ho
  refine ⟨?_, ?_, ?_, ?_, ?_, ?_⟩ <;> simp only [Gh.sel, h1]
  ·exact h2.A
  ·exact h2.H
  ·exact h2.L
  ·exact h2.S
  ·exact h2.pre
  ·exact h2.post
 ·rw [len]
  rcases look_clean ids env keep sl with ⟨h1, h2⟩ | h2
  ·rw [h2]
   exact ren_ok ids _ _ (fun i hi => hids i (ids_sub _ _ (List.mem_map.2 ⟨sl, h1, rfl⟩) i hi)) (he.2.2 sl)
  ·rw [h2]; simp [RepV]
end Go.Rv
set_option linter.unusedVariables false
set_option linter.unusedSimpArgs false
namespace Go.Rv
open Go.RowKit
variable {Dr : Kn}
variable {R : Type} {P : Program} {tbl : Tbl} {env : Env} {ob : List Ob} {o : Oper} {K : PV → List Ob → Option R} {r : R}
theorem evOp_wv (hT : ∀ g fs S, tbl g fs = some S → SumOK Dr P g S) (h : evOp P tbl env ob o.op K = some r) : ∃ pv ob', K pv ob' = some r ∧ WV Dr P ob env o (impure tbl env o.op) pv ob' := by
 have q : (∃ pv, K pv ob = some r ∧ QV Dr P ob env o pv) → ∃ pv ob', K pv ob' = some r ∧ WV Dr P ob env o (impure tbl env o.op) pv ob' := fun ⟨pv, h1, h2⟩ => ⟨pv, ob, h1, h2.wv _⟩
 have e : (∃ pv ob', K pv ob' = some r ∧ EV Dr P ob env o (impure tbl env o.op) pv ob') → ∃ pv ob', K pv ob' = some r ∧ WV Dr P ob env o (impure tbl env o.op) pv ob' := fun ⟨pv, ob', h1, h2⟩ => ⟨pv, ob', h1, h2.wv⟩
 cases hop : o.op with
 | move x => rw [← hop]; exact q (q_move (Or.inl hop) (by rw [hop] at h; simpa [evOp] using h))
 | assign x => rw [← hop]; exact q (q_move (Or.inr hop) (by rw [hop] at h; simpa [evOp] using h))
 | nilCheck x => rw [← hop]; exact q (q_nilCheck hop h)
 | pick c x y => rw [← hop]; exact q (q_pick hop h)
 | makeFunc f x y => rw [← hop]; exact q (q_makeFunc hop h)
 | load t x => rw [← hop]; exact q (q_load hop h)
 | fieldAddr t x f => rw [← hop]; exact q (q_fieldAddr hop h)
 | field t x f => rw [← hop]; exact q (q_field hop h)
 | indexAddr t x i => rw [← hop]; exact q (q_indexAddr hop h)
 | index t x i => rw [← hop]; exact q (q_index hop h)
 | binOp op t x y t' => rw [← hop]; exact q (q_binop hop h)
 | unOp op t x => rw [← hop]; exact q (q_unop hop h)
 | convert s d x => rw [← hop]; exact q (q_convert hop h)
 | build t ps => rw [← hop]; exact q (q_build hop h)
 | extract x i => rw [← hop]; exact q (q_extract hop h)
 | slice t x lo hi mx => rw [← hop]; exact q (q_slice hop h)
 | box t x => rw [← hop]; exact e (e_box hop _ h)
 | alloc t => rw [← hop]; exact e (e_alloc hop _ h)
 | makeSlice t l c => rw [← hop]; exact e (e_makeSlice hop _ h)
 | buildSlice t l c => rw [← hop]; exact e (e_buildSlice hop _ h)
 | store t x y =>
  obtain ⟨pv, ob', h1, h2⟩ := e_store hop h
  exact ⟨pv, ob', h1, h2.wv⟩
 | call c =>
  rw [← hop]
  obtain ⟨callee, args, ats⟩ := c
  cases callee with
  | value f => exact w_call hT rfl hop h
  | invoke f m => rw [hop] at h; simp [evOp] at h
  | builtin b =>
   cases b
   case len => exact q (q_len rfl hop h)
   case min => exact q (q_minmax (Or.inl rfl) hop h)
   case max => exact q (q_minmax (Or.inr rfl) hop h)
   case append => exact e (e_append rfl hop h)
   all_goals (rw [hop] at h; simp [evOp] at h; done)
 | _ => rw [hop] at h; simp [evOp] at h; done
theorem guard_ok {N : Nat} {g : Gh} {n : Nat} {I : Nat → Prop} {w : World} {a : Act} {ops : Array Oper} (he : RepE N g n I w env a) {j s : Nat} {want b : Bool} (hg : o.guard = some (j, want)) (hs : gslot ops j = some s) (hl : look env s = .bool b) :
  Region.wanted o (yielded ops a.tmps) = (b == want) := by
 have h1 := he.2.2 s
 rw [hl] at h1
 simp only [RepV] at h1
 have h2 : a.tmps[s]? = some (.bool b) := by
  rw [Array.getD_eq_getD_getElem?] at h1
  cases h3 : a.tmps[s]? with
  | none => rw [h3] at h1; simp [undef] at h1
  | some v => rw [h3] at h1; simpa using h1
 unfold gslot at hs
 simp only [Region.wanted, hg, yielded, hs, Option.bind_some, h2]
 cases b <;> cases want <;> rfl
theorem guard_skip {N : Nat} {g : Gh} {n : Nat} {I : Nat → Prop} {w : World} {a : Act} {ops : Array Oper} (he : RepE N g n I w env a) {j s : Nat} {want : Bool} (hg : o.guard = some (j, want)) (hs : gslot ops j = some s) (hl : look env s = .skip) :
  Region.wanted o (yielded ops a.tmps) = false := by
 have h1 := he.2.2 s
 rw [hl] at h1
 simp only [RepV] at h1
 unfold gslot at hs
 simp only [Region.wanted, hg, yielded, hs, Option.bind_some]
 rw [Array.getD_eq_getD_getElem?] at h1
 cases h3 : a.tmps[s]? with
 | none => rfl
 | some v =>
  rw [h3] at h1
  simp only [Option.getD_some] at h1
  subst h1
  rfl
theorem runOps_list (hT : ∀ g fs S, tbl g fs = some S → SumOK Dr P g S) {N : Nat} {ops : Array Oper} {X : Cx Dr} {K : Env → List Ob → Option R} {Q : Exit → Act → World → Prop} :
  ∀ (l : List Oper) (env : Env) (ob : List Ob) (g : Gh) (w : World) (a : Act), runOps P tbl N ops l env ob K = some r → Sim X g ob w → RepE N g ob.length X.I w env a →
   (∀ env' ob' g' w' a', K env' ob' = some r → Sim X g' ob' w' → RepE N g' ob'.length X.I w' env' a' → Q .normal a' w') → wpList P ops Q l a w
 | [], env, ob, g, w, a, h, hs, he, hQ => hQ env ob g w a h hs he
 | o :: l, env, ob, g, w, a, h, hs, he, hQ => by
  simp only [runOps] at h
  split at h <;> try (simp at h; done)
  rename_i hd
  have step : ∀ env1, RepE N g ob.length X.I w env1 a → Region.wanted o (yielded ops a.tmps) = true → evOp P tbl env1 ob o.op (fun v ob' => runOps P tbl N ops l (put env1 o.dst v) ob' K) = some r → wpList P ops Q (o :: l) a w := fun env1 he1 hw h1 => by
   obtain ⟨pv, ob', h2, _, h3⟩ := evOp_wv hT h1
   unfold wpList
   rw [if_pos hw]
   refine Or.inl (mkr_wp (mkr_mono ?_ (h3 X N g w a hs he1)))
   rintro v w' ⟨g', _, s', k', r'⟩
   exact runOps_list hT l _ ob' g' w' _ h2 s' ((he1.keep k').put hd r') hQ
  split at h
  ·rename_i hg
   exact step env he (by simp [Region.wanted, hg]) h
  ·rename_i j want hg
   split at h <;> try (simp at h; done)
   rename_i s hgs
   split at h <;> try (simp at h; done)
   rotate_left
   ·rename_i hl
    have hw := guard_skip he hg hgs hl
    unfold wpList
    rw [if_neg (by rw [hw]; simp)]
    exact runOps_list hT l _ ob g w _ h hs (he.put hd (by simp [RepV])) hQ
   rename_i b hl
   have hw := guard_ok he hg hgs hl
   have he1 := he.lit hl
   have h1 : (if b = want then evOp P tbl ((s, .bool b) :: env) ob o.op (fun v ob' => runOps P tbl N ops l (put ((s, .bool b) :: env) o.dst v) ob' K) else runOps P tbl N ops l (put ((s, .bool b) :: env) o.dst .skip) ob K) = some r := by
    cases b <;> simpa using h
   by_cases hbw : b = want
   ·rw [if_pos hbw] at h1
    exact step _ he1 (by rw [hw, hbw]; simp) h1
   ·rw [if_neg hbw] at h1
    unfold wpList
    rw [if_neg (by rw [hw]; simp [hbw])]
    exact runOps_list hT l _ ob g w _ h1 hs (he1.put hd (by simp [RepV])) hQ
end Go.Rv
set_option linter.unusedVariables false
set_option linter.unusedSimpArgs false
namespace Go.Rv
open Go.RowKit
variable {Dr : Kn}
variable {R : Type} {P : Program} {tbl : Tbl} {env : Env} {ob : List Ob} {o : Oper} {K : PV → List Ob → Option R} {r : R}
def Closed (ops : List Oper) (L : Nat → Bool) : Prop := ∀ j o, ops[j]? = some o → L j = true → ∀ e ∈ o.after, Region.binds .any e = true → L e.on = true
def Reach (ops : List Oper) (k x : Nat) : Prop := ∀ L, Closed ops L → (∀ o, ops[k]? = some o → ∀ e ∈ o.after, Region.binds .any e = true → L e.on = true) → L x = true
theorem row_bits {tab : List Nat} {x : Nat} : ∀ (es : List Edge) (m : Nat), (es.foldl (fun m e => if Region.binds .any e = true then m ||| (1 <<< e.on) ||| tab.getD e.on 0 else m) m).testBit x = true →
  m.testBit x = true ∨ ∃ e ∈ es, Region.binds .any e = true ∧ (e.on = x ∨ (tab.getD e.on 0).testBit x = true)
 | [], m, h => Or.inl h
 | e :: es, m, h => by
  simp only [List.foldl_cons] at h
  rcases row_bits es _ h with h1 | ⟨e', h1, h2, h3⟩
  ·split at h1
   ·rename_i hb
    simp only [Nat.testBit_or, Bool.or_eq_true] at h1
    rcases h1 with (h1 | h1) | h1
    ·exact Or.inl h1
    ·right
     refine ⟨e, by simp, hb, Or.inl ?_⟩
     rw [Nat.one_shiftLeft, Nat.testBit_two_pow] at h1
     simpa using h1
    ·exact Or.inr ⟨e, by simp, hb, Or.inr h1⟩
   ·exact Or.inl h1
  ·exact Or.inr ⟨e', List.mem_cons_of_mem _ h1, h2, h3⟩
def Back (ops : List Oper) : Prop := ∀ (k : Nat) (o : Oper), ops[k]? = some o → ∀ e ∈ o.after, Region.binds .any e = true → e.on < k
theorem depTab_ok (ops : List Oper) : ∀ (l : List Oper) (tab : List Nat), ops = ops.take tab.length ++ l → (∀ k x, (tab.getD k 0).testBit x = true → Reach ops k x ∧ (Back ops → x < k)) →
  ∀ k x, ((depTab l tab).getD k 0).testBit x = true → Reach ops k x ∧ (Back ops → x < k)
 | [], tab, _, h => fun k x hb => h k x hb
 | o :: l, tab, hl, h => by
  rw [depTab]
  have htl : tab.length ≤ ops.length := by
   rcases Nat.lt_or_ge ops.length tab.length with h1 | h1
   ·have := congrArg List.length hl
    rw [List.take_of_length_le (Nat.le_of_lt h1)] at this
    simp at this
   ·exact h1
  have hget : ops[tab.length]? = some o := by
   rw [hl, List.getElem?_append_right (by simp; omega)]
   simp [Nat.min_eq_left htl]
  refine depTab_ok ops l _ ?_ ?_
  ·have h2 := hl
   conv => lhs; rw [hl]
   have hlt : tab.length < ops.length := (List.getElem?_eq_some_iff.1 hget).1
   simp only [List.length_append, List.length_singleton]
   rw [List.take_add_one, hget]
   simp
  ·intro k x hb
   by_cases hk : k < tab.length
   ·have : (tab ++ [o.after.toList.foldl (fun m e => if Region.binds .any e = true then m ||| (1 <<< e.on) ||| tab.getD e.on 0 else m) 0]).getD k 0 = tab.getD k 0 := by
     simp [List.getD_eq_getElem?_getD, List.getElem?_append_left hk]
    rw [this] at hb
    exact h k x hb
   ·by_cases hk2 : k = tab.length
    ·subst hk2
     simp only [List.getD_eq_getElem?_getD, List.getElem?_concat_length, Option.getD_some] at hb
     rcases row_bits _ _ hb with h1 | ⟨e, he, hbd, h1⟩
     ·simp at h1
     ·have he' : e ∈ o.after := by simpa using he
      refine ⟨fun L hc hed => ?_, fun hsm => ?_⟩
      ·have hL := hed o hget e he' hbd
       rcases h1 with rfl | h1
       ·exact hL
       ·refine (h e.on x ?_).1 L hc fun o2 ho2 e2 he2 hb2 => hc e.on o2 ho2 hL e2 he2 hb2
        rw [List.getD_eq_getElem?_getD]; exact h1
      ·have h2 := hsm _ o hget e he' hbd
       rcases h1 with rfl | h1
       ·exact h2
       ·have h3 := (h e.on x (by rw [List.getD_eq_getElem?_getD]; exact h1)).2 hsm
        omega
    ·have : (tab ++ [o.after.toList.foldl (fun m e => if Region.binds .any e = true then m ||| (1 <<< e.on) ||| tab.getD e.on 0 else m) 0]).getD k 0 = 0 := by
      rw [List.getD_eq_getElem?_getD, List.getElem?_eq_none (by simp; omega)]
      rfl
     rw [this] at hb
     simp at hb
def maskF (f : Nat → Bool) : List (Nat × List Ob) → List Ob
 | [] => []
 | (k, os) :: r => (if f k = true then os else deadL os) ++ maskF f r
theorem maskO_eq (m : Nat) : ∀ (objs : List (Nat × List Ob)), maskO m objs = maskF (fun k => m.testBit k) objs
 | [] => rfl
 | (k, os) :: r => by simp only [maskO, maskF, maskO_eq m r]
def maskG (vals : List (Nat × PV)) (u : Nat → Nat → PV) (f : Nat → Bool) : List Oper → Nat → Env
 | [], _ => []
 | o :: r, k => match o.dst with
  | some d => (d, if f k = true then valOf vals k else u k d) :: maskG vals u f r (k + 1)
  | none => maskG vals u f r (k + 1)
theorem maskE_eq (vals : List (Nat × PV)) (u : Nat → Nat → PV) (m : Nat) : ∀ (ops : List Oper) (k : Nat), maskE vals u m ops k = maskG vals u (fun k => m.testBit k) ops k
 | [], _ => rfl
 | o :: r, k => by
  simp only [maskE, maskG]
  cases o.dst <;> simp [maskE_eq vals u m r]
theorem dead_len : ∀ (os : List Ob), (deadL os).length = os.length
 | [] => rfl
 | _ :: r => by simp [deadL, dead_len r]
theorem dead_get : ∀ (os : List Ob) (i : Nat) (Y : Ob), (deadL os)[i]? = some Y → Y = .dead
 | [], i, Y, h => by simp [deadL] at h
 | _ :: r, 0, Y, h => by simp [deadL] at h; exact h.symm
 | _ :: r, i + 1, Y, h => dead_get r i Y (by simpa [deadL] using h)
theorem maskF_len (f : Nat → Bool) : ∀ (objs : List (Nat × List Ob)), (maskF f objs).length = total objs
 | [] => rfl
 | (k, os) :: r => by
  simp only [maskF, List.length_append, total, maskF_len f r]
  split <;> simp [dead_len]
theorem maskF_app (f : Nat → Bool) : ∀ (a b : List (Nat × List Ob)), maskF f (a ++ b) = maskF f a ++ maskF f b
 | [], b => rfl
 | (k, os) :: r, b => by simp only [List.cons_append, maskF, maskF_app f r b, List.append_assoc]
theorem total_app : ∀ (a b : List (Nat × List Ob)), total (a ++ b) = total a + total b
 | [], b => by simp [total]
 | (k, os) :: r, b => by simp only [List.cons_append, total, total_app r b]; omega
theorem tag_app : ∀ (a b : List (Nat × List Ob)) (i : Nat), i < total a → tagOf (a ++ b) i = tagOf a i
 | [], b, i, h => by simp [total] at h
 | (k, os) :: r, b, i, h => by
  simp only [List.cons_append, tagOf]
  split
  ·rfl
  ·exact tag_app r b _ (by simp only [total] at h; omega)
theorem tag_mid : ∀ (a b : List (Nat × List Ob)) (k : Nat) (os : List Ob) (i : Nat), i < os.length → tagOf (a ++ (k, os) :: b) (total a + i) = some k
 | [], b, k, os, i, h => by simp [total, tagOf, h]
 | (k', os') :: r, b, k, os, i, h => by
  simp only [List.cons_append, tagOf, total]
  rw [if_neg (by omega), show os'.length + total r + i - os'.length = total r + i by omega]
  exact tag_mid r b k os i h
theorem tag_mem : ∀ (a : List (Nat × List Ob)) (i k : Nat), tagOf a i = some k → k ∈ a.map (·.1)
 | [], i, k, h => by simp [tagOf] at h
 | (k', os) :: r, i, k, h => by
  simp only [tagOf] at h
  split at h
  ·have := Option.some.inj h
   simp [this]
  ·simp [tag_mem r _ k h]
theorem mask_live (f : Nat → Bool) : ∀ (objs : List (Nat × List Ob)) (i : Nat) (Y : Ob), (maskF f objs)[i]? = some Y → Y ≠ .dead → ∃ d, tagOf objs i = some d ∧ f d = true
 | [], i, Y, h, _ => by simp [maskF] at h
 | (k, os) :: r, i, Y, h, hY => by
  simp only [maskF] at h
  simp only [tagOf]
  have hl : (if f k = true then os else deadL os).length = os.length := by split <;> simp [dead_len]
  split
  ·rename_i hi
   rw [List.getElem?_append_left (by omega)] at h
   split at h
   ·rename_i hf; exact ⟨k, rfl, hf⟩
   ·exact absurd (dead_get _ _ _ h) hY
  ·rename_i hi
   rw [List.getElem?_append_right (by omega), hl] at h
   exact mask_live f r _ Y h hY
theorem mask_sub {f f' : Nat → Bool} (hf : ∀ k, f k = true → f' k = true) : ∀ (objs : List (Nat × List Ob)) (i : Nat) (Y : Ob), (maskF f objs)[i]? = some Y → Y = .dead ∨ (maskF f' objs)[i]? = some Y
 | [], i, Y, h => by simp [maskF] at h
 | (k, os) :: r, i, Y, h => by
  simp only [maskF] at h ⊢
  have hl : (if f k = true then os else deadL os).length = os.length := by split <;> simp [dead_len]
  have hl' : (if f' k = true then os else deadL os).length = os.length := by split <;> simp [dead_len]
  by_cases hi : i < os.length
  ·rw [List.getElem?_append_left (by omega)] at h ⊢
   by_cases h1 : f k = true
   ·rw [if_pos h1] at h
    rw [if_pos (hf k h1)]
    exact Or.inr h
   ·rw [if_neg h1] at h
    exact Or.inl (dead_get _ _ _ h)
  ·rw [List.getElem?_append_right (by omega), hl] at h
   rw [List.getElem?_append_right (by omega), hl']
   exact mask_sub hf r _ Y h
theorem mask_congr {f f' : Nat → Bool} : ∀ (objs : List (Nat × List Ob)), (∀ k ∈ objs.map (·.1), f k = f' k) → maskF f objs = maskF f' objs
 | [], _ => rfl
 | (k, os) :: r, h => by
  simp only [maskF]
  rw [h k (by simp), mask_congr r fun k hk => h k (by simp at hk ⊢; exact Or.inr hk)]
theorem repv_ids {g : Gh} {n : Nat} {I : Nat → Prop} {w : World} : ∀ (v : PV) (u : Value), RepV g n I w v u → ∀ i ∈ idsPV v, i < n := by
 intro v
 refine PV.rec (motive_1 := fun v => ∀ u, RepV g n I w v u → ∀ i ∈ idsPV v, i < n) (motive_2 := fun vs => ∀ us, RepVs g n I w vs us → ∀ i ∈ idsPVs vs, i < n) ?_ ?_ ?_ ?_ ?_ ?_ ?_ ?_ ?_ ?_ ?_ ?_ ?_ ?_ ?_ ?_ ?_ ?_ ?_ ?_ v
 all_goals first
  | (intro o u h i hi; simp [idsPV] at hi; subst hi; simp only [RepV] at h; exact h.1)
  | (intro o a b c u h i hi; simp [idsPV] at hi; subst hi; simp only [RepV] at h; exact h.1)
  | (intro vs ih u h i hi; simp only [RepV] at h; obtain ⟨us, _, h⟩ := h; exact ih us h i (by simpa [idsPV] using hi))
  | (intro f vs ih u h i hi; simp only [RepV] at h; obtain ⟨us, _, h⟩ := h; exact ih us h i (by simpa [idsPV] using hi))
  | (intro v vs ih1 ih2 us h i hi; simp only [RepVs] at h; obtain ⟨u, t, _, h1, h2⟩ := h; simp only [idsPVs, List.mem_append] at hi; rcases hi with hi | hi; exact ih1 u h1 i hi; exact ih2 t h2 i hi)
  | (intros; rename_i hi; simp [idsPV, idsPVs] at hi; done)
theorem repvs_ids {g : Gh} {n : Nat} {I : Nat → Prop} {w : World} : ∀ (vs : List PV) (us : List Value), RepVs g n I w vs us → ∀ i ∈ idsPVs vs, i < n
 | [], us, h, i, hi => by simp [idsPVs] at hi
 | v :: r, us, h, i, hi => by
  simp only [RepVs] at h
  obtain ⟨u, t, _, h1, h2⟩ := h
  simp only [idsPVs, List.mem_append] at hi
  rcases hi with hi | hi
  ·exact repv_ids v u h1 i hi
  ·exact repvs_ids r t h2 i hi
theorem Sim.part {X : Cx Dr} {g : Gh} {ob ob' : List Ob} {w : World} (s : Sim X g ob w) (hl : ob'.length ≤ ob.length) (hn : X.n0 ≤ ob'.length) (h : ∀ (o : Nat) (Y : Ob), ob'[o]? = some Y → Y = .dead ∨ ob[o]? = some Y) (hid : ∀ (o : Nat) (cells : List PV), ob'[o]? = some (.box cells) → ∀ i ∈ idsPVs cells, i < ob'.length) : Sim X g ob' w := by
 have hb : ∀ o, hasBlk g ob' o → hasBlk g ob o := fun o hh => by
  rcases hh with ⟨cells, hh⟩ | ⟨e, xs, hh, hn⟩
  ·rcases h o _ hh with h1 | h1
   ·cases h1
   ·exact Or.inl ⟨_, h1⟩
  ·rcases h o _ hh with h1 | h1
   ·cases h1
   ·exact Or.inr ⟨_, _, h1, hn⟩
 refine ⟨fun o cells hh => ?_, fun o e xs hh => ?_, fun o o' k k' e => s.inj o o' (hb o k) (hb o' k') e, fun o k => s.base o (hb o k), s.bnd, s.jI, s.upd, s.bsz, hn, s.kept, s.keptJ⟩
 ·rcases h o _ hh with h1 | h1
  ·cases h1
  ·obtain ⟨us, t, k1, k2, k3⟩ := s.box o cells h1
   exact ⟨us, t, k1, RepVs.agree rfl s.jI (fun _ _ => rfl) cells us (fun i hi _ => ⟨hid o cells hh i hi, Agree.refl _ _⟩) k2, k3⟩
 ·rcases h o _ hh with h1 | h1
  ·cases h1
  ·exact s.arr o e xs h1
def Gh.mix (g g' : Gh) (a b : Nat) : Gh :=
 ⟨fun o => if a ≤ o ∧ o < b then g'.A o else g.A o, fun o => if a ≤ o ∧ o < b then g'.H o else g.H o, fun o => if a ≤ o ∧ o < b then g'.L o else g.L o, fun o => if a ≤ o ∧ o < b then g'.S o else g.S o,
  fun o => if a ≤ o ∧ o < b then g'.pre o else g.pre o, fun o => if a ≤ o ∧ o < b then g'.post o else g.post o, g.J⟩
theorem mix_old {g g' : Gh} {a b o : Nat} (h : ¬ (a ≤ o ∧ o < b)) : Agree g (g.mix g' a b) o := ⟨if_neg h, if_neg h, if_neg h, if_neg h, if_neg h, if_neg h⟩
theorem mix_new {g g' : Gh} {a b o : Nat} (h : a ≤ o ∧ o < b) : Agree g' (g.mix g' a b) o := ⟨if_pos h, if_pos h, if_pos h, if_pos h, if_pos h, if_pos h⟩
theorem combine {X : Cx Dr} {g g' : Gh} {C D os obm : List Ob} {w w' : World} (sE : Sim X g (C ++ deadL os ++ D) w) (hb : Below Dr w.heap.size w w') (sN : Sim X g' (obm ++ os) w') (hm : obm.length = C.length) (hn0 : X.n0 ≤ C.length) (hk : Keep g obm.length X.I w g' (obm ++ os).length w')
  (hf : ∀ o, obm.length ≤ o → hasBlk g' (obm ++ os) o → w.heap.size ≤ g'.A o)
  (hid : ∀ (o : Nat) (cells : List PV), (C ++ deadL os ++ D)[o]? = some (.box cells) → ∀ i ∈ idsPVs cells, ¬ (C.length ≤ i ∧ i < C.length + os.length)) :
  Sim X (g.mix g' C.length (C.length + os.length)) (C ++ os ++ D) w' ∧
   (∀ v u, (∀ i ∈ idsPV v, ¬ (C.length ≤ i ∧ i < C.length + os.length)) → RepV g (C ++ deadL os ++ D).length X.I w v u → RepV (g.mix g' C.length (C.length + os.length)) (C ++ os ++ D).length X.I w' v u) ∧
   (∀ v u, RepV g' (obm ++ os).length X.I w' v u → RepV (g.mix g' C.length (C.length + os.length)) (C ++ os ++ D).length X.I w' v u) := by
 obtain ⟨sU, kU⟩ := sE.up hb
 have hlen : (C ++ os ++ D).length = (C ++ deadL os ++ D).length := by simp [dead_len]
 have hheap : ∀ b, X.I b → w'.heap[b]? = w.heap[b]? := kU.heap
 have old : ∀ v u, (∀ i ∈ idsPV v, ¬ (C.length ≤ i ∧ i < C.length + os.length)) → RepV g (C ++ deadL os ++ D).length X.I w v u → RepV (g.mix g' C.length (C.length + os.length)) (C ++ os ++ D).length X.I w' v u := fun v u hi hr =>
  RepV.agree (show (g.mix g' C.length (C.length + os.length)).J = g.J from rfl) sE.jI hheap v u (fun i hm hn => ⟨by rw [hlen]; exact hn, mix_old (hi i hm)⟩) hr
 have olds : ∀ vs us, (∀ i ∈ idsPVs vs, ¬ (C.length ≤ i ∧ i < C.length + os.length)) → RepVs g (C ++ deadL os ++ D).length X.I w vs us → RepVs (g.mix g' C.length (C.length + os.length)) (C ++ os ++ D).length X.I w' vs us := fun v u hi hr =>
  RepVs.agree (show (g.mix g' C.length (C.length + os.length)).J = g.J from rfl) sE.jI hheap v u (fun i hm hn => ⟨by rw [hlen]; exact hn, mix_old (hi i hm)⟩) hr
 have agN : ∀ i, i < (obm ++ os).length → i < (C ++ os ++ D).length ∧ Agree g' (g.mix g' C.length (C.length + os.length)) i := fun i hi => by
  simp only [List.length_append] at hi ⊢
  refine ⟨by omega, ?_⟩
  by_cases hr : C.length ≤ i ∧ i < C.length + os.length
  ·exact mix_new hr
  ·have h1 : i < obm.length := by omega
   have := hk.agr i h1
   have h2 := mix_old (g := g) (g' := g') hr
   exact ⟨h2.A.trans this.A.symm, h2.H.trans this.H.symm, h2.L.trans this.L.symm, h2.S.trans this.S.symm, h2.pre.trans this.pre.symm, h2.post.trans this.post.symm⟩
 have new : ∀ v u, RepV g' (obm ++ os).length X.I w' v u → RepV (g.mix g' C.length (C.length + os.length)) (C ++ os ++ D).length X.I w' v u := fun v u hr =>
  RepV.agree (show (g.mix g' C.length (C.length + os.length)).J = g'.J from hk.J.symm) sN.jI (fun _ _ => rfl) v u (fun i hm hn => agN i hn) hr
 have news : ∀ vs us, RepVs g' (obm ++ os).length X.I w' vs us → RepVs (g.mix g' C.length (C.length + os.length)) (C ++ os ++ D).length X.I w' vs us := fun v u hr =>
  RepVs.agree (show (g.mix g' C.length (C.length + os.length)).J = g'.J from hk.J.symm) sN.jI (fun _ _ => rfl) v u (fun i hm hn => agN i hn) hr
 have src : ∀ (o : Nat) (Y : Ob), (C ++ os ++ D)[o]? = some Y → ((C.length ≤ o ∧ o < C.length + os.length) ∧ (obm ++ os)[o]? = some Y) ∨ (¬ (C.length ≤ o ∧ o < C.length + os.length) ∧ (C ++ deadL os ++ D)[o]? = some Y) := fun o Y h => by
  by_cases hr : C.length ≤ o ∧ o < C.length + os.length
  ·left
   refine ⟨hr, ?_⟩
   rw [List.append_assoc, List.getElem?_append_right hr.1, List.getElem?_append_left (by omega)] at h
   rw [List.getElem?_append_right (by omega), hm]
   exact h
  ·right
   refine ⟨hr, ?_⟩
   by_cases hc : o < C.length
   ·rw [List.append_assoc, List.getElem?_append_left hc] at h ⊢
    exact h
   ·rw [List.getElem?_append_right (by simp; omega)] at h
    rw [List.getElem?_append_right (by simp [dead_len]; omega)]
    simpa [dead_len] using h
 have blk : ∀ o, hasBlk (g.mix g' C.length (C.length + os.length)) (C ++ os ++ D) o → ((C.length ≤ o ∧ o < C.length + os.length) ∧ hasBlk g' (obm ++ os) o ∧ (g.mix g' C.length (C.length + os.length)).A o = g'.A o) ∨ (¬ (C.length ≤ o ∧ o < C.length + os.length) ∧ hasBlk g (C ++ deadL os ++ D) o ∧ (g.mix g' C.length (C.length + os.length)).A o = g.A o) := fun o h => by
  by_cases hr : C.length ≤ o ∧ o < C.length + os.length
  ·left
   refine ⟨hr, ?_, (mix_new hr).A⟩
   rcases h with ⟨cells, h⟩ | ⟨e, xs, h, hn⟩
   ·rcases src o _ h with ⟨_, h1⟩ | ⟨h1, _⟩
    ·exact Or.inl ⟨_, h1⟩
    ·exact absurd hr h1
   ·rcases src o _ h with ⟨_, h1⟩ | ⟨h1, _⟩
    ·rw [(mix_new hr).H] at hn; exact Or.inr ⟨_, _, h1, hn⟩
    ·exact absurd hr h1
  ·right
   refine ⟨hr, ?_, (mix_old hr).A⟩
   rcases h with ⟨cells, h⟩ | ⟨e, xs, h, hn⟩
   ·rcases src o _ h with ⟨h1, _⟩ | ⟨_, h1⟩
    ·exact absurd h1 hr
    ·exact Or.inl ⟨_, h1⟩
   ·rcases src o _ h with ⟨h1, _⟩ | ⟨_, h1⟩
    ·exact absurd h1 hr
    ·rw [(mix_old hr).H] at hn; exact Or.inr ⟨_, _, h1, hn⟩
 refine ⟨⟨fun o cells h => ?_, fun o e xs h => ?_, fun o o' h h' e => ?_, fun o h => ?_, sU.bnd, sU.jI, sU.upd, sU.bsz, by simp; omega, fun o ho => (sU.kept o ho).trans (mix_old (by omega)), sU.keptJ⟩, old, new⟩
 ·rcases src o _ h with ⟨hr, h1⟩ | ⟨hr, h1⟩
  ·obtain ⟨us, t, k1, k2, k3, k4, k5⟩ := sN.box o cells h1
   have ag := mix_new (g := g) (g' := g') hr
   exact ⟨us, t, by rw [ag.A, ag.pre, ag.post]; exact k1, news _ _ k2, by rw [ag.A]; exact k3, by rw [ag.S]; exact k4, by rw [ag.L]; exact k5⟩
  ·obtain ⟨us, t, k1, k2, k3, k4, k5⟩ := sU.box o cells h1
   obtain ⟨us0, t0, j1, j2, _⟩ := sE.box o cells h1
   have hus : us0 = us := by
    have := hb.block _ (lt_of_heap j1)
    rw [this, j1] at k1
    simp only [Option.some.injEq, Obj.cells.injEq] at k1
    have := congrArg Array.toList k1.1
    simpa using this
   subst hus
   have ag := mix_old (g := g) (g' := g') hr
   exact ⟨_, t, by rw [ag.A, ag.pre, ag.post]; exact k1, olds _ _ (hid o cells h1) j2, by rw [ag.A]; exact k3, by rw [ag.S]; exact k4, by rw [ag.L]; exact k5⟩
 ·rcases src o _ h with ⟨hr, h1⟩ | ⟨hr, h1⟩
  ·obtain ⟨k1, k2, kp, k3⟩ := sN.arr o e xs h1
   have ag := mix_new (g := g) (g' := g') hr
   refine ⟨by rw [ag.S]; exact k1, by rw [ag.L]; exact k2, by rw [ag.pre]; exact kp, ?_⟩
   unfold ArrAt at *
   rw [ag.A, ag.H]
   exact k3
  ·obtain ⟨k1, k2, kp, k3⟩ := sU.arr o e xs h1
   have ag := mix_old (g := g) (g' := g') hr
   refine ⟨by rw [ag.S]; exact k1, by rw [ag.L]; exact k2, by rw [ag.pre]; exact kp, ?_⟩
   unfold ArrAt at *
   rw [ag.A, ag.H]
   exact k3
 ·rcases blk o h with ⟨r1, b1, a1⟩ | ⟨r1, b1, a1⟩ <;> rcases blk o' h' with ⟨r2, b2, a2⟩ | ⟨r2, b2, a2⟩
  ·rw [a1, a2] at e; exact sN.inj o o' b1 b2 e
  ·rw [a1, a2] at e
   have := hf o (by omega) b1
   have := (sE.blk b2).1
   omega
  ·rw [a1, a2] at e
   have := hf o' (by omega) b2
   have := (sE.blk b1).1
   omega
  ·rw [a1, a2] at e; exact sE.inj o o' b1 b2 e
 ·rcases blk o h with ⟨r1, b1, a1⟩ | ⟨r1, b1, a1⟩
  ·rw [a1]; exact sN.base o b1
  ·rw [a1]; exact sE.base o b1
end Go.Rv
set_option linter.unusedVariables false
set_option linter.unusedSimpArgs false
namespace Go.Rv
open Go.RowKit
variable {Dr : Kn}
variable {R : Type} {P : Program} {tbl : Tbl} {env : Env} {ob : List Ob} {o : Oper} {K : PV → List Ob → Option R} {r : R}
theorem maskG_congr {vals vals' : List (Nat × PV)} {u : Nat → Nat → PV} {f : Nat → Bool} (h : ∀ j, f j = true → valOf vals j = valOf vals' j) : ∀ (ops : List Oper) (i : Nat), maskG vals u f ops i = maskG vals' u f ops i
 | [], _ => rfl
 | o :: r, i => by
  simp only [maskG]
  cases o.dst with
  | none => exact maskG_congr h r (i + 1)
  | some d =>
   simp only
   rw [maskG_congr h r (i + 1)]
   by_cases hf : f i = true
   ·rw [if_pos hf, if_pos hf, h i hf]
   ·rw [if_neg hf, if_neg hf]
def okId (tab : List Nat) (n : Nat) (objs : List (Nat × List Ob)) (k i : Nat) : Prop := i < n ∨ ∃ d, tagOf objs (i - n) = some d ∧ ((tab.getD k 0).testBit d = true ∨ d = k)
structure POp (Dr : Kn) (P : Program) (N : Nat) (ops : List Oper) (tab : List Nat) (env0 : Env) (ob0 : List Ob) (vals : List (Nat × PV)) (objs : List (Nat × List Ob)) (k : Nat) (o : Oper) : Prop where
 dst : okDst N o.dst = true
 idv : ∀ i ∈ idsPV (valOf vals k), okId tab ob0.length objs k i
 ex : ∃ A os B, objs = A ++ (k, os) :: B ∧ (∀ cells, Ob.box cells ∈ os → ∀ i ∈ idsPVs cells, okId tab ob0.length objs k i) ∧
  ((∃ g want s, o.guard = some (g, want) ∧ (tab.getD k 0).testBit g = true ∧ (ops[g]?).bind (·.dst) = some s ∧ (valOf vals g = .skip ∨ ∃ b, valOf vals g = .bool b ∧ b ≠ want) ∧ valOf vals k = .skip ∧ os = []) ∨
  ((o.guard = none ∨ ∃ g want s, o.guard = some (g, want) ∧ (tab.getD k 0).testBit g = true ∧ (ops[g]?).bind (·.dst) = some s ∧ valOf vals g = .bool want) ∧
   WV Dr P (ob0 ++ maskF (fun j => (tab.getD k 0).testBit j) A) (maskG vals (uOf tab env0 k) (fun j => (tab.getD k 0).testBit j) ops 0 ++ env0) o false (valOf vals k) (ob0 ++ maskF (fun j => (tab.getD k 0).testBit j) A ++ os)))
theorem live_get {ob : List Ob} {i : Nat} (h : isLive ob i = true) : ∃ Y, ob[i]? = some Y ∧ Y ≠ .dead := by
 unfold isLive at h
 cases hob : ob[i]? with
 | none => rw [hob] at h; simp at h
 | some Y =>
  rw [hob] at h
  cases Y with
  | dead => simp at h
  | box c => exact ⟨_, rfl, by simp⟩
  | arr e xs => exact ⟨_, rfl, by simp⟩
theorem runA_ok (hT : ∀ g fs S, tbl g fs = some S → SumOK Dr P g S) {N : Nat} {ops : List Oper} {tab : List Nat} {env0 : Env} {ob0 : List Ob} {K : List (Nat × PV) → List (Nat × List Ob) → Option R} : ∀ (l : List (Nat × Oper)) (vals : List (Nat × PV)) (objs : List (Nat × List Ob)),
  runA P tbl N ops tab env0 ob0 l vals objs K = some r → l.Pairwise (fun p q => p.1 < q.1) → (∀ p ∈ l, ∀ j, (tab.getD p.1 0).testBit j = true → j < p.1) →
  ∃ vals' objs2, K vals' (objs ++ objs2) = some r ∧ objs2.map (·.1) = l.map (·.1) ∧ (∀ j, j ∉ l.map (·.1) → valOf vals' j = valOf vals j) ∧ ∀ p ∈ l, POp Dr P N ops tab env0 ob0 vals' (objs ++ objs2) p.1 p.2
 | [], vals, objs, h, _, _ => ⟨vals, [], by rw [List.append_nil]; simpa only [runA] using h, rfl, fun _ _ => rfl, by simp⟩
 | (k, o) :: l, vals, objs, h, hp, hb => by
  simp only [runA] at h
  split at h <;> try (cases h; done)
  rename_i hd
  have hp2 := List.pairwise_cons.1 hp
  have hk : k ∉ l.map (·.1) := fun hm => by
   obtain ⟨q, hq, he⟩ := List.mem_map.1 hm
   have := hp2.1 q hq
   simp at this he
   omega
  have hlt : ∀ j, j < k → j ∉ ((k, o) :: l).map (·.1) := fun j hj hm => by
   simp only [List.map_cons, List.mem_cons] at hm
   rcases hm with rfl | hm
   ·omega
   ·obtain ⟨q, hq, he⟩ := List.mem_map.1 hm
    have := hp2.1 q hq
    simp at this he
    omega
  have hbk := hb (k, o) (by simp)
  simp only at hbk
  have go : ∀ vals1 : List (Nat × PV), (∀ j, valOf vals1 j = valOf vals j) → (o.guard = none ∨ ∃ g want s, o.guard = some (g, want) ∧ (tab.getD k 0).testBit g = true ∧ (ops[g]?).bind (·.dst) = some s ∧ valOf vals g = .bool want) →
    (if impure tbl (maskE vals1 (uOf tab env0 k) (tab.getD k 0) ops 0 ++ env0) o.op = true then none
     else evOp P tbl (maskE vals1 (uOf tab env0 k) (tab.getD k 0) ops 0 ++ env0) (ob0 ++ maskO (tab.getD k 0) objs) o.op fun v ob' =>
      if ((idsPV v).all (isLive ob') && (ob'.drop (ob0 ++ maskO (tab.getD k 0) objs).length).all (liveOb ob')) = true then
       runA P tbl N ops tab env0 ob0 l ((k, v) :: vals1) (objs ++ [(k, ob'.drop (ob0 ++ maskO (tab.getD k 0) objs).length)]) K
      else none) = some r →
    ∃ vals' objs2, K vals' (objs ++ objs2) = some r ∧ objs2.map (·.1) = ((k, o) :: l).map (·.1) ∧ (∀ j, j ∉ ((k, o) :: l).map (·.1) → valOf vals' j = valOf vals j) ∧ ∀ p ∈ (k, o) :: l, POp Dr P N ops tab env0 ob0 vals' (objs ++ objs2) p.1 p.2 := by
   intro vals1 hv hguard h
   split at h <;> try (cases h; done)
   rename_i him
   obtain ⟨pv, ob', h1, happ, hwv⟩ := evOp_wv hT h
   have him' : impure tbl (maskE vals1 (uOf tab env0 k) (tab.getD k 0) ops 0 ++ env0) o.op = false := by simpa using him
   obtain ⟨new, rfl⟩ := happ him'
   split at h1 <;> try (cases h1; done)
   rename_i hlive
   simp only [Bool.and_eq_true, List.all_eq_true] at hlive
   obtain ⟨hl1, hl2⟩ := hlive
   have hdrop : (ob0 ++ maskO (tab.getD k 0) objs ++ new).drop (ob0 ++ maskO (tab.getD k 0) objs).length = new := List.drop_left
   rw [hdrop] at h1 hl2
   obtain ⟨vals', objs2, k1, k2, k3, k4⟩ := runA_ok hT l _ _ h1 hp2.2 (fun p hpm => hb p (List.mem_cons_of_mem _ hpm))
   have hobj : objs ++ [(k, new)] ++ objs2 = objs ++ ((k, new) :: objs2) := by simp
   rw [hobj] at k1 k4
   have hvk : valOf vals' k = pv := by rw [k3 k hk]; simp [valOf]
   have hvj : ∀ j, j ∉ ((k, o) :: l).map (·.1) → valOf vals' j = valOf vals j := fun j hj => by
    simp only [List.map_cons, List.mem_cons, not_or] at hj
    rw [k3 j hj.2]
    simp only [valOf]
    rw [if_neg (fun e => hj.1 e.symm), hv j]
   have hmv : ∀ j, (tab.getD k 0).testBit j = true → valOf vals1 j = valOf vals' j := fun j hj => by
    rw [hvj j (hlt j (hbk j hj)), hv j]
   have hlen : (ob0 ++ maskO (tab.getD k 0) objs).length = ob0.length + total objs := by rw [maskO_eq]; simp [maskF_len]
   have okI : ∀ i, isLive (ob0 ++ maskO (tab.getD k 0) objs ++ new) i = true → okId tab ob0.length (objs ++ (k, new) :: objs2) k i := fun i hi => by
    obtain ⟨Y, hY, hne⟩ := live_get hi
    by_cases h0 : i < ob0.length
    ·exact Or.inl h0
    ·right
     rw [List.append_assoc, List.getElem?_append_right (by omega)] at hY
     by_cases h1 : i - ob0.length < total objs
     ·rw [List.getElem?_append_left (by rw [maskO_eq, maskF_len]; exact h1), maskO_eq] at hY
      obtain ⟨d, hd1, hd2⟩ := mask_live _ objs _ Y hY hne
      exact ⟨d, by rw [tag_app _ _ _ h1]; exact hd1, Or.inl hd2⟩
     ·have hlt2 : i - ob0.length - total objs < new.length := by
       have := (List.getElem?_eq_some_iff.1 hY).1
       rw [List.length_append, maskO_eq, maskF_len] at this
       omega
      refine ⟨k, ?_, Or.inr rfl⟩
      have := tag_mid objs objs2 k new _ hlt2
      rw [show total objs + (i - ob0.length - total objs) = i - ob0.length by omega] at this
      exact this
   refine ⟨vals', (k, new) :: objs2, k1, by simp [k2], hvj, fun p hpm => ?_⟩
   rcases List.mem_cons.1 hpm with rfl | hpm
   ·refine ⟨hd, fun i hi => okI i (hl1 i (by rw [hvk] at hi; exact hi)), objs, new, objs2, rfl, fun cells hc i hi => ?_, Or.inr ⟨?_, ?_⟩⟩
    ·have := hl2 _ hc
     simp only [liveOb, List.all_eq_true] at this
     exact okI i (this i hi)
    ·rcases hguard with hg | ⟨g, want, s, hg, hbit, hs, hval⟩
     ·exact Or.inl hg
     ·exact Or.inr ⟨g, want, s, hg, hbit, hs, by rw [hvj g (hlt g (hbk g hbit)), hval]⟩
    ·rw [hvk, ← maskO_eq, ← maskG_congr hmv, ← maskE_eq]
     have : WV Dr P (ob0 ++ maskO (tab.getD k 0) objs) (maskE vals1 (uOf tab env0 k) (tab.getD k 0) ops 0 ++ env0) o false pv (ob0 ++ maskO (tab.getD k 0) objs ++ new) := by
      have h2 := (⟨happ, hwv⟩ : WV Dr P _ _ o _ pv _)
      rw [him'] at h2
      exact h2
     exact this
   ·exact k4 p hpm
  have over : ∀ vals1 : List (Nat × PV), (∀ j, valOf vals1 j = valOf vals j) → ∀ g want s, o.guard = some (g, want) → (tab.getD k 0).testBit g = true → (ops[g]?).bind (·.dst) = some s → (valOf vals g = .skip ∨ ∃ b, valOf vals g = .bool b ∧ b ≠ want) →
    runA P tbl N ops tab env0 ob0 l ((k, .skip) :: vals1) (objs ++ [(k, [])]) K = some r →
    ∃ vals' objs2, K vals' (objs ++ objs2) = some r ∧ objs2.map (·.1) = ((k, o) :: l).map (·.1) ∧ (∀ j, j ∉ ((k, o) :: l).map (·.1) → valOf vals' j = valOf vals j) ∧ ∀ p ∈ (k, o) :: l, POp Dr P N ops tab env0 ob0 vals' (objs ++ objs2) p.1 p.2 := by
   intro vals1 hv g want s hg hbit hs hval h1
   obtain ⟨vals', objs2, k1, k2, k3, k4⟩ := runA_ok hT l _ _ h1 hp2.2 (fun p hpm => hb p (List.mem_cons_of_mem _ hpm))
   have hobj : objs ++ [(k, ([] : List Ob))] ++ objs2 = objs ++ ((k, []) :: objs2) := by simp
   rw [hobj] at k1 k4
   have hvk : valOf vals' k = .skip := by rw [k3 k hk]; simp [valOf]
   have hvj : ∀ j, j ∉ ((k, o) :: l).map (·.1) → valOf vals' j = valOf vals j := fun j hj => by
    simp only [List.map_cons, List.mem_cons, not_or] at hj
    rw [k3 j hj.2]
    simp only [valOf]
    rw [if_neg (fun e => hj.1 e.symm), hv j]
   refine ⟨vals', (k, []) :: objs2, k1, by simp [k2], hvj, fun p hpm => ?_⟩
   rcases List.mem_cons.1 hpm with rfl | hpm
   ·refine ⟨hd, fun i hi => by rw [hvk] at hi; simp [idsPV] at hi, objs, [], objs2, rfl, fun cells hc => by simp at hc, Or.inl ⟨g, want, s, hg, hbit, hs, ?_, hvk, rfl⟩⟩
    rw [hvj g (hlt g (hbk g hbit))]
    exact hval
   ·exact k4 p hpm
  split at h
  ·rename_i hg
   exact go vals (fun _ => rfl) (Or.inl hg) h
  ·rename_i g want hg
   split at h <;> try (cases h; done)
   rename_i hbit
   split at h <;> try (cases h; done)
   ·rename_i s b hs hval
    have hsame : ∀ j, valOf ((g, PV.bool b) :: vals) j = valOf vals j := fun j => by
     simp only [valOf]
     split
     ·rename_i e; rw [← e, hval]
     ·rfl
    have h' : (if b = want then (if impure tbl (maskE ((g, PV.bool b) :: vals) (uOf tab env0 k) (tab.getD k 0) ops 0 ++ env0) o.op = true then none
       else evOp P tbl (maskE ((g, PV.bool b) :: vals) (uOf tab env0 k) (tab.getD k 0) ops 0 ++ env0) (ob0 ++ maskO (tab.getD k 0) objs) o.op fun v ob' =>
        if ((idsPV v).all (isLive ob') && (ob'.drop (ob0 ++ maskO (tab.getD k 0) objs).length).all (liveOb ob')) = true then
         runA P tbl N ops tab env0 ob0 l ((k, v) :: (g, PV.bool b) :: vals) (objs ++ [(k, ob'.drop (ob0 ++ maskO (tab.getD k 0) objs).length)]) K
        else none)
      else runA P tbl N ops tab env0 ob0 l ((k, .skip) :: (g, .bool b) :: vals) (objs ++ [(k, [])]) K) = some r := by
     cases b <;> simpa using h
    by_cases hbw : b = want
    ·rw [if_pos hbw] at h'
     exact go _ hsame (Or.inr ⟨g, want, s, hg, hbit, hs, by rw [hval, hbw]⟩) h'
    ·rw [if_neg hbw] at h'
     exact over _ hsame g want s hg hbit hs (Or.inr ⟨b, hval, hbw⟩) h'
   ·rename_i s hs hval
    exact over vals (fun _ => rfl) g want s hg hbit hs (Or.inl hval) h
theorem look_at {vals : List (Nat × PV)} {u : Nat → Nat → PV} {f : Nat → Bool} {env0 : Env} {s : Nat} : ∀ (ops : List Oper) (i j : Nat) (o : Oper), noDup (dstList ops) = true → ops[j]? = some o → o.dst = some s → look (maskG vals u f ops i ++ env0) s = if f (i + j) = true then valOf vals (i + j) else u (i + j) s
 | [], i, j, o, _, h, _ => by simp at h
 | o1 :: ops, i, 0, o, hn, h, hd => by
  simp only [List.getElem?_cons_zero, Option.some.injEq] at h
  subst h
  simp only [maskG, hd, List.cons_append, look, if_true, Nat.add_zero]
 | o1 :: ops, i, j + 1, o, hn, h, hd => by
  simp only [List.getElem?_cons_succ] at h
  have hmem : s ∈ dstList ops := by
   have : ∀ (l : List Oper) (j : Nat), l[j]? = some o → s ∈ dstList l := by
    intro l
    induction l with
    | nil => intro j h; simp at h
    | cons x l ih =>
     intro j h
     cases j with
     | zero =>
      simp only [List.getElem?_cons_zero, Option.some.injEq] at h
      subst h
      simp [dstList, hd]
     | succ j =>
      have := ih j (by simpa using h)
      simp only [dstList]
      cases x.dst with
      | none => exact this
      | some d => exact List.mem_cons_of_mem _ this
   exact this ops j h
  simp only [maskG]
  simp only [dstList] at hn
  cases hd1 : o1.dst with
  | none =>
   rw [hd1] at hn
   simp only
   rw [look_at ops (i + 1) j o hn h hd]
   rw [show i + 1 + j = i + (j + 1) by omega]
  | some d =>
   rw [hd1] at hn
   simp only [noDup, Bool.and_eq_true, Bool.not_eq_true', List.contains_eq_mem, decide_eq_false_iff_not] at hn
   simp only [List.cons_append, look]
   rw [if_neg (fun e => hn.1 (by rw [e]; exact hmem)), look_at ops (i + 1) j o hn.2 h hd]
   rw [show i + 1 + j = i + (j + 1) by omega]
theorem look_none {vals : List (Nat × PV)} {u : Nat → Nat → PV} {f : Nat → Bool} {env0 : Env} {s : Nat} : ∀ (ops : List Oper) (i : Nat), (∀ (j : Nat) (o : Oper), ops[j]? = some o → o.dst ≠ some s) → look (maskG vals u f ops i ++ env0) s = look env0 s
 | [], i, _ => rfl
 | o1 :: ops, i, h => by
  have ih := look_none (vals := vals) (u := u) (f := f) (env0 := env0) ops (i + 1) fun j o ho => h (j + 1) o (by simpa using ho)
  have h0 := h 0 o1 rfl
  simp only [maskG]
  cases hd1 : o1.dst with
  | none => exact ih
  | some d =>
   rw [hd1] at h0
   simp only [List.cons_append, look]
   rw [if_neg (fun e => h0 (by rw [e]))]
   exact ih
theorem dst_one {s : Nat} : ∀ (ops : List Oper) (i j : Nat) (oi oj : Oper), noDup (dstList ops) = true → ops[i]? = some oi → ops[j]? = some oj → oi.dst = some s → oj.dst = some s → i = j
 | [], i, j, oi, oj, _, h, _, _, _ => by simp at h
 | o :: ops, 0, 0, oi, oj, _, _, _, _, _ => rfl
 | o :: ops, i + 1, j + 1, oi, oj, hn, hi, hj, h1, h2 => by
  have hn' : noDup (dstList ops) = true := by
   simp only [dstList] at hn
   cases hd : o.dst with
   | none => rw [hd] at hn; exact hn
   | some d => rw [hd] at hn; simp only [noDup, Bool.and_eq_true] at hn; exact hn.2
  rw [dst_one ops i j oi oj hn' (by simpa using hi) (by simpa using hj) h1 h2]
 | o :: ops, 0, j + 1, oi, oj, hn, hi, hj, h1, h2 => by
  exfalso
  simp only [List.getElem?_cons_zero, Option.some.injEq] at hi
  subst hi
  have hm := look_at (u := fun _ _ => .undef) (vals := [(0, PV.undef)]) (f := fun _ => true) (env0 := []) (s := s)
  simp only [dstList, h1, noDup, Bool.and_eq_true, Bool.not_eq_true', List.contains_eq_mem, decide_eq_false_iff_not] at hn
  have : ∀ (l : List Oper) (j : Nat), l[j]? = some oj → s ∈ dstList l := by
   intro l
   induction l with
   | nil => intro j h; simp at h
   | cons x l ih =>
    intro j h
    cases j with
    | zero =>
     simp only [List.getElem?_cons_zero, Option.some.injEq] at h
     subst h
     simp [dstList, h2]
    | succ j =>
     have := ih j (by simpa using h)
     simp only [dstList]
     cases x.dst with
     | none => exact this
     | some d => exact List.mem_cons_of_mem _ this
  exact hn.1 (this ops j (by simpa using hj))
 | o :: ops, i + 1, 0, oi, oj, hn, hi, hj, h1, h2 => (dst_one (o :: ops) 0 (i + 1) oj oi hn hj hi h2 h1).symm
theorem tag_lt {k : Nat} : ∀ (A : List (Nat × List Ob)) (os : List Ob) (B : List (Nat × List Ob)) (i d : Nat), (∀ q ∈ B, k < q.1) → tagOf (A ++ (k, os) :: B) i = some d → d < k → i < total A
 | [], os, B, i, d, hB, h, hd => by
  simp only [List.nil_append, tagOf] at h
  split at h
  ·have := Option.some.inj h; omega
  ·have := tag_mem _ _ _ h
   obtain ⟨q, hq, e⟩ := List.mem_map.1 this
   have := hB q hq
   omega
 | (k', os') :: A, os, B, i, d, hB, h, hd => by
  simp only [List.cons_append, tagOf] at h
  simp only [total]
  split at h
  ·omega
  ·have := tag_lt A os B _ d hB h hd
   omega
end Go.Rv
set_option linter.unusedVariables false
set_option linter.unusedSimpArgs false
namespace Go.Rv
open Go.RowKit
variable {Dr : Kn}
variable {R : Type} {P : Program} {tbl : Tbl} {env : Env} {ob : List Ob} {o : Oper} {K : PV → List Ob → Option R} {r : R}
structure Inv (X : Cx Dr) (N : Nat) (ops : List Oper) (vals : List (Nat × PV)) (objs : List (Nat × List Ob)) (env0 : Env) (ob0 : List Ob) (E : Nat → Bool) (g : Gh) (a : Act) (w : World) : Prop where
 sim : Sim X g (ob0 ++ maskF E objs) w
 env : RepE N g (ob0 ++ maskF E objs).length X.I w (maskG vals (oldU env0) E ops 0 ++ env0) a
structure Base (ob0 : List Ob) (env0 : Env) (X : Cx Dr) : Prop where
 n0 : X.n0 ≤ ob0.length
 ob : ∀ (o : Nat) (cells : List PV), ob0[o]? = some (.box cells) → ∀ i ∈ idsPVs cells, i < ob0.length
 env : ∀ s, ∀ i ∈ idsPV (look env0 s), i < ob0.length
structure Plan (Dr : Kn) (P : Program) (N : Nat) (ops : Array Oper) (tab : List Nat) (es : List (Nat × Oper)) (vals : List (Nat × PV)) (objs : List (Nat × List Ob)) (env0 : Env) (ob0 : List Ob) : Prop where
 keys : objs.map (·.1) = es.map (·.1)
 sorted : es.Pairwise (fun p q => p.1 < q.1)
 bits : ∀ k j, (tab.getD k 0).testBit j = true → j < k
 at_ : ∀ p ∈ es, ops[p.1]? = some p.2
 nodup : noDup (dstList ops.toList) = true
 all : ∀ p ∈ es, POp Dr P N ops.toList tab env0 ob0 vals objs p.1 p.2
theorem mask_step {E : Nat → Bool} {k : Nat} {A B : List (Nat × List Ob)} {os : List Ob} (hA : k ∉ A.map (·.1)) (hB : k ∉ B.map (·.1)) (hE : E k = false) :
  maskF E (A ++ (k, os) :: B) = maskF E A ++ deadL os ++ maskF E B ∧ maskF (fun j => E j || j == k) (A ++ (k, os) :: B) = maskF E A ++ os ++ maskF E B := by
 have h1 : maskF (fun j => E j || j == k) A = maskF E A := mask_congr A fun j hj => by
  have : j ≠ k := fun e => hA (e ▸ hj)
  simp [this]
 have h2 : maskF (fun j => E j || j == k) B = maskF E B := mask_congr B fun j hj => by
  have : j ≠ k := fun e => hB (e ▸ hj)
  simp [this]
 constructor
 ·rw [maskF_app]; simp [maskF, hE]
 ·rw [maskF_app, h1]; simp [maskF, h2]
theorem plan_step {X : Cx Dr} {N : Nat} {ops : Array Oper} {tab : List Nat} {es : List (Nat × Oper)} {vals : List (Nat × PV)} {objs : List (Nat × List Ob)} {env0 : Env} {ob0 : List Ob} (hb : Base ob0 env0 X) (hp : Plan Dr P N ops tab es vals objs env0 ob0)
  {k : Nat} (hk : (k, o) ∈ es) {E : Nat → Bool} (hE : E k = false) (hcl : ∀ d, (tab.getD k 0).testBit d = true → E d = true) (hclE : ∀ j, E j = true → ∀ d, (tab.getD j 0).testBit d = true → E d = true) (hEs : ∀ j, E j = true → ∃ q ∈ es, q.1 = j) {g : Gh} {a : Act} {w : World} (hi : Inv X N ops.toList vals objs env0 ob0 E g a w) {Q : Exit → Act → World → Prop} :
  wpOp P ops Q k (fun a' w' => ∃ g', Inv X N ops.toList vals objs env0 ob0 (fun j => E j || j == k) g' a' w') a w := by
 obtain ⟨hdst, hidv, A, os, B, hobj, hids, hcase⟩ := hp.all _ hk
 simp only at hdst hidv hobj hids hcase
 have hopk := hp.at_ _ hk
 simp only at hopk
 have hkeys : (objs.map (·.1)).Pairwise (· < ·) := by
  rw [hp.keys]
  exact List.pairwise_map.2 hp.sorted
 have hsrt : (A.map (·.1) ++ k :: B.map (·.1)).Pairwise (· < ·) := by rw [hobj] at hkeys; simpa using hkeys
 have hs1 := List.pairwise_append.1 hsrt
 have hAk : ∀ q ∈ A.map (·.1), q < k := fun q hq => hs1.2.2 q hq k (by simp)
 have hBk : ∀ q ∈ B, k < q.1 := fun q hq => (List.pairwise_cons.1 hs1.2.1).1 q.1 (List.mem_map.2 ⟨q, hq, rfl⟩)
 have hA : k ∉ A.map (·.1) := fun hm => by have := hAk k hm; omega
 have hB : k ∉ B.map (·.1) := fun hm => by
  obtain ⟨q, hq, e⟩ := List.mem_map.1 hm
  have := hBk q hq
  omega
 obtain ⟨hm1, hm2⟩ := mask_step (os := os) hA hB hE
 have htA : (maskF E A).length = total A := maskF_len E A
 have lookE : ∀ (u : Nat → Nat → PV) (f : Nat → Bool) (j : Nat) (oj : Oper) (s : Nat), ops[j]? = some oj → oj.dst = some s → look (maskG vals u f ops.toList 0 ++ env0) s = if f j = true then valOf vals j else u j s := fun u f j oj s hj hd => by
  have := look_at (vals := vals) (u := u) (f := f) (env0 := env0) ops.toList 0 j oj hp.nodup (by simpa using hj) hd
  simpa using this
 have lookN : ∀ (u : Nat → Nat → PV) (f : Nat → Bool) (s : Nat), (∀ (j : Nat) (oj : Oper), ops[j]? = some oj → oj.dst ≠ some s) → look (maskG vals u f ops.toList 0 ++ env0) s = look env0 s := fun u f s h =>
  look_none ops.toList 0 fun j oj hj => h j oj (by simpa using hj)
 have range : ∀ i, ob0.length + total A ≤ i → i < ob0.length + total A + os.length → tagOf objs (i - ob0.length) = some k := fun i h1 h2 => by
  have := tag_mid A B k os (i - ob0.length - total A) (by omega)
  rw [show total A + (i - ob0.length - total A) = i - ob0.length by omega] at this
  rw [hobj]; exact this
 have notIn : ∀ j, E j = true → ∀ i, okId tab ob0.length objs j i → ¬ (ob0.length + total A ≤ i ∧ i < ob0.length + total A + os.length) := fun j hj i hok hr => by
  rcases hok with h | ⟨d, h1, h2⟩
  ·omega
  ·rw [range i hr.1 hr.2] at h1
   have := Option.some.inj h1
   subst this
   rcases h2 with h2 | h2
   ·rw [hclE j hj k h2] at hE; cases hE
   ·rw [h2, hj] at hE; cases hE
 have early : ∀ j, j < k → ∀ i, okId tab ob0.length objs j i → i < ob0.length + total A := fun j hj i hok => by
  rcases hok with h | ⟨d, h1, h2⟩
  ·omega
  ·have hd : d < k := by
    rcases h2 with h2 | h2
    ·have := hp.bits j d h2; omega
    ·omega
   rw [hobj] at h1
   have := tag_lt A os B _ d hBk h1 hd
   omega
 have popOf : ∀ j, E j = true → ∀ i ∈ idsPV (valOf vals j), okId tab ob0.length objs j i := fun j hEj i hii => by
  obtain ⟨q, hq, e⟩ := hEs j hEj
  have := (hp.all q hq).idv i (by rw [e]; exact hii)
  rw [e] at this
  exact this
 have main : ∀ (v : Value) (w' : World) (g' : Gh), Sim X g' (ob0 ++ (maskF E A ++ os ++ maskF E B)) w' → (∀ z u, (∀ i ∈ idsPV z, ¬ (ob0.length + total A ≤ i ∧ i < ob0.length + total A + os.length)) → RepV g (ob0 ++ maskF E objs).length X.I w z u → RepV g' (ob0 ++ (maskF E A ++ os ++ maskF E B)).length X.I w' z u) →
   RepV g' (ob0 ++ (maskF E A ++ os ++ maskF E B)).length X.I w' (valOf vals k) v → ∃ g', Inv X N ops.toList vals objs env0 ob0 (fun j => E j || j == k) g' (a.put o.dst v) w' := by
  intro v w' g' s' hold hv
  have hob' : ob0 ++ maskF (fun j => E j || j == k) objs = ob0 ++ (maskF E A ++ os ++ maskF E B) := by rw [hobj, hm2]
  refine ⟨g', by rw [hob']; exact s', ?_, ?_, fun s => ?_⟩
  ·have := hi.env.1
   cases hd : o.dst <;> simp [Act.put, this]
  ·have := hi.env.2.1
   cases hd : o.dst <;> simp [Act.put, this]
  ·rw [hob']
   have ht : ∀ (h : o.dst ≠ some s), (a.put o.dst v).tmps.getD s undef = a.tmps.getD s undef := fun h => by
    cases hd : o.dst with
    | none => rfl
    | some d =>
     have hne : d ≠ s := fun e => h (by rw [hd, e])
     simp [Act.put, Array.getD_eq_getD_getElem?, Array.getElem?_setIfInBounds, hne]
   have hslot := hi.env.2.2 s
   by_cases hex : ∃ (j : Nat) (oj : Oper), ops[j]? = some oj ∧ oj.dst = some s
   ·obtain ⟨j, oj, hj, hjd⟩ := hex
    rw [lookE _ _ j oj s hj hjd]
    by_cases hjk : j = k
    ·subst hjk
     rw [hopk] at hj
     obtain rfl := Option.some.inj hj
     have hsN : s < N := by rw [hjd] at hdst; simpa [okDst] using hdst
     have : (a.put o.dst v).tmps.getD s undef = v := by
      rw [hjd]
      simp [Act.put, Array.getD_eq_getD_getElem?, hi.env.1, hsN]
     rw [this]
     simpa using hv
    ·have hne : o.dst ≠ some s := fun e => hjk (dst_one ops.toList j k oj o hp.nodup (by simpa using hj) (by simpa using hopk) hjd e)
     rw [ht hne]
     rw [lookE _ E j oj s hj hjd] at hslot
     by_cases hEj : E j = true
     ·have e1 : (E j || j == k) = true := by simp [hEj]
      rw [if_pos e1]
      rw [if_pos hEj] at hslot
      exact hold _ _ (fun i hii => notIn j hEj i (popOf j hEj i hii)) hslot
     ·have e1 : ¬ (E j || j == k) = true := by simp [hEj, hjk]
      rw [if_neg e1]
      rw [if_neg hEj] at hslot
      exact hold _ _ (fun i hii hr => by have := hb.env s i hii; omega) hslot
   ·have hnone : ∀ (j : Nat) (oj : Oper), ops[j]? = some oj → oj.dst ≠ some s := fun j oj hj e => hex ⟨j, oj, hj, e⟩
    rw [lookN _ _ s hnone]
    rw [lookN _ E s hnone] at hslot
    rw [ht (hnone k o hopk)]
    exact hold _ _ (fun i hii hr => by have := hb.env s i hii; omega) hslot
 have hlenE : (ob0 ++ maskF E objs).length = ob0.length + total A + os.length + total B := by
  rw [List.length_append, maskF_len, hobj, total_app]; simp only [total]; omega
 have hwp : ∀ (K' : Act → World → Prop), (Region.wanted o (yielded ops a.tmps) = true → mkr P o a w fun v w' => K' (a.put o.dst v) w') → (Region.wanted o (yielded ops a.tmps) = false → K' (a.put o.dst undef) w) → wpOp P ops Q k K' a w := fun K' h1 h2 => by
  unfold wpOp
  rw [hopk]
  simp only
  by_cases hw : Region.wanted o (yielded ops a.tmps) = true
  ·rw [if_pos hw]
   exact Or.inl (mkr_wp (h1 hw))
  ·rw [if_neg hw]
   exact h2 (by simpa using hw)
 have guardE : ∀ gd s, (tab.getD k 0).testBit gd = true → (ops.toList[gd]?).bind (·.dst) = some s → look (maskG vals (oldU env0) E ops.toList 0 ++ env0) s = valOf vals gd ∧ gslot ops gd = some s := fun gd s hbit hs => by
  have hs' : (ops[gd]?).bind (·.dst) = some s := by simpa using hs
  obtain ⟨og, ho1, ho2⟩ := Option.bind_eq_some_iff.1 hs'
  refine ⟨?_, hs'⟩
  rw [lookE _ E gd og s ho1 ho2, if_pos (hcl gd hbit)]
 rcases hcase with ⟨gd, want, s, hg, hbit, hs, hval, hvk, rfl⟩ | ⟨hguard, hwv⟩
 ·-- stepped over
  obtain ⟨hl, hgs⟩ := guardE gd s hbit hs
  have hwant : Region.wanted o (yielded ops a.tmps) = false := by
   rcases hval with hval | ⟨b, hval, hne⟩
   ·exact guard_skip hi.env hg hgs (by rw [hl, hval])
   ·rw [guard_ok hi.env hg hgs (by rw [hl, hval])]
    simpa using hne
  refine hwp _ (fun h => by rw [hwant] at h; cases h) fun _ => ?_
  have hst : ob0 ++ (maskF E A ++ [] ++ maskF E B) = ob0 ++ maskF E objs := by rw [hobj, hm1]; rfl
  refine main undef w g (by rw [hst]; exact hi.sim) (fun z u _ hz => by rw [hst]; exact hz) (by rw [hvk]; simp [RepV])
 ·have hwant : Region.wanted o (yielded ops a.tmps) = true := by
   rcases hguard with hg | ⟨gd, want, s, hg, hbit, hs, hval⟩
   ·simp [Region.wanted, hg]
   ·obtain ⟨hl, hgs⟩ := guardE gd s hbit hs
    rw [guard_ok hi.env hg hgs (by rw [hl, hval])]
    simp
  refine hwp _ (fun _ => ?_) fun h => by rw [hwant] at h; cases h
  have hml : (ob0 ++ maskF (fun j => (tab.getD k 0).testBit j) A).length = ob0.length + total A := by simp [maskF_len]
  have hsub : ∀ (o : Nat) (Y : Ob), (ob0 ++ maskF (fun j => (tab.getD k 0).testBit j) A)[o]? = some Y → Y = .dead ∨ (ob0 ++ maskF E objs)[o]? = some Y := fun o Y h => by
   by_cases ho : o < ob0.length
   ·rw [List.getElem?_append_left ho] at h ⊢
    exact Or.inr h
   ·rw [List.getElem?_append_right (by omega)] at h ⊢
    have hlt : o - ob0.length < total A := by
     have := (List.getElem?_eq_some_iff.1 h).1
     rwa [maskF_len] at this
    rcases mask_sub (f' := E) (fun j hj => hcl j hj) A _ Y h with h1 | h1
    ·exact Or.inl h1
    ·right
     rw [hobj, maskF_app, List.getElem?_append_left (by rw [maskF_len]; exact hlt)]
     exact h1
  have hbox : ∀ (o : Nat) (cells : List PV), (ob0 ++ maskF (fun j => (tab.getD k 0).testBit j) A)[o]? = some (.box cells) → ∀ i ∈ idsPVs cells, i < (ob0 ++ maskF (fun j => (tab.getD k 0).testBit j) A).length := fun o cells h i hii => by
   rw [hml]
   by_cases ho : o < ob0.length
   ·rw [List.getElem?_append_left ho] at h
    have := hb.ob o cells h i hii
    omega
   ·rw [List.getElem?_append_right (by omega)] at h
    obtain ⟨d, hd1, hd2⟩ := mask_live _ A _ _ h (by simp)
    have hdk := hp.bits k d hd2
    have hdA := tag_mem _ _ _ hd1
    have hde : d ∈ es.map (·.1) := by rw [← hp.keys, hobj]; simp at hdA ⊢; exact Or.inl hdA
    obtain ⟨q, hq, e⟩ := List.mem_map.1 hde
    obtain ⟨A2, os2, B2, hobj2, hids2, _⟩ := (hp.all q hq).ex
    rw [e] at hobj2 hids2
    have hmem : Ob.box cells ∈ os2 := by
     have hlt : o - ob0.length < total A := by
      have := (List.getElem?_eq_some_iff.1 h).1
      rwa [maskF_len] at this
     have own : ∀ (L : List (Nat × List Ob)) (i : Nat) (Y : Ob), (maskF (fun j => (tab.getD k 0).testBit j) L)[i]? = some Y → tagOf L i = some d → (tab.getD k 0).testBit d = true → ∃ os', (d, os') ∈ L ∧ Y ∈ os' := by
      intro L
      induction L with
      | nil => intro i Y h; simp [maskF] at h
      | cons p L ih =>
       obtain ⟨kp, op⟩ := p
       intro i Y h ht hd
       simp only [maskF] at h
       simp only [tagOf] at ht
       have hl : (if (tab.getD k 0).testBit kp = true then op else deadL op).length = op.length := by split <;> simp [dead_len]
       split at ht
       ·rename_i hi
        have := Option.some.inj ht
        subst this
        rw [List.getElem?_append_left (by omega), if_pos hd] at h
        exact ⟨op, by simp, List.mem_of_getElem? h⟩
       ·rename_i hi
        rw [List.getElem?_append_right (by omega), hl] at h
        obtain ⟨os', h1, h2⟩ := ih _ _ h ht hd
        exact ⟨os', List.mem_cons_of_mem _ h1, h2⟩
     obtain ⟨os', h1, h2⟩ := own A _ _ h hd1 hd2
     have m1 : (d, os') ∈ objs := by rw [hobj]; simp [h1]
     have m2 : (d, os2) ∈ objs := by rw [hobj2]; simp
     have huniq : ∀ (L : List (Nat × List Ob)), (L.map (·.1)).Pairwise (· < ·) → ∀ x y, (d, x) ∈ L → (d, y) ∈ L → x = y := by
      intro L
      induction L with
      | nil => intro _ x y hx; simp at hx
      | cons p L ih =>
       intro hpw x y hx hy
       have hpw2 := List.pairwise_cons.1 hpw
       rcases List.mem_cons.1 hx with hx | hx <;> rcases List.mem_cons.1 hy with hy | hy
       ·rw [← hx] at hy; cases hy; rfl
       ·have := hpw2.1 d (List.mem_map.2 ⟨_, hy, rfl⟩)
        rw [← hx] at this; simp at this
       ·have := hpw2.1 d (List.mem_map.2 ⟨_, hx, rfl⟩)
        rw [← hy] at this; simp at this
       ·exact ih hpw2.2 x y hx hy
     rw [← huniq objs hkeys os' os2 m1 m2]
     exact h2
    exact early d hdk i (hids2 cells hmem i hii)
  have hsm : Sim X g (ob0 ++ maskF (fun j => (tab.getD k 0).testBit j) A) w := hi.sim.part (by rw [hml, hlenE]; omega) (by rw [hml]; have := hb.n0; omega) hsub hbox
  have hem : RepE N g (ob0 ++ maskF (fun j => (tab.getD k 0).testBit j) A).length X.I w (maskG vals (uOf tab env0 k) (fun j => (tab.getD k 0).testBit j) ops.toList 0 ++ env0) a := by
   refine ⟨hi.env.1, hi.env.2.1, fun s => ?_⟩
   have hslot := hi.env.2.2 s
   have move : ∀ z u, (∀ i ∈ idsPV z, i < ob0.length + total A) → RepV g (ob0 ++ maskF E objs).length X.I w z u → RepV g (ob0 ++ maskF (fun j => (tab.getD k 0).testBit j) A).length X.I w z u := fun z u hz hr =>
    RepV.agree rfl hi.sim.jI (fun _ _ => rfl) z u (fun i hii _ => ⟨by rw [hml]; exact hz i hii, Agree.refl _ _⟩) hr
   by_cases hex : ∃ (j : Nat) (oj : Oper), ops[j]? = some oj ∧ oj.dst = some s
   ·obtain ⟨j, oj, hj, hjd⟩ := hex
    rw [lookE _ _ j oj s hj hjd]
    rw [lookE _ E j oj s hj hjd] at hslot
    by_cases hbj : (tab.getD k 0).testBit j = true
    ·rw [if_pos hbj]
     rw [if_pos (hcl j hbj)] at hslot
     exact move _ _ (fun i hii => early j (hp.bits k j hbj) i (popOf j (hcl j hbj) i hii)) hslot
    ·rw [if_neg hbj]
     simp only [uOf]
     by_cases hl : (tab.getD j 0).testBit k = true
     ·rw [if_pos hl]
      have hEj : ¬ E j = true := fun h => by
       have := hclE j h k hl
       rw [hE] at this
       cases this
      rw [if_neg hEj] at hslot
      exact move _ _ (fun i hii => by have := hb.env s i hii; omega) hslot
     ·rw [if_neg hl]
      simp [RepV]
   ·have hnone : ∀ (j : Nat) (oj : Oper), ops[j]? = some oj → oj.dst ≠ some s := fun j oj hj e => hex ⟨j, oj, hj, e⟩
    rw [lookN _ _ s hnone]
    rw [lookN _ E s hnone] at hslot
    exact move _ _ (fun i hii => by have := hb.env s i hii; omega) hslot
  refine mkr_mono ?_ (hwv.2 X N g w a hsm hem)
  rintro v w' ⟨g', hfr, s', k', r'⟩
  have hfr := hfr.1 rfl
  have hEo : ob0 ++ maskF E objs = (ob0 ++ maskF E A) ++ deadL os ++ maskF E B := by rw [hobj, hm1]; simp [List.append_assoc]
  have hCl : (ob0 ++ maskF E A).length = ob0.length + total A := by simp [maskF_len]
  have hidE : ∀ (o : Nat) (cells : List PV), ((ob0 ++ maskF E A) ++ deadL os ++ maskF E B)[o]? = some (.box cells) → ∀ i ∈ idsPVs cells, ¬ ((ob0 ++ maskF E A).length ≤ i ∧ i < (ob0 ++ maskF E A).length + os.length) := fun o cells h i hii => by
   rw [← hEo] at h
   rw [hCl]
   by_cases ho : o < ob0.length
   ·rw [List.getElem?_append_left ho] at h
    have := hb.ob o cells h i hii
    omega
   ·rw [List.getElem?_append_right (by omega)] at h
    obtain ⟨d, hd1, hd2⟩ := mask_live _ objs _ _ h (by simp)
    obtain ⟨q, hq, e⟩ := hEs d hd2
    obtain ⟨A2, os2, B2, hobj2, hids2, _⟩ := (hp.all q hq).ex
    rw [e] at hobj2 hids2
    have own : ∀ (L : List (Nat × List Ob)) (i : Nat) (Y : Ob), (maskF E L)[i]? = some Y → tagOf L i = some d → ∃ os', (d, os') ∈ L ∧ Y ∈ os' := by
     intro L
     induction L with
     | nil => intro i Y h; simp [maskF] at h
     | cons p L ih =>
      obtain ⟨kp, op⟩ := p
      intro i Y h ht
      simp only [maskF] at h
      simp only [tagOf] at ht
      have hl : (if E kp = true then op else deadL op).length = op.length := by split <;> simp [dead_len]
      split at ht
      ·rename_i hi
       have := Option.some.inj ht
       subst this
       rw [List.getElem?_append_left (by omega), if_pos hd2] at h
       exact ⟨op, by simp, List.mem_of_getElem? h⟩
      ·rename_i hi
       rw [List.getElem?_append_right (by omega), hl] at h
       obtain ⟨os', h1, h2⟩ := ih _ _ h ht
       exact ⟨os', List.mem_cons_of_mem _ h1, h2⟩
    obtain ⟨os', h1, h2⟩ := own objs _ _ h hd1
    have m2 : (d, os2) ∈ objs := by rw [hobj2]; simp
    have huniq : ∀ (L : List (Nat × List Ob)), (L.map (·.1)).Pairwise (· < ·) → ∀ x y, (d, x) ∈ L → (d, y) ∈ L → x = y := by
     intro L
     induction L with
     | nil => intro _ x y hx; simp at hx
     | cons p L ih =>
      intro hpw x y hx hy
      have hpw2 := List.pairwise_cons.1 hpw
      rcases List.mem_cons.1 hx with hx | hx <;> rcases List.mem_cons.1 hy with hy | hy
      ·rw [← hx] at hy; cases hy; rfl
      ·have := hpw2.1 d (List.mem_map.2 ⟨_, hy, rfl⟩)
       rw [← hx] at this; simp at this
      ·have := hpw2.1 d (List.mem_map.2 ⟨_, hx, rfl⟩)
       rw [← hy] at this; simp at this
      ·exact ih hpw2.2 x y hx hy
    rw [huniq objs hkeys os' os2 h1 m2] at h2
    exact notIn d hd2 i (hids2 cells h2 i hii)
  have hsE : Sim X g ((ob0 ++ maskF E A) ++ deadL os ++ maskF E B) w := by rw [← hEo]; exact hi.sim
  obtain ⟨c1, c2, c3⟩ := combine hsE hfr.below s' (by rw [hml, hCl]) (by rw [hCl]; have := hb.n0; omega) k' hfr.fresh hidE
  have hst : ob0 ++ (maskF E A ++ os ++ maskF E B) = (ob0 ++ maskF E A) ++ os ++ maskF E B := by simp [List.append_assoc]
  refine main v w' _ (by rw [hst]; exact c1) (fun z u hz hr => ?_) (by rw [hst]; exact c3 _ _ r')
  rw [hst]
  exact c2 z u (fun i hii => by rw [hCl]; exact hz i hii) (by rw [← hEo]; exact hr)
end Go.Rv
