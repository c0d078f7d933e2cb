/- One law more for a statement that draws its order: first moves that may float, then operations that read (or call what only makes memory), then a tail whose order is forced: one walk serves. Generic, no program in sight. -/
import Derived.Test.YtnkmngkinjjbfaaDoorLib
set_option linter.all false
namespace Go.Proofs.YtnkmngkinjjbfaaDoor
open Go.RowKit

section
variable {P : Program} {ops : Array Oper} {md : Region.Mode} {C : World → Prop}

def wpAnyC (P : Program) (md : Region.Mode) (ops : Array Oper) (C : World → Prop) (n : Nat) (L : Array Bool → Act → Prop) : Nat → Array Bool → Act → Prop
  | 0, listed, a => L listed a
  | f + 1, listed, a => Region.ready md ops listed ≠ [] ∧ ∀ i ∈ Region.ready md ops listed, i < n ∧ qOp P ops C i (wpAnyC P md ops C n L f (listed.setIfInBounds i true)) a

theorem wpAny_of_headC {n g : Nat} {L : Array Bool → Act → Prop} {Q' : Exit → Act → World → Prop} (hL : ∀ listed a w, C w → L listed a → wpAny P md ops Q' g listed a w) :
    ∀ (f : Nat) (listed : Array Bool) (a : Act) (w : World), C w → wpAnyC P md ops C n L f listed a → wpAny P md ops Q' (f + g) listed a w
  | 0, listed, a, w, hw, h => by rw [Nat.zero_add]; exact hL _ _ _ hw h
  | f + 1, listed, a, w, hw, h => by
    rw [show f + 1 + g = (f + g) + 1 by omega]
    exact ⟨fun h0 => absurd h0 h.1, fun i hi => wpOp_of_qOp hw (fun a' w' hw' h' => wpAny_of_headC hL f _ a' w' hw' h') (h.2 i hi).2⟩

/-- every head operation is waited for by a later head operation, or by the tail's first -/
def sinkOn (md : Region.Mode) (ops : Array Oper) (hd : List Nat) (n : Nat) : Bool :=
  hd.all fun i => decide (i < n) && (List.range (n + 1)).any fun j => decide (i < j) && Region.waitsFor md ops j i && (j == n || hd.contains j)

theorem tail_waitsC {n : Nat} {hd : List Nat} {listed : Array Bool} (hs : sinkOn md ops hd n = true) (hc : Region.chainB md ops n = true) (hn : n < ops.size) (inv : HeadInv md ops n listed) :
    ∀ (d i : Nat), n - i = d → i ∈ hd → i < n → listed.getD i true = false → ∀ t, n ≤ t → t ∉ Region.ready md ops listed := by
  intro d
  induction d using Nat.strongRecOn with
  | _ d ih =>
    intro i hd' him hi hun t ht hr
    obtain ⟨_, ot, hot, hall⟩ := mem_ready.1 hr
    have htlt : t < ops.size := (Array.getElem?_eq_some_iff.1 hot).1
    have h1 := List.all_eq_true.1 hs i him
    simp only [Bool.and_eq_true, decide_eq_true_eq] at h1
    obtain ⟨j, hj, hj2⟩ := List.any_eq_true.1 h1.2
    simp only [Bool.and_eq_true, decide_eq_true_eq, Bool.or_eq_true, beq_iff_eq] at hj2
    obtain ⟨⟨hij, hwait⟩, hcase⟩ := hj2
    obtain ⟨oj, hoj, e, he, hb, hon⟩ := Region.waitsFor_spec hwait
    have hjle : j ≤ n := by have := List.mem_range.1 hj; omega
    have hunl : listed.getD j false = true → False := fun hl => by
      have h2 := inv.closed j oj hoj hl e he hb
      rw [hon, getD_both hun] at h2
      cases h2
    by_cases htn : t = n
    · subst htn
      by_cases hjt : j = t
      · subst hjt
        have : oj = ot := Option.some.inj (hoj.symm.trans hot)
        subst this
        have h2 := hall e he hb
        rw [hon, getD_both hun] at h2
        cases h2
      · have hjh : j ∈ hd := by
          rcases hcase with h | h
          · exact (hjt h).elim
          · simpa using h
        have hjs : j < listed.size := by rw [inv.size]; omega
        have hju : listed.getD j false = false := by
          cases h : listed.getD j false with
          | true => exact (hunl h).elim
          | false => rfl
        exact ih (t - j) (by omega) j rfl hjh (by omega) (getD_in hjs hju) t (Nat.le_refl _) hr
    · have h1 := List.all_eq_true.1 hc t (List.mem_range.2 htlt)
      simp only [Bool.or_eq_true, decide_eq_true_eq] at h1
      rcases h1 with h1 | h1
      · omega
      · obtain ⟨o', ho', e', he', hb', hon'⟩ := Region.waitsFor_spec h1
        have : o' = ot := Option.some.inj (ho'.symm.trans hot)
        subst this
        have h2 := hall e' he' hb'
        rw [hon', getD_both (inv.tail (t - 1) (by omega) (by omega))] at h2
        cases h2

theorem wpAnyC_first {n i : Nat} {hd : List Nat} {oi : Oper} {v : Value} {L : Array Bool → Act → Prop} (hi : ops[i]? = some oi) (hsel : ∀ (j : Nat) (o : Oper) cs b, ops[j]? = some o → o.op ≠ .select cs b)
    (hs : sinkOn md ops hd n = true) (hc : Region.chainB md ops n = true) (hn : n < ops.size) (him : i ∈ hd) (hin : i < n)
    (hdone : ∀ listed a, L listed a → ∀ j ∈ Region.ready md ops listed, n ≤ j) :
    ∀ (f : Nat) (listed : Array Bool) (a : Act), HeadInv md ops n listed →
      (∀ j oj, ops[j]? = some oj → j ≠ i → listed.getD j true = false → (∀ e ∈ oj.after, Region.binds md e = true → e.on ≠ i) → oi.apart ops oj = true) →
      i ∈ Region.ready md ops listed → YieldsIn P ops C oi v a →
      wpAnyC P md ops C n L f (listed.setIfInBounds i true) (a.put oi.dst v) → wpAnyC P md ops C n L (f + 1) listed a := by
  intro f
  induction f with
  | zero =>
    intro listed a inv _ hr hy H
    have hun := (mem_ready.1 hr).1
    refine ⟨fun h => (by rw [h] at hr; cases hr), fun j hj => ?_⟩
    have hjn : j < n := by
      rcases Nat.lt_or_ge j n with h | h
      · exact h
      · exact absurd hj (tail_waitsC hs hc hn inv _ i rfl him hin hun j h)
    refine ⟨hjn, ?_⟩
    by_cases hji : j = i
    · subst hji; exact hy.qOp hi H
    · have := hdone _ _ H j (ready_mono hj hji)
      omega
  | succ f ih =>
    intro listed a inv hfree hr hy H
    have hun := (mem_ready.1 hr).1
    refine ⟨fun h => (by rw [h] at hr; cases hr), fun j hj => ?_⟩
    have hjn : j < n := by
      rcases Nat.lt_or_ge j n with h | h
      · exact h
      · exact absurd hj (tail_waitsC hs hc hn inv _ i rfl him hin hun j h)
    refine ⟨hjn, ?_⟩
    by_cases hji : j = i
    · subst hji; exact hy.qOp hi H
    · have h1 := (H.2 j (ready_mono hj hji)).2
      obtain ⟨hjun, oj, hoj, hall⟩ := mem_ready.1 hj
      have hnot : ∀ e ∈ oj.after, Region.binds md e = true → e.on ≠ i := fun e he hb heq => by
        have h1 := hall e he hb
        rw [heq, getD_both hun] at h1
        cases h1
      have h2 := qOp_put hoj (hfree j oj hoj hji hjun hnot) (fun cs b => hsel i oi cs b hi) (fun cs b => hsel j oj cs b hoj) hy h1
      have hfree' : ∀ k ok, ops[k]? = some ok → k ≠ i → (listed.setIfInBounds j true).getD k true = false →
          (∀ e ∈ ok.after, Region.binds md e = true → e.on ≠ i) → oi.apart ops ok = true := fun k ok hk hki hun hno => by
        refine hfree k ok hk hki ?_ hno
        by_cases hjk : j = k
        · subst hjk; exact hjun
        · rw [getD_set_ne true hjk] at hun; exact hun
      refine qOp_mono (fun a' h3 => ih (listed.setIfInBounds j true) a' (inv.set hj hjn) hfree' (ready_mono hr (Ne.symm hji)) h3.1 ?_) h2
      rw [Array.setIfInBounds_comm _ _ hji]
      exact h3.2

def headB (md : Region.Mode) (ops : Array Oper) (g n : Nat) : List Nat → Array Bool → Bool
  | [], listed => Region.seqB md ops g n listed
  | k :: ks, listed => (ops[k]?).isSome && decide (k < n) && (Region.ready md ops listed).contains k && Region.free md ops listed k && headB md ops g n ks (listed.setIfInBounds k true)

theorem wpAnyC_lex {n g : Nat} {hd : List Nat} {Lq : Act → Prop} (hsel : Region.noSelect ops = true) (hs : sinkOn md ops hd n = true) (hc : Region.chainB md ops n = true) (hn : n < ops.size) :
    ∀ (ks : List Nat) (listed : Array Bool) (a : Act), (∀ k ∈ ks, k ∈ hd) → HeadInv md ops n listed →
    headB md ops g n ks listed = true → wpQuiet P ops C Lq (ks.filterMap fun k => ops[k]?) a →
    wpAnyC P md ops C n (fun listed' a' => Region.seqB md ops g n listed' = true ∧ Lq a') ks.length listed a
  | [], listed, a, _, _, hB, h => ⟨by simpa [headB] using hB, h⟩
  | k :: ks, listed, a, hm, inv, hB, h => by
    simp only [headB, Bool.and_eq_true, decide_eq_true_eq] at hB
    obtain ⟨⟨⟨⟨ho, hkn⟩, hr⟩, hf⟩, hB'⟩ := hB
    obtain ⟨o, h0⟩ := Option.isSome_iff_exists.1 ho
    have hr' : k ∈ Region.ready md ops listed := by simpa using hr
    have hst : qOp P ops C k (wpQuiet P ops C Lq (ks.filterMap fun k => ops[k]?)) a := by
      unfold qOp; simp only [h0]
      simp only [List.filterMap_cons, h0] at h
      exact h
    obtain ⟨v, hy, hK⟩ := yieldsIn_of_qOp h0 hst
    exact wpAnyC_first h0 (Region.noSelect_spec hsel) hs hc hn (hm k (by simp)) hkn (fun listed' a' hL => seqB_ready hL.1) ks.length listed a inv (Region.free_spec h0 hf) hr' hy
      (wpAnyC_lex hsel hs hc hn ks _ _ (fun k hk => hm k (by simp [hk])) (inv.set hr' hkn) hB' hK)

/-- the operation is a move without a guard -/
def isFloat (o : Oper) : Bool := match o.op, o.guard, o.dst with | .move _, none, some _ => true | _, _, _ => false
theorem isFloat_yields {o : Oper} (h : isFloat o = true) (a : Act) : ∃ x d, o.op = .move x ∧ o.guard = none ∧ o.dst = some d ∧ Yields P ops o (a.eval x) a := by
  unfold isFloat at h
  split at h
  · rename_i x d hx hg hd
    exact ⟨x, d, hx, hg, hd, .inl ⟨by simp [Region.wanted, hg], fun w => by rw [BigFrame.run_move x hx]⟩⟩
  · cases h

def floatB (md : Region.Mode) (ops : Array Oper) (g n : Nat) (hd : List Nat) : List Nat → Array Bool → Bool
  | [], listed => headB md ops g n hd listed
  | k :: ks, listed => (match ops[k]? with | some o => isFloat o | none => false) && decide (k < n) && (Region.ready md ops listed).contains k && Region.free md ops listed k && floatB md ops g n hd ks (listed.setIfInBounds k true)

theorem wpAny_floats {n : Nat} {hd : List Nat} {Q : Exit → Act → World → Prop} {tl : List Oper} (hQ : ∀ c a d v w, Q (.panic c) (Act.put a (some d) v) w → Q (.panic c) a w)
    (hsel : Region.noSelect ops = true) (hs : sinkOn md ops hd n = true) (hc : Region.chainB md ops n = true) (hn : n < ops.size)
    (htl : ∀ j, tl[j]? = ops[n + j]?) (hlen : tl.length = ops.size - n) :
    ∀ (fl : List Nat) (listed : Array Bool) (a : Act) (w : World), C w → HeadInv md ops n listed → floatB md ops (ops.size - n) n hd fl listed = true →
    wpQuiet P ops C (fun a' => ∀ w', C w' → wpList P ops Q tl a' w') ((fl ++ hd).filterMap fun k => ops[k]?) a →
    wpAny P md ops Q (fl.length + hd.length + (ops.size - n)) listed a w
  | [], listed, a, w, hw, inv, hB, h => by
    have H := wpAnyC_lex (Lq := fun a' => ∀ w', C w' → wpList P ops Q tl a' w') hsel hs hc hn hd listed a (fun k hk => hk) inv hB h
    have := wpAny_of_headC (Q' := Q) (g := ops.size - n) (fun listed a' w' hw' hL => by
      have := wpAny_of_seq (md := md) (Q' := Q) tl n listed a' w' htl (by rw [hlen]; exact hL.1) (hL.2 w' hw')
      rwa [hlen] at this) _ _ _ w hw H
    simpa using this
  | k :: ks, listed, a, w, hw, inv, hB, h => by
    simp only [floatB, Bool.and_eq_true, decide_eq_true_eq] at hB
    obtain ⟨⟨⟨⟨ho, hkn⟩, hr⟩, hf⟩, hB'⟩ := hB
    cases h0 : ops[k]? with
    | none => rw [h0] at ho; cases ho
    | some o =>
      rw [h0] at ho
      obtain ⟨x, d, hx, hg, hdst, hy⟩ := isFloat_yields (P := P) (ops := ops) ho a
      have hst : qOp P ops C k (wpQuiet P ops C (fun a' => ∀ w', C w' → wpList P ops Q tl a' w') ((ks ++ hd).filterMap fun k => ops[k]?)) a := by
        unfold qOp; simp only [h0]
        simp only [List.cons_append, List.filterMap_cons, h0] at h
        exact h
      obtain ⟨v, hyv, hK⟩ := yieldsIn_of_qOp h0 hst
      have hv : v = a.eval x := by
        rcases hyv with ⟨_, hq⟩ | ⟨hnot, _⟩
        · have := hq w hw
          unfold Oper.quietAt at this
          rw [BigFrame.run_move x hx] at this
          exact this.2.symm
        · simp [Region.wanted, hg] at hnot
      subst hv
      have hr' : k ∈ Region.ready md ops listed := by simpa using hr
      have := wpAny_floats hQ hsel hs hc hn htl hlen ks (listed.setIfInBounds k true) (a.put o.dst (a.eval x)) w hw (inv.set hr' hkn) hB' hK
      rw [show (k :: ks).length + hd.length + (ops.size - n) = (ks.length + hd.length + (ops.size - n)) + 1 by simp; omega]
      exact wpAny_first h0 (Region.noSelect_spec hsel) (fun c a w => by rw [hdst]; exact hQ c a d _ w) _ listed a w (Region.free_spec h0 hf) hr' hy this

/-- the operations of these numbers -/
def picks (l : List Oper) : List Nat → List Oper
  | [] => []
  | k :: ks => l.getD k default :: picks l ks
theorem picks_nil (l : List Oper) : picks l [] = [] := rfl
theorem picks_cons (l : List Oper) (k : Nat) (ks : List Nat) : picks l (k :: ks) = l.getD k default :: picks l ks := rfl
theorem picks_eq (l : List Oper) : ∀ ks : List Nat, (∀ k ∈ ks, k < l.length) → picks l ks = ks.filterMap fun k => l[k]?
  | [], _ => rfl
  | k :: ks, h => by
    have hk : k < l.length := h k (by simp)
    rw [picks_cons, List.filterMap_cons, picks_eq l ks (fun j hj => h j (by simp [hj])), List.getElem?_eq_getElem hk, List.getD_eq_getElem?_getD, List.getElem?_eq_getElem hk]
    rfl

def tailB (md : Region.Mode) (ops : Array Oper) (fl hd : List Nat) (n : Nat) : Bool :=
  (fl ++ hd).all (fun k => decide (k < ops.size)) && Region.noSelect ops && decide (n < ops.size) && sinkOn md ops hd n && Region.chainB md ops n && decide (fl.length + hd.length = n) && floatB md ops (ops.size - n) n hd fl (Array.replicate ops.size false)

/-- **A statement that draws its order: the moves 'fl' float; the operations 'hd' read, or call what keeps the class C; from n on the order is forced.** -/
theorem wp_region_tail {id : Nat} {Q : Exit → Act → World → Prop} {a : Act} {w : World} {l : List Oper} (C : World → Prop) (fl hd : List Nat) (n : Nat) (hm : P.follows .mixedOrders = true) (hB : tailB .any l.toArray fl hd n = true)
    (hQ : ∀ c a d v w, Q (.panic c) (Act.put a (some d) v) w → Q (.panic c) a w) (hC : C { w with drawn := w.drawn + 1 })
    (h : wpQuiet P l.toArray C (fun a' => ∀ w', C w' → wpList P l.toArray Q (l.drop n) a' w') (picks l (fl ++ hd)) a) : (Code.region id l.toArray true).wp P Q a w := by
  simp only [tailB, Bool.and_eq_true, decide_eq_true_eq] at hB
  obtain ⟨⟨⟨⟨⟨⟨hall, hsel⟩, hn⟩, hs⟩, hc⟩, hlen⟩, hf⟩ := hB
  rw [picks_eq l (fl ++ hd) (fun k hk => by simpa using List.all_eq_true.1 hall k hk)] at h
  have inv0 : HeadInv .any l.toArray n (Array.replicate l.toArray.size false) :=
    ⟨by simp, fun j oj _ hl => (by rw [getD_replicate_false] at hl; cases hl), fun t _ ht => getD_in (by simpa using ht) (getD_replicate_false _ _)⟩
  refine wp_region_any hm ?_
  have := wpAny_floats (Q := Q) (tl := l.drop n) hQ hsel hs hc hn (fun j => by simp [List.getElem?_drop]) (by simp) fl _ a _ hC inv0 hf (by simpa using h)
  rwa [show fl.length + hd.length + (l.toArray.size - n) = l.toArray.size by omega] at this
end
end Go.Proofs.YtnkmngkinjjbfaaDoor
