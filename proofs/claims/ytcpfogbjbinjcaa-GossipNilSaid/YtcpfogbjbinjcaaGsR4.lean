/- The walks of replicas, the references, fourth part: Events. -/
import Derived.Test.YtcpfogbjbinjcaaGsR3
import Derived.Test.YtcpfogbjbinjcaaGsW7
set_option linter.all false
namespace Go.Proofs.Ytcpfogbjbinjcaa
open Go.RowKit Go.ChangeMaps

/-- a list of events in memory -/
def EvsPost (w0 : World) (l : List Ev) (o : Ending) (w' : World) : Prop :=
  ∃ (a : Option Addr) (cap : Nat) (y : Since w0), o = .returned (.slice a l.length cap) ∧ w' = y.w ∧ l.length ≤ cap ∧ (a = none → cap = 0) ∧ EvRow y.w a l
theorem els_nonnil {w : World} {a : Option Addr} {l : List Ev} (h : EvRow w a l) (hl : 0 < l.length) : ∃ b off, a = some ⟨b, off, none⟩ := by
  obtain ⟨b, off, hb, _⟩ := h 0 _ (List.getElem?_eq_getElem hl)
  exact ⟨b, off, hb⟩
/-- an event put into a sorted list -/
theorem ins_sorted {S : List Ev} {e : Ev} {k : Nat} (hs : S.Pairwise fun x y => less y x = false) (hk : k ≤ S.length) (ha : ∀ j, k ≤ j → ∀ z, S[j]? = some z → less e z = true) (hb : ∀ s, 0 < k → S[k - 1]? = some s → less e s = false) :
    (S.take k ++ e :: S.drop k).Pairwise fun x y => less y x = false := by
  have hS : (S.take k ++ S.drop k).Pairwise fun x y => less y x = false := by rw [List.take_append_drop]; exact hs
  rw [List.pairwise_append] at hS ⊢
  obtain ⟨h1, h2, h3⟩ := hS
  have hd : ∀ z ∈ S.drop k, less z e = false := fun z hz => by
    obtain ⟨j, hj⟩ := List.mem_iff_getElem?.1 hz
    rw [List.getElem?_drop] at hj
    exact less_asymm (ha (k + j) (by omega) z hj)
  refine ⟨h1, List.pairwise_cons.2 ⟨hd, h2⟩, fun x hx z hz => ?_⟩
  rcases List.mem_cons.1 hz with rfl | hz
  · obtain ⟨j, hj⟩ := List.mem_iff_getElem?.1 hx
    rw [List.getElem?_take] at hj
    split at hj
    · rename_i hjk
      have hlt : k - 1 < S.length := by omega
      have hb' := hb _ (by omega) (List.getElem?_eq_getElem hlt)
      by_cases hj1 : j = k - 1
      · subst hj1
        rw [List.getElem?_eq_getElem hlt] at hj
        cases hj; exact hb'
      · have hjl : j < S.length := by omega
        rw [List.getElem?_eq_getElem hjl] at hj
        cases hj
        have hp := List.pairwise_iff_getElem.1 hs j (k - 1) hjl hlt (by omega)
        cases hc : less z S[j] with
        | false => rfl
        | true =>
          cases hd : less S[j] S[k - 1] with
          | true => rw [less_trans hc hd] at hb'; cases hb'
          | false => rw [less_total hd hp] at hc; rw [hc] at hb'; cases hb'
    · cases hj
  · exact h3 x hx z hz
theorem ins_perm (S : List Ev) (e : Ev) (k : Nat) : (S.take k ++ e :: S.drop k).Perm (S ++ [e]) := by
  have h1 : (S.take k ++ e :: S.drop k).Perm (e :: (S.take k ++ S.drop k)) := List.perm_middle
  rw [List.take_append_drop] at h1
  exact h1.trans (List.perm_append_singleton e S).symm

set_option maxRecDepth 100000 in
set_option maxHeartbeats 8000000 in
theorem revents_calls (w : World) (x : Since w) (a : Option Addr) (l : List Ev) (cap : Nat) (hr : EvRow w a l) (hl : l.length ≤ 100000) :
    Calls Try.prog 34 #[.slice a l.length cap] x.w (EvsPost w (sortE l)) := by
  go_enter Try.func34, Try.ntmps34
  go_wp2_with fail
  go_loopw [3, 4] (fun v i wr => ∃ (S : List Ev) (k : Nat) (b : Option Addr) (c : Nat) (y : Since w), v = .slice b S.length c ∧ i = .int .i64 k ∧ wr = y.w ∧ k ≤ l.length ∧ S.Perm (l.take k) ∧ (S.Pairwise fun x y => less y x = false) ∧ S.length ≤ c ∧ (b = none → c = 0) ∧ EvRow y.w b S) (fun _ i _ => l.length - (intOf i).toNat)
  case atStart => exact ⟨[], 0, none, 0, x, rfl, rfl, rfl, by omega, by simp, by simp, by simp, fun _ => rfl, els_nil _ _⟩
  case round =>
    obtain ⟨S, k, b, c, y, rfl, rfl, rfl, hk, hp, hs, hc, hn, hels⟩ := hrel
    have hSl : S.length = k := by rw [hp.length_eq, List.length_take]; omega
    have Hp := Lib.hid hp; have Hs := Lib.hid hs; have HSl := Lib.hid hSl
    clear hp hs hSl
    by_cases hlt : k < l.length
    · obtain ⟨e, he⟩ : ∃ e, l[k]? = some e := ⟨_, List.getElem?_eq_getElem hlt⟩
      obtain ⟨b1, off1, rfl, h1⟩ := Els.ev (Since.els hr y) he
      have p0 := h1.c0
      have p1 := h1.c1
      have p2 := h1.c2
      have p3 := h1.c3
      have p4 := h1.c4
      have p5 := h1.c5
      have p6 := h1.c6
      have p7 := h1.c7
      have p8 := h1.c8
      have hk0 : (0 : Int) ≤ (k : Int) := by omega
      have hkl : (k : Int) < (l.length : Int) := by omega
      have hle := rless_calls y.w
      simp only [Ev.ag] at hle
      have He := Lib.hid he
      have Hr := Lib.hid hr
      have Hels := Lib.hid hels
      clear hr h1 he hels
      go_wp2_with fail
      go_loopw [5] (fun i wr => ∃ (m : Nat) (y2 : Since y.w), i = .int .i64 m ∧ wr = y2.w ∧ m ≤ S.length ∧ (∀ j, m ≤ j → ∀ z, S[j]? = some z → less e z = true)) (fun i _ => (intOf i).toNat)
      case atStart => exact ⟨S.length, Since.self _, rfl, rfl, by omega, fun j hj z hz => by rw [List.getElem?_eq_none (by omega)] at hz; cases hz⟩
      case round =>
        obtain ⟨m, y2, rfl, rfl, hm, hall⟩ := hrel
        have Hall := Lib.hid hall; clear hall
        have hm0 : (0 : Int) ≤ (m : Int) := by omega
        have hSl := HSl.out
        have hms : (m : Int) ≤ (S.length : Int) := by omega
        have hmS : m ≤ S.length := by omega
        have hmc : (m : Int) ≤ (c : Int) := by omega
        have hcc : (S.length : Int) ≤ (c : Int) := by omega
        have hl5 : S.length ≤ 100000 := by omega
        clear hSl
        by_cases hstop : ∀ s, 0 < m → S[m - 1]? = some s → less e s = false
        · have hfin : (∀ (q : Since y.w) (v : Value) (n : Nat), q.w.ownsRow y.w.heap.size 33 9 v n (([] ++ flat Ev.cs (S.take m)) ++ e.cs ++ flat Ev.cs (S.drop m)) → ∃ (S' : List Ev) (b' : Option Addr) (c' : Nat) (y' : Since w), v = .slice b' S'.length c' ∧ q.w = y'.w ∧ S'.Perm (l.take (k + 1)) ∧ (S'.Pairwise fun x y => less y x = false) ∧ S'.length ≤ c' ∧ (b' = none → c' = 0) ∧ EvRow y'.w b' S') := fun q v n h => by
            have e1 : (([] ++ flat Ev.cs (S.take m)) ++ e.cs ++ flat Ev.cs (S.drop m)) = flat Ev.cs (S.take m ++ e :: S.drop m) := by simp [flat]
            rw [e1] at h
            obtain ⟨_, a4, c4, rfl, hc4, he4, _, _⟩ := own_els cs_len (by decide) h
            obtain ⟨y', hy'⟩ := y.trans q
            rw [hy'] at he4
            refine ⟨_, a4, c4, y', rfl, hy', ?_, ins_sorted Hs.out hmS Hall.out hstop, hc4, fun h0 => ?_, he4⟩
            · refine (ins_perm S e m).trans ?_
              have : l.take (k + 1) = l.take k ++ [e] := by rw [List.take_add_one, He.out]; rfl
              rw [this]
              exact Hp.out.append_right _
            · obtain ⟨b5, o5, h5⟩ := els_nonnil he4 (by simp; omega)
              rw [h0] at h5; cases h5
          have Hfin := Lib.hid hfin
          have Hstop := Lib.hid hstop
          have hnil2 : cutA b m c 9 = none → c - m = 0 := fun h => by
            cases b with
            | none => have := hn rfl; omega
            | some b0 => unfold cutA at h; split at h <;> simp at h
          have Hnil2 := Lib.hid hnil2
          have Hn := Lib.hid hn
          clear hfin hnil2 hn
          have htl : (S.take m).length = m := by rw [List.length_take]; omega
          have hdl : (S.drop m).length = S.length - m := by rw [List.length_drop]
          have Htl := Lib.hid htl
          have Hdl := Lib.hid hdl
          clear htl hdl
          have hz : ¬ (0 : Int) < (m : Int) → m = 0 := fun h => by omega
          rcases (by omega : m = 0 ∨ 0 < m) with h0 | h0
          · have h00 : (m : Int) ≤ 0 := by omega
            clear hstop hz
            go_wp2_with fail
            refine wp_region_since (by kernel_rfl) (by kernel_rfl) ?_
            repeat (go_big_quiet_step (fail))
            refine wpQuiet_nil ?_
            rintro _ ⟨y3, rfl⟩
            go_upto_region 10 with (at_builtin; (refine wpList_appendEls (w0 := y.w) (enc := Ev.cs) (k := 9) cs_len (by decide) cs_one ⟨_, rfl⟩ rfl _ _ 22 rfl y.w.heap.size (Nat.le_refl _) ?hb 33 (⟨0, 0, 0, 0, 0, 0, 0, 0, 0⟩ : Ev).ag 72 evs (.slice none 0 0) 0 [] rfl ⟨rfl, .inl ⟨rfl, rfl⟩⟩ b (S.take m) c ?hx (Els.take (Since.els Hels.out y3) m) Hn.out ?h63 ?hbytes ?_; rotate_right 1; intro v2 z2 hown2 _ hg2))
            case hx => first | (rw [Htl.out]; rfl) | (rw [Htl.out, h0]; rfl)
            case hb => exact y3.b.size
            case h63 => rw [Htl.out]; unfold maxLen; omega
            case hbytes => rw [Htl.out]; omega
            have Hown2 := Lib.hid hown2
            clear hown2 hg2
            go_upto_region 11 with (at_builtin; (refine wpList_appendK (w0 := y.w) ?hw rfl _ _ 22 rfl y.w.heap.size (Nat.le_refl _) ?hb 33 (⟨0, 0, 0, 0, 0, 0, 0, 0, 0⟩ : Ev).ag 72 evs v2 (0 + (S.take m).length) ([] ++ flat Ev.cs (S.take m)) rfl ?hown ⟨z2.w.heap.size, 0, none⟩ 1 1 e.cs rfl rfl ?hc (cs_one e) ?h63 ?hbytes ?_; rotate_right 1; intro v3 z3 hown3 _ hg3))
            case hw => exact z2.alloc _
            case hb => have := z2.b.size; simp; omega
            case hown => exact own_to Hown2.out (IsSince.alloc (IsSince.self _) _)
            case hc => first | exact cell_new_at z2.w e.cs _ | exact fun _ _ h => h
            case h63 => rw [Htl.out]; unfold maxLen; omega
            case hbytes => rw [Htl.out]; omega
            have Hown3 := Lib.hid hown3
            clear hown3 hg3
            go_wp2_with (at_builtin; (refine wpList_appendEls (w0 := y.w) (enc := Ev.cs) (k := 9) cs_len (by decide) cs_one ⟨_, rfl⟩ rfl _ _ 22 rfl y.w.heap.size (Nat.le_refl _) ?hb 33 (⟨0, 0, 0, 0, 0, 0, 0, 0, 0⟩ : Ev).ag 72 evs v3 (0 + (S.take m).length + 1) (([] ++ flat Ev.cs (S.take m)) ++ e.cs) rfl Hown3.out (cutA b m c 9) (S.drop m) (c - m) ?hx (Els.cut (Since.els Hels.out z3) m c hc) Hnil2.out ?h63 ?hbytes ?_; rotate_right 1; intro v4 z4 hown4 _ hg4))
            case hx => first | (rw [Hdl.out]; rfl) | (rw [Hdl.out, h0, cutA_zero]; rfl)
            case hb => exact z3.b.size
            case h63 => rw [Htl.out, Hdl.out]; unfold maxLen; omega
            case hbytes => rw [Htl.out, Hdl.out]; omega
            clear hg4
            obtain ⟨S', b', c', y', rfl, hyw, h1, h2, h3, h4, h5⟩ := Hfin.out z4 v4 _ hown4
            have Hyw := Lib.hid hyw; have G1 := Lib.hid h1; have G2 := Lib.hid h2; have G3 := Lib.hid h3; have G4 := Lib.hid h4; have G5 := Lib.hid h5
            clear hyw h1 h2 h3 h4 h5 hown4
            go_wp2_with fail
            go_roundw
            case rel => exact ⟨S', k + 1, b', c', y', rfl, by go_num, Hyw.out, by omega, G1.out, G2.out, G3.out, G4.out, G5.out⟩
            case measure => simp [intOf]; omega
          · obtain ⟨s, hsm⟩ : ∃ s, S[m - 1]? = some s := ⟨_, List.getElem?_eq_getElem (by omega)⟩
            have hls := hstop s h0 hsm
            obtain ⟨b2, off2, rfl, h2⟩ := Els.ev Hels.out hsm
            have q0 := h2.c0
            have q1 := h2.c1
            have q2 := h2.c2
            have q3 := h2.c3
            have q4 := h2.c4
            have q5 := h2.c5
            have q6 := h2.c6
            have q7 := h2.c7
            have q8 := h2.c8
            have hm1 : (0 : Int) < (m : Int) := by omega
            have hmm : (m : Int) - 1 = ((m - 1 : Nat) : Int) := by omega
            have hmw : IntKind.i64.wrap ((m : Int) - 1) = ((m - 1 : Nat) : Int) := by rw [hmm]; exact IntWalk.i64_in _ (by omega)
            have hmr : (0 : Int) ≤ ((m - 1 : Nat) : Int) := by omega
            have hml : ((m - 1 : Nat) : Int) < (S.length : Int) := by omega
            clear hstop h2 hsm hmm hz
            go_wp2_with fail
            refine wp_region_since (by kernel_rfl) (by kernel_rfl) ?_
            repeat (go_big_quiet_step ((go_at_call 20; refine (hle _ e s).mono ?_; rw [hls]; exact fun _ _ h => h)))
            refine wpQuiet_nil ?_
            rintro _ ⟨y3, rfl⟩
            clear q0 q1 q2 q3 q4 q5 q6 q7 q8 hmw hmr hml
            go_upto_region 10 with (at_builtin; (refine wpList_appendEls (w0 := y.w) (enc := Ev.cs) (k := 9) cs_len (by decide) cs_one ⟨_, rfl⟩ rfl _ _ 22 rfl y.w.heap.size (Nat.le_refl _) ?hb 33 (⟨0, 0, 0, 0, 0, 0, 0, 0, 0⟩ : Ev).ag 72 evs (.slice none 0 0) 0 [] rfl ⟨rfl, .inl ⟨rfl, rfl⟩⟩ (some ⟨b2, off2, none⟩) (S.take m) c ?hx (Els.take (Since.els Hels.out y3) m) Hn.out ?h63 ?hbytes ?_; rotate_right 1; intro v2 z2 hown2 _ hg2))
            case hx => first | (rw [Htl.out]; rfl) | (rw [Htl.out, h0]; rfl)
            case hb => exact y3.b.size
            case h63 => rw [Htl.out]; unfold maxLen; omega
            case hbytes => rw [Htl.out]; omega
            have Hown2 := Lib.hid hown2
            clear hown2 hg2
            go_upto_region 11 with (at_builtin; (refine wpList_appendK (w0 := y.w) ?hw rfl _ _ 22 rfl y.w.heap.size (Nat.le_refl _) ?hb 33 (⟨0, 0, 0, 0, 0, 0, 0, 0, 0⟩ : Ev).ag 72 evs v2 (0 + (S.take m).length) ([] ++ flat Ev.cs (S.take m)) rfl ?hown ⟨z2.w.heap.size, 0, none⟩ 1 1 e.cs rfl rfl ?hc (cs_one e) ?h63 ?hbytes ?_; rotate_right 1; intro v3 z3 hown3 _ hg3))
            case hw => exact z2.alloc _
            case hb => have := z2.b.size; simp; omega
            case hown => exact own_to Hown2.out (IsSince.alloc (IsSince.self _) _)
            case hc => first | exact cell_new_at z2.w e.cs _ | exact fun _ _ h => h
            case h63 => rw [Htl.out]; unfold maxLen; omega
            case hbytes => rw [Htl.out]; omega
            have Hown3 := Lib.hid hown3
            clear hown3 hg3
            go_wp2_with (at_builtin; (refine wpList_appendEls (w0 := y.w) (enc := Ev.cs) (k := 9) cs_len (by decide) cs_one ⟨_, rfl⟩ rfl _ _ 22 rfl y.w.heap.size (Nat.le_refl _) ?hb 33 (⟨0, 0, 0, 0, 0, 0, 0, 0, 0⟩ : Ev).ag 72 evs v3 (0 + (S.take m).length + 1) (([] ++ flat Ev.cs (S.take m)) ++ e.cs) rfl Hown3.out (cutA (some ⟨b2, off2, none⟩) m c 9) (S.drop m) (c - m) ?hx (Els.cut (Since.els Hels.out z3) m c hc) Hnil2.out ?h63 ?hbytes ?_; rotate_right 1; intro v4 z4 hown4 _ hg4))
            case hx => first | (rw [Hdl.out]; rfl) | (rw [Hdl.out, h0, cutA_zero]; rfl)
            case hb => exact z3.b.size
            case h63 => rw [Htl.out, Hdl.out]; unfold maxLen; omega
            case hbytes => rw [Htl.out, Hdl.out]; omega
            clear hg4
            obtain ⟨S', b', c', y', rfl, hyw, h1, h2, h3, h4, h5⟩ := Hfin.out z4 v4 _ hown4
            have Hyw := Lib.hid hyw; have G1 := Lib.hid h1; have G2 := Lib.hid h2; have G3 := Lib.hid h3; have G4 := Lib.hid h4; have G5 := Lib.hid h5
            clear hyw h1 h2 h3 h4 h5 hown4
            go_wp2_with fail
            go_roundw
            case rel => exact ⟨S', k + 1, b', c', y', rfl, by go_num, Hyw.out, by omega, G1.out, G2.out, G3.out, G4.out, G5.out⟩
            case measure => simp [intOf]; omega
        · have hex : ∃ s, 0 < m ∧ S[m - 1]? = some s ∧ less e s = true := by
            by_cases h0 : 0 < m
            · refine ⟨_, h0, List.getElem?_eq_getElem (by omega), ?_⟩
              cases hh : less e (S[m - 1]'(by omega)) with
              | true => rfl
              | false => exact (hstop fun s _ hs => by rw [List.getElem?_eq_getElem (by omega)] at hs; cases hs; exact hh).elim
            · exact (hstop fun s h => (h0 h).elim).elim
          obtain ⟨s, h0, hsm, hls⟩ := hex
          obtain ⟨b2, off2, rfl, h2⟩ := Els.ev Hels.out hsm
          have q0 := h2.c0
          have q1 := h2.c1
          have q2 := h2.c2
          have q3 := h2.c3
          have q4 := h2.c4
          have q5 := h2.c5
          have q6 := h2.c6
          have q7 := h2.c7
          have q8 := h2.c8
          have hm1 : (0 : Int) < (m : Int) := by omega
          have hmm : (m : Int) - 1 = ((m - 1 : Nat) : Int) := by omega
          have hmw : IntKind.i64.wrap ((m : Int) - 1) = ((m - 1 : Nat) : Int) := by rw [hmm]; exact IntWalk.i64_in _ (by omega)
          have hmr : (0 : Int) ≤ ((m - 1 : Nat) : Int) := by omega
          have hml : ((m - 1 : Nat) : Int) < (S.length : Int) := by omega
          have hall2 : ∀ j, m - 1 ≤ j → ∀ z, S[j]? = some z → less e z = true := fun j hj z hz => by
            by_cases hjm : m ≤ j
            · exact Hall.out j hjm z hz
            · obtain rfl : j = m - 1 := by omega
              rw [hsm] at hz; cases hz; exact hls
          have Hall2 := Lib.hid hall2
          clear hstop h2 hsm hmm hall2
          go_wp2_with fail
          refine wp_region_since (by kernel_rfl) (by kernel_rfl) ?_
          repeat (go_big_quiet_step ((go_at_call 20; refine (hle _ e s).mono ?_; rw [hls]; exact fun _ _ h => h)))
          refine wpQuiet_nil ?_
          rintro _ ⟨y3, rfl⟩
          go_wp2_with fail
          go_roundw
          case rel => exact ⟨m - 1, y3, rfl, rfl, by omega, Hall2.out⟩
          case measure => simp [intOf]; omega
    · obtain rfl : k = l.length := by omega
      have hres : S = sortE l := sortE_unique (by have := Hp.out; rwa [List.take_length] at this) Hs.out
      have Hres := Lib.hid hres
      clear hr hres
      go_wp2_with fail
      go_ret
      exact ⟨b, c, y, ret_slice (by rw [← Hres.out]), rfl, by rw [← Hres.out]; exact hc, hn, by rw [← Hres.out]; exact hels⟩
end Go.Proofs.Ytcpfogbjbinjcaa
