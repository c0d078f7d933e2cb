/- The laws of replicas: GossipArrives. -/
import Derived.Test.YtcpfogbjbinjcaaGsK6
set_option linter.all false
namespace Go.Proofs.Ytcpfogbjbinjcaa
open Go.RowKit Go.ChangeMaps

theorem take_next {l : List Ev} {k : Nat} {e : Ev} (h : l[k]? = some e) : l.take (k + 1) = l.take k ++ [e] := by
  have hlt := (List.getElem?_eq_some_iff.1 h).1
  have he : l[k] = e := (List.getElem?_eq_some_iff.1 h).2
  rw [List.take_succ_eq_append_getElem hlt, he]
theorem sub_take {W : List Ev} (hn : W.Nodup) (k : Nat) : Sub W (W.take k) := ⟨fun x hx => List.mem_of_mem_take hx, hn.sublist (List.take_sublist _ _)⟩
theorem take_fresh {N : Int} {W : List Ev} (hW : Inv N W) {k : Nat} {e : Ev} (h : W[k]? = some e) : addE N (W.take k) e = 0 ∧ freshB N (W.take k) e = true ∧ addL N (W.take k) e = W.take (k + 1) := by
  have hlt := (List.getElem?_eq_some_iff.1 h).1
  have he : W[k] = e := (List.getElem?_eq_some_iff.1 h).2
  have hni : e ∉ W.take k := by
    intro hm
    obtain ⟨i, hi⟩ := List.mem_iff_getElem?.1 hm
    rw [List.getElem?_take] at hi
    split at hi
    · rename_i hik
      have h1 := (List.getElem?_eq_some_iff.1 hi)
      have := (List.nodup_iff_pairwise_ne.1 hW.nodup)
      have := List.pairwise_iff_getElem.1 this i k h1.1 hlt hik
      rw [h1.2, he] at this
      exact this rfl
    · cases hi
  have h1 := sub_new hW (sub_take hW.nodup k) (List.mem_of_getElem? h) hni
  exact ⟨h1.1, h1.2, by rw [addL_fresh h1.2, take_next h]⟩
theorem sortE_less {N : Int} {l : List Ev} (hI : Inv N l) {k : Nat} {u v : Ev} (hu : (sortE l)[k]? = some u) (hv : (sortE l)[k + 1]? = some v) : less u v = true := by
  have hs := sortE_sorted l
  have h1 := List.getElem?_eq_some_iff.1 hu
  have h2 := List.getElem?_eq_some_iff.1 hv
  have h3 := List.pairwise_iff_getElem.1 hs k (k + 1) h1.1 h2.1 (by omega)
  rw [h1.2, h2.2] at h3
  cases h : less u v
  · have he := less_total h h3
    have hn := (sortE_perm l).symm.nodup hI.nodup
    have := List.pairwise_iff_getElem.1 (List.nodup_iff_pairwise_ne.1 hn) k (k + 1) h1.1 h2.1 (by omega)
    rw [h1.2, h2.2] at this
    exact (this he).elim
  · rfl
theorem ref_less_s (w : World) (y : Since w) (u v : Ev) (q : Bool) (hq : less u v = q) :
    Calls Try.prog 20 #[.agg #[.int .i64 u.d, .int .i64 u.q, .int .i64 u.a, .int .i64 u.t, .int .i64 u.k, .int .i64 u.b, .int .i64 u.p, .int .i64 u.r, .int .i64 u.i], .agg #[.int .i64 v.d, .int .i64 v.q, .int .i64 v.a, .int .i64 v.t, .int .i64 v.k, .int .i64 v.b, .int .i64 v.p, .int .i64 v.r, .int .i64 v.i]] y.w fun o w' => o = .returned (.bool q) ∧ ∃ y' : Since w, w' = y'.w :=
  hq ▸ rless_calls w y u v
theorem add_in (w : World) (y : Since w) (p bm : Nat) (N : Int) (W L : List Ev) (e : Ev) (hb : w.heap.size ≤ bm) (hR : RepAt y.w p bm N L) (hW : Inv N W) (hS : Sub W L) (he : e ∈ W) :
    Calls Try.prog 16 #[.pointer (some ⟨p, 0, none⟩), .agg #[.int .i64 e.d, .int .i64 e.q, .int .i64 e.a, .int .i64 e.t, .int .i64 e.k, .int .i64 e.b, .int .i64 e.p, .int .i64 e.r, .int .i64 e.i]] y.w fun o w' => ∃ (b : Bool) (y' : Since w) (L' : List Ev), o = .returned (.tuple #[.bool b, .int .i64 0]) ∧ w' = y'.w ∧ RepAt y'.w p bm N L' ∧ y.w.grownBy y'.w (some bm) ∧ Sub W L' ∧ ∀ x, x ∈ L' ↔ x ∈ L ∨ x = e := by
  have h := sub_add hW hS he
  refine (add_u w y p bm N L e hb hR).mono ?_
  rintro _ w' ⟨rfl, y', rfl, hR', hg⟩
  exact ⟨_, y', _, by rw [h.1], rfl, hR', hg, h.2⟩
set_option maxRecDepth 100000 in
set_option maxHeartbeats 16000000 in
theorem gossipArrives_calls (w : World) (x : Since w) (n : Int) (la : Option Addr) (l : List Ev) (lc : Nat) (oa : Option Addr) (order : List Int) (oc : Nat) (hl : EvRow w la l) (hll : l.length ≤ 9223372036854775807) (ho : Row w oa order.length fun i => .int .u8 (at0 order i)) (hob : ∀ i, 0 ≤ at0 order i ∧ at0 order i ≤ 255) (hol : order.length ≤ 9223372036854775807) :
    Calls Try.prog 4 #[.int .i64 n, .slice la l.length lc, .slice oa order.length oc] x.w fun o w' => o = .returned (.bool true) ∧ ∃ y : Since w, w' = y.w := by
  have HL := Lib.hid hl
  have HO := Lib.hid ho
  have HOb := Lib.hid hob
  clear hl ho hob
  by_cases hbad : 40 < l.length ∨ 200 < order.length ∨ n < 1 ∨ 12 < n
  · rcases (by omega : (40 < l.length) ∨ (l.length ≤ 40 ∧ 200 < order.length) ∨ (l.length ≤ 40 ∧ order.length ≤ 200 ∧ n < 1) ∨ (l.length ≤ 40 ∧ order.length ≤ 200 ∧ 1 ≤ n ∧ 12 < n)) with h | ⟨h, h'⟩ | ⟨h, h', h''⟩ | ⟨h, h', h'', h'''⟩
    all_goals
      clear hbad
      go_enter Try.func4, Try.ntmps4
      go_wp2_with (go_at_call 12; refine (awake_s w _).mono ?_; rintro _ _ ⟨rfl, y1, rfl, -⟩)
      go_ret
      exact ⟨rfl, _, rfl⟩
  have hl40 : l.length ≤ 40 := by omega
  have ho200 : order.length ≤ 200 := by omega
  have hn1 : 1 ≤ n := by omega
  have hn12 : n ≤ 12 := by omega
  obtain ⟨N, rfl⟩ : ∃ N : Nat, n = N := ⟨n.toNat, by omega⟩
  have HI := Lib.hid (inv_addAll (N := N) l [] (inv_nil N))
  have hwc := world_calls w x N la l lc HL.out (by omega)
  unfold WorldPost at hwc
  have Hwc := Lib.hid hwc
  generalize addAll N [] l = S at *
  clear hbad hll hwc hol HL
  have hS5 := HI.out.len
  go_enter Try.func4, Try.ntmps4
  go_upto_region 4 with (go_at_call 18; refine Hwc.out.mono ?_; rintro _ _ ⟨wa, wc, yv, rfl, rfl, hrow, hwcap⟩; have HS := Lib.hid hrow; clear hrow)
  clear Hwc
  have Hup := Lib.hid (fun z : Since yv.w => yv.trans z)
  replace HO := Lib.hid (Since.row HO.out yv)
  obtain ⟨v0, hq0⟩ := Since.refl yv.w
  rw [hq0]
  clear hq0
  go_wp2_with fail
  refine (new_s yv.w _ (N : Int) hn1 (by omega)).mono ?_
  rintro _ _ ⟨p, bm, y1, rfl, rfl, hz, hb, hR⟩
  have HR := Lib.hid hR; have Hb := Lib.hid (Nat.le_trans v0.b.size hb); clear hR hb hz
  go_wp2_with fail
  refine (new_s yv.w _ (N : Int) hn1 (by omega)).mono ?_
  rintro _ _ ⟨p2, bm2, y2, rfl, rfl, hz, hb, hR⟩
  have Hne := Lib.hid (show bm ≠ bm2 by have := HR.out.lt.2; omega)
  replace HR := Lib.hid (HR.out.to hz); have HR2 := Lib.hid hR; have Hb2 := Lib.hid (Nat.le_trans y1.b.size hb); clear hR hb hz
  go_wp2_with fail
  go_loopw [12] (fun i wr => ∃ (k : Nat) (L : List Ev) (y : Since yv.w), k ≤ order.length ∧ i = .int .i64 k ∧ wr = y.w ∧ RepAt y.w p bm N L ∧ RepAt y.w p2 bm2 N [] ∧ Sub S L) (fun i _ => order.length - (intOf i).toNat)
  case atStart => exact ⟨0, [], _, by omega, rfl, rfl, HR.out, HR2.out, sub_nil _⟩
  case round =>
    obtain ⟨k, L, y, hk, rfl, rfl, hR, hR2, hSub⟩ := hrel
    replace HR := Lib.hid hR; replace HR2 := Lib.hid hR2; have HSub := Lib.hid hSub
    clear hR hR2 hSub
    rcases (by omega : (k < order.length ∧ 0 < S.length) ∨ (order.length ≤ k) ∨ (k < order.length ∧ S.length ≤ 0)) with ⟨hlt, hpos⟩ | hend | ⟨hlt, hz0⟩
    · obtain ⟨ob, oo, rfl, _, _⟩ := HO.out k hlt
      have hcell : ∀ y : Since yv.w, y.w.cell? ⟨ob, oo + k, none⟩ = some (.int .u8 (at0 order k)) := fun y => Since.at HO.out k hlt y
      obtain ⟨hz0, hz1⟩ := HOb.out k
      generalize at0 order k = z at *
      have hr0 := Int.emod_nonneg z (show (S.length : Int) ≠ 0 by omega)
      have hr1 := Int.emod_lt_of_pos z (show (0 : Int) < (S.length : Int) by omega)
      obtain ⟨r, hr⟩ : ∃ r : Nat, z % (S.length : Int) = r := ⟨(z % (S.length : Int)).toNat, by omega⟩
      have hrl : r < S.length := by omega
      obtain ⟨e1, he⟩ : ∃ e, S[r]? = some e := ⟨_, List.getElem?_eq_getElem hrl⟩
      obtain ⟨b1, off1, rfl, h1'⟩ := Els.ev HS.out he
      have pa0 := h1'.c0
      have pa1 := h1'.c1
      have pa2 := h1'.c2
      have pa3 := h1'.c3
      have pa4 := h1'.c4
      have pa5 := h1'.c5
      have pa6 := h1'.c6
      have pa7 := h1'.c7
      have pa8 := h1'.c8
      have He := Lib.hid (List.mem_of_getElem? he)
      have hk0 : (0 : Int) ≤ (k : Int) := by omega
      have hkl : (k : Int) < (order.length : Int) := by omega
      have hrl2 : (r : Int) < (S.length : Int) := by omega
      have hr2 : (0 : Int) ≤ (r : Int) := by omega
      clear h1' he hr0 hr1
      go_wp2_with (go_at_call 16; refine (add_in yv.w _ p bm N S L e1 Hb.out HR.out HI.out HSub.out He.out).mono ?_; rintro _ _ ⟨bb, y2, L', rfl, rfl, hR, hg, hsub, -⟩; replace HR2 := Lib.hid (HR2.out.keep HR.out.m Hne.out.symm hg); replace HR := Lib.hid hR; have HSub2 := Lib.hid hsub; clear hR hg hsub)
      go_roundw
      case rel => exact ⟨k + 1, L', _, by omega, by go_num, rfl, HR.out, HR2.out, HSub2.out⟩
      case measure => simp [intOf] <;> omega
    all_goals
      have HN := Lib.hid HI.out.nodup
      go_wp2_with fail
      go_loopw [15] (fun i wr => ∃ (s : Int) (L : List Ev) (y : Since yv.w), -1 ≤ s ∧ s < S.length ∧ i = .int .i64 s ∧ wr = y.w ∧ RepAt y.w p bm N L ∧ RepAt y.w p2 bm2 N (S.take (S.length - 1 - s).toNat) ∧ Sub S L ∧ ∀ x ∈ S.drop (s + 1).toNat, x ∈ L) (fun i _ => (intOf i + 1).toNat)
      case atStart => exact ⟨_, L, _, by omega, by omega, rfl, rfl, HR.out, by rw [show ((S.length : Int) - 1 - ((S.length : Int) - 1)).toNat = 0 by omega]; exact HR2.out, HSub.out, fun x hx => by rw [show ((S.length : Int) - 1 + 1).toNat = S.length by omega, List.drop_length] at hx; cases hx⟩
      case round =>
        clear HR HR2 HSub
        obtain ⟨s, L, y, hs0, hs1, rfl, rfl, hR, hR2, hSub, hall⟩ := hrel
        have HR := Lib.hid hR; have HR2 := Lib.hid hR2; have HSub := Lib.hid hSub; have Hall := Lib.hid hall
        clear hR hR2 hSub hall
        by_cases hs : 0 ≤ s
        · try (exfalso; omega)
          all_goals
            obtain ⟨i, rfl⟩ : ∃ i : Nat, s = i := ⟨s.toNat, by omega⟩
            obtain ⟨j, hj⟩ : ∃ j : Nat, (S.length : Int) - 1 - (i : Int) = j := ⟨((S.length : Int) - 1 - (i : Int)).toNat, by omega⟩
            rw [hj, Int.toNat_natCast] at HR2
            have hil : i < S.length := by omega
            have hjl : j < S.length := by omega
            obtain ⟨e1, he1⟩ : ∃ e, S[i]? = some e := ⟨_, List.getElem?_eq_getElem hil⟩
            obtain ⟨e2, he2⟩ : ∃ e, S[j]? = some e := ⟨_, List.getElem?_eq_getElem hjl⟩
            have hf2 := take_fresh HI.out he2
            have hdrop : S.drop i = e1 :: S.drop (i + 1) := by
              rw [List.drop_eq_getElem_cons hil, (List.getElem?_eq_some_iff.1 he1).2]
            obtain ⟨b1, off1, rfl, h1'⟩ := Els.ev HS.out he1
            have pa0 := h1'.c0
            have pa1 := h1'.c1
            have pa2 := h1'.c2
            have pa3 := h1'.c3
            have pa4 := h1'.c4
            have pa5 := h1'.c5
            have pa6 := h1'.c6
            have pa7 := h1'.c7
            have pa8 := h1'.c8
            obtain ⟨b2, off2, hbo, h2'⟩ := Els.ev HS.out he2
            obtain ⟨rfl, rfl⟩ : b1 = b2 ∧ off1 = off2 := by simpa using hbo
            have qa0 := h2'.c0
            have qa1 := h2'.c1
            have qa2 := h2'.c2
            have qa3 := h2'.c3
            have qa4 := h2'.c4
            have qa5 := h2'.c5
            have qa6 := h2'.c6
            have qa7 := h2'.c7
            have qa8 := h2'.c8
            have He1 := Lib.hid (List.mem_of_getElem? he1)
            have Hdrop := Lib.hid hdrop
            have hadd2 := fun (y : Since yv.w) h => add_u yv.w y p2 bm2 N (S.take j) e2 Hb2.out h
            rw [hf2.1, hf2.2.1, hf2.2.2] at hadd2
            have Hadd2 := Lib.hid hadd2
            have hi0 : (0 : Int) ≤ (i : Int) := by omega
            have hj0 : (0 : Int) ≤ (j : Int) := by omega
            have hil2 : (i : Int) < (S.length : Int) := by omega
            have hjl2 : (j : Int) < (S.length : Int) := by omega
            have Hj := Lib.hid hj
            clear hbo h1' h2' he1 he2 hf2 hdrop hadd2
            go_wp2_with (first
              | (go_at_call 16; ((with_reducible refine (add_in yv.w _ p bm N S L e1 Hb.out HR.out HI.out HSub.out He1.out).mono ?_); rintro _ _ ⟨bb, y2, L', rfl, rfl, hR, hg, hsub, hmem⟩; replace HR2 := Lib.hid (HR2.out.keep HR.out.m Hne.out.symm hg); replace HR := Lib.hid hR; have HSub2 := Lib.hid hsub; have Hmem := Lib.hid hmem; clear hR hg hsub hmem))
              | (go_at_call 16; ((with_reducible refine (Hadd2.out _ HR2.out).mono ?_); rintro _ _ ⟨rfl, y3, rfl, hR, hg⟩; replace HR := Lib.hid (HR.out.keep HR2.out.m Hne.out hg); replace HR2 := Lib.hid hR; clear hR hg)))
            go_roundw
            case rel =>
              refine ⟨(i : Int) - 1, L', _, by omega, by omega, rfl, rfl, HR.out, ?_, HSub2.out, fun x hx => ?_⟩
              · have := Hj.out
                rw [show ((S.length : Int) - 1 - ((i : Int) - 1)).toNat = j + 1 by omega]
                exact HR2.out
              · rw [show ((i : Int) - 1 + 1).toNat = i by omega, Hdrop.out] at hx
                rw [Hmem.out]
                rcases List.mem_cons.1 hx with rfl | hx
                · exact .inr rfl
                · exact .inl (Hall.out x (by rw [show ((i : Int) + 1).toNat = i + 1 by omega]; exact hx))
            case measure => simp [intOf] <;> omega
        · obtain rfl : s = -1 := by omega
          have hperm : L.Perm S := sub_perm HSub.out (sub_self HI.out) (fun x => ⟨fun h => HSub.out.sub x h, fun h => Hall.out x (by simpa using h)⟩)
          rw [show ((S.length : Int) - 1 - -1).toNat = S.length by omega, List.take_length] at HR2
          have HIL := Lib.hid (inv_perm HI.out hperm.symm)
          have hse : sortE L = sortE S := sortE_congr hperm
          have hsn : seenL N L = seenL N S := seenL_perm hperm N
          have hho : hor N L = hor N S := hor_perm HIL.out hperm
          have he1 := fun (y : Since yv.w) h => events_s yv.w y p bm N L h HIL.out
          have he2 := fun (y : Since yv.w) h => seen_s yv.w y p bm N L h HIL.out (by omega)
          have he3 := fun (y : Since yv.w) h => horizon_s yv.w y p bm N L h HIL.out (by omega)
          rw [hse] at he1
          rw [hsn] at he2
          rw [hho] at he3
          have He1 := Lib.hid he1; have He2 := Lib.hid he2; have He3 := Lib.hid he3
          have hln : ((sortE S).length : Int) = S.length := by rw [sortE_length]
          have hlen : (((sortE S).length : Int) == (S.length : Int)) = true := by simpa using hln
          have hl5 : (sortE S).length ≤ 512 := by omega
          have hl6 : (seenL N S).length ≤ 256 := by rw [seenL_length]; omega
          clear hperm hse hsn hho he1 he2 he3 HSub Hall hln
          go_upto_region 22 with (first
            | (go_at_call 19; ((with_reducible refine (He1.out _ HR.out).mono ?_); rintro _ _ ⟨ea, ec, y3, rfl, rfl, hz, hrow⟩; have Hx := Lib.hid hrow; replace HR := Lib.hid (HR.out.to hz); replace HR2 := Lib.hid (HR2.out.to hz); clear hz hrow))
            | (go_at_call 19; ((with_reducible refine (events_s yv.w _ p2 bm2 N S HR2.out HI.out).mono ?_); rintro _ _ ⟨eb, ed, y4, rfl, rfl, hz, hrow⟩; have Hy := Lib.hid hrow; replace HR := Lib.hid (HR.out.to hz); replace HR2 := Lib.hid (HR2.out.to hz); replace Hx := Lib.hid (Hx.out.to hz); clear hz hrow)))
          go_wp2_with fail
          go_loopw [22] (fun i wr => ∃ (m : Nat) (z : Since y4.w), 1 ≤ m ∧ m ≤ (sortE S).length + 1 ∧ i = .int .i64 m ∧ wr = z.w) (fun i _ => (sortE S).length + 1 - (intOf i).toNat)
          case atStart => exact ⟨1, Since.self _, by omega, by omega, rfl, rfl⟩
          case round =>
            obtain ⟨m, z, hm1, hm2, rfl, rfl⟩ := hrel
            by_cases hlt : m < (sortE S).length
            · obtain ⟨u, hu⟩ : ∃ e, (sortE S)[m - 1]? = some e := ⟨_, List.getElem?_eq_getElem (by omega)⟩
              obtain ⟨v, hv⟩ : ∃ e, (sortE S)[m]? = some e := ⟨_, List.getElem?_eq_getElem hlt⟩
              have hless : less u v = true := sortE_less HI.out hu (by rw [show m - 1 + 1 = m by omega]; exact hv)
              obtain ⟨b1, off1, rfl, h1'⟩ := Els.ev Hx.out hu
              have pa0 := h1'.c0
              have pa1 := h1'.c1
              have pa2 := h1'.c2
              have pa3 := h1'.c3
              have pa4 := h1'.c4
              have pa5 := h1'.c5
              have pa6 := h1'.c6
              have pa7 := h1'.c7
              have pa8 := h1'.c8
              obtain ⟨b2, off2, hbo, h2'⟩ := Els.ev Hx.out hv
              obtain ⟨rfl, rfl⟩ : b1 = b2 ∧ off1 = off2 := by simpa using hbo
              have qa0 := h2'.c0
              have qa1 := h2'.c1
              have qa2 := h2'.c2
              have qa3 := h2'.c3
              have qa4 := h2'.c4
              have qa5 := h2'.c5
              have qa6 := h2'.c6
              have qa7 := h2'.c7
              have qa8 := h2'.c8
              have hm3 : (0 : Int) < (m : Int) := by omega
              have hmw : IntKind.i64.wrap ((m : Int) - 1) = ((m - 1 : Nat) : Int) := by rw [show (m : Int) - 1 = ((m - 1 : Nat) : Int) by omega]; exact IntWalk.i64_in _ (by omega)
              have hmr : (0 : Int) ≤ ((m - 1 : Nat) : Int) := by omega
              have hml : ((m - 1 : Nat) : Int) < ((sortE S).length : Int) := by omega
              have hmk : (0 : Int) ≤ (m : Int) := by omega
              have hmj : (m : Int) < ((sortE S).length : Int) := by omega
              have Hless := Lib.hid hless
              clear hbo h1' h2' hu hv hless
              go_wp2_with fail
              refine wp_region_since (by kernel_rfl) (by kernel_rfl) ?_
              repeat (go_big_quiet_step ((go_at_call 20; exact ref_less_s y4.w _ u v true Hless.out)))
              refine wpQuiet_nil ?_
              rintro _ ⟨z2, rfl⟩
              clear pa0 pa1 pa2 pa3 pa4 pa5 pa6 pa7 pa8 qa0 qa1 qa2 qa3 qa4 qa5 qa6 qa7 qa8 hmw hmr hml
              go_wp2_with fail
              go_roundw
              case rel => exact ⟨m + 1, z2, by omega, by omega, by go_num, rfl⟩
              case measure => simp [intOf] <;> omega
            · replace HR := Lib.hid (HR.out.since z); replace HR2 := Lib.hid (HR2.out.since z); replace Hx := Lib.hid (Since.els Hx.out z); replace Hy := Lib.hid (Since.els Hy.out z)
              obtain ⟨y5, e5⟩ := y4.trans z
              rw [e5] at HR HR2 Hx Hy ⊢
              clear e5
              go_wp2_with (first
                | (go_at_call 21; ((with_reducible refine (evcmp_s yv.w _ ea eb (sortE S) (sortE S) ec ed true (by omega) (by omega) Hx.out Hy.out (decide_eq_true rfl)).mono ?_); rintro _ _ ⟨rfl, y6, rfl, hz⟩; replace HR := Lib.hid (HR.out.to hz); replace HR2 := Lib.hid (HR2.out.to hz); clear hz))
                | (go_at_call 23; ((with_reducible refine (He2.out _ HR.out).mono ?_); rintro _ _ ⟨ia, ic, y7, rfl, rfl, hz, hrow⟩; have Hi1 := Lib.hid hrow; replace HR := Lib.hid (HR.out.to hz); replace HR2 := Lib.hid (HR2.out.to hz); clear hz hrow))
                | (go_at_call 23; ((with_reducible refine (seen_s yv.w _ p2 bm2 N S HR2.out HI.out (by omega)).mono ?_); rintro _ _ ⟨ib, id, y8, rfl, rfl, hz, hrow⟩; have Hi2 := Lib.hid hrow; replace Hi1 := Lib.hid (Hi1.out.to hz); replace HR := Lib.hid (HR.out.to hz); replace HR2 := Lib.hid (HR2.out.to hz); clear hz hrow))
                | (go_at_call 22; ((with_reducible refine (icmp_s yv.w _ ia ib (seenL N S) (seenL N S) ic id true (by omega) (by omega) Hi1.out Hi2.out (decide_eq_true rfl)).mono ?_); rintro _ _ ⟨rfl, y9, rfl, hz⟩; replace HR := Lib.hid (HR.out.to hz); replace HR2 := Lib.hid (HR2.out.to hz); clear hz))
                | (go_at_call 24; ((with_reducible refine (He3.out _ HR.out).mono ?_); rintro _ _ ⟨rfl, y10, rfl, hz⟩; replace HR2 := Lib.hid (HR2.out.to hz); clear hz))
                | (go_at_call 24; ((with_reducible refine (horizon_s yv.w _ p2 bm2 N S HR2.out HI.out (by omega)).mono ?_); rintro _ _ ⟨rfl, y11, rfl, hz⟩; clear hz))
                | (go_at_call 12; refine (awake_s yv.w _).mono ?_; rintro _ _ ⟨rfl, y12, rfl, -⟩))
              go_ret
              exact ⟨rfl, Hup.out _⟩
end Go.Proofs.Ytcpfogbjbinjcaa
