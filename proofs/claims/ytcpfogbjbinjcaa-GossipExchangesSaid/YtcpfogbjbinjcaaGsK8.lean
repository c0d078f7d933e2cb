/- The laws of replicas: GossipExchanges. -/
import Derived.Test.YtcpfogbjbinjcaaGsL5
set_option linter.all false
namespace Go.Proofs.Ytcpfogbjbinjcaa
open Go.RowKit Go.ChangeMaps

/-- what came since what was seen completes a replica -/
theorem since_mem {N : Nat} {S A B : List Ev} (hI : Inv N S) (hA : Sub S A) (hB : Sub S B) (e : Ev) : (e ∈ B ∨ e ∈ sinceL A (seenL N B)) ↔ e ∈ B ∨ e ∈ A := by
  unfold sinceL
  rw [sortE_mem, List.mem_filter]
  constructor
  · rintro (h | h)
    · exact .inl h
    · exact .inr h.1
  · rintro (h | h)
    · exact .inl h
    · by_cases hn : newB (seenL N B) e = true
      · exact .inr ⟨h, hn⟩
      · refine .inl ?_
        obtain ⟨hd0, hd1, hr⟩ := hI.rng e (hA.sub e h)
        rw [rngB_iff] at hr
        obtain ⟨d, hd⟩ : ∃ d : Nat, e.d = d := ⟨e.d.toNat, by omega⟩
        unfold newB lastD at hn
        rw [seenL_length, if_pos (by omega), hd, Int.toNat_natCast, seenL_at B (by omega)] at hn
        simp at hn
        have := seen_all B (d : Int) (e.q.toNat - 1) (by omega)
        obtain ⟨x, hx, x1, x2⟩ := (hasB_iff _ _ _).1 this
        have := hI.keys x (hB.sub x hx) e (hA.sub e h) ((sk_iff _ _).2 ⟨by omega, by omega⟩)
        rw [← this]; exact hx
theorem some_held {w : World} (N : Nat) (la : Option Addr) (S : List Ev) (lc : Nat) (hl : EvRow w la S) (hI : Inv N S) (h1 : 1 ≤ (N : Int)) (h2 : (N : Int) ≤ 256) (u : World) (hu : IsSince w u) (mask : Int) (back : Bool) (hm0 : 0 ≤ mask) (hm1 : mask < 18446744073709551616) :
    Calls Try.prog 30 #[.int .i64 N, .slice la S.length lc, .int .u64 mask, .bool back] u fun o w' => ∃ (p bm : Nat) (L : List Ev) (y : Since w), o = .returned (.pointer (some ⟨p, 0, none⟩)) ∧ w' = y.w ∧ IsSince u y.w ∧ u.heap.size ≤ bm ∧ RepAt y.w p bm N L ∧ Sub S L ∧ ∀ e, e ∈ L ↔ ∃ i, S[i]? = some e ∧ selB mask i = true := by
  obtain ⟨y, rfl⟩ := hu
  refine (some_calls y.w (Since.self y.w) N la S lc mask back (Since.els hl y) hI h1 h2 hm0 hm1).mono ?_
  rintro _ w' ⟨p, bm, L, z, rfl, rfl, hb, hR, hS, hm⟩
  obtain ⟨y', e, hz⟩ := lift1 y ⟨z, rfl⟩
  exact ⟨p, bm, L, y', rfl, e, hz, hb, e ▸ hR, hS, hm⟩
set_option maxRecDepth 100000 in
set_option maxHeartbeats 16000000 in
theorem gossipExchanges_calls (w : World) (x : Since w) (n : Int) (la : Option Addr) (l : List Ev) (lc : Nat) (m0 m1 : Int) (hl : EvRow w la l) (hll : l.length ≤ 9223372036854775807) (hm0 : 0 ≤ m0 ∧ m0 < 18446744073709551616) (hm1 : 0 ≤ m1 ∧ m1 < 18446744073709551616) :
    Calls Try.prog 10 #[.int .i64 n, .slice la l.length lc, .agg #[.int .u64 m0, .int .u64 m1]] x.w fun o w' => o = .returned (.bool true) ∧ ∃ y : Since w, w' = y.w := by
  have HL := Lib.hid hl
  clear hl
  by_cases hbad : 40 < l.length ∨ n < 1 ∨ 12 < n
  · rcases (by omega : (40 < l.length) ∨ (l.length ≤ 40 ∧ n < 1) ∨ (l.length ≤ 40 ∧ 1 ≤ n ∧ 12 < n)) with h | ⟨h, h'⟩ | ⟨h, h', h''⟩
    all_goals
      clear hbad
      go_enter Try.func10, Try.ntmps10
      go_upto_region 1 with fail
      have hb0_0 : ∀ y : Since (x.w.alloc (.cells #[.int .u64 m0, .int .u64 m1] 63)), y.w.cell? ⟨x.w.heap.size, 0, none⟩ = some (.int .u64 m0) := fun y => Since.cell (by simp [go_sem]) (by first | (simp; done) | (simp; omega)) y
      have hb0_1 : ∀ y : Since (x.w.alloc (.cells #[.int .u64 m0, .int .u64 m1] 63)), y.w.cell? ⟨x.w.heap.size, 1, none⟩ = some (.int .u64 m1) := fun y => Since.cell (by simp [go_sem]) (by first | (simp; done) | (simp; omega)) y
      have hf0 : ∀ (y : Since (x.w.alloc (.cells #[.int .u64 m0, .int .u64 m1] 63))) (o : Nat), y.w.frozen? ⟨x.w.heap.size, o, none⟩ = false := fun y o => Since.free (by simp [go_sem]) (by first | (simp; done) | (simp; omega)) y
      have hWup : ∃ z : Since w, (x.w.alloc (.cells #[.int .u64 m0, .int .u64 m1] 63)) = z.w := x.alloc _
      obtain ⟨y0, hy0⟩ := Since.refl (x.w.alloc (.cells #[.int .u64 m0, .int .u64 m1] 63))
      have Hbx := Lib.hid (And.intro x.b.size (show x.w.heap.size + 1 = (x.w.alloc (.cells #[.int .u64 m0, .int .u64 m1] 63)).heap.size from by simp))
      generalize hW : (x.w.alloc (.cells #[.int .u64 m0, .int .u64 m1] 63)) = W at *
      clear hW
      generalize x.w.heap.size = bx at *
      have Hup := Lib.hid (Since.up hWup)
      rw [hy0]
      clear hy0
      clear hWup
      go_wp2_with (go_at_call 12; refine (awake_s W _).mono ?_; rintro _ _ ⟨rfl, y1, rfl, -⟩)
      go_ret
      exact ⟨rfl, Hup.out _⟩
  have hl40 : l.length ≤ 40 := by omega
  have hn1 : 1 ≤ n := by omega
  have hn12 : n ≤ 12 := by omega
  obtain ⟨N, rfl⟩ : ∃ N : Nat, n = N := ⟨n.toNat, by omega⟩
  have HI := Lib.hid (inv_addAll (N := N) l [] (inv_nil N))
  have Hsub := Lib.hid (fun A B => since_mem (S := addAll N [] l) (A := A) (B := B) HI.out)
  have hwc := fun (w : World) (x : Since w) (h : EvRow w la l) => world_calls w x N la l lc h (by omega)
  unfold WorldPost at hwc
  have Hwc := Lib.hid hwc
  generalize addAll N [] l = S at *
  clear hbad hll hwc
  have hS5 := HI.out.len
  go_enter Try.func10, Try.ntmps10
  go_upto_region 1 with fail
  have hb0_0 : ∀ y : Since (x.w.alloc (.cells #[.int .u64 m0, .int .u64 m1] 63)), y.w.cell? ⟨x.w.heap.size, 0, none⟩ = some (.int .u64 m0) := fun y => Since.cell (by simp [go_sem]) (by first | (simp; done) | (simp; omega)) y
  have hb0_1 : ∀ y : Since (x.w.alloc (.cells #[.int .u64 m0, .int .u64 m1] 63)), y.w.cell? ⟨x.w.heap.size, 1, none⟩ = some (.int .u64 m1) := fun y => Since.cell (by simp [go_sem]) (by first | (simp; done) | (simp; omega)) y
  have hf0 : ∀ (y : Since (x.w.alloc (.cells #[.int .u64 m0, .int .u64 m1] 63))) (o : Nat), y.w.frozen? ⟨x.w.heap.size, o, none⟩ = false := fun y o => Since.free (by simp [go_sem]) (by first | (simp; done) | (simp; omega)) y
  have hWup : ∃ z : Since w, (x.w.alloc (.cells #[.int .u64 m0, .int .u64 m1] 63)) = z.w := x.alloc _
  obtain ⟨y0, hy0⟩ := Since.refl (x.w.alloc (.cells #[.int .u64 m0, .int .u64 m1] 63))
  have Hbx := Lib.hid (And.intro x.b.size (show x.w.heap.size + 1 = (x.w.alloc (.cells #[.int .u64 m0, .int .u64 m1] 63)).heap.size from by simp))
  generalize hW : (x.w.alloc (.cells #[.int .u64 m0, .int .u64 m1] 63)) = W at *
  clear hW
  generalize x.w.heap.size = bx at *
  have Hup := Lib.hid (Since.up hWup)
  rw [hy0]
  clear hy0
  replace HL := Lib.hid (HL.out.to hWup)
  clear hWup
  go_upto_region 4 with (go_at_call 18; refine (Hwc.out W _ HL.out).mono ?_; rintro _ _ ⟨wa, wc, yv, rfl, rfl, hrow, hwcap⟩; have HS := Lib.hid hrow; clear hrow)
  clear Hwc
  have Hup2 := Lib.hid (fun z : Since yv.w => show ∃ y : Since w, z.w = y.w by obtain ⟨a, e⟩ := yv.trans z; rw [e]; exact Hup.out a)
  replace hb0_0 : ∀ (y : Since yv.w), y.w.cell? ⟨bx, 0, none⟩ = some (.int .u64 m0) := fun y => by obtain ⟨z, e⟩ := yv.trans y; rw [e]; exact hb0_0 z
  replace hb0_1 : ∀ (y : Since yv.w), y.w.cell? ⟨bx, 1, none⟩ = some (.int .u64 m1) := fun y => by obtain ⟨z, e⟩ := yv.trans y; rw [e]; exact hb0_1 z
  replace hf0 : ∀ (y : Since yv.w) (o : Nat), y.w.frozen? ⟨bx, o, none⟩ = false := fun y o => by obtain ⟨z, e⟩ := yv.trans y; rw [e]; exact hf0 z o
  have k0 : ∀ w', IsSince yv.w w' → w'.cell? ⟨bx, 0, none⟩ = some (.int .u64 m0) := fun _ h => IsSince.cell hb0_0 h
  have k1 : ∀ w', IsSince yv.w w' → w'.cell? ⟨bx, 1, none⟩ = some (.int .u64 m1) := fun _ h => IsSince.cell hb0_1 h
  have hsome := some_held N wa S wc HS.out HI.out hn1 (by omega)
  clear hb0_0 hb0_1 hf0
  go_region_held3 (fun w' => IsSince yv.w w') (first | assumption | exact IsSince.drew' (IsSince.self _) | exact IsSince.of _) (first | (go_at_call 30; ((with_reducible refine (hsome _ (by assumption) m0 false hm0.1 hm0.2).mono ?_); rintro _ _ ⟨p, bm, A, y1, rfl, rfl, hz1, hb, hR, hA, hmem1⟩)) | (go_at_call 30; ((with_reducible refine (hsome _ (by assumption) m1 true hm1.1 hm1.2).mono ?_); rintro _ _ ⟨p2, bm2, B, y2, rfl, rfl, hz2, hb2, hR2, hB, hmem2⟩)))
  have Hb := Lib.hid (show yv.w.heap.size ≤ bm2 by have := y1.b.size; omega)
  have Hne := Lib.hid (show bm ≠ bm2 by have := hR.lt.2; omega)
  have HR := Lib.hid (hR.to hz2); have HR2 := Lib.hid hR2
  have HA := Lib.hid hA; have HB := Lib.hid hB
  have HIA := Lib.hid (sub_inv HI.out hA); have HIB := Lib.hid (sub_inv HI.out hB)
  have hs5 : (seenL N B).length = N := seenL_length N B
  have Hs5 := Lib.hid hs5
  have Hsm := Lib.hid (Hsub.out A B hA hB)
  have hmg := sub_all HI.out (sortE A) B hB (fun x hx => hA.sub x ((sortE_mem A x).1 hx))
  have Hmg := Lib.hid hmg
  clear hz1 hz2 hb hb2 hR hR2 hA hB hmem1 hmem2 k0 k1 hsome hs5 hmg
  have hnl : (sinceL A (seenL N B)).length ≤ 512 := by
    have h1 := HIA.out.len
    unfold sinceL; rw [sortE_length]; have := List.length_filter_le (newB (seenL N B)) A; omega
  have Hsc := Lib.hid (fun (y : Since yv.w) sa sc h h' => sincep_s yv.w y p bm N A sa (seenL N B) sc h HIA.out h' (by rw [Hs5.out]; omega))
  have Hns := Lib.hid (show ∀ e ∈ sinceL A (seenL N B), e ∈ S from fun e he => by
    unfold sinceL at he; rw [sortE_mem, List.mem_filter] at he; exact HA.out.sub e he.1)
  generalize sinceL A (seenL N B) = nw at *
  go_wp2_with fail
  refine (copy_s yv.w _ p2 bm2 N B HR2.out).mono ?_
  rintro _ _ ⟨p3, bm3, y3, rfl, rfl, hz, hb, hR⟩
  have Hne3 := Lib.hid (show bm3 ≠ bm2 by have := HR2.out.lt.2; omega)
  have Hb3 := Lib.hid (Nat.le_trans y2.b.size hb)
  replace HR := Lib.hid (HR.out.to hz); replace HR2 := Lib.hid (HR2.out.to hz); have HR3 := Lib.hid hR
  clear hz hb hR
  go_upto_region 9 with (first
    | (go_at_call 23; refine (seen_s yv.w _ p2 bm2 N B HR2.out HIB.out (by omega)).mono ?_; rintro _ _ ⟨ia, ic, y4, rfl, rfl, hz, hrow⟩; have Hi := Lib.hid hrow; replace HR := Lib.hid (HR.out.to hz); replace HR2 := Lib.hid (HR2.out.to hz); replace HR3 := Lib.hid (HR3.out.to hz); clear hz hrow)
    | (go_at_call 32; refine (Hsc.out _ ia ic HR.out Hi.out).mono ?_; rintro _ _ ⟨ea, ec, y5, rfl, rfl, hz, hrow⟩; have Hx := Lib.hid hrow; replace HR := Lib.hid (HR.out.to hz); replace HR2 := Lib.hid (HR2.out.to hz); replace HR3 := Lib.hid (HR3.out.to hz); clear hz hrow))
  clear Hi Hsc
  go_wp2_with fail
  go_loopw [12] (fun i wr => ∃ (k : Nat) (L : List Ev) (y : Since yv.w), k ≤ nw.length ∧ i = .int .i64 k ∧ wr = y.w ∧ RepAt y.w p bm N A ∧ RepAt y.w p2 bm2 N L ∧ RepAt y.w p3 bm3 N B ∧ EvRow y.w ea nw ∧ Sub S L ∧ ∀ e, e ∈ L ↔ e ∈ B ∨ e ∈ nw.take k) (fun i _ => nw.length - (intOf i).toNat)
  case atStart => exact ⟨0, B, _, by omega, rfl, rfl, HR.out, HR2.out, HR3.out, Hx.out, HB.out, fun e => by simp⟩
  case round =>
    clear HR HR2 HR3 Hx
    obtain ⟨k, L, y, hk, rfl, rfl, hR, hR2, hR3, hx, hsub, hmem⟩ := hrel
    have HR := Lib.hid hR; have HR2 := Lib.hid hR2; have HR3 := Lib.hid hR3; have Hx := Lib.hid hx; have HL2 := Lib.hid hsub; have Hmem := Lib.hid hmem
    clear hR hR2 hR3 hx hsub hmem
    by_cases hlt : k < nw.length
    · obtain ⟨e1, he⟩ : ∃ e, nw[k]? = some e := ⟨_, List.getElem?_eq_getElem hlt⟩
      obtain ⟨b1, off1, rfl, h1'⟩ := Els.ev Hx.out he
      obtain ⟨y0, hy0⟩ := Since.refl y.w
      have pa0 := h1'.c0
      have pa1 := h1'.c1
      have pa2 := h1'.c2
      have pa3 := h1'.c3
      have pa4 := h1'.c4
      have pa5 := h1'.c5
      have pa6 := h1'.c6
      have pa7 := h1'.c7
      have pa8 := h1'.c8
      have He := Lib.hid he
      have HeS := Lib.hid (Hns.out e1 (List.mem_of_getElem? he))
      have hk0 : (0 : Int) ≤ (k : Int) := by omega
      have hkl : (k : Int) < (nw.length : Int) := by omega
      clear h1' he
      have hq : ∀ u : Since y.w, ∃ z : Since yv.w, u.w = z.w := fun u => y.trans u
      have Hcall := Lib.hid (add_in yv.w y p2 bm2 N S L e1 Hb.out HR2.out HI.out HL2.out HeS.out)
      rw [hy0]
      rw [hy0] at Hcall
      clear hq
      have Hy0 := Lib.hid hy0
      clear hy0
      go_wp2_with (go_at_call 16; refine Hcall.out.mono ?_; rintro _ _ ⟨bb, y6, L', rfl, rfl, hR, hg, hsub, hm⟩; rw [← Hy0.out] at hg; replace HR := Lib.hid (HR.out.keep HR2.out.m Hne.out hg); replace HR3 := Lib.hid (HR3.out.keep HR2.out.m Hne3.out hg); replace Hx := Lib.hid (Els.kept Hx.out HR2.out hg); replace HR2 := Lib.hid hR; replace HL2 := Lib.hid hsub; have Hm := Lib.hid hm; clear hR hg hsub hm)
      go_roundw
      case rel => exact ⟨k + 1, L', _, by omega, by go_num, rfl, HR.out, HR2.out, HR3.out, Hx.out, HL2.out, fun e => by rw [Hm.out, Hmem.out, take_next He.out]; simp [or_assoc]⟩
      case measure => simp [intOf] <;> omega
    · obtain rfl : k = nw.length := by omega
      have hmem : ∀ e, e ∈ L ↔ e ∈ B ∨ e ∈ A := fun e => by rw [Hmem.out, List.take_length]; exact Hsm.out e
      have hperm : L.Perm (addAll N B (sortE A)) := sub_perm HL2.out Hmg.out.2.1 (fun e => by rw [hmem, Hmg.out.2.2, sortE_mem])
      have HIL := Lib.hid (sub_inv HI.out HL2.out)
      have HIM := Lib.hid (sub_inv HI.out Hmg.out.2.1)
      have hse : sortE L = sortE (addAll N B (sortE A)) := sortE_congr hperm
      have hsn : seenL N L = seenL N (addAll N B (sortE A)) := seenL_perm hperm N
      have he1 := fun (y : Since yv.w) h => events_s yv.w y p2 bm2 N L h HIL.out
      have he2 := fun (y : Since yv.w) h => seen_s yv.w y p2 bm2 N L h HIL.out (by omega)
      rw [hse] at he1
      rw [hsn] at he2
      have hmc := fun (y : Since yv.w) h h' => merge_s yv.w y p3 bm3 p bm N B A Hb3.out h h' HIA.out
      rw [Hmg.out.1] at hmc
      generalize addAll N B (sortE A) = M at *
      have He1 := Lib.hid he1; have He2 := Lib.hid he2; have Hmc := Lib.hid hmc
      have hl5 : (sortE M).length ≤ 512 := by rw [sortE_length]; exact HIM.out.len
      have hl6 : (seenL N M).length ≤ 256 := by rw [seenL_length]; omega
      clear hmem hperm hse hsn he1 he2 hmc
      go_wp2_with (first
        | (go_at_call 28; ((with_reducible refine (Hmc.out _ HR3.out HR.out).mono ?_); rintro _ _ ⟨rfl, y6, rfl, hR, hg⟩; replace HR2 := Lib.hid (HR2.out.keep HR3.out.m Hne3.out.symm hg); replace HR3 := Lib.hid hR; clear hR hg))
        | (go_at_call 19; ((with_reducible refine (He1.out _ HR2.out).mono ?_); rintro _ _ ⟨ga, gc, y7, rfl, rfl, hz, hrow⟩; have Hg1 := Lib.hid hrow; replace HR2 := Lib.hid (HR2.out.to hz); replace HR3 := Lib.hid (HR3.out.to hz); clear hz hrow))
        | (go_at_call 19; ((with_reducible refine (events_s yv.w _ p3 bm3 N M HR3.out HIM.out).mono ?_); rintro _ _ ⟨gb, gd, y8, rfl, rfl, hz, hrow⟩; have Hg2 := Lib.hid hrow; replace Hg1 := Lib.hid (Hg1.out.to hz); replace HR2 := Lib.hid (HR2.out.to hz); replace HR3 := Lib.hid (HR3.out.to hz); clear hz hrow))
        | (go_at_call 21; ((with_reducible refine (evcmp_s yv.w _ ga gb (sortE M) (sortE M) gc gd true (by omega) (by omega) Hg1.out Hg2.out (decide_eq_true rfl)).mono ?_); rintro _ _ ⟨rfl, y9, rfl, hz⟩; replace HR2 := Lib.hid (HR2.out.to hz); replace HR3 := Lib.hid (HR3.out.to hz); clear hz))
        | (go_at_call 23; ((with_reducible refine (He2.out _ HR2.out).mono ?_); rintro _ _ ⟨ja, jc, y7, rfl, rfl, hz, hrow⟩; have Hj1 := Lib.hid hrow; replace HR3 := Lib.hid (HR3.out.to hz); clear hz hrow))
        | (go_at_call 23; ((with_reducible refine (seen_s yv.w _ p3 bm3 N M HR3.out HIM.out (by omega)).mono ?_); rintro _ _ ⟨jb, jd, y8, rfl, rfl, hz, hrow⟩; have Hj2 := Lib.hid hrow; replace Hj1 := Lib.hid (Hj1.out.to hz); clear hz hrow))
        | (go_at_call 22; ((with_reducible refine (icmp_s yv.w _ ja jb (seenL N M) (seenL N M) jc jd true (by omega) (by omega) Hj1.out Hj2.out (decide_eq_true rfl)).mono ?_); rintro _ _ ⟨rfl, y9, rfl, hz⟩; clear hz))
        | (go_at_call 12; refine (awake_s yv.w _).mono ?_; rintro _ _ ⟨rfl, y12, rfl, -⟩))
      go_ret
      exact ⟨rfl, Hup2.out _⟩
end Go.Proofs.Ytcpfogbjbinjcaa
