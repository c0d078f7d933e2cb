/- The walks of passes, second part: the check of passes. -/
import Derived.Test.YtbkfcdheckkjaaaPsW1
set_option linter.all false
namespace Go.Proofs.Ytbkfcdheckkjaaa
open Go.RowKit Go.ChangeMaps

theorem good_split (e : Pass) : goodP e = (inB e.id 1 1000000 && (inB e.rd 0 127 && (inB e.n 1 256 && (inB e.s 0 86400 && (decide (0 ≤ e.f) && (decide (e.f < e.t) && decide (e.t ≤ 49710))))))) := by
  unfold goodP inB
  simp only [Bool.and_assoc]
def eint (x : Int) : Value := .int .i64 x
theorem keyInt : KeyOps Try.prog 3 eint true where
  chk em w x := by unfold eint; kernel_rfl
  eq w x y := by
    unfold eint
    show (Op.equalIn (9999 + 1) _ _ _).run _ _ = _
    rw [run_equalIn_int w 9999 _ .i64 .i64 x y Try.underlying3]
    congr 1
  und := ⟨_, Try.underlying3, fun x y => by
    unfold eint
    simp only [Instr.sameNow, if_true]
    congr 1⟩
  bits x := by
    unfold eint
    rw [show (10000 : Nat) = 9999 + 1 from rfl]
    simp [Instr.sameBits]
theorem zeroBool (w : World) : (zeroValue 4).run Try.prog w = .ok (.bool false) w := by kernel_rfl
/-- numbers that came, in a map to true -/
def idE (l : List Int) : List (Int × Value) := l.map fun i => (i, .bool true)
theorem idE_lk : ∀ (x : Int) (l : List Int) (i : Nat), (x ∈ l → ∃ j, lkF x (idE l) i = some (j, .bool true)) ∧ (x ∉ l → lkF x (idE l) i = none)
  | x, [], i => ⟨fun h => (by cases h), fun _ => rfl⟩
  | x, y :: l, i => by
    obtain ⟨h1, h2⟩ := idE_lk x l (i + 1)
    by_cases h : x = y
    · subst h
      exact ⟨fun _ => ⟨i, by show lkF x ((x, Value.bool true) :: idE l) i = _; unfold lkF; rw [if_pos rfl]⟩, fun hn => (hn (by simp)).elim⟩
    · have e : lkF x (idE (y :: l)) i = lkF x (idE l) (i + 1) := by show lkF x ((y, Value.bool true) :: idE l) i = _; rw [lkF, if_neg h]
      rw [e]
      exact ⟨fun hm => h1 (by simpa [h] using hm), fun hn => h2 (fun hm => hn (by simp [hm]))⟩
theorem idE_in {x : Int} {l : List Int} (h : x ∈ l) : lkV x (idE l) (.bool false) = .bool true := by
  obtain ⟨j, hj⟩ := (idE_lk x l 0).1 h
  unfold lkV; rw [hj]
theorem idE_out {x : Int} {l : List Int} (h : x ∉ l) : lkV x (idE l) (.bool false) = .bool false := by
  unfold lkV; rw [(idE_lk x l 0).2 h]
theorem idE_next {l : List Int} {k : Nat} {x : Int} (h : l[k]? = some x) : idE (l.take (k + 1)) = idE (l.take k) ++ [(x, .bool true)] := by
  unfold idE
  rw [List.take_succ_eq_append_getElem (List.getElem?_eq_some_iff.1 h).1, (List.getElem?_eq_some_iff.1 h).2, List.map_append]; rfl
theorem MapAt.to' {κ : Type} {ek : κ → Value} {w W : World} {b : Nat} {l : List (κ × Value)} (h : MapAt ek w b l) (hW : ∃ z : Since w, W = z.w) : MapAt ek W b l := by
  obtain ⟨z, rfl⟩ := hW; exact Since.heap h z
theorem MapAt.lt' {κ : Type} {ek : κ → Value} {w : World} {b : Nat} {l : List (κ × Value)} (h : MapAt ek w b l) : b < w.heap.size := (Array.getElem?_eq_some_iff.1 h).1
theorem map_at {α β : Type} {f : α → β} {l : List α} {k : Nat} {e : α} (h : l[k]? = some e) : (l.map f)[k]? = some (f e) := by rw [List.getElem?_map, h]; rfl
set_option maxRecDepth 100000 in
set_option maxHeartbeats 8000000 in
theorem pcheck_calls (w : World) (x : Since w) (a : Option Addr) (l : List Pass) (c : Nat) (h : PassRow w a l) (hl : l.length ≤ 9223372036854775807) :
    Calls Try.prog 10 #[.slice a l.length c] x.w fun o w' => o = .returned (.int .i64 (passE l)) ∧ ∃ y : Since w, w' = y.w := by
  have HL := Lib.hid h
  clear h
  by_cases hbig : 64 < l.length
  · have Hr := Lib.hid (show passE l = 8 by unfold passE; rw [if_pos hbig])
    go_enter Try.func10, Try.ntmps10
    go_wp2_with fail
    go_ret
    exact ⟨ret_int Hr.out.symm, _, rfl⟩
  have hl64 : l.length ≤ 64 := by omega
  have Hbad := Lib.hid (fun (e : Pass) {k : Nat} (he : l[k]? = some e) (hg : goodP e = false) => show passE l = 1 by unfold passE; rw [if_neg hbig, if_pos (all_no he hg)])
  have Hgood := Lib.hid (fun (hg : l.all goodP = true) => show passE l = if dupB (l.map fun p : Pass => p.id) = true then 6 else 0 by unfold passE; rw [if_neg hbig, if_neg (by rw [hg]; simp)])
  clear hbig hl
  go_enter Try.func10, Try.ntmps10
  go_wp2_with fail
  go_loopw [13] (fun i wr => ∃ (k : Nat) (y : Since w), k ≤ l.length ∧ i = .int .i64 k ∧ wr = y.w ∧ ∀ j, j < k → ∀ e, l[j]? = some e → goodP e = true) (fun i _ => l.length - (intOf i).toNat)
  case atStart => exact ⟨0, _, by omega, rfl, rfl, fun j hj => by omega⟩
  case round =>
    obtain ⟨k, y, hk, rfl, rfl, hok⟩ := hrel
    have Hok := Lib.hid hok; clear hok
    by_cases hlt : k < l.length
    · obtain ⟨e, he⟩ : ∃ e, l[k]? = some e := ⟨_, List.getElem?_eq_getElem hlt⟩
      obtain ⟨b1, off1, rfl, h1'⟩ := Els.pass HL.out he
      have pa0 := h1'.c0
      have pa1 := h1'.c1
      have pa2 := h1'.c2
      have pa3 := h1'.c3
      have pa4 := h1'.c4
      have pa5 := h1'.c5
      have hk0 : (0 : Int) ≤ (k : Int) := by omega
      have hkl : (k : Int) < (l.length : Int) := by omega
      have He' := Lib.hid he; clear h1' he
      have HG := Lib.hid (good_split e)
      go_upto_region 6 with fail
      have hx0 : (y.w.alloc (.cells #[.int .i64 e.id, .int .i64 e.rd, .int .i64 e.f, .int .i64 e.t, .int .i64 e.n, .int .i64 e.s] 49)).cell? ⟨y.w.heap.size, 0, none⟩ = some (.int .i64 e.id) := by simp [go_sem]
      have hx1 : (y.w.alloc (.cells #[.int .i64 e.id, .int .i64 e.rd, .int .i64 e.f, .int .i64 e.t, .int .i64 e.n, .int .i64 e.s] 49)).cell? ⟨y.w.heap.size, 1, none⟩ = some (.int .i64 e.rd) := by simp [go_sem]
      have hx2 : (y.w.alloc (.cells #[.int .i64 e.id, .int .i64 e.rd, .int .i64 e.f, .int .i64 e.t, .int .i64 e.n, .int .i64 e.s] 49)).cell? ⟨y.w.heap.size, 2, none⟩ = some (.int .i64 e.f) := by simp [go_sem]
      have hx3 : (y.w.alloc (.cells #[.int .i64 e.id, .int .i64 e.rd, .int .i64 e.f, .int .i64 e.t, .int .i64 e.n, .int .i64 e.s] 49)).cell? ⟨y.w.heap.size, 3, none⟩ = some (.int .i64 e.t) := by simp [go_sem]
      have hx4 : (y.w.alloc (.cells #[.int .i64 e.id, .int .i64 e.rd, .int .i64 e.f, .int .i64 e.t, .int .i64 e.n, .int .i64 e.s] 49)).cell? ⟨y.w.heap.size, 4, none⟩ = some (.int .i64 e.n) := by simp [go_sem]
      have hx5 : (y.w.alloc (.cells #[.int .i64 e.id, .int .i64 e.rd, .int .i64 e.f, .int .i64 e.t, .int .i64 e.n, .int .i64 e.s] 49)).cell? ⟨y.w.heap.size, 5, none⟩ = some (.int .i64 e.s) := by simp [go_sem]
      have hxf : ∀ o, (y.w.alloc (.cells #[.int .i64 e.id, .int .i64 e.rd, .int .i64 e.f, .int .i64 e.t, .int .i64 e.n, .int .i64 e.s] 49)).frozen? ⟨y.w.heap.size, o, none⟩ = false := fun o => by simp [go_sem]
      have hlt0 : y.w.heap.size < (y.w.alloc (.cells #[.int .i64 e.id, .int .i64 e.rd, .int .i64 e.f, .int .i64 e.t, .int .i64 e.n, .int .i64 e.s] 49)).heap.size := by simp
      have hst0 : ∃ zz : Since y.w, (y.w.alloc (.cells #[.int .i64 e.id, .int .i64 e.rd, .int .i64 e.f, .int .i64 e.t, .int .i64 e.n, .int .i64 e.s] 49)) = zz.w := IsSince.alloc (IsSince.self _) _
      have hsz0 := y.b.size
      obtain ⟨y2, e2⟩ := IsSince.alloc (IsSince.of y) (.cells #[.int .i64 e.id, .int .i64 e.rd, .int .i64 e.f, .int .i64 e.t, .int .i64 e.n, .int .i64 e.s] 49)
      rw [e2] at hx0 hx1 hx2 hx3 hx4 hx5 hxf hlt0 hst0 ⊢
      skip
      clear e2 hst0
      generalize y.w.heap.size = g at *
      have Hhx0 : ∀ q : Since y2.w, q.w.cell? ⟨g, 0, none⟩ = some (.int .i64 e.id) := fun q => Since.cell hx0 (by omega) q
      have Hhx1 : ∀ q : Since y2.w, q.w.cell? ⟨g, 1, none⟩ = some (.int .i64 e.rd) := fun q => Since.cell hx1 (by omega) q
      have Hhx2 : ∀ q : Since y2.w, q.w.cell? ⟨g, 2, none⟩ = some (.int .i64 e.f) := fun q => Since.cell hx2 (by omega) q
      have Hhx3 : ∀ q : Since y2.w, q.w.cell? ⟨g, 3, none⟩ = some (.int .i64 e.t) := fun q => Since.cell hx3 (by omega) q
      have Hhx4 : ∀ q : Since y2.w, q.w.cell? ⟨g, 4, none⟩ = some (.int .i64 e.n) := fun q => Since.cell hx4 (by omega) q
      have Hhx5 : ∀ q : Since y2.w, q.w.cell? ⟨g, 5, none⟩ = some (.int .i64 e.s) := fun q => Since.cell hx5 (by omega) q
      have Hhxf : ∀ (q : Since y2.w) (o : Nat), q.w.frozen? ⟨g, o, none⟩ = false := fun q o => Since.free (hxf o) (by omega) q
      have Hhxg := Lib.hid (And.intro hsz0 hlt0)
      clear hlt0 hsz0
      obtain ⟨q0, hq0⟩ := Since.refl y2.w
      rw [hq0]
      clear hq0
      cases h0 : inB e.id 1 1000000 with
      | false =>
        have Hr := Lib.hid (Hbad.out e He'.out (by rw [HG.out, h0]; simp))
        have H0 := Lib.hid h0; clear h0
        go_wp2_with (go_at_call 25; ((with_reducible refine (in_calls y2.w _ e.id 1 1000000).mono ?_); rintro _ _ ⟨rfl, z1, rfl⟩; rw [H0.out]))
        go_ret
        exact ⟨ret_int Hr.out.symm, by obtain ⟨q, e⟩ := y2.trans z1; rw [e]; exact ⟨q, rfl⟩⟩
      | true =>
        rw [h0, Bool.true_and] at HG
        have H0 := Lib.hid h0; clear h0
        cases h1 : inB e.rd 0 127 with
        | false =>
          have Hr := Lib.hid (Hbad.out e He'.out (by rw [HG.out, h1]; simp))
          have H1 := Lib.hid h1; clear h1
          go_wp2_with (first | (go_at_call 25; ((with_reducible refine (in_calls y2.w _ e.id 1 1000000).mono ?_); rintro _ _ ⟨rfl, z1, rfl⟩; rw [H0.out])) | (go_at_call 25; ((with_reducible refine (in_calls y2.w _ e.rd 0 127).mono ?_); rintro _ _ ⟨rfl, z1, rfl⟩; rw [H1.out])))
          go_ret
          exact ⟨ret_int Hr.out.symm, by obtain ⟨q, e⟩ := y2.trans z1; rw [e]; exact ⟨q, rfl⟩⟩
        | true =>
          rw [h1, Bool.true_and] at HG
          have H1 := Lib.hid h1; clear h1
          cases h2 : inB e.n 1 256 with
          | false =>
            have Hr := Lib.hid (Hbad.out e He'.out (by rw [HG.out, h2]; simp))
            have H2 := Lib.hid h2; clear h2
            go_wp2_with (first | (go_at_call 25; ((with_reducible refine (in_calls y2.w _ e.id 1 1000000).mono ?_); rintro _ _ ⟨rfl, z1, rfl⟩; rw [H0.out])) | (go_at_call 25; ((with_reducible refine (in_calls y2.w _ e.rd 0 127).mono ?_); rintro _ _ ⟨rfl, z1, rfl⟩; rw [H1.out])) | (go_at_call 25; ((with_reducible refine (in_calls y2.w _ e.n 1 256).mono ?_); rintro _ _ ⟨rfl, z1, rfl⟩; rw [H2.out])))
            go_ret
            exact ⟨ret_int Hr.out.symm, by obtain ⟨q, e⟩ := y2.trans z1; rw [e]; exact ⟨q, rfl⟩⟩
          | true =>
            rw [h2, Bool.true_and] at HG
            have H2 := Lib.hid h2; clear h2
            cases h3 : inB e.s 0 86400 with
            | false =>
              have Hr := Lib.hid (Hbad.out e He'.out (by rw [HG.out, h3]; simp))
              have H3 := Lib.hid h3; clear h3
              go_wp2_with (first | (go_at_call 25; ((with_reducible refine (in_calls y2.w _ e.id 1 1000000).mono ?_); rintro _ _ ⟨rfl, z1, rfl⟩; rw [H0.out])) | (go_at_call 25; ((with_reducible refine (in_calls y2.w _ e.rd 0 127).mono ?_); rintro _ _ ⟨rfl, z1, rfl⟩; rw [H1.out])) | (go_at_call 25; ((with_reducible refine (in_calls y2.w _ e.n 1 256).mono ?_); rintro _ _ ⟨rfl, z1, rfl⟩; rw [H2.out])) | (go_at_call 25; ((with_reducible refine (in_calls y2.w _ e.s 0 86400).mono ?_); rintro _ _ ⟨rfl, z1, rfl⟩; rw [H3.out])))
              go_ret
              exact ⟨ret_int Hr.out.symm, by obtain ⟨q, e⟩ := y2.trans z1; rw [e]; exact ⟨q, rfl⟩⟩
            | true =>
              rw [h3, Bool.true_and] at HG
              have H3 := Lib.hid h3; clear h3
              go_upto_region 8 with (first | (go_at_call 25; ((with_reducible refine (in_calls y2.w _ e.id 1 1000000).mono ?_); rintro _ _ ⟨rfl, z1, rfl⟩; rw [H0.out])) | (go_at_call 25; ((with_reducible refine (in_calls y2.w _ e.rd 0 127).mono ?_); rintro _ _ ⟨rfl, z1, rfl⟩; rw [H1.out])) | (go_at_call 25; ((with_reducible refine (in_calls y2.w _ e.n 1 256).mono ?_); rintro _ _ ⟨rfl, z1, rfl⟩; rw [H2.out])) | (go_at_call 25; ((with_reducible refine (in_calls y2.w _ e.s 0 86400).mono ?_); rintro _ _ ⟨rfl, z1, rfl⟩; rw [H3.out])))
              clear H0 H1 H2 H3
              rcases (by omega : e.f < 0 ∨ (0 ≤ e.f ∧ e.t ≤ e.f) ∨ (0 ≤ e.f ∧ e.f < e.t ∧ 49710 < e.t) ∨ (0 ≤ e.f ∧ e.f < e.t ∧ e.t ≤ 49710)) with d1 | ⟨d1, d2⟩ | ⟨d1, d2, d3⟩ | ⟨d1, d2, d3⟩
              case inr.inr.inr =>
                have Hg := Lib.hid (show goodP e = true by rw [HG.out]; simp; omega)
                go_wp2_with fail
                obtain ⟨q, eq⟩ := y2.trans z1
                rw [eq]
                go_roundw
                case rel => exact ⟨k + 1, q, by omega, by go_num, rfl, upto_next Hok.out He'.out Hg.out⟩
                case measure => simp [intOf] <;> omega
              all_goals
                have Hr := Lib.hid (Hbad.out e He'.out (by rw [HG.out]; simp; omega))
                go_wp2_with fail
                go_ret
                exact ⟨ret_int Hr.out.symm, by obtain ⟨q, e⟩ := y2.trans z1; rw [e]; exact ⟨q, rfl⟩⟩
    · obtain rfl : k = l.length := by omega
      have HP := Lib.hid (Hgood.out (all_yes Hok.out))
      clear Hok Hgood Hbad
      have hmm := @run_makeMap Try.prog
      go_wp2_with fail
      have hm0 : MapAt eint (y.w.alloc (.map #[] 0)) y.w.heap.size (idE ((l.map fun p : Pass => p.id).take 0)) := by
        show (y.w.heap.push _)[y.w.heap.size]? = _
        simp [idE, entF]
      obtain ⟨y1, hy1⟩ := y.alloc (.map #[] 0)
      rw [hy1] at hm0 ⊢
      have Hm0 := Lib.hid hm0
      have Hgb := Lib.hid y.b.size
      clear hy1 hm0 hmm
      generalize y.w.heap.size = bm at *
      go_loopw [62] (fun i wr => ∃ (k : Nat) (y : Since w), k ≤ l.length ∧ i = .int .i64 k ∧ wr = y.w ∧ MapAt eint y.w bm (idE ((l.map fun p : Pass => p.id).take k)) ∧ ((l.map fun p : Pass => p.id).take k).Nodup) (fun i _ => l.length - (intOf i).toNat)
      case atStart => exact ⟨0, y1, by omega, rfl, rfl, Hm0.out, by simp⟩
      case round =>
        clear Hm0
        obtain ⟨k, y, hk, rfl, rfl, hm, hnd⟩ := hrel
        have Hm := Lib.hid hm; have Hnd := Lib.hid hnd
        clear hm hnd
        by_cases hlt : k < l.length
        · obtain ⟨e, he⟩ : ∃ e, l[k]? = some e := ⟨_, List.getElem?_eq_getElem hlt⟩
          obtain ⟨b1, off1, rfl, h1'⟩ := Els.pass HL.out he
          have pa0 := h1'.c0
          have pa1 := h1'.c1
          have pa2 := h1'.c2
          have pa3 := h1'.c3
          have pa4 := h1'.c4
          have pa5 := h1'.c5
          have hk0 : (0 : Int) ≤ (k : Int) := by omega
          have hkl : (k : Int) < (l.length : Int) := by omega
          have He' := Lib.hid (map_at (f := fun p : Pass => p.id) he)
          have Hnx := Lib.hid (nodup_take_next He'.out)
          clear h1' he
          go_upto_region 15 with fail
          have hx0 : (y.w.alloc (.cells #[.int .i64 e.id, .int .i64 e.rd, .int .i64 e.f, .int .i64 e.t, .int .i64 e.n, .int .i64 e.s] 49)).cell? ⟨y.w.heap.size, 0, none⟩ = some (.int .i64 e.id) := by simp [go_sem]
          have hx1 : (y.w.alloc (.cells #[.int .i64 e.id, .int .i64 e.rd, .int .i64 e.f, .int .i64 e.t, .int .i64 e.n, .int .i64 e.s] 49)).cell? ⟨y.w.heap.size, 1, none⟩ = some (.int .i64 e.rd) := by simp [go_sem]
          have hx2 : (y.w.alloc (.cells #[.int .i64 e.id, .int .i64 e.rd, .int .i64 e.f, .int .i64 e.t, .int .i64 e.n, .int .i64 e.s] 49)).cell? ⟨y.w.heap.size, 2, none⟩ = some (.int .i64 e.f) := by simp [go_sem]
          have hx3 : (y.w.alloc (.cells #[.int .i64 e.id, .int .i64 e.rd, .int .i64 e.f, .int .i64 e.t, .int .i64 e.n, .int .i64 e.s] 49)).cell? ⟨y.w.heap.size, 3, none⟩ = some (.int .i64 e.t) := by simp [go_sem]
          have hx4 : (y.w.alloc (.cells #[.int .i64 e.id, .int .i64 e.rd, .int .i64 e.f, .int .i64 e.t, .int .i64 e.n, .int .i64 e.s] 49)).cell? ⟨y.w.heap.size, 4, none⟩ = some (.int .i64 e.n) := by simp [go_sem]
          have hx5 : (y.w.alloc (.cells #[.int .i64 e.id, .int .i64 e.rd, .int .i64 e.f, .int .i64 e.t, .int .i64 e.n, .int .i64 e.s] 49)).cell? ⟨y.w.heap.size, 5, none⟩ = some (.int .i64 e.s) := by simp [go_sem]
          have hxf : ∀ o, (y.w.alloc (.cells #[.int .i64 e.id, .int .i64 e.rd, .int .i64 e.f, .int .i64 e.t, .int .i64 e.n, .int .i64 e.s] 49)).frozen? ⟨y.w.heap.size, o, none⟩ = false := fun o => by simp [go_sem]
          have hlt0 : y.w.heap.size < (y.w.alloc (.cells #[.int .i64 e.id, .int .i64 e.rd, .int .i64 e.f, .int .i64 e.t, .int .i64 e.n, .int .i64 e.s] 49)).heap.size := by simp
          have hst0 : ∃ zz : Since y.w, (y.w.alloc (.cells #[.int .i64 e.id, .int .i64 e.rd, .int .i64 e.f, .int .i64 e.t, .int .i64 e.n, .int .i64 e.s] 49)) = zz.w := IsSince.alloc (IsSince.self _) _
          have hsz0 := y.b.size
          obtain ⟨y2, e2⟩ := IsSince.alloc (IsSince.of y) (.cells #[.int .i64 e.id, .int .i64 e.rd, .int .i64 e.f, .int .i64 e.t, .int .i64 e.n, .int .i64 e.s] 49)
          rw [e2] at hx0 hx1 hx2 hx3 hx4 hx5 hxf hlt0 hst0 ⊢
          (replace Hm := Lib.hid (Hm.out.to' hst0))
          clear e2 hst0
          generalize y.w.heap.size = g at *
          have Hhx0 : ∀ q : Since y2.w, q.w.cell? ⟨g, 0, none⟩ = some (.int .i64 e.id) := fun q => Since.cell hx0 (by omega) q
          have Hhx1 : ∀ q : Since y2.w, q.w.cell? ⟨g, 1, none⟩ = some (.int .i64 e.rd) := fun q => Since.cell hx1 (by omega) q
          have Hhx2 : ∀ q : Since y2.w, q.w.cell? ⟨g, 2, none⟩ = some (.int .i64 e.f) := fun q => Since.cell hx2 (by omega) q
          have Hhx3 : ∀ q : Since y2.w, q.w.cell? ⟨g, 3, none⟩ = some (.int .i64 e.t) := fun q => Since.cell hx3 (by omega) q
          have Hhx4 : ∀ q : Since y2.w, q.w.cell? ⟨g, 4, none⟩ = some (.int .i64 e.n) := fun q => Since.cell hx4 (by omega) q
          have Hhx5 : ∀ q : Since y2.w, q.w.cell? ⟨g, 5, none⟩ = some (.int .i64 e.s) := fun q => Since.cell hx5 (by omega) q
          have Hhxf : ∀ (q : Since y2.w) (o : Nat), q.w.frozen? ⟨g, o, none⟩ = false := fun q o => Since.free (hxf o) (by omega) q
          have Hhxg := Lib.hid (And.intro hsz0 hlt0)
          clear hlt0 hsz0
          have hlk := run_look keyInt Hm.out Try.underlying58 (zeroBool _) e.id false
          unfold eint at hlk
          simp only [Bool.false_eq_true, if_false] at hlk
          by_cases hin : e.id ∈ (l.map fun p : Pass => p.id).take k
          · rw [idE_in hin] at hlk
            have Hr := Lib.hid (show passE l = 6 by
              rw [HP.out, if_pos (dupB_true fun h => ((Hnx.out.1 (nodup_of_take h)).2 hin))])
            clear hin
            go_wp2_with fail
            go_ret
            exact ⟨ret_int Hr.out.symm, _, rfl⟩
          · rw [idE_out hin] at hlk
            obtain ⟨w2, hst, hw2⟩ := run_store_new keyInt Hm.out Try.underlying58 e.id (.bool true) ((idE_lk e.id _ 0).2 hin)
            unfold eint at hst
            have Hw2 := Lib.hid hw2
            have Hnd2 := Lib.hid (Hnx.out.2 ⟨Hnd.out, hin⟩)
            clear hw2 hin
            go_wp2_with fail
            obtain ⟨y3, hy3⟩ := y2.block (r := bm) (by have := Hgb.out; omega) (.map (entF eint (idE ((l.map fun p : Pass => p.id).take k) ++ [(e.id, Value.bool true)]) 0).toArray (idE ((l.map fun p : Pass => p.id).take k) ++ [(e.id, Value.bool true)]).length)
            have hm3 : MapAt eint y3.w bm (idE ((l.map fun p : Pass => p.id).take (k + 1))) := by
              rw [← hy3, idE_next He'.out]
              exact setBlock_at Hm.out.lt'
            have Hm3 := Lib.hid hm3
            have Hy3 := Lib.hid (Hw2.out.trans hy3)
            clear hm3 hy3
            rw [Hy3.out]
            go_roundw
            case rel => exact ⟨k + 1, y3, by omega, by go_num, rfl, Hm3.out, Hnd2.out⟩
            case measure => simp [intOf] <;> omega
        · obtain rfl : k = l.length := by omega
          have Hr := Lib.hid (show passE l = 0 by
            have h1 := Hnd.out
            rw [List.take_of_length_le (by simp)] at h1
            rw [HP.out, if_neg (by rw [dupB_false h1]; simp)])
          go_wp2_with fail
          go_ret
          exact ⟨ret_int Hr.out.symm, _, rfl⟩
end Go.Proofs.Ytbkfcdheckkjaaa
