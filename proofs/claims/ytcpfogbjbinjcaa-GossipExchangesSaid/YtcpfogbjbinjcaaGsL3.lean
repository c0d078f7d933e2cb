/- The laws of replicas, third part: contracts in one form: worlds later than a first one, and what became of what was there. -/
import Derived.Test.YtcpfogbjbinjcaaGsN
import Derived.Test.YtcpfogbjbinjcaaGsR5
import Derived.Test.YtcpfogbjbinjcaaGsR6
import Derived.Test.YtcpfogbjbinjcaaGsR8
set_option linter.all false
namespace Go.Proofs.Ytcpfogbjbinjcaa
open Go.RowKit Go.ChangeMaps

theorem IsSince.trans {a b c : World} (h : IsSince a b) (k : IsSince b c) : IsSince a c := by
  obtain ⟨y, rfl⟩ := h; obtain ⟨z, rfl⟩ := k; exact y.trans z
/-- a world later than y.w is one later than y's base -/
theorem lift1 {w : World} (y : Since w) {w' : World} (h : ∃ z : Since y.w, w' = z.w) : ∃ y' : Since w, w' = y'.w ∧ IsSince y.w y'.w := by
  obtain ⟨z, rfl⟩ := h
  obtain ⟨y', e⟩ := y.trans z
  exact ⟨y', e, z, e.symm⟩
theorem row_s {w : World} (y : Since w) {p : TypeId} {f : FuncId} {args : Array Value} {l : List Ev} (h : Calls Try.prog f args y.w (EvsPost y.w l)) :
    Calls Try.prog f args y.w fun o w' => ∃ (a : Option Addr) (cap : Nat) (y' : Since w), o = .returned (.slice a l.length cap) ∧ w' = y'.w ∧ IsSince y.w y'.w ∧ EvRow y'.w a l := by
  refine h.mono ?_
  rintro _ w' ⟨a, cap, z, rfl, rfl, _, _, h⟩
  obtain ⟨y', e, hz⟩ := lift1 y ⟨z, rfl⟩
  exact ⟨a, cap, y', rfl, e, hz, e ▸ h⟩
theorem revents_s (w : World) (y : Since w) (a : Option Addr) (l : List Ev) (cap : Nat) (hr : EvRow y.w a l) (hl : l.length ≤ 100000) :
    Calls Try.prog 34 #[.slice a l.length cap] y.w fun o w' => ∃ (a : Option Addr) (cap : Nat) (y' : Since w), o = .returned (.slice a (sortE l).length cap) ∧ w' = y'.w ∧ IsSince y.w y'.w ∧ EvRow y'.w a (sortE l) :=
  row_s y (p := 0) (revents_calls y.w (Since.self y.w) a l cap hr hl)
theorem rsince_s (w : World) (y : Since w) (N : Int) (a : Option Addr) (l : List Ev) (cap : Nat) (sa : Option Addr) (seen : List Int) (sc : Nat) (hr : EvRow y.w a l) (hI : Inv N l) (hs : IntRow y.w sa seen) (hsl : seen.length ≤ 100000) (n0 : Int) :
    Calls Try.prog 37 #[.int .i64 n0, .slice a l.length cap, .slice sa seen.length sc] y.w fun o w' => ∃ (a : Option Addr) (cap : Nat) (y' : Since w), o = .returned (.slice a (sinceL l seen).length cap) ∧ w' = y'.w ∧ IsSince y.w y'.w ∧ EvRow y'.w a (sinceL l seen) :=
  row_s y (p := 0) (rsince_calls y.w (Since.self y.w) N a l cap sa seen sc hr (by have := hI.len; omega) (fun e he => (hI.rng e he).1) hs hsl n0)
theorem sincep_s (w : World) (y : Since w) (p bm : Nat) (n : Int) (l : List Ev) (sa : Option Addr) (seen : List Int) (sc : Nat) (hR : RepAt y.w p bm n l) (hI : Inv n l) (hs : IntRow y.w sa seen) (hsl : seen.length ≤ 100000) :
    Calls Try.prog 32 #[.pointer (some ⟨p, 0, none⟩), .slice sa seen.length sc] y.w fun o w' => ∃ (a : Option Addr) (cap : Nat) (y' : Since w), o = .returned (.slice a (sinceL l seen).length cap) ∧ w' = y'.w ∧ IsSince y.w y'.w ∧ EvRow y'.w a (sinceL l seen) := by
  refine (since_calls y.w (Since.self y.w) p bm n l sa seen sc hR hI hs (by omega)).mono ?_
  rintro _ w' ⟨a, cap, z, rfl, rfl, _, h, _, _⟩
  obtain ⟨y', e, hz⟩ := lift1 y ⟨z, rfl⟩
  exact ⟨a, cap, y', rfl, e, hz, e ▸ h⟩
theorem rseen_s (w : World) (y : Since w) (N : Nat) (a : Option Addr) (l : List Ev) (cap : Nat) (hr : EvRow y.w a l) (hl : l.length ≤ 100000) (hN : N ≤ 256) :
    Calls Try.prog 35 #[.int .i64 N, .slice a l.length cap] y.w fun o w' => ∃ (a : Option Addr) (cap : Nat) (y' : Since w), o = .returned (.slice a (seenL N l).length cap) ∧ w' = y'.w ∧ IsSince y.w y'.w ∧ IntRow y'.w a (seenL N l) := by
  refine (rseen_calls y.w (Since.self y.w) N a l cap hr hl hN).mono ?_
  rintro _ w' ⟨a, cap, z, rfl, rfl, _, h⟩
  obtain ⟨y', e, hz⟩ := lift1 y ⟨z, rfl⟩
  exact ⟨a, cap, y', rfl, e, hz, e ▸ h⟩
theorem rhor_s (w : World) (y : Since w) (N : Nat) (a : Option Addr) (l : List Ev) (cap : Nat) (hr : EvRow y.w a l) (hI : Inv N l) (hN : N ≤ 256) :
    Calls Try.prog 36 #[.int .i64 N, .slice a l.length cap] y.w fun o w' => o = .returned (.int .i64 (hor N l)) ∧ ∃ y' : Since w, w' = y'.w ∧ IsSince y.w y'.w := by
  refine (rhorizon_calls y.w (Since.self y.w) N a l cap hr hI hN).mono ?_
  rintro _ w' ⟨rfl, hz⟩
  exact ⟨rfl, lift1 y hz⟩
/-- two lists of events are compared -/
theorem evcmp_s (w : World) (y : Since w) (a b : Option Addr) (l m : List Ev) (c d : Nat) (q : Bool) (hl : l.length ≤ 100000) (hm : m.length ≤ 100000) (hr : EvRow y.w a l) (hr' : EvRow y.w b m) (hq : decide (l = m) = q) :
    Calls Try.prog 21 #[.slice a l.length c, .slice b m.length d] y.w fun o w' => o = .returned (.bool q) ∧ ∃ y' : Since w, w' = y'.w ∧ IsSince y.w y'.w := by
  refine (esame_calls y.w (Since.self y.w) a b l m c d (by omega) (by omega) hr hr').mono ?_
  rintro _ w' ⟨rfl, hz⟩
  exact ⟨by rw [hq], lift1 y hz⟩
theorem icmp_s (w : World) (y : Since w) (a b : Option Addr) (l m : List Int) (c d : Nat) (q : Bool) (hl : l.length ≤ 100000) (hm : m.length ≤ 100000) (hr : IntRow y.w a l) (hr' : IntRow y.w b m) (hq : decide (l = m) = q) :
    Calls Try.prog 22 #[.slice a l.length c, .slice b m.length d] y.w fun o w' => o = .returned (.bool q) ∧ ∃ y' : Since w, w' = y'.w ∧ IsSince y.w y'.w := by
  refine (same_calls y.w (Since.self y.w) a b l m c d (by omega) (by omega) hr hr').mono ?_
  rintro _ w' ⟨rfl, hz⟩
  exact ⟨by rw [hq], lift1 y hz⟩
/-- adding, the event by its numbers -/
theorem add_u (w : World) (y : Since w) (p bm : Nat) (n : Int) (l : List Ev) (e : Ev) (hb : w.heap.size ≤ bm) (hR : RepAt y.w p bm n l) :
    Calls Try.prog 16 #[.pointer (some ⟨p, 0, none⟩), .agg #[.int .i64 e.d, .int .i64 e.q, .int .i64 e.a, .int .i64 e.t, .int .i64 e.k, .int .i64 e.b, .int .i64 e.p, .int .i64 e.r, .int .i64 e.i]] y.w fun o w' => o = .returned (.tuple #[.bool (freshB n l e), .int .i64 (addE n l e)]) ∧ ∃ y' : Since w, w' = y'.w ∧ RepAt y'.w p bm n (addL n l e) ∧ y.w.grownBy y'.w (some bm) :=
  add_s w y p bm n l e hb hR
theorem radd_s (w : World) (y : Since w) (n : Int) (a : Option Addr) (l : List Ev) (cap : Nat) (e : Ev) (hr : EvRow y.w a l) (hc : l.length ≤ cap) (hn : a = none → cap = 0) (hl : l.length ≤ 100000) :
    Calls Try.prog 15 #[.int .i64 n, .slice a l.length cap, .agg #[.int .i64 e.d, .int .i64 e.q, .int .i64 e.a, .int .i64 e.t, .int .i64 e.k, .int .i64 e.b, .int .i64 e.p, .int .i64 e.r, .int .i64 e.i]] y.w fun o w' => ∃ (a : Option Addr) (cap : Nat) (y' : Since w), o = .returned (.tuple #[.slice a (addL n l e).length cap, .bool (freshB n l e), .int .i64 (addE n l e)]) ∧ w' = y'.w ∧ IsSince y.w y'.w ∧ (addL n l e).length ≤ cap ∧ (a = none → cap = 0) ∧ EvRow y'.w a (addL n l e) := by
  refine (radd_calls y.w (Since.self y.w) n a l cap e hr hc hn (by omega)).mono ?_
  rintro _ w' ⟨a, cap, z, rfl, rfl, h1, h2, h⟩
  obtain ⟨y', e, hz⟩ := lift1 y ⟨z, rfl⟩
  exact ⟨a, cap, y', rfl, e, hz, h1, h2, e ▸ h⟩
theorem new_s (w : World) (y : Since w) (n : Int) (h1 : 1 ≤ n) (h2 : n ≤ 256) :
    Calls Try.prog 13 #[.int .i64 n] y.w fun o w' => ∃ (p bm : Nat) (y' : Since w), o = .returned (.tuple #[.pointer (some ⟨p, 0, none⟩), .int .i64 0]) ∧ w' = y'.w ∧ IsSince y.w y'.w ∧ y.w.heap.size ≤ bm ∧ RepAt y'.w p bm n [] := by
  refine (new_calls y.w (Since.self y.w) n).mono ?_
  intro o w' h
  unfold NewPost at h
  rw [if_pos ⟨h1, h2⟩] at h
  obtain ⟨p, bm, z, rfl, rfl, _, hb, hR⟩ := h
  obtain ⟨y', e, hz⟩ := lift1 y ⟨z, rfl⟩
  exact ⟨p, bm, y', rfl, e, hz, hb, e ▸ hR⟩
theorem new_no (w : World) (y : Since w) (n : Int) (h : ¬ (1 ≤ n ∧ n ≤ 256)) :
    Calls Try.prog 13 #[.int .i64 n] y.w fun o w' => o = .returned (.tuple #[.pointer none, .int .i64 1]) ∧ ∃ y' : Since w, w' = y'.w ∧ IsSince y.w y'.w := by
  refine (new_calls y.w (Since.self y.w) n).mono ?_
  intro o w' h'
  unfold NewPost at h'
  rw [if_neg h] at h'
  exact ⟨h'.1, lift1 y h'.2⟩
theorem copy_s (w : World) (y : Since w) (p bm : Nat) (n : Int) (l : List Ev) (hR : RepAt y.w p bm n l) :
    Calls Try.prog 26 #[.pointer (some ⟨p, 0, none⟩)] y.w fun o w' => ∃ (p' bm' : Nat) (y' : Since w), o = .returned (.pointer (some ⟨p', 0, none⟩)) ∧ w' = y'.w ∧ IsSince y.w y'.w ∧ y.w.heap.size ≤ bm' ∧ RepAt y'.w p' bm' n l := by
  refine (copy_calls y.w (Since.self y.w) p bm n l hR).mono ?_
  rintro _ w' ⟨p', bm', z, rfl, rfl, _, hb, hR'⟩
  obtain ⟨y', e, hz⟩ := lift1 y ⟨z, rfl⟩
  exact ⟨p', bm', y', rfl, e, hz, hb, e ▸ hR'⟩
theorem merge_s (w : World) (y : Since w) (p bm p2 bm2 : Nat) (n : Int) (l m : List Ev) (hb : w.heap.size ≤ bm) (hR : RepAt y.w p bm n l) (hR2 : RepAt y.w p2 bm2 n m) (hI : Inv n m) :
    Calls Try.prog 28 #[.pointer (some ⟨p, 0, none⟩), .pointer (some ⟨p2, 0, none⟩)] y.w fun o w' => o = .returned (.int .i64 (mergeE n l (sortE m))) ∧ ∃ y' : Since w, w' = y'.w ∧ RepAt y'.w p bm n (addAll n l (sortE m)) ∧ y.w.grownBy y'.w (some bm) := by
  refine (merge_calls y.w (Since.self y.w) p bm p2 bm2 n l m hR hR2 hI).mono ?_
  rintro _ w' ⟨rfl, hg, h⟩
  obtain ⟨y', rfl⟩ := y.grown hg (fun k hk => by cases hk; exact hb)
  exact ⟨rfl, y', rfl, h, hg⟩
theorem rmerge_s (w : World) (y : Since w) (n : Int) (a b : Option Addr) (l m : List Ev) (ca cb : Nat) (hr : EvRow y.w a l) (hc : l.length ≤ ca) (hn : a = none → ca = 0) (hl : l.length ≤ 100000) (hr' : EvRow y.w b m) (hm : m.length ≤ 100000) :
    Calls Try.prog 29 #[.int .i64 n, .slice a l.length ca, .slice b m.length cb] y.w fun o w' => ∃ (a : Option Addr) (cap : Nat) (y' : Since w), o = .returned (.tuple #[.slice a (addAll n l (sortE m)).length cap, .int .i64 (mergeE n l (sortE m))]) ∧ w' = y'.w ∧ IsSince y.w y'.w ∧ EvRow y'.w a (addAll n l (sortE m)) := by
  refine (rmerge_calls y.w (Since.self y.w) n a b l m ca cb hr hc hn hl hr' hm).mono ?_
  rintro _ w' ⟨a, cap, z, rfl, rfl, _, _, h⟩
  obtain ⟨y', e, hz⟩ := lift1 y ⟨z, rfl⟩
  exact ⟨a, cap, y', rfl, e, hz, e ▸ h⟩
theorem awake_s (w : World) (y : Since w) : Calls Try.prog 12 #[] y.w fun o w' => o = .returned (.bool true) ∧ ∃ y' : Since w, w' = y'.w ∧ IsSince y.w y'.w := by
  refine (awake_calls y.w (Since.self y.w)).mono ?_
  rintro _ w' ⟨rfl, hz⟩
  exact ⟨rfl, lift1 y hz⟩

set_option maxRecDepth 100000 in
set_option maxHeartbeats 4000000 in
theorem is_calls (w : World) (x : Since w) (p bm N : Nat) (L : List Ev) (la : Option Addr) (lc : Nat) (sa : Option Addr) (seen : List Int) (sc : Nat) (hR : RepAt w p bm N L) (hI : Inv N L) (hN : N ≤ 256) (hl : EvRow w la L) (hs : IntRow w sa seen) (hsl : seen.length ≤ 100000) :
    Calls Try.prog 17 #[.pointer (some ⟨p, 0, none⟩), .int .i64 N, .slice la L.length lc, .slice sa seen.length sc] x.w fun o w' => o = .returned (.bool true) ∧ ∃ y : Since w, w' = y.w := by
  have hlen := hI.len
  have hl2 : (sortE L).length ≤ 512 := by rw [sortE_length]; exact hlen
  have hl3 : (seenL N L).length ≤ 256 := by rw [seenL_length]; exact hN
  have hl4 : (sinceL L seen).length ≤ 512 := by
    unfold sinceL; rw [sortE_length]; have := List.length_filter_le (newB seen) L; omega
  have HR := Lib.hid hR; have HI := Lib.hid hI; have HL := Lib.hid hl; have HS := Lib.hid hs
  clear hR hI hl hs
  go_enter Try.func17, Try.ntmps17
  go_wp2_with (first
    | (go_at_call 19; refine (events_s w _ p bm N L (HR.out.since _) HI.out).mono ?_; rintro _ _ ⟨ea, ec, y1, rfl, rfl, -, hrow⟩; have He1 := Lib.hid hrow; clear hrow)
    | (go_at_call 34; refine (revents_s w _ la L lc (Since.els HL.out _) (by omega)).mono ?_; rintro _ _ ⟨eb, ed, y2, rfl, rfl, hz, hrow⟩; have He2 := Lib.hid hrow; replace He1 := Lib.hid (He1.out.to hz); clear hz hrow)
    | (go_at_call 21; ((with_reducible refine (evcmp_s w _ ea eb (sortE L) (sortE L) ec ed true (by omega) (by omega) He1.out He2.out (decide_eq_true rfl)).mono ?_); rintro _ _ ⟨rfl, y3, rfl, -⟩; clear He1 He2))
    | (go_at_call 23; refine (seen_s w _ p bm N L (HR.out.since _) HI.out hN).mono ?_; rintro _ _ ⟨ia, ic, y1, rfl, rfl, -, hrow⟩; have Hi1 := Lib.hid hrow; clear hrow)
    | (go_at_call 35; refine (rseen_s w _ N la L lc (Since.els HL.out _) (by omega) hN).mono ?_; rintro _ _ ⟨ib, id, y2, rfl, rfl, hz, hrow⟩; have Hi2 := Lib.hid hrow; replace Hi1 := Lib.hid (Hi1.out.to hz); clear hz hrow)
    | (go_at_call 22; ((with_reducible refine (icmp_s w _ ia ib (seenL N L) (seenL N L) ic id true (by omega) (by omega) Hi1.out Hi2.out (decide_eq_true rfl)).mono ?_); rintro _ _ ⟨rfl, y3, rfl, -⟩; clear Hi1 Hi2))
    | (go_at_call 24; refine (horizon_s w _ p bm N L (HR.out.since _) HI.out hN).mono ?_; rintro _ _ ⟨rfl, y1, rfl, -⟩)
    | (go_at_call 36; refine (rhor_s w _ N la L lc (Since.els HL.out _) HI.out hN).mono ?_; rintro _ _ ⟨rfl, y1, rfl, -⟩)
    | (go_at_call 32; refine (sincep_s w _ p bm N L sa seen sc (HR.out.since _) HI.out (Since.row HS.out _) hsl).mono ?_; rintro _ _ ⟨ga, gc, y1, rfl, rfl, -, hrow⟩; have Hg1 := Lib.hid hrow; clear hrow)
    | (go_at_call 37; refine (rsince_s w _ N la L lc sa seen sc (Since.els HL.out _) HI.out (Since.row HS.out _) hsl N).mono ?_; rintro _ _ ⟨gb, gd, y2, rfl, rfl, hz, hrow⟩; have Hg2 := Lib.hid hrow; replace Hg1 := Lib.hid (Hg1.out.to hz); clear hz hrow)
    | (go_at_call 21; ((with_reducible refine (evcmp_s w _ ga gb (sinceL L seen) (sinceL L seen) gc gd true (by omega) (by omega) Hg1.out Hg2.out (decide_eq_true rfl)).mono ?_); rintro _ _ ⟨rfl, y3, rfl, -⟩; clear Hg1 Hg2)))
  go_ret
  exact ⟨rfl, _, rfl⟩
theorem is_s (w : World) (y : Since w) (p bm N : Nat) (L : List Ev) (la : Option Addr) (lc : Nat) (sa : Option Addr) (seen : List Int) (sc : Nat) (hR : RepAt y.w p bm N L) (hI : Inv N L) (hN : N ≤ 256) (hl : EvRow y.w la L) (hs : IntRow y.w sa seen) (hsl : seen.length ≤ 100000) :
    Calls Try.prog 17 #[.pointer (some ⟨p, 0, none⟩), .int .i64 N, .slice la L.length lc, .slice sa seen.length sc] y.w fun o w' => o = .returned (.bool true) ∧ ∃ y' : Since w, w' = y'.w ∧ IsSince y.w y'.w := by
  refine (is_calls y.w (Since.self y.w) p bm N L la lc sa seen sc hR hI hN hl hs hsl).mono ?_
  rintro _ w' ⟨rfl, hz⟩
  exact ⟨rfl, lift1 y hz⟩
end Go.Proofs.Ytcpfogbjbinjcaa
