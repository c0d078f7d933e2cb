/- Texts that belong together. -/
import Derived.Test.YtmmlmhnjjfnpnaaGreatTpQzu
import Derived.Test.YtmmlmhnjjfnpnaaGreatRows
set_option linter.all false
namespace Go.Proofs.YtmmlmhnjjfnpnaaGreat
open Go.ChangeShapes Go.WideShapes Go.ChangeAt Go.RowKit
set_option maxRecDepth 100000 in
theorem topOperators_lifted (os:Os) (started:os.Started) (H:Type) (enc:TypeId×Value→H):
 ReturnsInHanded {} Tryz.checked os 5 .any (Rows.topOperatorsSpec.pre6 enc Tryz.prog Tryz.f5 Rows.topOperatorsRow.domain false) (Rows.topOperatorsSpec.post enc Tryz.prog Tryz.f5 false true false false):=by
 refine returnsInHanded_of_change (C:=Tryz.checked) own started (by kernel_rfl) Tryz.func5
  (ChangeSpec.witness6 (enc:=enc) (C:=Tryz.checked) false ⟨#[],#[.agg #[.int .i64 0,.int .i64 0,.int .i64 0,.slice none 0 0,.slice none 0 0,.slice none 0 0,.slice none 0 0,.slice none 0 0,.slice none 0 0,.int .i64 0,.slice none 0 0,.int .i64 0],.slice none 0 0,.slice none 0 0,.slice none 0 0],[]⟩ 8 (by kernel_rfl) (by kernel_rfl) (by kernel_rfl) (by kernel_rfl)) ?_
 intro W base args ds gs before hval0 hW _ _;have hval:∀(j:Nat) t v,Tryz.f5.params[j]? =some t→args[j]? =some v→Value.okWide Tryz.prog W .any base t v:=hval0;have hW':=hW;obtain⟨p,q,hA0,hV,rfl,hfz,hnd⟩:=hW;have hA:DataW.TrodAll enc Tryz.prog W 0 (fun _ =>true) true Tryz.f5.params.toList args.toList ds p:=hA0;rw[Tryz.params5]at hA hval;obtain⟨v0,vs0,d0,ds0,p0,q0,hargs,rfl,rfl,h0,r0⟩:=trodAll_cons hA;obtain⟨v1,vs1,d1,ds1,p1,q1,rfl,rfl,rfl,h1,r1⟩:=trodAll_cons r0;obtain⟨v2,vs2,d2,ds2,p2,q2,rfl,rfl,rfl,h2,r2⟩:=trodAll_cons r1;obtain⟨v3,vs3,d3,ds3,p3,q3,rfl,rfl,rfl,h3,r3⟩:=trodAll_cons r2;obtain⟨rfl,rfl,rfl⟩:=trodAll_nil r3;obtain rfl:args=#[v0,v1,v2,v3]:=by cases args;simp_all
 obtain⟨rfl,rfl⟩:=trodVars_none hV;obtain⟨f0,da0,dc0,ta0,tc0,pr0,ga0,pa0,la0,ka0,fa0,gc0,pc0,lc0,kc0,fc0,rfl,hf0,hp0,hb0,hs0,hm0,hk0,hn0,hy0,hz0⟩:=Bk1 (hval 0 55 v0 rfl rfl) h0;obtain⟨a1,l1,c1,rfl,hl1,hr1,hi1⟩:=Bf4 (hval 1 25 v1 rfl rfl) h1;obtain⟨a2,l2,c2,rfl,hl2,hc2,hr2⟩:=Bq8 (hval 2 78 v2 rfl rfl) h2;obtain⟨a3,l3,c3,rfl,hl3,hr3,-⟩:=Bq9 (hval 3 79 v3 rfl rfl) h3;refine(Br3 W (A7.self W) f0 da0 ta0 dc0 tc0 hf0 pr0 ga0 pa0 la0 ka0 fa0 gc0 pc0 lc0 kc0 fc0 hp0 hb0 hs0 hm0 hk0 hn0 hy0 hz0 a1 l1 c1 hr1 hl1 hi1 a2 l2 c2 hr2 hl2 hc2 a3 l3 c3 hr3 hl3).mono fun e W' hy=>?_;exact AB6 Be5 (by kernel_rfl) rfl Tryz.underlying4 rfl hW' rfl hy
theorem topOperators_holds:Rows.TopOperatorsSaid:=
 OpenClaim.holds_of_wide 5 Tryz.f5 rfl rfl rfl rfl rfl rfl rfl ⟨rfl,rfl,rfl,rfl,rfl⟩ rfl rfl rfl rfl rfl (by kernel_rfl) Tryz.func5 (by kernel_rfl)
  (of_decide_eq_true (by kernel_rfl)) (by unfold Func.isWrapper;first|(rw[if_pos (by decide +kernel)];kernel_rfl)|(rw[if_neg (by decide +kernel)];exact⟨rfl,rfl⟩))
  (fun os started H enc _ =>topOperators_lifted os started H enc)
#print axioms topOperators_holds
end Go.Proofs.YtmmlmhnjjfnpnaaGreat
