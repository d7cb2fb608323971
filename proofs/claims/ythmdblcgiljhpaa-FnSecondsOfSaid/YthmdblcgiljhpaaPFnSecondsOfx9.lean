-- Written by a program of this session (wip/tool/myprint.py) out of the translation.
import Derived.Test.YthmdblcgiljhpaaPFnSecondsOfx0
import Derived.Test.YthmdblcgiljhpaaPFnSecondsOfx1
import Derived.Test.YthmdblcgiljhpaaPFnSecondsOfx3
import Derived.Test.YthmdblcgiljhpaaPFnSecondsOfx6
import Derived.Test.YthmdblcgiljhpaaPFnSecondsOfx8
namespace Go.Proofs.Ythmdblcgiljhpaa.PFnSecondsOf
open Go.RowKit Go.Proofs.YthmdblcgiljhpaaW.PrintWords Go.Proofs.YthmdblcgiljhpaaW.PrintLast Go.Proofs.YthmdblcgiljhpaaW.PrintMore
open Go.Proofs.YthmdblcgiljhpaaW.PrintWords renaming blk_cell → Ba, blk_frozen → Bb, pw_below_drewN → Bc, below_drew1 → Bd, below_alloc → Be, blk_drewN → Bf, blk_alloc → Bg, blk_drew → Bh
attribute [local go_sem] max2_int min2_int max_two min_two max_three min_three max_four min_four   -- for this text's walks alone
set_option linter.unusedVariables false
set_option linter.unusedSimpArgs false

attribute [local go_sem high] eqA24
/-! ### laws_FnSecondsOf: function 3 -/
def laws_FnSecondsOf.j0 : Nat → Int → Bool → Int → Bool → Bool → Int → Int → Int → Int → Int → Int → Int → Option (Bool)
 | 0, _, _, _, _, _, _, _, _, _, _, _, _ => none
 | k + 1, x4, x5, x6, x7, x39, x257000, x257001, x257002, x257003, x257004, x257005, x257006 => if x39 = true then (if x4 = x6 then (if (x5 == x7) = true then (some (x4 == 0)) else (some false)) else (some false)) else ((impl_DateOf.f k x4 x257006).bind fun bt261 => ((impl_SecondsOf.f k x257000 x257001 x257002 x257003 x257004 (wrap64 (x257005 + 1)) x257006).bind fun bt271 => (if bt261.2.2.2.2.2.2.2 = true then (if (bt261.1 == x257000 && (bt261.2.1 == x257001 && (bt261.2.2.1 == x257002 && (bt261.2.2.2.1 == x257003 && (bt261.2.2.2.2.1 == x257004 && (bt261.2.2.2.2.2.1 == x257005 && (bt261.2.2.2.2.2.2.1 == x257006))))))) = true then (if bt271.2 = true then (some (bt271.1 == (wrap64 (x4 + 1)))) else (some true)) else (some false)) else (some false))))
def laws_FnSecondsOf.f (k : Nat) (l0 : List Int) : Option (Bool) := if (l0.length : Int) > 1048576 then (some true) else ((spec_DrawSecondsOf.f k l0).bind fun bt249 => ((impl_SecondsOf.f k bt249.1 bt249.2.1 bt249.2.2.1 bt249.2.2.2.1 bt249.2.2.2.2.1 bt249.2.2.2.2.2.1 bt249.2.2.2.2.2.2).bind fun bt257 => ((spec_SecondsOf.f k bt249.1 bt249.2.1 bt249.2.2.1 bt249.2.2.2.1 bt249.2.2.2.2.1 bt249.2.2.2.2.2.1 bt249.2.2.2.2.2.2).bind fun bt259 => (if bt257.1 = bt259.1 then (if (bt257.2 != bt259.2) = true then (laws_FnSecondsOf.j0 k bt257.1 bt257.2 bt259.1 bt259.2 true bt249.1 bt249.2.1 bt249.2.2.1 bt249.2.2.2.1 bt249.2.2.2.2.1 bt249.2.2.2.2.2.1 bt249.2.2.2.2.2.2) else (laws_FnSecondsOf.j0 k bt257.1 bt257.2 bt259.1 bt259.2 (!bt257.2) bt249.1 bt249.2.1 bt249.2.2.1 bt249.2.2.2.1 bt249.2.2.2.2.1 bt249.2.2.2.2.2.1 bt249.2.2.2.2.2.2)) else (laws_FnSecondsOf.j0 k bt257.1 bt257.2 bt259.1 bt259.2 true bt249.1 bt249.2.1 bt249.2.2.1 bt249.2.2.2.1 bt249.2.2.2.2.1 bt249.2.2.2.2.2.1 bt249.2.2.2.2.2.2)))))
theorem laws_FnSecondsOf.mono_l : ∀ k, (∀ y0 y1 y2 y3 y4 y5 y6 y7 y8 y9 y10 y11, LeO (laws_FnSecondsOf.j0 k y0 y1 y2 y3 y4 y5 y6 y7 y8 y9 y10 y11) (laws_FnSecondsOf.j0 (k + 1) y0 y1 y2 y3 y4 y5 y6 y7 y8 y9 y10 y11))
 | 0 => fun _ _ _ _ _ _ _ _ _ _ _ _ r h => by simp [laws_FnSecondsOf.j0] at h
 | k + 1 => by
  have ih0 := laws_FnSecondsOf.mono_l k
  intro y0 y1 y2 y3 y4 y5 y6 y7 y8 y9 y10 y11
  unfold laws_FnSecondsOf.j0
  repeat' first
  | (with_reducible exact ih0 _ _ _ _ _ _ _ _ _ _ _ _)
  | (with_reducible exact impl_DateOf.mono _ _ _)
  | (with_reducible exact impl_SecondsOf.mono _ _ _ _ _ _ _ _)
  | (with_reducible exact spec_DrawSecondsOf.mono _ _)
  | (with_reducible exact spec_SecondsOf.mono _ _ _ _ _ _ _ _)
  | (with_reducible exact LeO.refl _)
  | (with_reducible exact LeO.none _)
  | (with_reducible refine LeO.ite ?_ ?_)
  | (with_reducible refine LeO.bind ?_ (fun _ => ?_))
theorem laws_FnSecondsOf.mono : ∀ a0 k, LeO (laws_FnSecondsOf.f k a0) (laws_FnSecondsOf.f (k + 1) a0) := by
 intro a0 k
 have ih0 := laws_FnSecondsOf.mono_l k
 unfold laws_FnSecondsOf.f
 repeat' first
   | (with_reducible exact ih0 _ _ _ _ _ _ _ _ _ _ _ _)
   | (with_reducible exact impl_DateOf.mono _ _ _)
   | (with_reducible exact impl_SecondsOf.mono _ _ _ _ _ _ _ _)
   | (with_reducible exact spec_DrawSecondsOf.mono _ _)
   | (with_reducible exact spec_SecondsOf.mono _ _ _ _ _ _ _ _)
   | (with_reducible exact LeO.refl _)
   | (with_reducible exact LeO.none _)
   | (with_reducible refine LeO.ite ?_ ?_)
   | (with_reducible refine LeO.bind ?_ (fun _ => ?_))
/-- Seven stores in a fresh block. -/
theorem put7_ {w W : World} {g : Nat} {t : TypeId} {o0 o1 o2 o3 o4 o5 o6 v0 v1 v2 v3 v4 v5 v6 : Value} (hb : Below w.heap.size w W) (hg : w.heap.size ≤ g) (hx : W.heap[g]? = some (.cells #[o0, o1, o2, o3, o4, o5, o6] t (0, 0))) :
    ∃ V, V = (((((((W.setCell ⟨g, 0, none⟩ v0).setCell ⟨g, 1, none⟩ v1).setCell ⟨g, 2, none⟩ v2).setCell ⟨g, 3, none⟩ v3).setCell ⟨g, 4, none⟩ v4).setCell ⟨g, 5, none⟩ v5).setCell ⟨g, 6, none⟩ v6) ∧ V.heap[g]? = some (.cells #[v0, v1, v2, v3, v4, v5, v6] t (0, 0)) ∧ Below w.heap.size w V ∧
      ∀ g' t' cs, g' ≠ g → W.heap[g']? = some (.cells cs t' (0, 0)) → V.heap[g']? = some (.cells cs t' (0, 0)) :=
  ⟨_, rfl, blk_put (cs := #[v0, v1, v2, v3, v4, v5, o6]) (blk_put (cs := #[v0, v1, v2, v3, v4, o5, o6]) (blk_put (cs := #[v0, v1, v2, v3, o4, o5, o6]) (blk_put (cs := #[v0, v1, v2, o3, o4, o5, o6]) (blk_put (cs := #[v0, v1, o2, o3, o4, o5, o6]) (blk_put (cs := #[v0, o1, o2, o3, o4, o5, o6]) (blk_put (cs := #[o0, o1, o2, o3, o4, o5, o6]) hx 0 _ rfl) 1 _ rfl) 2 _ rfl) 3 _ rfl) 4 _ rfl) 5 _ rfl) 6 _ rfl,
    ((((((hb.setCell hg _).setCell hg _).setCell hg _).setCell hg _).setCell hg _).setCell hg _).setCell hg _, fun g' t' cs hn h => blk_far (blk_far (blk_far (blk_far (blk_far (blk_far (blk_far h hn _) hn _) hn _) hn _) hn _) hn _) hn _⟩
theorem put1_ {w W : World} {g : Nat} {t : TypeId} {o0 o1 o2 o3 o4 o5 o6 v : Value} (hb : Below w.heap.size w W) (hg : w.heap.size ≤ g) (hx : W.heap[g]? = some (.cells #[o0, o1, o2, o3, o4, o5, o6] t (0, 0))) :
    ∃ V, V = W.setCell ⟨g, 5, none⟩ v ∧ V.heap[g]? = some (.cells #[o0, o1, o2, o3, o4, v, o6] t (0, 0)) ∧ Below w.heap.size w V ∧ ∀ g' t' cs, g' ≠ g → W.heap[g']? = some (.cells cs t' (0, 0)) → V.heap[g']? = some (.cells cs t' (0, 0)) :=
  ⟨_, rfl, blk_put (cs := #[o0, o1, o2, o3, o4, o5, o6]) hx 5 _ rfl, hb.setCell hg _, fun g' t' cs hn h => blk_far h hn _⟩
set_option maxHeartbeats 8000000 in
set_option maxRecDepth 100000 in
theorem laws_FnSecondsOf.calls (k : Nat) (A0 : Option Addr) (c0 : Nat) (l0 : List Int) (r : Bool) (w : World) (hr0 : Kd.C (Kd.int .u8) w A0 l0.length l0) (hc0 : l0.length ≤ c0) (h : laws_FnSecondsOf.f k l0 = some r) :
  Calls Try.prog 3 #[.slice A0 l0.length c0] w fun e w' => e = .returned (.bool r) ∧ Below w.heap.size w w' := by
 have hu24 := Try.underlying24
 have HR0 := Aside0.mk hr0
 have HC0 := Aside0.mk hc0
 clear hr0 hc0
 have HB := Aside0.mk (Below.refl w.heap.size w)
 have H : (if (l0.length : Int) > 1048576 then (some true) else ((spec_DrawSecondsOf.f k l0).bind fun bt249 => ((impl_SecondsOf.f k bt249.1 bt249.2.1 bt249.2.2.1 bt249.2.2.2.1 bt249.2.2.2.2.1 bt249.2.2.2.2.2.1 bt249.2.2.2.2.2.2).bind fun bt257 => ((spec_SecondsOf.f k bt249.1 bt249.2.1 bt249.2.2.1 bt249.2.2.2.1 bt249.2.2.2.2.1 bt249.2.2.2.2.2.1 bt249.2.2.2.2.2.2).bind fun bt259 => (if bt257.1 = bt259.1 then (if (bt257.2 != bt259.2) = true then (laws_FnSecondsOf.j0 k bt257.1 bt257.2 bt259.1 bt259.2 true bt249.1 bt249.2.1 bt249.2.2.1 bt249.2.2.2.1 bt249.2.2.2.2.1 bt249.2.2.2.2.2.1 bt249.2.2.2.2.2.2) else (laws_FnSecondsOf.j0 k bt257.1 bt257.2 bt259.1 bt259.2 (!bt257.2) bt249.1 bt249.2.1 bt249.2.2.1 bt249.2.2.2.1 bt249.2.2.2.2.1 bt249.2.2.2.2.2.1 bt249.2.2.2.2.2.2)) else (laws_FnSecondsOf.j0 k bt257.1 bt257.2 bt259.1 bt259.2 true bt249.1 bt249.2.1 bt249.2.2.1 bt249.2.2.2.1 bt249.2.2.2.2.1 bt249.2.2.2.2.2.1 bt249.2.2.2.2.2.2)))))) = some r := h
 clear h
 by_cases c2 : (l0.length : Int) > 1048576
 ·rw [if_pos c2] at H
  have c2b0 : decide (1048576 < (l0.length : Int)) = true := decide_eq_true c2
  have c2b1 : decide (1048576 < l0.length) = true := decide_eq_true (by omega)
  clear c2
  obtain rfl := Option.some.inj H
  go_enter Try.func3, Try.ntmps3
  go_wp2
  go_ret
  exact ⟨by first | rfl | (simp [errW_none, errW_some] <;> rfl) | (simp [*, errW_none, errW_some] <;> rfl), by repeat (first | (with_reducible first | exact HB.out | apply Be | apply Bc | apply Bd) | exact HB.out)⟩
 rw [if_neg c2] at H
 have c2b0 : decide (1048576 < (l0.length : Int)) = false := decide_eq_false c2
 have c2b1 : decide (1048576 < l0.length) = false := decide_eq_false (by omega)
 clear c2
 replace H := Option.bind_eq_some_iff.mp H
 obtain ⟨⟨t249, t250, t251, t252, t253, t254, t255⟩, A30, H⟩ := H
 replace H : ((impl_SecondsOf.f k t249 t250 t251 t252 t253 t254 t255).bind fun bt257 => ((spec_SecondsOf.f k t249 t250 t251 t252 t253 t254 t255).bind fun bt259 => (if bt257.1 = bt259.1 then (if (bt257.2 != bt259.2) = true then (laws_FnSecondsOf.j0 k bt257.1 bt257.2 bt259.1 bt259.2 true t249 t250 t251 t252 t253 t254 t255) else (laws_FnSecondsOf.j0 k bt257.1 bt257.2 bt259.1 bt259.2 (!bt257.2) t249 t250 t251 t252 t253 t254 t255)) else (laws_FnSecondsOf.j0 k bt257.1 bt257.2 bt259.1 bt259.2 true t249 t250 t251 t252 t253 t254 t255)))) = some r := H
 have A3 := Aside0.mk A30
 clear A30
 replace H := Option.bind_eq_some_iff.mp H
 obtain ⟨⟨t257, t258⟩, A40, H⟩ := H
 replace H : ((spec_SecondsOf.f k t249 t250 t251 t252 t253 t254 t255).bind fun bt259 => (if t257 = bt259.1 then (if (t258 != bt259.2) = true then (laws_FnSecondsOf.j0 k t257 t258 bt259.1 bt259.2 true t249 t250 t251 t252 t253 t254 t255) else (laws_FnSecondsOf.j0 k t257 t258 bt259.1 bt259.2 (!t258) t249 t250 t251 t252 t253 t254 t255)) else (laws_FnSecondsOf.j0 k t257 t258 bt259.1 bt259.2 true t249 t250 t251 t252 t253 t254 t255))) = some r := H
 have A4 := Aside0.mk A40
 clear A40
 replace H := Option.bind_eq_some_iff.mp H
 obtain ⟨⟨t259, t260⟩, A50, H⟩ := H
 replace H : (if t257 = t259 then (if (t258 != t260) = true then (laws_FnSecondsOf.j0 k t257 t258 t259 t260 true t249 t250 t251 t252 t253 t254 t255) else (laws_FnSecondsOf.j0 k t257 t258 t259 t260 (!t258) t249 t250 t251 t252 t253 t254 t255)) else (laws_FnSecondsOf.j0 k t257 t258 t259 t260 true t249 t250 t251 t252 t253 t254 t255)) = some r := H
 have A5 := Aside0.mk A50
 clear A50
 have HC6 := Aside0.mk H
 clear H
 go_enter Try.func3, Try.ntmps3
 go_upto_region 6 with (first | ((with_reducible refine gate_callee (f := 4) rfl ?_); refine goesL_ (some 17) rfl rfl Try.func4 (by kernel_rfl) rfl #[.slice A0 l0.length c0] rfl (by (try simp only [List.map_toArray, List.map_cons, List.map_nil]); first | done | rfl | (simp only [List.length_drop, List.length_take]; rfl)) ?_; (with_reducible refine (spec_DrawSecondsOf.calls k _ _ l0 t249 t250 t251 t252 t253 t254 t255 _ ?side1 ?side2 A3.out).mono ?_); (case side1 => repeat (first | exact HR0.out | (with_reducible refine Kd.C_alloc ?_ _) | (with_reducible refine Kd.C_drewN ?_ _) | (with_reducible refine Kd.C_drew ?_))); (case side2 => exact HC0.out); rintro e w7 ⟨rfl, hb⟩; refine ⟨_, rfl, ?_⟩; have n0_ := Aside0.mk (below_step (by repeat (first | (with_reducible first | exact HB.out | apply Be | apply Bc | apply Bd) | exact HB.out)) hb); clear HB; have HB := n0_; clear n0_; (try clear hb); (try clear hb2); (try clear hk); (try clear hi)) | ((with_reducible refine gate_dst (N := 3) rfl ?_); refine box_event ?hg (N := 3) ?hd (cs := #[.int .i64 0, .int .i64 0, .int .i64 0, .int .i64 0, .int .i64 0, .int .i64 0, .int .i64 0]) (t := 24) ?hr ?_; (case hd => rfl); (case hg => rfl); (case hr => first | (go_simp; done) | (go_simp; rfl)); intro gb256 hg w8 hbox hb; have n0_ := Aside0.mk (below_step (by repeat (first | (with_reducible first | exact HB.out | apply Be | apply Bc | apply Bd) | exact HB.out)) hb); have n1_ := Aside0.mk (hbox); have n2_ := Aside0.mk ((by rw [hg]; exact (below_size (by repeat (first | (with_reducible first | exact HB.out | apply Be | apply Bc | apply Bd) | exact HB.out))) : w.heap.size ≤ gb256)); have n3_ := Aside0.mk ((by rw [hg]; exact (below_size (by repeat (first | (with_reducible first | exact HB.out | apply Be | apply Bc | apply Bd) | exact HB.out))) : w.heap.size ≤ gb256)); clear HB; have HB := n0_; have BK256 := n1_; have GW256 := n2_; have GE256 := n3_; clear n0_ n1_ n2_ n3_; clear hb hbox hg; have hcz9_0 : w8.cell? ⟨gb256, 0, none⟩ = some (.int .i64 0) := (Ba BK256.out 0).trans rfl; have hcz9_1 : w8.cell? ⟨gb256, 1, none⟩ = some (.int .i64 0) := (Ba BK256.out 1).trans rfl; have hcz9_2 : w8.cell? ⟨gb256, 2, none⟩ = some (.int .i64 0) := (Ba BK256.out 2).trans rfl; have hcz9_3 : w8.cell? ⟨gb256, 3, none⟩ = some (.int .i64 0) := (Ba BK256.out 3).trans rfl; have hcz9_4 : w8.cell? ⟨gb256, 4, none⟩ = some (.int .i64 0) := (Ba BK256.out 4).trans rfl; have hcz9_5 : w8.cell? ⟨gb256, 5, none⟩ = some (.int .i64 0) := (Ba BK256.out 5).trans rfl; have hcz9_6 : w8.cell? ⟨gb256, 6, none⟩ = some (.int .i64 0) := (Ba BK256.out 6).trans rfl; have hfz9_0 := Bb BK256.out 0; have hfz9_1 := Bb BK256.out 1; have hfz9_2 := Bb BK256.out 2; have hfz9_3 := Bb BK256.out 3; have hfz9_4 := Bb BK256.out 4; have hfz9_5 := Bb BK256.out 5; have hfz9_6 := Bb BK256.out 6) | ((with_reducible refine gate_callee (f := 5) rfl ?_); refine goesL_ (some 20) rfl rfl Try.func5 (by kernel_rfl) rfl #[.agg #[.int .i64 t249, .int .i64 t250, .int .i64 t251, .int .i64 t252, .int .i64 t253, .int .i64 t254, .int .i64 t255]] rfl (by (try simp only [List.map_toArray, List.map_cons, List.map_nil]); first | done | rfl | (simp only [List.length_drop, List.length_take]; rfl)) ?_; (with_reducible refine (impl_SecondsOf.calls k t249 t250 t251 t252 t253 t254 t255 t257 t258 _ A4.out).mono ?_); rintro e w10 ⟨rfl, hb⟩; refine ⟨_, rfl, ?_⟩; have n0_ := Aside0.mk (blk_below (g := gb256) (o := .cells #[.int .i64 t249, .int .i64 t250, .int .i64 t251, .int .i64 t252, .int .i64 t253, .int .i64 t254, .int .i64 t255] 24 (0, 0)) (by (with_reducible repeat (first | refine Bf ?_ _ | refine Bh ?_ | refine Bg ?_ _)); refine blk_put (cs := #[.int .i64 t249, .int .i64 t250, .int .i64 t251, .int .i64 t252, .int .i64 t253, .int .i64 t254, .int .i64 0]) ?_ 6 _ rfl; (with_reducible repeat (first | refine Bf ?_ _ | refine Bh ?_ | refine Bg ?_ _)); refine blk_put (cs := #[.int .i64 t249, .int .i64 t250, .int .i64 t251, .int .i64 t252, .int .i64 t253, .int .i64 0, .int .i64 0]) ?_ 5 _ rfl; (with_reducible repeat (first | refine Bf ?_ _ | refine Bh ?_ | refine Bg ?_ _)); refine blk_put (cs := #[.int .i64 t249, .int .i64 t250, .int .i64 t251, .int .i64 t252, .int .i64 0, .int .i64 0, .int .i64 0]) ?_ 4 _ rfl; (with_reducible repeat (first | refine Bf ?_ _ | refine Bh ?_ | refine Bg ?_ _)); refine blk_put (cs := #[.int .i64 t249, .int .i64 t250, .int .i64 t251, .int .i64 0, .int .i64 0, .int .i64 0, .int .i64 0]) ?_ 3 _ rfl; (with_reducible repeat (first | refine Bf ?_ _ | refine Bh ?_ | refine Bg ?_ _)); refine blk_put (cs := #[.int .i64 t249, .int .i64 t250, .int .i64 0, .int .i64 0, .int .i64 0, .int .i64 0, .int .i64 0]) ?_ 2 _ rfl; (with_reducible repeat (first | refine Bf ?_ _ | refine Bh ?_ | refine Bg ?_ _)); refine blk_put (cs := #[.int .i64 t249, .int .i64 0, .int .i64 0, .int .i64 0, .int .i64 0, .int .i64 0, .int .i64 0]) ?_ 1 _ rfl; (with_reducible repeat (first | refine Bf ?_ _ | refine Bh ?_ | refine Bg ?_ _)); refine blk_put (cs := #[.int .i64 0, .int .i64 0, .int .i64 0, .int .i64 0, .int .i64 0, .int .i64 0, .int .i64 0]) ?_ 0 _ rfl; (with_reducible repeat (first | refine Bf ?_ _ | refine Bh ?_ | refine Bg ?_ _)); exact BK256.out) hb); have n1_ := Aside0.mk (below_step (by repeat (first | (with_reducible first | exact HB.out | apply Be | apply Bc | apply Bd | refine below_set ?_ GE256.out) | exact HB.out)) hb); clear BK256; clear HB; have BK256 := n0_; have HB := n1_; clear n0_ n1_; (try clear hb); (try clear hb2); (try clear hk); (try clear hi); have hcz11_0 : w10.cell? ⟨gb256, 0, none⟩ = some (.int .i64 t249) := (Ba BK256.out 0).trans rfl; have hcz11_1 : w10.cell? ⟨gb256, 1, none⟩ = some (.int .i64 t250) := (Ba BK256.out 1).trans rfl; have hcz11_2 : w10.cell? ⟨gb256, 2, none⟩ = some (.int .i64 t251) := (Ba BK256.out 2).trans rfl; have hcz11_3 : w10.cell? ⟨gb256, 3, none⟩ = some (.int .i64 t252) := (Ba BK256.out 3).trans rfl; have hcz11_4 : w10.cell? ⟨gb256, 4, none⟩ = some (.int .i64 t253) := (Ba BK256.out 4).trans rfl; have hcz11_5 : w10.cell? ⟨gb256, 5, none⟩ = some (.int .i64 t254) := (Ba BK256.out 5).trans rfl; have hcz11_6 : w10.cell? ⟨gb256, 6, none⟩ = some (.int .i64 t255) := (Ba BK256.out 6).trans rfl; have hfz11_0 := Bb BK256.out 0; have hfz11_1 := Bb BK256.out 1; have hfz11_2 := Bb BK256.out 2; have hfz11_3 := Bb BK256.out 3; have hfz11_4 := Bb BK256.out 4; have hfz11_5 := Bb BK256.out 5; have hfz11_6 := Bb BK256.out 6) | ((with_reducible refine gate_callee (f := 6) rfl ?_); refine goesL_ (some 25) rfl rfl Try.func6 (by kernel_rfl) rfl #[.agg #[.int .i64 t249, .int .i64 t250, .int .i64 t251, .int .i64 t252, .int .i64 t253, .int .i64 t254, .int .i64 t255]] rfl (by (try simp only [List.map_toArray, List.map_cons, List.map_nil]); first | done | rfl | (simp only [List.length_drop, List.length_take]; rfl)) ?_; (with_reducible refine (spec_SecondsOf.calls k t249 t250 t251 t252 t253 t254 t255 t259 t260 _ A5.out).mono ?_); rintro e w12 ⟨rfl, hb⟩; refine ⟨_, rfl, ?_⟩; have n0_ := Aside0.mk (blk_below (g := gb256) (o := .cells #[.int .i64 t249, .int .i64 t250, .int .i64 t251, .int .i64 t252, .int .i64 t253, .int .i64 t254, .int .i64 t255] 24 (0, 0)) (by (with_reducible repeat (first | refine Bf ?_ _ | refine Bh ?_ | refine Bg ?_ _)); exact BK256.out) hb); have n1_ := Aside0.mk (below_step (by repeat (first | (with_reducible first | exact HB.out | apply Be | apply Bc | apply Bd | refine below_set ?_ GE256.out) | exact HB.out)) hb); clear BK256; clear HB; have BK256 := n0_; have HB := n1_; clear n0_ n1_; (try clear hb); (try clear hb2); (try clear hk); (try clear hi)))
 (try simp only [Act.put, List.setIfInBounds_toArray, List.set_cons_zero, List.set_cons_succ])
 go_cut [39] (fun v39 wc => ∃ (kq : Nat) (x39_5 : Bool), v39 = .bool x39_5 ∧ Aside0 (laws_FnSecondsOf.j0 kq t257 t258 t259 t260 x39_5 t249 t250 t251 t252 t253 t254 t255 = some r) ∧ Aside0 (kq ≤ k) ∧ Aside0 (wc.heap[gb256]? = some (.cells #[.int .i64 t249, .int .i64 t250, .int .i64 t251, .int .i64 t252, .int .i64 t253, .int .i64 t254, .int .i64 t255] 24 (0, 0))) ∧ Aside0 (Below w.heap.size w wc))
 case first =>
  have H := HC6.out; clear HC6
  by_cases c13 : t257 = t259
  ·rw [if_pos c13] at H
   have c13b0 : (t257 == t259) = true := beq_iff_eq.mpr c13
   have c13b1 : (t257 != t259) = false := bne_eq_false_iff_eq.mpr c13
   clear c13
   (first | rw [c13b0] | (simp only [i64_w, i32_w]; rw [c13b0]) | skip)
   by_cases c14 : (t258 != t260) = true
   ·rw [if_pos c14] at H
    have c14b0 : (t258 != t260) = true := c14
    (try (have c14b1 : decide (t258 = t260) = false := by simpa using c14))
    (try (have c14b2 : (t258 == t260) = false := by simpa using c14))
    (try (have c14b3 : ¬ (t258 = t260) := by simpa using c14))
    clear c14
    have H' := Aside0.mk H
    clear H
    go_wp2
    go_meet
    case rel => exact ⟨_, (true), (by first | rfl | (simp; done) | (simp [*]; done)), H', ⟨by first | omega | exact Nat.le_refl _⟩, ⟨by (with_reducible repeat (first | refine Bf ?_ _ | refine Bh ?_ | refine Bg ?_ _)); exact BK256.out⟩, ⟨by repeat (first | (with_reducible first | exact HB.out | apply Be | apply Bc | apply Bd | refine below_set ?_ GE256.out) | exact HB.out)⟩⟩
   rw [if_neg c14] at H
   have c14b0 : (t258 != t260) = false := by simpa using c14
   (try (have c14b1 : decide (t258 = t260) = true := by simpa using c14))
   (try (have c14b2 : (t258 == t260) = true := by simpa using c14))
   clear c14
   have H' := Aside0.mk H
   clear H
   go_wp2
   go_meet
   case rel => exact ⟨_, (!t258), (by first | rfl | (simp; done) | (simp [*]; done)), H', ⟨by first | omega | exact Nat.le_refl _⟩, ⟨by (with_reducible repeat (first | refine Bf ?_ _ | refine Bh ?_ | refine Bg ?_ _)); exact BK256.out⟩, ⟨by repeat (first | (with_reducible first | exact HB.out | apply Be | apply Bc | apply Bd | refine below_set ?_ GE256.out) | exact HB.out)⟩⟩
  rw [if_neg c13] at H
  have c13b0 : (t257 == t259) = false := beq_eq_false_iff_ne.mpr c13
  have c13b1 : (t257 != t259) = true := bne_iff_ne.mpr c13
  (first | rw [c13b0] | (simp only [i64_w, i32_w]; rw [c13b0]) | skip)
  have H' := Aside0.mk H
  clear H
  go_wp2
  go_meet
  case rel => exact ⟨_, (true), (by first | rfl | (simp; done) | (simp [*]; done)), H', ⟨by first | omega | exact Nat.le_refl _⟩, ⟨by (with_reducible repeat (first | refine Bf ?_ _ | refine Bh ?_ | refine Bg ?_ _)); exact BK256.out⟩, ⟨by repeat (first | (with_reducible first | exact HB.out | apply Be | apply Bc | apply Bd | refine below_set ?_ GE256.out) | exact HB.out)⟩⟩
 case rest =>
  clear HC6
  try clear c1
  try clear c2
  try clear c2b0
  try clear c2b1
  try clear p2
  try clear c3
  try clear c4
  try clear c5
  try clear c6
  try clear c13
  try clear c13b0
  try clear c13b1
  try clear c14
  try clear c14b0
  try clear c14b1
  try clear c14b2
  try clear hcz11_0
  try clear hcz11_1
  try clear hcz11_2
  try clear hcz11_3
  try clear hcz11_4
  try clear hcz11_5
  try clear hcz11_6
  try clear hcz9_0
  try clear hcz9_1
  try clear hcz9_2
  try clear hcz9_3
  try clear hcz9_4
  try clear hcz9_5
  try clear hcz9_6
  try clear hfz11_0
  try clear hfz11_1
  try clear hfz11_2
  try clear hfz11_3
  try clear hfz11_4
  try clear hfz11_5
  try clear hfz11_6
  try clear hfz9_0
  try clear hfz9_1
  try clear hfz9_2
  try clear hfz9_3
  try clear hfz9_4
  try clear hfz9_5
  try clear hfz9_6
  obtain ⟨kq, x39_5, rfl, HA, HJ5, BK256, HB⟩ := hcut
  cases kq with
  | zero => exact absurd HA.out (by simp [laws_FnSecondsOf.j0])
  | succ kj5 =>
   have H := HA.out; clear HA
   simp only [laws_FnSecondsOf.j0] at H
   by_cases c15 : x39_5 = true
   ·subst c15
    have H1 : (if t257 = t259 then (if (t258 == t260) = true then (some (t257 == 0)) else (some false)) else (some false)) = some r := by rw [if_pos rfl] at H; exact H
    clear H; have H := H1; clear H1
    by_cases c16 : t257 = t259
    ·rw [if_pos c16] at H
     have c16b0 : (t257 == t259) = true := beq_iff_eq.mpr c16
     have c16b1 : (t257 != t259) = false := bne_eq_false_iff_eq.mpr c16
     clear c16
     by_cases c17 : (t258 == t260) = true
     ·rw [if_pos c17] at H
      have c17b0 : (t258 == t260) = true := c17
      (try (have c17b1 : decide (t258 = t260) = true := by simpa using c17))
      (try (have c17b2 : (t258 == t260) = true := by simpa using c17))
      clear c17
      obtain rfl := Option.some.inj H
      go_wp2
      go_ret
      exact ⟨by first | rfl | (simp [errW_none, errW_some] <;> rfl) | (simp [*, errW_none, errW_some] <;> rfl), by repeat (first | (with_reducible first | exact HB.out | apply Be | apply Bc | apply Bd | refine below_set ?_ GE256.out) | exact HB.out)⟩
     rw [if_neg c17] at H
     have c17b0 : (t258 == t260) = false := by simpa using c17
     (try (have c17b1 : decide (t258 = t260) = false := by simpa using c17))
     (try (have c17b2 : (t258 == t260) = false := by simpa using c17))
     (try (have c17b3 : ¬ (t258 = t260) := by simpa using c17))
     clear c17
     obtain rfl := Option.some.inj H
     go_wp2
     go_ret
     exact ⟨by first | rfl | (simp [errW_none, errW_some] <;> rfl) | (simp [*, errW_none, errW_some] <;> rfl), by repeat (first | (with_reducible first | exact HB.out | apply Be | apply Bc | apply Bd | refine below_set ?_ GE256.out) | exact HB.out)⟩
    rw [if_neg c16] at H
    have c16b0 : (t257 == t259) = false := beq_eq_false_iff_ne.mpr c16
    have c16b1 : (t257 != t259) = true := bne_iff_ne.mpr c16
    obtain rfl := Option.some.inj H
    go_wp2
    go_ret
    exact ⟨by first | rfl | (simp [errW_none, errW_some] <;> rfl) | (simp [*, errW_none, errW_some] <;> rfl), by repeat (first | (with_reducible first | exact HB.out | apply Be | apply Bc | apply Bd | refine below_set ?_ GE256.out) | exact HB.out)⟩
   replace c15 := Bool.eq_false_iff.mpr c15
   subst c15
   have H1 : ((impl_DateOf.f kj5 t257 t255).bind fun bt261 => ((impl_SecondsOf.f kj5 t249 t250 t251 t252 t253 (wrap64 (t254 + 1)) t255).bind fun bt271 => (if bt261.2.2.2.2.2.2.2 = true then (if (bt261.1 == t249 && (bt261.2.1 == t250 && (bt261.2.2.1 == t251 && (bt261.2.2.2.1 == t252 && (bt261.2.2.2.2.1 == t253 && (bt261.2.2.2.2.2.1 == t254 && (bt261.2.2.2.2.2.2.1 == t255))))))) = true then (if bt271.2 = true then (some (bt271.1 == (wrap64 (t257 + 1)))) else (some true)) else (some false)) else (some false)))) = some r := by rw [if_neg (show ¬ (false = true) by decide)] at H; exact H
   clear H; have H := H1; clear H1; replace H := Option.bind_eq_some_iff.mp H
   obtain ⟨⟨t261, t262, t263, t264, t265, t266, t267, t268⟩, A180, H⟩ := H
   replace H : ((impl_SecondsOf.f kj5 t249 t250 t251 t252 t253 (wrap64 (t254 + 1)) t255).bind fun bt271 => (if t268 = true then (if (t261 == t249 && (t262 == t250 && (t263 == t251 && (t264 == t252 && (t265 == t253 && (t266 == t254 && (t267 == t255))))))) = true then (if bt271.2 = true then (some (bt271.1 == (wrap64 (t257 + 1)))) else (some true)) else (some false)) else (some false))) = some r := H
   have A18 := Aside0.mk A180; clear A180; replace H := Option.bind_eq_some_iff.mp H
   obtain ⟨⟨t271, t272⟩, A190, H⟩ := H
   replace H : (if t268 = true then (if (t261 == t249 && (t262 == t250 && (t263 == t251 && (t264 == t252 && (t265 == t253 && (t266 == t254 && (t267 == t255))))))) = true then (if t272 = true then (some (t271 == (wrap64 (t257 + 1)))) else (some true)) else (some false)) else (some false)) = some r := H
   have A19 := Aside0.mk A190; clear A190
   have HH := Aside0.mk H; clear H
   have ca0 : wc.cell? ⟨gb256, 0, none⟩ = some (.int .i64 t249) := (blk_cell BK256.out 0).trans rfl; have fa0 := blk_frozen BK256.out 0; have ca1 : wc.cell? ⟨gb256, 1, none⟩ = some (.int .i64 t250) := (blk_cell BK256.out 1).trans rfl; have fa1 := blk_frozen BK256.out 1; have ca2 : wc.cell? ⟨gb256, 2, none⟩ = some (.int .i64 t251) := (blk_cell BK256.out 2).trans rfl; have fa2 := blk_frozen BK256.out 2; have ca3 : wc.cell? ⟨gb256, 3, none⟩ = some (.int .i64 t252) := (blk_cell BK256.out 3).trans rfl; have fa3 := blk_frozen BK256.out 3; have ca4 : wc.cell? ⟨gb256, 4, none⟩ = some (.int .i64 t253) := (blk_cell BK256.out 4).trans rfl; have fa4 := blk_frozen BK256.out 4; have ca5 : wc.cell? ⟨gb256, 5, none⟩ = some (.int .i64 t254) := (blk_cell BK256.out 5).trans rfl; have fa5 := blk_frozen BK256.out 5; have ca6 : wc.cell? ⟨gb256, 6, none⟩ = some (.int .i64 t255) := (blk_cell BK256.out 6).trans rfl; have fa6 := blk_frozen BK256.out 6
   go_upto_region 9 with (first | ((with_reducible refine gate_callee (f := 7) rfl ?_); refine goesL_ (some 56) rfl rfl Try.func7 (by kernel_rfl) rfl #[.int .i64 t257, .int .i64 t255] rfl (by (try simp only [List.map_toArray, List.map_cons, List.map_nil]); first | done | rfl | (simp only [List.length_drop, List.length_take]; rfl)) ?_; (with_reducible refine (impl_DateOf.calls kj5 t257 t255 t261 t262 t263 t264 t265 t266 t267 t268 _ A18.out).mono ?_); rintro e w24 ⟨rfl, hb⟩; refine ⟨_, rfl, ?_⟩; have n0_ := Aside0.mk (blk_below (g := gb256) (o := .cells #[.int .i64 t249, .int .i64 t250, .int .i64 t251, .int .i64 t252, .int .i64 t253, .int .i64 t254, .int .i64 t255] 24 (0, 0)) (by (with_reducible repeat (first | refine blk_drewN ?_ _ | refine blk_drew ?_ | refine blk_alloc ?_ _)); exact BK256.out) hb); have nb_ := Aside0.mk (below_step (by repeat (first | (with_reducible first | exact HB.out | apply below_alloc | apply pw_below_drewN | apply below_drew1) | exact HB.out)) hb); clear hb HB BK256; have BK256 := n0_; clear n0_; have HB := nb_; clear nb_) | ((with_reducible refine gate_dst (N := 8) rfl ?_); refine box_event ?hg (N := 8) ?hd (cs := #[.int .i64 0, .int .i64 0, .int .i64 0, .int .i64 0, .int .i64 0, .int .i64 0, .int .i64 0]) (t := 24) ?hr ?_; (case hd => rfl); (case hg => rfl); (case hr => first | (go_simp; done) | (go_simp; rfl)); intro gb269 hg w25 hbox hb; have n0_ := Aside0.mk (blk_below (g := gb256) (o := .cells #[.int .i64 t249, .int .i64 t250, .int .i64 t251, .int .i64 t252, .int .i64 t253, .int .i64 t254, .int .i64 t255] 24 (0, 0)) (by (with_reducible repeat (first | refine blk_drewN ?_ _ | refine blk_drew ?_ | refine blk_alloc ?_ _)); exact BK256.out) hb); have m0_ := Aside0.mk ((by rw [hg]; exact Nat.ne_of_lt (blk_lt (g := gb256) (o := .cells #[.int .i64 t249, .int .i64 t250, .int .i64 t251, .int .i64 t252, .int .i64 t253, .int .i64 t254, .int .i64 t255] 24 (0, 0)) (by (with_reducible repeat (first | refine blk_drewN ?_ _ | refine blk_drew ?_ | refine blk_alloc ?_ _)); exact BK256.out))) : gb256 ≠ gb269); have nb_ := Aside0.mk (below_step (by repeat (first | (with_reducible first | exact HB.out | apply below_alloc | apply pw_below_drewN | apply below_drew1) | exact HB.out)) hb); have ge_ := Aside0.mk ((by rw [hg]; exact (below_size (by repeat (first | (with_reducible first | exact HB.out | apply below_alloc | apply pw_below_drewN | apply below_drew1) | exact HB.out)))) : w.heap.size ≤ gb269); have nx_ := Aside0.mk hbox; clear hb hbox hg; clear HB BK256; have BK256 := n0_; have NEgb256_gb269 := m0_; clear n0_ m0_; have HB := nb_; have GEgb269 := ge_; have BN := nx_; clear nb_ ge_ nx_; have czw250 : w25.cell? ⟨gb269, 0, none⟩ = some (.int .i64 0) := (blk_cell BN.out 0).trans rfl; have fzw250 := blk_frozen BN.out 0; have czw251 : w25.cell? ⟨gb269, 1, none⟩ = some (.int .i64 0) := (blk_cell BN.out 1).trans rfl; have fzw251 := blk_frozen BN.out 1; have czw252 : w25.cell? ⟨gb269, 2, none⟩ = some (.int .i64 0) := (blk_cell BN.out 2).trans rfl; have fzw252 := blk_frozen BN.out 2; have czw253 : w25.cell? ⟨gb269, 3, none⟩ = some (.int .i64 0) := (blk_cell BN.out 3).trans rfl; have fzw253 := blk_frozen BN.out 3; have czw254 : w25.cell? ⟨gb269, 4, none⟩ = some (.int .i64 0) := (blk_cell BN.out 4).trans rfl; have fzw254 := blk_frozen BN.out 4; have czw255 : w25.cell? ⟨gb269, 5, none⟩ = some (.int .i64 0) := (blk_cell BN.out 5).trans rfl; have fzw255 := blk_frozen BN.out 5; have czw256 : w25.cell? ⟨gb269, 6, none⟩ = some (.int .i64 0) := (blk_cell BN.out 6).trans rfl; have fzw256 := blk_frozen BN.out 6))
   clear ca0 fa0 ca1 fa1 ca2 fa2 ca3 fa3 ca4 fa4 ca5 fa5 ca6 fa6; clear czw250 fzw250 czw251 fzw251 czw252 fzw252 czw253 fzw253 czw254 fzw254 czw255 fzw255 czw256 fzw256
   obtain ⟨W8, hW8, p8, q8, r8⟩ := put7_ (v0 := .int .i64 t261) (v1 := .int .i64 t262) (v2 := .int .i64 t263) (v3 := .int .i64 t264) (v4 := .int .i64 t265) (v5 := .int .i64 t266) (v6 := .int .i64 t267) HB.out GEgb269.out BN.out
   rw [← hW8]
   have x_ := Aside0.mk (r8 _ _ _ NEgb256_gb269.out BK256.out); clear BK256 HB BN hW8 r8; have BK256 := x_; have BK269 := Aside0.mk p8; have HB := Aside0.mk q8; clear x_ p8 q8
   have cb0 : W8.cell? ⟨gb256, 0, none⟩ = some (.int .i64 t249) := (blk_cell BK256.out 0).trans rfl; have fb0 := blk_frozen BK256.out 0; have cb1 : W8.cell? ⟨gb256, 1, none⟩ = some (.int .i64 t250) := (blk_cell BK256.out 1).trans rfl; have fb1 := blk_frozen BK256.out 1; have cb2 : W8.cell? ⟨gb256, 2, none⟩ = some (.int .i64 t251) := (blk_cell BK256.out 2).trans rfl; have fb2 := blk_frozen BK256.out 2; have cb3 : W8.cell? ⟨gb256, 3, none⟩ = some (.int .i64 t252) := (blk_cell BK256.out 3).trans rfl; have fb3 := blk_frozen BK256.out 3; have cb4 : W8.cell? ⟨gb256, 4, none⟩ = some (.int .i64 t253) := (blk_cell BK256.out 4).trans rfl; have fb4 := blk_frozen BK256.out 4; have cb5 : W8.cell? ⟨gb256, 5, none⟩ = some (.int .i64 t254) := (blk_cell BK256.out 5).trans rfl; have fb5 := blk_frozen BK256.out 5; have cb6 : W8.cell? ⟨gb256, 6, none⟩ = some (.int .i64 t255) := (blk_cell BK256.out 6).trans rfl; have fb6 := blk_frozen BK256.out 6
   go_upto_region 10 with (first | ((with_reducible refine gate_dst (N := 10) rfl ?_); refine box_event ?hg (N := 10) ?hd (cs := #[.int .i64 0, .int .i64 0, .int .i64 0, .int .i64 0, .int .i64 0, .int .i64 0, .int .i64 0]) (t := 24) ?hr ?_; (case hd => rfl); (case hg => rfl); (case hr => first | (go_simp; done) | (go_simp; rfl)); intro gb270 hg w29 hbox hb; have n0_ := Aside0.mk (blk_below (g := gb256) (o := .cells #[.int .i64 t249, .int .i64 t250, .int .i64 t251, .int .i64 t252, .int .i64 t253, .int .i64 t254, .int .i64 t255] 24 (0, 0)) (by (with_reducible repeat (first | refine blk_drewN ?_ _ | refine blk_drew ?_ | refine blk_alloc ?_ _)); exact BK256.out) hb); have m0_ := Aside0.mk ((by rw [hg]; exact Nat.ne_of_lt (blk_lt (g := gb256) (o := .cells #[.int .i64 t249, .int .i64 t250, .int .i64 t251, .int .i64 t252, .int .i64 t253, .int .i64 t254, .int .i64 t255] 24 (0, 0)) (by (with_reducible repeat (first | refine blk_drewN ?_ _ | refine blk_drew ?_ | refine blk_alloc ?_ _)); exact BK256.out))) : gb256 ≠ gb270); have n1_ := Aside0.mk (blk_below (g := gb269) (o := .cells #[.int .i64 t261, .int .i64 t262, .int .i64 t263, .int .i64 t264, .int .i64 t265, .int .i64 t266, .int .i64 t267] 24 (0, 0)) (by (with_reducible repeat (first | refine blk_drewN ?_ _ | refine blk_drew ?_ | refine blk_alloc ?_ _)); exact BK269.out) hb); have m1_ := Aside0.mk ((by rw [hg]; exact Nat.ne_of_lt (blk_lt (g := gb269) (o := .cells #[.int .i64 t261, .int .i64 t262, .int .i64 t263, .int .i64 t264, .int .i64 t265, .int .i64 t266, .int .i64 t267] 24 (0, 0)) (by (with_reducible repeat (first | refine blk_drewN ?_ _ | refine blk_drew ?_ | refine blk_alloc ?_ _)); exact BK269.out))) : gb269 ≠ gb270); have nb_ := Aside0.mk (below_step (by repeat (first | (with_reducible first | exact HB.out | apply below_alloc | apply pw_below_drewN | apply below_drew1) | exact HB.out)) hb); have ge_ := Aside0.mk ((by rw [hg]; exact (below_size (by repeat (first | (with_reducible first | exact HB.out | apply below_alloc | apply pw_below_drewN | apply below_drew1) | exact HB.out)))) : w.heap.size ≤ gb270); have nx_ := Aside0.mk hbox; clear hb hbox hg; clear HB BK256 BK269; have BK256 := n0_; have NEgb256_gb270 := m0_; clear n0_ m0_; have BK269 := n1_; have NEgb269_gb270 := m1_; clear n1_ m1_; have HB := nb_; have GEgb270 := ge_; have BN := nx_; clear nb_ ge_ nx_; have czw290 : w29.cell? ⟨gb270, 0, none⟩ = some (.int .i64 0) := (blk_cell BN.out 0).trans rfl; have fzw290 := blk_frozen BN.out 0; have czw291 : w29.cell? ⟨gb270, 1, none⟩ = some (.int .i64 0) := (blk_cell BN.out 1).trans rfl; have fzw291 := blk_frozen BN.out 1; have czw292 : w29.cell? ⟨gb270, 2, none⟩ = some (.int .i64 0) := (blk_cell BN.out 2).trans rfl; have fzw292 := blk_frozen BN.out 2; have czw293 : w29.cell? ⟨gb270, 3, none⟩ = some (.int .i64 0) := (blk_cell BN.out 3).trans rfl; have fzw293 := blk_frozen BN.out 3; have czw294 : w29.cell? ⟨gb270, 4, none⟩ = some (.int .i64 0) := (blk_cell BN.out 4).trans rfl; have fzw294 := blk_frozen BN.out 4; have czw295 : w29.cell? ⟨gb270, 5, none⟩ = some (.int .i64 0) := (blk_cell BN.out 5).trans rfl; have fzw295 := blk_frozen BN.out 5; have czw296 : w29.cell? ⟨gb270, 6, none⟩ = some (.int .i64 0) := (blk_cell BN.out 6).trans rfl; have fzw296 := blk_frozen BN.out 6))
   clear cb0 fb0 cb1 fb1 cb2 fb2 cb3 fb3 cb4 fb4 cb5 fb5 cb6 fb6; clear czw290 fzw290 czw291 fzw291 czw292 fzw292 czw293 fzw293 czw294 fzw294 czw295 fzw295 czw296 fzw296
   obtain ⟨W9, hW9, p9, q9, r9⟩ := put7_ (v0 := .int .i64 t249) (v1 := .int .i64 t250) (v2 := .int .i64 t251) (v3 := .int .i64 t252) (v4 := .int .i64 t253) (v5 := .int .i64 t254) (v6 := .int .i64 t255) HB.out GEgb270.out BN.out
   rw [← hW9]
   have x_ := Aside0.mk (r9 _ _ _ NEgb256_gb270.out BK256.out); have y_ := Aside0.mk (r9 _ _ _ NEgb269_gb270.out BK269.out); clear BK256 BK269 HB BN hW9 r9; have BK256 := x_; have BK269 := y_; have BK270 := Aside0.mk p9; have HB := Aside0.mk q9; clear x_ y_ p9 q9
   have c5 : W9.cell? ⟨gb256, 5, none⟩ = some (.int .i64 t254) := (blk_cell BK256.out 5).trans rfl; have c6 : W9.cell? ⟨gb270, 5, none⟩ = some (.int .i64 t254) := (blk_cell BK270.out 5).trans rfl; have f6 := blk_frozen BK270.out 5
   go_upto_region 11 with (fail)
   clear c5 c6 f6
   obtain ⟨WA, hWA, pA, qA, rA⟩ := put1_ (v := .int .i64 (wrap64 (t254 + 1))) HB.out GEgb270.out BK270.out
   rw [← hWA]
   have x_ := Aside0.mk (rA _ _ _ NEgb256_gb270.out BK256.out); have y_ := Aside0.mk (rA _ _ _ NEgb269_gb270.out BK269.out); clear BK256 BK269 BK270 HB hWA rA; have BK256 := x_; have BK269 := y_; have BK270 := Aside0.mk pA; have HB := Aside0.mk qA; clear x_ y_ pA qA
   have cx0 : WA.cell? ⟨gb270, 0, none⟩ = some (.int .i64 t249) := (blk_cell BK270.out 0).trans rfl; have fx0 := blk_frozen BK270.out 0; have cx1 : WA.cell? ⟨gb270, 1, none⟩ = some (.int .i64 t250) := (blk_cell BK270.out 1).trans rfl; have fx1 := blk_frozen BK270.out 1; have cx2 : WA.cell? ⟨gb270, 2, none⟩ = some (.int .i64 t251) := (blk_cell BK270.out 2).trans rfl; have fx2 := blk_frozen BK270.out 2; have cx3 : WA.cell? ⟨gb270, 3, none⟩ = some (.int .i64 t252) := (blk_cell BK270.out 3).trans rfl; have fx3 := blk_frozen BK270.out 3; have cx4 : WA.cell? ⟨gb270, 4, none⟩ = some (.int .i64 t253) := (blk_cell BK270.out 4).trans rfl; have fx4 := blk_frozen BK270.out 4; have cx5 : WA.cell? ⟨gb270, 5, none⟩ = some (.int .i64 (wrap64 (t254 + 1))) := (blk_cell BK270.out 5).trans rfl; have fx5 := blk_frozen BK270.out 5; have cx6 : WA.cell? ⟨gb270, 6, none⟩ = some (.int .i64 t255) := (blk_cell BK270.out 6).trans rfl; have fx6 := blk_frozen BK270.out 6
   go_upto_region 12 with (first | ((with_reducible refine gate_callee (f := 5) rfl ?_); refine goesL_ (some 66) rfl rfl Try.func5 (by kernel_rfl) rfl #[.agg #[.int .i64 t249, .int .i64 t250, .int .i64 t251, .int .i64 t252, .int .i64 t253, .int .i64 (wrap64 (t254 + 1)), .int .i64 t255]] rfl (by (try simp only [List.map_toArray, List.map_cons, List.map_nil]); first | done | rfl | (simp only [List.length_drop, List.length_take]; rfl)) ?_; (with_reducible refine (impl_SecondsOf.calls kj5 t249 t250 t251 t252 t253 (wrap64 (t254 + 1)) t255 t271 t272 _ A19.out).mono ?_); rintro e w34 ⟨rfl, hb⟩; refine ⟨_, rfl, ?_⟩; have n0_ := Aside0.mk (blk_below (g := gb256) (o := .cells #[.int .i64 t249, .int .i64 t250, .int .i64 t251, .int .i64 t252, .int .i64 t253, .int .i64 t254, .int .i64 t255] 24 (0, 0)) (by (with_reducible repeat (first | refine blk_drewN ?_ _ | refine blk_drew ?_ | refine blk_alloc ?_ _)); exact BK256.out) hb); have n1_ := Aside0.mk (blk_below (g := gb269) (o := .cells #[.int .i64 t261, .int .i64 t262, .int .i64 t263, .int .i64 t264, .int .i64 t265, .int .i64 t266, .int .i64 t267] 24 (0, 0)) (by (with_reducible repeat (first | refine blk_drewN ?_ _ | refine blk_drew ?_ | refine blk_alloc ?_ _)); exact BK269.out) hb); have n2_ := Aside0.mk (blk_below (g := gb270) (o := .cells #[.int .i64 t249, .int .i64 t250, .int .i64 t251, .int .i64 t252, .int .i64 t253, .int .i64 (wrap64 (t254 + 1)), .int .i64 t255] 24 (0, 0)) (by (with_reducible repeat (first | refine blk_drewN ?_ _ | refine blk_drew ?_ | refine blk_alloc ?_ _)); exact BK270.out) hb); have nb_ := Aside0.mk (below_step (by repeat (first | (with_reducible first | exact HB.out | apply below_alloc | apply pw_below_drewN | apply below_drew1) | exact HB.out)) hb); clear hb HB BK256 BK269 BK270; have BK256 := n0_; clear n0_; have BK269 := n1_; clear n1_; have BK270 := n2_; clear n2_; have HB := nb_; clear nb_))
   clear cx0 fx0 cx1 fx1 cx2 fx2 cx3 fx3 cx4 fx4 cx5 fx5 cx6 fx6; clear BK270
   have cd0 : w34.cell? ⟨gb256, 0, none⟩ = some (.int .i64 t249) := (blk_cell BK256.out 0).trans rfl; have fd0 := blk_frozen BK256.out 0; have cd1 : w34.cell? ⟨gb256, 1, none⟩ = some (.int .i64 t250) := (blk_cell BK256.out 1).trans rfl; have fd1 := blk_frozen BK256.out 1; have cd2 : w34.cell? ⟨gb256, 2, none⟩ = some (.int .i64 t251) := (blk_cell BK256.out 2).trans rfl; have fd2 := blk_frozen BK256.out 2; have cd3 : w34.cell? ⟨gb256, 3, none⟩ = some (.int .i64 t252) := (blk_cell BK256.out 3).trans rfl; have fd3 := blk_frozen BK256.out 3; have cd4 : w34.cell? ⟨gb256, 4, none⟩ = some (.int .i64 t253) := (blk_cell BK256.out 4).trans rfl; have fd4 := blk_frozen BK256.out 4; have cd5 : w34.cell? ⟨gb256, 5, none⟩ = some (.int .i64 t254) := (blk_cell BK256.out 5).trans rfl; have fd5 := blk_frozen BK256.out 5; have cd6 : w34.cell? ⟨gb256, 6, none⟩ = some (.int .i64 t255) := (blk_cell BK256.out 6).trans rfl; have fd6 := blk_frozen BK256.out 6
   have ce0 : w34.cell? ⟨gb269, 0, none⟩ = some (.int .i64 t261) := (blk_cell BK269.out 0).trans rfl; have fe0 := blk_frozen BK269.out 0; have ce1 : w34.cell? ⟨gb269, 1, none⟩ = some (.int .i64 t262) := (blk_cell BK269.out 1).trans rfl; have fe1 := blk_frozen BK269.out 1; have ce2 : w34.cell? ⟨gb269, 2, none⟩ = some (.int .i64 t263) := (blk_cell BK269.out 2).trans rfl; have fe2 := blk_frozen BK269.out 2; have ce3 : w34.cell? ⟨gb269, 3, none⟩ = some (.int .i64 t264) := (blk_cell BK269.out 3).trans rfl; have fe3 := blk_frozen BK269.out 3; have ce4 : w34.cell? ⟨gb269, 4, none⟩ = some (.int .i64 t265) := (blk_cell BK269.out 4).trans rfl; have fe4 := blk_frozen BK269.out 4; have ce5 : w34.cell? ⟨gb269, 5, none⟩ = some (.int .i64 t266) := (blk_cell BK269.out 5).trans rfl; have fe5 := blk_frozen BK269.out 5; have ce6 : w34.cell? ⟨gb269, 6, none⟩ = some (.int .i64 t267) := (blk_cell BK269.out 6).trans rfl; have fe6 := blk_frozen BK269.out 6
   have H := HH.out; clear HH
   cases t268 with
   | false =>
    rw [if_neg (show ¬ (false = true) by decide)] at H
    obtain rfl := Option.some.inj H
    clear cd0 fd0 cd1 fd1 cd2 fd2 cd3 fd3 cd4 fd4 cd5 fd5 cd6 fd6; clear ce0 fe0 ce1 fe1 ce2 fe2 ce3 fe3 ce4 fe4 ce5 fe5 ce6 fe6
    go_wp2
    go_ret
    exact ⟨by first | rfl | (simp [errW_none, errW_some] <;> rfl) | (simp [*, errW_none, errW_some] <;> rfl), (by repeat (first | (with_reducible first | exact HB.out | apply below_alloc | apply pw_below_drewN | apply below_drew1) | exact HB.out))⟩
   | true =>
    rw [if_pos rfl] at H
    by_cases c21 : (t261 == t249 && (t262 == t250 && (t263 == t251 && (t264 == t252 && (t265 == t253 && (t266 == t254 && (t267 == t255))))))) = true
    · rw [if_pos c21] at H
      cases t272 with
      | false =>
       rw [if_neg (show ¬ (false = true) by decide)] at H
       obtain rfl := Option.some.inj H
       go_wp2
       go_ret
       exact ⟨by first | rfl | (simp [errW_none, errW_some] <;> rfl) | (simp [*, errW_none, errW_some] <;> rfl), (by repeat (first | (with_reducible first | exact HB.out | apply below_alloc | apply pw_below_drewN | apply below_drew1) | exact HB.out))⟩
      | true =>
       rw [if_pos rfl] at H
       obtain rfl := Option.some.inj H
       go_wp2
       go_ret
       exact ⟨by first | rfl | (simp [errW_none, errW_some] <;> rfl) | (simp [*, errW_none, errW_some] <;> rfl), (by repeat (first | (with_reducible first | exact HB.out | apply below_alloc | apply pw_below_drewN | apply below_drew1) | exact HB.out))⟩
    · rw [if_neg c21] at H
      have c22 : (t261 == t249 && (t262 == t250 && (t263 == t251 && (t264 == t252 && (t265 == t253 && (t266 == t254 && (t267 == t255))))))) = false := by simpa using c21
      clear c21
      obtain rfl := Option.some.inj H
      go_wp2
      go_ret
      exact ⟨by first | rfl | (simp [errW_none, errW_some] <;> rfl) | (simp [*, errW_none, errW_some] <;> rfl), (by repeat (first | (with_reducible first | exact HB.out | apply below_alloc | apply pw_below_drewN | apply below_drew1) | exact HB.out))⟩

/-- THE ONE PURE STATEMENT of laws_FnSecondsOf: yours. -/
def laws_FnSecondsOf.Pure : Prop := ∀ (l0 : List Int), l0.length ≤ maxLen → l0.length * 1 ≤ 140737488351232 → (∀ x ∈ l0, (Lit.int .u8 x).wf = true) → ∃ k, laws_FnSecondsOf.f k l0 = some true
theorem laws_FnSecondsOf.walk (P : laws_FnSecondsOf.Pure) (a0 : Option Addr) (len0 cap0 : Nat) (z0 : List Int) (w : World) (w0 : (a0 = none ∧ len0 = 0 ∧ cap0 = 0 ∧ z0 = []) ∨ ∃ x, a0 = some x ∧ len0 ≤ cap0 ∧ cap0 ≤ maxLen ∧ z0.length = cap0 ∧ (∀ i, i < z0.length → w.cell? (x.add i) = some (.int .u8 (z0.getD i 0))) ∧ ∀ n ∈ z0, (Lit.int .u8 n).wf = true) (y0 : len0 * 1 ≤ 140737488351232) :
  Calls Try.prog 3 #[.slice a0 len0 cap0] w fun e w' => e = .returned (.bool true) ∧ Below w.heap.size w w' := by
 obtain ⟨l0, rfl, hr0, hm0, hw0, hc0⟩ := ReadsInt.ofRowC w0
 obtain ⟨k, h⟩ := P l0 hm0 y0 hw0
 refine (laws_FnSecondsOf.calls k _ _ l0 true w (Kd.C_of_reads (d := (0 : Int)) (h1 := fun _ => rfl) hr0) hc0 h).mono ?_
 rintro e w' ⟨rfl, hd⟩
 exact ⟨rfl, hd⟩

end Go.Proofs.Ythmdblcgiljhpaa.PFnSecondsOf
