/- Layer 3: the law on pruning, walked. -/
import Derived.Test.YtjfeeiljinbmjaaCau7
import Derived.Test.YtjfeeiljinbmjaaPruned
set_option linter.unusedVariables false
set_option linter.unusedSimpArgs false
set_option maxRecDepth 100000
namespace Go.Proofs.Ytjfeeiljinbmjaa
open Go.Fw Go.Proofs Go.RowKit

theorem c6 (w0 : World) (v1 v2 : Value) (l d : List Dot) (p q x y z : Int) (h : Sl Dot.enc 3 w0 w0.heap.size v1 l) (h' : Sl Dot.enc 3 w0 w0.heap.size v2 d) (hn : l.length ≤ 1900000) (hn' : d.length ≤ 1900000) :
    Calls Try.prog 6 #[v1, v2, .agg #[.int .i64 p, .int .i64 q], .agg #[.int .i64 x, .int .i64 y, .int .i64 z]] w0 fun e w' => e = .returned (.bool true) ∧ Bel w0.heap.size w0 w' := by
  obtain ⟨hN1, hN2, hN3, hN4⟩ := normalL_facts l d
  have hN5 : (normalL l d).1.marks.length ≤ 1048576 := by omega
  have hN6 : (normalL l d).1.cloud.length ≤ 1048576 := by omega
  have hnf := normalL_nf l d
  have hpn := prune_nf hnf p q
  have hm1 : ∀ x ∈ (normalL l d).1.marks, mayD x = true := hnf.mayM
  have hm2 : ∀ x ∈ keep p q (normalL l d).1.marks, mayD x = true := hpn.mayM
  refine enter4 Try.func6 rfl Try.ntmps6 rfl fun a S => ?_
  refine wp_seq_k fun _ hK1 => ?_
  refine wp_region_lit ?_
  (refine st_m (op_box S (Ev.t rfl) rfl ?_); clear S a; intro g1 a w S)
  (refine st_m (op_box S (Ev.t rfl) rfl ?_); clear S a w; intro g2 a w S)
  (refine st_y S (Yr.ys (ys_assign Ev.c)) rfl ?_; clear S a w; intro a w S)
  refine st_nil ?_
  (refine (then_normal (hK1 _ _ ?_)); clear hK1)
  refine wp_seq_k fun _ hK1 => ?_
  refine wp_region_lit ?_
  (refine st_y S (Yr.ys (ys_move (Ev.t rfl))) rfl ?_; clear S a w; intro a w S)
  (refine st_y S (Yr.ys (ys_move (Ev.t rfl))) rfl ?_; clear S a w; intro a w S)
  (refine st_m (op_calls S Try.call19 (EvL.cons (Ev.t rfl) (EvL.cons (Ev.t rfl) EvL.nil)) (c19 _ _ _ _ _ (by exact .old S.wd (by assumption)) (by exact .old S.wd (by assumption)) (by assumption) (by assumption)) rfl ?_); clear S a w; rintro _ _ ⟨A11, c11, A21, c29, rfl, rfl⟩ a w S)
  (refine st_m (op_alloc S Try.zeroValue36 (cs := _) rfl rfl ?_); clear S a w; intro g3 a w S)
  (refine st_m (op_stW S Try.sizeOf36 (Ev.t rfl) (Ev.t rfl) (k := 0) rfl rfl rfl (by simp [Value.oneCell']) ?_); clear S a w; intro a w S)
  refine st_nil ?_
  (refine (then_normal (hK1 _ _ ?_)); clear hK1)
  refine wp_seq_k fun _ hK1 => ?_
  refine wp_region_lit ?_
  (refine st_y S (Yr.ys (ys_ldA ⟨Try.isAgg36, Try.sizeOf36⟩ (Ev.t rfl) (k := 0) rfl rfl)) rfl ?_; clear S a w; intro a w S)
  (refine st_y S (Yr.ys (ys_ldA ⟨Try.isAgg34, Try.sizeOf34⟩ (Ev.t rfl) (k := 4) rfl rfl)) rfl ?_; clear S a w; intro a w S)
  (refine st_m (op_calls S Try.call27 (EvL.cons (Ev.t rfl) (EvL.cons (Ev.t rfl) EvL.nil)) (c27 _ _ _ _ _ _ (by exact ⟨(by exact Sl.of_own S.wd (k := 1) rfl (fun _ => rfl)), (by exact Sl.of_own S.wd (k := 2) rfl (fun _ => rfl))⟩) (by assumption) (by assumption)) rfl ?_); clear S a w; rintro _ _ ⟨A12, c12, A22, c210, rfl, rfl⟩ a w S)
  (refine st_m (op_alloc S Try.zeroValue36 (cs := _) rfl rfl ?_); clear S a w; intro g4 a w S)
  (refine st_m (op_stW S Try.sizeOf36 (Ev.t rfl) (Ev.t rfl) (k := 0) rfl rfl rfl (by simp [Value.oneCell']) ?_); clear S a w; intro a w S)
  refine st_nil ?_
  (refine (then_normal (hK1 _ _ ?_)); clear hK1)
  refine wp_seq_k fun _ hK1 => ?_
  refine wp_region_lit ?_
  (refine st_y S (Yr.ys (ys_fieldN (FieldT.mk Try.underlying32 rfl Try.sizeOf3 rfl) (Ev.t rfl) (i' := 0) rfl)) rfl ?_; clear S a w; intro a w S)
  (refine st_y S (Yr.ys (ys_ld ⟨Try.isAgg3, Try.sizeOf3⟩ (Ev.t rfl) (k := 6) rfl rfl)) rfl ?_; clear S a w; intro a w S)
  (refine st_y S (Yr.ys (ys_fieldN (FieldT.mk Try.underlying34 rfl Try.sizeOf3 rfl) (Ev.t rfl) (i' := 0) rfl)) rfl ?_; clear S a w; intro a w S)
  (refine st_y S (Yr.ys (ys_ld ⟨Try.isAgg3, Try.sizeOf3⟩ (Ev.t rfl) (k := 7) rfl rfl)) rfl ?_; clear S a w; intro a w S)
  (refine st_y S (Yr.ys (ys_eql (Ev.t rfl) (Ev.t rfl))) rfl ?_; clear S a w; intro a w S)
  (refine st_y S (Yr.ys (ys_move (Ev.t rfl))) rfl ?_; clear S a w; intro a w S)
  (refine st_yg S rfl rfl (Yr.ys (ys_fieldN (FieldT.mk Try.underlying32 rfl Try.sizeOf3 rfl) (Ev.t rfl) (i' := 1) rfl)) rfl ?_; clear S a w; intro a w S)
  (refine st_yg S rfl rfl (Yr.ys (ys_ld ⟨Try.isAgg3, Try.sizeOf3⟩ (Ev.g rfl) (k := 6) rfl rfl)) rfl ?_; clear S a w; intro a w S)
  (refine st_yg S rfl rfl (Yr.ys (ys_fieldN (FieldT.mk Try.underlying34 rfl Try.sizeOf3 rfl) (Ev.t rfl) (i' := 1) rfl)) rfl ?_; clear S a w; intro a w S)
  (refine st_yg S rfl rfl (Yr.ys (ys_ld ⟨Try.isAgg3, Try.sizeOf3⟩ (Ev.g rfl) (k := 7) rfl rfl)) rfl ?_; clear S a w; intro a w S)
  (refine st_yg S rfl rfl (Yr.ys (ys_eql (Ev.g rfl) (Ev.g rfl))) rfl ?_; clear S a w; intro a w S)
  (refine st_y S (Yr.ys (ys_and (Ev.t rfl) (Ev.g rfl) Ev.c)) rfl ?_; clear S a w; intro a w S)
  (refine st_y S (Yr.ys (ys_assign (Ev.t rfl))) rfl ?_; clear S a w; intro a w S)
  refine st_nil ?_
  (refine (then_normal (hK1 _ _ ?_)); clear hK1)
  refine wp_seq_k fun _ hK1 => ?_
  (refine st_quiet S (by kernel_rfl) (by kernel_rfl) ?_; clear S w; intro a S)
  (refine q_y S (Yr.ys (ys_ldA ⟨Try.isAgg36, Try.sizeOf36⟩ (Ev.t rfl) (k := 0) rfl rfl)) rfl ?_; clear S a; intro a S)
  (refine q_y S (ys_call Try.call32 (EvL.cons (Ev.t rfl) EvL.nil) (fun hp w W => c32 _ _ _ _ (by exact RdCtx.mk' (by exact Sl.of_own W (k := 2) rfl (fun _ => rfl)) (by exact Sl.of_own W (k := 1) rfl (fun _ => rfl))))) rfl ?_; clear S a; intro a S)
  (refine q_y S (Yr.ys (ys_move (Ev.t rfl))) rfl ?_; clear S a; intro a S)
  (refine q_yg S rfl rfl (Yr.ys (ys_ldA ⟨Try.isAgg36, Try.sizeOf36⟩ (Ev.t rfl) (k := 0) rfl rfl)) rfl ?_; clear S a; intro a S)
  (refine q_yg S rfl rfl (Yr.ys (ys_ldA ⟨Try.isAgg34, Try.sizeOf34⟩ (Ev.t rfl) (k := 7) rfl rfl)) rfl ?_; clear S a; intro a S)
  (refine q_yg S rfl rfl (ys_call Try.call22 (EvL.cons (Ev.g rfl) (EvL.cons (Ev.g rfl) EvL.nil)) (fun hp w W => c22 _ _ _ _ _ _ (by exact RdCtx.mk' (by exact Sl.of_own W (k := 2) rfl (fun _ => rfl)) (by exact Sl.of_own W (k := 1) rfl (fun _ => rfl))))) rfl ?_; clear S a; intro a S)
  (refine q_yg S rfl rfl (Yr.ys (ys_eql (Ev.g rfl) Ev.c)) rfl ?_; clear S a; intro a S)
  (refine q_y S (Yr.ys (ys_and (Ev.t rfl) (Ev.g rfl) Ev.c)) rfl ?_; clear S a; intro a S)
  (refine q_y S (Yr.ys (ys_move (Ev.t rfl))) rfl ?_; clear S a; intro a S)
  (refine q_yg S rfl rfl (Yr.ys (ys_ldA ⟨Try.isAgg36, Try.sizeOf36⟩ (Ev.t rfl) (k := 0) rfl rfl)) rfl ?_; clear S a; intro a S)
  (refine q_yg S rfl rfl (Yr.ys (ys_ldA ⟨Try.isAgg36, Try.sizeOf36⟩ (Ev.t rfl) (k := 3) rfl rfl)) rfl ?_; clear S a; intro a S)
  (refine q_yg S rfl rfl (ys_call Try.call33 (EvL.cons (Ev.g rfl) (EvL.cons (Ev.g rfl) EvL.nil)) (fun hp w W => c33 _ _ _ _ _ _ _ (by exact RdCtx.mk' (by exact Sl.of_own W (k := 2) rfl (fun _ => rfl)) (by exact Sl.of_own W (k := 1) rfl (fun _ => rfl))) (by exact ⟨(by exact Sl.of_own W (k := 4) rfl (fun _ => rfl)), (by exact Sl.of_own W (k := 5) rfl (fun _ => rfl))⟩) (by assumption) (by assumption))) rfl ?_; clear S a; intro a S)
  (refine q_y S (Yr.ys (ys_and (Ev.t rfl) (Ev.g rfl) Ev.c)) rfl ?_; clear S a; intro a S)
  (refine q_y S (Yr.ys (ys_move (Ev.t rfl))) rfl ?_; clear S a; intro a S)
  (refine q_yg S rfl rfl (Yr.ys (ys_ldA ⟨Try.isAgg36, Try.sizeOf36⟩ (Ev.t rfl) (k := 0) rfl rfl)) rfl ?_; clear S a; intro a S)
  (refine q_yg S rfl rfl (Yr.ys (ys_ldA ⟨Try.isAgg32, Try.sizeOf32⟩ (Ev.t rfl) (k := 6) rfl rfl)) rfl ?_; clear S a; intro a S)
  (refine q_yg S rfl rfl (ys_call Try.call20 (EvL.cons (Ev.g rfl) (EvL.cons (Ev.g rfl) EvL.nil)) (fun hp w W => c20 _ _ _ _ _ _ _ (by exact RdCtx.mk' (by exact Sl.of_own W (k := 2) rfl (fun _ => rfl)) (by exact Sl.of_own W (k := 1) rfl (fun _ => rfl))))) rfl ?_; clear S a; intro a S)
  (refine q_yg S rfl rfl (Yr.ys (ys_ldA ⟨Try.isAgg36, Try.sizeOf36⟩ (Ev.t rfl) (k := 3) rfl rfl)) rfl ?_; clear S a; intro a S)
  (refine q_yg S rfl rfl (Yr.ys (ys_ldA ⟨Try.isAgg32, Try.sizeOf32⟩ (Ev.t rfl) (k := 6) rfl rfl)) rfl ?_; clear S a; intro a S)
  (refine q_yg S rfl rfl (ys_call Try.call20 (EvL.cons (Ev.g rfl) (EvL.cons (Ev.g rfl) EvL.nil)) (fun hp w W => c20 _ _ _ _ _ _ _ (by exact ⟨(by exact Sl.of_own W (k := 4) rfl (fun _ => rfl)), (by exact Sl.of_own W (k := 5) rfl (fun _ => rfl))⟩))) rfl ?_; clear S a; intro a S)
  (refine q_yg S rfl rfl (Yr.ys (ys_move (Ev.g rfl))) rfl ?_; clear S a; intro a S)
  (refine q_yg2 S rfl rfl (Yr.ys (ys_move (Ev.t rfl))) rfl ?_; clear S a; intro a S)
  (refine q_yg2 S rfl rfl (Yr.ys (ys_not (Ev.g rfl))) rfl ?_; clear S a; intro a S)
  (refine q_yg S rfl rfl (Yr.ys (ys_and2 (Ev.g rfl) (Ev.g rfl) Ev.c)) rfl ?_; clear S a; intro a S)
  (refine q_yg S rfl rfl (Yr.ys (ys_eqlB Try.underlying4 (Ev.g rfl) (Ev.g rfl))) rfl ?_; clear S a; intro a S)
  (refine q_y S (Yr.ys (ys_and (Ev.t rfl) (Ev.g rfl) Ev.c)) rfl ?_; clear S a; intro a S)
  (refine q_y S (Yr.ys (ys_assign (Ev.t rfl))) rfl ?_; clear S a; intro a S)
  (refine q_nil ?_; intro w W; replace S := St.mk S W; clear W)
  (refine (then_normal (hK1 _ _ ?_)); clear hK1)
  refine wp_ret ?_
  refine st_ret S (results1 S Try.results6 (Rv.tmp rfl)) ?_
  refine ⟨?_, S.wd.below⟩
  have e1 := prune_can hnf hN3 hN4 p q
  have e2 := prune_top (normalL l d).1 p q
  have e3 := prune_leq hnf p q
  have e4 := prune_covers (C := (normalL l d).1) p q ⟨x, y, z⟩
  unfold Ctx.prune at e1 e2 e3 e4
  simp [e1, e2, e3, e4]
end Go.Proofs.Ytjfeeiljinbmjaa
