/- Contracts and laws that the statement Orp leans on, part 5. -/
import Derived.Test.YtfblmkocmnbdcaaOrpK4
set_option linter.unusedVariables false
set_option linter.unusedSimpArgs false
set_option maxRecDepth 100000
set_option maxHeartbeats 4000000
namespace Go.Fw
open Go.Proofs Go.RowKit
section
variable {P : Program} {n : Nat} {w0 : World} {K : KL} {L : List Chunk} {a : Act} {w : World} {Q : Exit → Act → World → Prop}
theorem loopM_round {lp m : Nat} {c : Code} {X : Type} (S : St n w0 K L a w) (ms : List Nat) (KX : X → KL) (LX : X → List Chunk) (φ : X → Prop) (μ : X → Nat) (x0 : X) (h0 : φ x0)
    (hK : Fits [] K (KX x0 ++ dropK ms K)) (hL : Picks L (LX x0))
    (round : ∀ x a w, φ x → St n w0 (KX x ++ dropK ms K) (LX x) a w → c.wpIn (Fence.wide.inRound lp) m P (Exit.then (fun a' w' => ∃ x', φ x' ∧ μ x' < μ x ∧ St n w0 (KX x' ++ dropK ms K) (LX x') a' w') Q) a w) : (Code.loop c).wpIn (Fence.wide.inRound lp) m P Q a w :=
  loop_round (fun x a w => φ x ∧ St n w0 (KX x ++ dropK ms K) (LX x) a w) μ x0 ⟨h0, S.picks hK hL⟩ fun x a w ⟨h1, h2⟩ =>
    wpIn_mono (round x a w h1 h2) fun e a w h => by
      cases e with
      | normal => obtain ⟨x', h3, h4, h5⟩ := h; exact ⟨x', ⟨h3, h5⟩, h4⟩
      | _ => exact h
theorem h_beginR0 {lp m id : Nat} {ops : Array Oper} (S : St n w0 K L a w) (hm : P.follows .mixedOrders = true) (hnd : ops.all noDefer = true) (hlo : ¬ LetsOut Q)
    (h : ∀ a w, St n w0 K L a w → wpAnyH P .any ops Q (Wd w0 L) ops.size (Array.replicate ops.size false) a w) : (Code.region id ops true).wpIn (Fence.wide.inRound lp) m P Q a w :=
  drawn_round hm hnd hlo (h _ _ ⟨S.kn, S.wd.drew⟩)
theorem h_beginR {lp m id : Nat} {ops : Array Oper} (S : St n w0 K L a w) (hm : P.follows .mixedOrders = true) (hnd : ops.all noDefer = true) (hlo : ¬ LetsOut Q) (k : Nat)
    (h : ∀ a w, St n w0 K L a w → wpAnyH P .any ops Q (Wd w0 (L.eraseIdx k)) ops.size (Array.replicate ops.size false) a w) : (Code.region id ops true).wpIn (Fence.wide.inRound lp) m P Q a w :=
  drawn_round hm hnd hlo (h _ _ ⟨S.kn, S.wd.drew⟩)
theorem yields2A {lp D : Nat} {fn : FuncId} {p q p' q' i1 i2 : Nat} {t1 t2 : TypeId} {s1 s2 : String} {f1 f2 : Array Edge} {u v : Value} {body : Code} {R : World → Prop} {m : Nat}
    (hk : Kn n K a) (W : Wd w0 (loopK lp D (recR .ready fn a.tmps #[p, q] ((Code.region i1 [⟨some p', .assign (.tmp p), t1, s1, f1, none⟩].toArray false).seq (Code.region i2 [⟨some q', .assign (.tmp q), t2, s2, f2, none⟩].toArray false)) body D) L) w)
    (hp : Nat.blt p n = true) (hq : Nat.blt q n = true) (hp' : Nat.blt p' n = true) (hq' : Nat.blt q' n = true)
    (e1 : look ((q, true, v) :: (p, true, u) :: K) p = some (true, u)) (e2 : look ((p', true, u) :: (q, true, v) :: (p, true, u) :: K) q = some (true, v))
    (h : ∀ RB b w1, RB = Obj.loop (recR .busy fn a.tmps #[p, q] ((Code.region i1 [⟨some p', .assign (.tmp p), t1, s1, f1, none⟩].toArray false).seq (Code.region i2 [⟨some q', .assign (.tmp q), t2, s2, f2, none⟩].toArray false)) body D) → St n w0 ((q', true, v) :: (p', true, u) :: (q, true, v) :: (p, true, u) :: K) (.blk lp RB :: .blk D (.deferred (some [])) :: L) b w1 → body.wpIn (Fence.wide.inRound lp) m P (fun e _ w' => e = .normal ∧ w'.heap[lp]? = some RB ∧ R (w'.putObj lp (.loop (recR .ready fn a.tmps #[p, q] ((Code.region i1 [⟨some p', .assign (.tmp p), t1, s1, f1, none⟩].toArray false).seq (Code.region i2 [⟨some q', .assign (.tmp q), t2, s2, f2, none⟩].toArray false)) body D)))) b w1) :
    Yielded m P lp [u, v].toArray w fun e w' => e = .returned (.bool true) ∧ R w' := by
  have hl := (W.get (k := 0) rfl).2
  have hy := run_yield (P := P) (args := [u, v].toArray) hl rfl
  refine ⟨_, _, _, _, hy, roundIn_of_wpIn trivial ?_⟩
  have S : St n w0 ((q, true, v) :: (p, true, u) :: K) (loopK lp D _ L) _ w := ⟨kn_round2 hk hp hq, W⟩
  refine wpIn_seq (region_round (by simp [noDefer]) (lets_then fun ⟨_, _, h⟩ => h) (st_m (op_y S (Yr.ys (ys_assign (v := u) (Ev.t e1))) hp' ?_)))
  clear S
  intro a1 w1 S
  refine region_round (by simp [noDefer]) (lets_then fun ⟨_, _, h⟩ => h) (st_m (op_y S (Yr.ys (ys_assign (v := v) (Ev.t e2))) hq' ?_))
  clear S
  intro a1 w1 S
  have hl1 := (S.wd.get (k := 0) rfl).2
  refine ⟨_, run_beginRound hl1 rfl, ?_⟩
  refine wpIn_mono (h _ _ _ rfl ⟨S.kn, S.wd.setBlk (k := 0) rfl⟩) fun e a w' ⟨he, hl', hR⟩ => ?_
  subst he
  exact ⟨_, _, run_endRound none hl', rfl, hR⟩
end
theorem best_price {e : Ent} {r : List Ent} (h : ∀ x ∈ e :: r, priceB x.price = true) : ∀ k, priceB ((r.take k).foldl bestF ⟨e.item, e.qty, e.price⟩).price = true
  | 0 => h e (by simp)
  | k + 1 => by
    have ih := best_price h k
    rw [List.take_add_one]
    cases hx : r[k]? with
    | none => simpa using ih
    | some x =>
      rw [Option.toList_some, List.foldl_append, List.foldl_cons, List.foldl_nil]
      unfold bestF
      split
      · exact h x (List.mem_cons_of_mem _ (List.mem_of_getElem? hx))
      · exact ih
theorem runs_mem {g : List Ent} {x : Ent} : ∀ (n : Nat) (l : List Ent), l.length ≤ n → g ∈ runsL l → x ∈ g → x ∈ l
  | _, [], _, h, _ => by rw [runs_nil] at h; cases h
  | 0, _ :: _, h0, _, _ => by simp at h0
  | n + 1, e :: r, h0, h, hx => by
    rw [runs_cons] at h
    rcases List.mem_cons.1 h with rfl | h
    · rcases List.mem_cons.1 hx with rfl | hx
      · simp
      · exact List.mem_cons_of_mem _ ((List.takeWhile_sublist _).subset hx)
    · have h1 : (r.drop (runOf e.item r).length).length ≤ n := by simp at h0 ⊢; omega
      exact List.mem_cons_of_mem _ (List.mem_of_mem_drop (runs_mem n _ h1 h hx))
end Go.Fw
namespace Go.Proofs.Ytfblmkocmnbdcaa
open Go.Fw Go.Proofs Go.RowKit Go.Proofs.Try
theorem c14 (w0 : World) (v1 : Value) (A2 A3 : Option Addr) (n2 c2 n3 c3 : Nat) (l : List Ent) (h : Sl Ent.enc 6 w0 w0.heap.size v1 l) (hp : ∀ x ∈ l, priceB x.price = true) (hn : l.length ≤ 4194304) :
    Rets Try.prog 14 #[.agg #[v1, .slice A2 n2 c2, .slice A3 n3 c3]] w0 fun v L => ∃ A r, v = .slice A (readK l).length r ∧ L = [rowOf 50 3 Line.enc A r (readK l)] := by
  refine enter_range (args := [.agg #[v1, .slice A2 n2 c2, .slice A3 n3 c3]]) Try.func14 rfl Try.ntmps14 rfl fun a S => ?_
  dsimp only [argsK] at S
  have hit := items_runs l.length l (Nat.le_refl _)
  have hil := itemsFrom_le l none
  rw [show itemsFrom none l = itemsN l from rfl, hit] at hil
  have hs := h
  obtain ⟨A, cap, rfl, hl, hcap, hA⟩ := h
  refine wp_seq_k fun _ hK1 => ?_
  refine wp_region_lit ?_
  (refine st_m (op_box S (Ev.t rfl) rfl ?_); clear S a; intro g1 a w S)
  (refine st_y S (Yr.ys (ys_assign Ev.c)) rfl ?_; clear S a w; intro a w S)
  refine st_nil ?_
  (refine (then_normal (hK1 _ _ ?_)); clear hK1)
  refine wp_seq_k fun _ hK1 => ?_
  refine wp_region_lit ?_
  (refine st_m (op_alloc S Try.zeroValue48 (cs := _) rfl rfl ?_); clear S a w; intro g2 a w S)
  refine st_nil ?_
  (refine (then_normal (hK1 _ _ ?_)); clear hK1)
  refine wp_seq_k fun _ hK1 => ?_
  refine wp_seq_k fun _ hK2 => ?_
  refine wp_region_lit ?_
  (refine st_y S (Yr.ys (ys_fieldN (FieldT.mk Try.underlying40 rfl Try.sizeOf34 rfl) (Ev.t rfl) (i' := 0) rfl)) rfl ?_; clear S a w; intro a w S)
  (refine st_y S (Yr.ys (ys_ld ⟨Try.isAgg34, Try.sizeOf34⟩ (Ev.t rfl) (k := 1) rfl rfl)) rfl ?_; clear S a w; intro a w S)
  (refine st_m (op_calls S Try.call35 (EvL.cons (Ev.t rfl) EvL.nil) (c35 _ _ _ (by exact .old S.wd (by assumption))) rfl ?_); clear S a w; rintro _ _ ⟨g3, rfl, rfl⟩ a w S)
  refine st_nil ?_
  (refine (then_normal (hK2 _ _ ?_)); clear hK2)
  refine wp_block ?_
  replace S : St 62 w0 [(11, true, .func (.func 74) #[] #[.pointer (some ⟨g3, 0, none⟩)]), (3, true, .pointer (some ⟨g2, 0, none⟩))] [.blk g3 (.cells #[.slice A l.length cap] 34), .blk g2 (.cells #[.slice none 0 0] 48), rowOf 50 3 Line.enc none 0 []] a w := (S.nil_ 50 3 Line.enc none).picks (by repeat (first | exact Fits.nil | refine Fits.skip rfl ?_ | refine Fits.cons rfl ?_)) (by repeat (first | exact Picks.nil | (refine Picks.rest ?_; (repeat (first | exact List.Sublist.refl _ | refine List.Sublist.cons_cons _ ?_ | refine List.Sublist.cons _ ?_)); done) | refine Picks.take 0 rfl ?_ | refine Picks.take 1 rfl ?_ | refine Picks.take 2 rfl ?_ | refine Picks.take 3 rfl ?_ | refine Picks.take 4 rfl ?_ | refine Picks.take 5 rfl ?_ | refine Picks.take 6 rfl ?_ | refine Picks.take 7 rfl ?_ | refine Picks.take 8 rfl ?_ | refine Picks.take 9 rfl ?_ | refine Picks.take 10 rfl ?_ | refine Picks.take 11 rfl ?_))
  refine st_range 1 S (Ev.t rfl) Try.call74 (R := fun D W' => ∃ B c, Wd w0 [.blk D (.deferred (some [])), .blk g2 (.cells #[.slice B (readK l).length c] 48), rowOf 50 3 Line.enc B c (readK l)] W') ?_ ?_
  · intro fn lp D W hW
    refine (k74 (X := Option Addr × Nat × List Line) (x0 := (none, 0, [])) (fun x => [.blk lp (.loop (recR .ready fn a.tmps _ _ _ D)), .blk D (.deferred (some [])), .blk g2 (.cells #[.slice x.1 x.2.2.length x.2.1] 48), rowOf 50 3 Line.enc x.1 x.2.1 x.2.2]) (fun pre x => x.2.2 = pre.map lineOf) hs (hW.picks (by repeat (first | exact Picks.nil | (refine Picks.rest ?_; (repeat (first | exact List.Sublist.refl _ | refine List.Sublist.cons_cons _ ?_ | refine List.Sublist.cons _ ?_)); done) | refine Picks.take 0 rfl ?_ | refine Picks.take 1 rfl ?_ | refine Picks.take 2 rfl ?_ | refine Picks.take 3 rfl ?_ | refine Picks.take 4 rfl ?_ | refine Picks.take 5 rfl ?_ | refine Picks.take 6 rfl ?_ | refine Picks.take 7 rfl ?_ | refine Picks.take 8 rfl ?_ | refine Picks.take 9 rfl ?_ | refine Picks.take 10 rfl ?_ | refine Picks.take 11 rfl ?_))) rfl ?_).mono ?_
    · rintro pre e r post ⟨B, c, out⟩ u sv W1 hru hout hsv hW1
      dsimp only at hout hW1
      have hlt : pre.length < (runsL l).length := by rw [hru, List.length_append, List.length_cons]; omega
      have hol : out.length < 4194304 := by rw [hout, List.length_map]; omega
      have hpr : ∀ x ∈ e :: r, priceB x.price = true := fun x hx => hp x (runs_mem l.length l (Nat.le_refl _) (g := e :: r) (by rw [hru]; simp) hx)
      refine yields2A (L := [.blk g3 (.cells #[u] 34), .blk g2 (.cells #[.slice B out.length c] 48), rowOf 50 3 Line.enc B c out]) S.kn (hW1.picks (by repeat (first | exact Picks.nil | (refine Picks.rest ?_; (repeat (first | exact List.Sublist.refl _ | refine List.Sublist.cons_cons _ ?_ | refine List.Sublist.cons _ ?_)); done) | refine Picks.take 0 rfl ?_ | refine Picks.take 1 rfl ?_ | refine Picks.take 2 rfl ?_ | refine Picks.take 3 rfl ?_ | refine Picks.take 4 rfl ?_ | refine Picks.take 5 rfl ?_ | refine Picks.take 6 rfl ?_ | refine Picks.take 7 rfl ?_ | refine Picks.take 8 rfl ?_ | refine Picks.take 9 rfl ?_ | refine Picks.take 10 rfl ?_ | refine Picks.take 11 rfl ?_))) rfl rfl rfl rfl rfl rfl ?_
      clear S hW hW1
      intro RB b w1 hRB S
      have hsv0 := hsv
      obtain ⟨C, capC, rfl, hlC, hcapC, hC⟩ := hsv
      have hlen : (e :: r).length = r.length + 1 := rfl
      obtain ⟨gC, oC, rfl, _, hcC⟩ := hC (by simp)
      have hc0 := hcC 0 e rfl
      have hlo : ∀ {R : World → Prop} {o : Option Obj}, ¬ LetsOut (fun (e : Exit) (_ : Act) (w' : World) => e = .normal ∧ w'.heap[lp]? = o ∧ R w') := fun ⟨a, w, h⟩ => by cases h.1
      refine wpIn_block (wpIn_seq_k fun K0 hK0 => h_beginR0 S (by kernel_rfl) (by kernel_rfl) (lets_then (lets_block hlo)) ?_)
      clear S b w1
      intro a w S
      (refine h_y (i := 0) S (by repeat (first | exact List.Sublist.refl _ | exact List.nil_sublist _ | refine .cons_cons _ ?_ | refine .cons _ ?_)) rfl (by kernel_rfl) (by kernel_rfl) (by kernel_rfl) (fun _ _ _ _ h => h) (ys_move (Ev.t rfl)) rfl ?_; clear S a w; intro a w S)
      (refine h_y (i := 1) S (by repeat (first | exact List.Sublist.refl _ | exact List.nil_sublist _ | refine .cons_cons _ ?_ | refine .cons _ ?_)) rfl (by kernel_rfl) (by kernel_rfl) (by kernel_rfl) (fun _ _ _ _ h => h) (ys_move (Ev.t rfl)) rfl ?_; clear S a w; intro a w S)
      (refine h_y (i := 2) S (by repeat (first | exact List.Sublist.refl _ | exact List.nil_sublist _ | refine .cons_cons _ ?_ | refine .cons _ ?_)) rfl (by kernel_rfl) (by kernel_rfl) (by kernel_rfl) (fun _ _ _ _ h => h) (ys_ixS (j := 0) Try.underlying34 Try.sizeOf74 (Ev.t rfl) Ev.c (fun _ => by omega)) rfl ?_; clear S a w; intro a w S)
      (refine h_y (i := 3) S (by repeat (first | exact List.Sublist.refl _ | exact List.nil_sublist _ | refine .cons_cons _ ?_ | refine .cons _ ?_)) rfl (by kernel_rfl) (by kernel_rfl) (by kernel_rfl) (fun _ _ _ _ h => h) (ys_field (FieldT.mk Try.underlying74 rfl Try.sizeOf3 rfl) (Ev.t rfl)) rfl ?_; clear S a w; intro a w S)
      (refine h_y (i := 4) S (by repeat (first | exact List.Sublist.refl _ | exact List.nil_sublist _ | refine .cons_cons _ ?_ | refine .cons _ ?_)) rfl (by kernel_rfl) (by kernel_rfl) (by kernel_rfl) (fun _ _ _ _ h => h) (ys_ldO ⟨Try.isAgg3, Try.sizeOf3⟩ (Ev.t rfl) (fun _ => hc0 _ _ rfl)) rfl ?_; clear S a w; intro a w S)
      (refine h_y (i := 5) S (by repeat (first | exact List.Sublist.refl _ | exact List.nil_sublist _ | refine .cons_cons _ ?_ | refine .cons _ ?_)) rfl (by kernel_rfl) (by kernel_rfl) (by kernel_rfl) (fun _ _ _ _ h => h) (ys_move (Ev.t rfl)) rfl ?_; clear S a w; intro a w S)
      (refine h_y (i := 6) S (by repeat (first | exact List.Sublist.refl _ | exact List.nil_sublist _ | refine .cons_cons _ ?_ | refine .cons _ ?_)) rfl (by kernel_rfl) (by kernel_rfl) (by kernel_rfl) (fun _ _ _ _ h => h) (ys_ixS (j := 0) Try.underlying34 Try.sizeOf74 (Ev.t rfl) Ev.c (fun _ => by omega)) rfl ?_; clear S a w; intro a w S)
      (refine h_y (i := 7) S (by repeat (first | exact List.Sublist.refl _ | exact List.nil_sublist _ | refine .cons_cons _ ?_ | refine .cons _ ?_)) rfl (by kernel_rfl) (by kernel_rfl) (by kernel_rfl) (fun _ _ _ _ h => h) (ys_field (FieldT.mk Try.underlying74 rfl Try.sizeOf27 rfl) (Ev.t rfl)) rfl ?_; clear S a w; intro a w S)
      (refine h_y (i := 8) S (by repeat (first | exact List.Sublist.refl _ | exact List.nil_sublist _ | refine .cons_cons _ ?_ | refine .cons _ ?_)) rfl (by kernel_rfl) (by kernel_rfl) (by kernel_rfl) (fun _ _ _ _ h => h) (ys_ldO ⟨Try.isAgg27, Try.sizeOf27⟩ (Ev.t rfl) (fun _ => hc0 _ _ rfl)) rfl ?_; clear S a w; intro a w S)
      (refine h_y (i := 9) S (by repeat (first | exact List.Sublist.refl _ | exact List.nil_sublist _ | refine .cons_cons _ ?_ | refine .cons _ ?_)) rfl (by kernel_rfl) (by kernel_rfl) (by kernel_rfl) (fun _ _ _ _ h => h) (ys_bld (ps := [(0, Go.Operand.tmp 14), (1, Go.Operand.tmp 18), (2, Go.Operand.tmp 22)]) (us := [_, _, _]) bld50 (EvL.cons (Ev.t rfl) (EvL.cons (Ev.t rfl) (EvL.cons (Ev.t rfl) EvL.nil))) rfl) rfl ?_; clear S a w; intro a w S)
      (refine h_m (i := 10) rfl (by kernel_rfl) (op_alloc S Try.zeroValue50 (cs := _) rfl rfl ?_); clear S a w; intro g4 a w S; refine h_on S _ (List.Sublist.refl _) (by repeat (first | exact List.Sublist.refl _ | exact List.nil_sublist _ | refine .cons_cons _ ?_ | refine .cons _ ?_)) ?_)
      (refine h_m0 (i := 11) rfl (by kernel_rfl) (op_stW S Try.sizeOf50 (Ev.t rfl) (Ev.t rfl) (k := 0) rfl rfl rfl (by simp [Value.oneCell']) ?_); clear S a w; intro a w S; refine h_on S _ (List.Sublist.refl _) (by repeat (first | exact List.Sublist.refl _ | exact List.nil_sublist _ | refine .cons_cons _ ?_ | refine .cons _ ?_)) ?_)
      refine h_done (by kernel_rfl) ?_
      (refine (then_normal (hK0 _ _ ?_)); clear hK0)
      have hd1 := hsv0.drop_ 1 (by omega)
      rw [List.drop_succ_cons, List.drop_zero] at hd1
      refine wpIn_seq_k fun K2 hK2 => wpIn_seq_k fun K3 hK3 => region_round (by kernel_rfl) (by repeat first | exact hlo | refine lets_then ?_ | refine lets_block ?_) ?_
      (refine st_y S (Yr.ys (ys_move (Ev.t rfl))) rfl ?_; clear S a w; intro a w S)
      (refine st_y S (Yr.ys (ys_slLo Try.underlying34 Try.sizeOf74 (Ev.t rfl) Ev.c (fun _ => by first | omega | (simp; done) | (simp; omega)))) rfl ?_; clear S a w; intro a w S)
      (refine st_y S (Yr.ys (ys_lenS Try.underlying34 (Ev.t rfl))) rfl ?_; clear S a w; intro a w S)
      (refine st_y S (Yr.ys (ys_move Ev.c)) rfl ?_; clear S a w; intro a w S)
      refine st_nil ?_
      (refine (then_normal (hK3 _ _ ?_)); clear hK3)
      rw [hlen, Nat.add_sub_cancel] at S
      generalize (if capC = 1 then some (⟨gC, oC, none⟩ : Addr) else Option.map (fun x : Addr => x.add (1 * 6)) (some (⟨gC, oC, none⟩ : Addr))) = AD at S hd1
      obtain ⟨AD', capD, heq, hlD, hcapD, hAD⟩ := hd1
      simp only [Value.slice.injEq, true_and] at heq
      obtain ⟨rfl, rfl⟩ := heq
      refine wpIn_block (loopM_round (X := Nat) S [27] (fun k => [(27, true, .int .i64 (k : Int))]) (fun k => [.blk lp RB, .blk D (.deferred (some [])), .blk g3 (.cells #[u] 34), .blk g2 (.cells #[.slice B out.length c] 48), rowOf 50 3 Line.enc B c out, .blk g4 (.cells (Line.enc ((r.take k).foldl bestF ⟨e.item, e.qty, e.price⟩)).toArray 50)]) (fun k => k ≤ r.length) (fun k => r.length - k) 0 (Nat.zero_le _) (by repeat (first | exact Fits.nil | refine Fits.skip rfl ?_ | refine Fits.cons rfl ?_)) (by repeat (first | exact Picks.nil | (refine Picks.rest ?_; (repeat (first | exact List.Sublist.refl _ | refine List.Sublist.cons_cons _ ?_ | refine List.Sublist.cons _ ?_)); done) | refine Picks.take 0 rfl ?_ | refine Picks.take 1 rfl ?_ | refine Picks.take 2 rfl ?_ | refine Picks.take 3 rfl ?_ | refine Picks.take 4 rfl ?_ | refine Picks.take 5 rfl ?_ | refine Picks.take 6 rfl ?_ | refine Picks.take 7 rfl ?_ | refine Picks.take 8 rfl ?_ | refine Picks.take 9 rfl ?_ | refine Picks.take 10 rfl ?_ | refine Picks.take 11 rfl ?_)) ?_)
      clear S
      intro k a w hk S
      refine wpIn_seq_k fun K4 hK4 => region_round (by kernel_rfl) (by repeat first | exact hlo | refine lets_then ?_ | refine lets_block ?_) ?_
      (refine st_y S (Yr.ys (ys_lss (Ev.t rfl) (Ev.t rfl))) rfl ?_; clear S a w; intro a w S)
      refine st_nil ?_
      (refine (then_normal (hK4 _ _ ?_)); clear hK4)
      by_cases hlt : k < r.length
      · obtain ⟨gD, oD, x, rfl, hx, hdx, hcx⟩ := row_at hAD hlt
        refine wpIn_seq_k fun K5 hK5 => wpIn_cond_true (((Ev.t rfl) a rfl S.kn).trans (by rw [decide_eq_true (by omega)])) (wpIn_skip (hK5 _ _ ?_))
        refine wpIn_seq_k fun K6 hK6 => wpIn_block (wpIn_seq_k fun K7 hK7 => region_round (by kernel_rfl) (by repeat first | exact hlo | refine lets_then ?_ | refine lets_block ?_) ?_)
        (refine st_y S (Yr.ys (ys_ixS Try.underlying34 Try.sizeOf74 (Ev.t rfl) (Ev.t rfl) (fun _ => by omega))) rfl ?_; clear S a w; intro a w S)
        (refine st_y S (Yr.ys (ys_ldOA ⟨Try.isAgg74, Try.sizeOf74⟩ (Ev.t rfl) (vs := [_, _, _, _, _, _]) rfl (fun _ => hcx))) rfl ?_; clear S a w; intro a w S)
        (refine st_m (op_alloc S Try.zeroValue74 (cs := _) rfl rfl ?_); clear S a w; intro g5 a w S)
        (refine st_m (op_stW S Try.sizeOf74 (Ev.t rfl) (Ev.t rfl) (k := 0) rfl rfl rfl (by simp [Value.oneCell']) ?_); clear S a w; intro a w S)
        refine st_nil ?_
        (refine (then_normal (hK7 _ _ ?_)); clear hK7)
        have hpx := hpr x (List.mem_cons_of_mem _ (List.mem_of_getElem? hx))
        have hnx : (r.take (k + 1)).foldl bestF ⟨e.item, e.qty, e.price⟩ = bestF ((r.take k).foldl bestF ⟨e.item, e.qty, e.price⟩) x := by
          rw [List.take_add_one, hx, Option.toList_some, List.foldl_append]; rfl
        have hpy := best_price hpr k
        generalize (r.take k).foldl bestF ⟨e.item, e.qty, e.price⟩ = y at S hnx hpy
        refine wpIn_seq_k fun K8 hK8 => region_round (by kernel_rfl) (by repeat first | exact hlo | refine lets_then ?_ | refine lets_block ?_) ?_
        (refine st_y S (Yr.ys (ys_fieldN (FieldT.mk Try.underlying74 rfl Try.sizeOf3 rfl) (Ev.t rfl) (i' := 4) rfl)) rfl ?_; clear S a w; intro a w S)
        (refine st_y S (Yr.ys (ys_ld ⟨Try.isAgg3, Try.sizeOf3⟩ (Ev.t rfl) (k := 0) rfl rfl)) rfl ?_; clear S a w; intro a w S)
        (refine st_y S (Yr.ys (ys_fieldN (FieldT.mk Try.underlying50 rfl Try.sizeOf3 rfl) (Ev.t rfl) (i' := 1) rfl)) rfl ?_; clear S a w; intro a w S)
        (refine st_y S (Yr.ys (ys_ld ⟨Try.isAgg3, Try.sizeOf3⟩ (Ev.t rfl) (k := 6) rfl rfl)) rfl ?_; clear S a w; intro a w S)
        (refine st_y S (Yr.ys (ys_gtr (Ev.t rfl) (Ev.t rfl))) rfl ?_; clear S a w; intro a w S)
        (refine st_y S (Yr.ys (ys_move (Ev.t rfl))) rfl ?_; clear S a w; intro a w S)
        (refine st_yf S rfl rfl (Yr.ys (ys_fieldN (FieldT.mk Try.underlying74 rfl Try.sizeOf3 rfl) (Ev.t rfl) (i' := 4) rfl)) rfl ?_; clear S a w; intro a w S)
        (refine st_yf S rfl rfl (Yr.ys (ys_ld ⟨Try.isAgg3, Try.sizeOf3⟩ (Ev.g rfl) (k := 0) rfl rfl)) rfl ?_; clear S a w; intro a w S)
        (refine st_yf S rfl rfl (Yr.ys (ys_fieldN (FieldT.mk Try.underlying50 rfl Try.sizeOf3 rfl) (Ev.t rfl) (i' := 1) rfl)) rfl ?_; clear S a w; intro a w S)
        (refine st_yf S rfl rfl (Yr.ys (ys_ld ⟨Try.isAgg3, Try.sizeOf3⟩ (Ev.g rfl) (k := 6) rfl rfl)) rfl ?_; clear S a w; intro a w S)
        (refine st_yf S rfl rfl (Yr.ys (ys_eql (Ev.g rfl) (Ev.g rfl))) rfl ?_; clear S a w; intro a w S)
        (refine st_yf S rfl rfl (Yr.ys (ys_move (Ev.g rfl))) rfl ?_; clear S a w; intro a w S)
        (refine st_yg2 S rfl rfl (Yr.ys (ys_fieldN (FieldT.mk Try.underlying74 rfl Try.sizeOf27 rfl) (Ev.t rfl) (i' := 5) rfl)) rfl ?_; clear S a w; intro a w S)
        (refine st_yg2 S rfl rfl (Yr.ys (ys_ld ⟨Try.isAgg27, Try.sizeOf27⟩ (Ev.g rfl) (k := 0) rfl rfl)) rfl ?_; clear S a w; intro a w S)
        (refine st_yg2 S rfl rfl (Yr.ys (ys_fieldN (FieldT.mk Try.underlying50 rfl Try.sizeOf27 rfl) (Ev.t rfl) (i' := 2) rfl)) rfl ?_; clear S a w; intro a w S)
        (refine st_yg2 S rfl rfl (Yr.ys (ys_ld ⟨Try.isAgg27, Try.sizeOf27⟩ (Ev.g rfl) (k := 6) rfl rfl)) rfl ?_; clear S a w; intro a w S)
        (refine st_yg2 S rfl rfl (ys_call Try.call36 (EvL.cons (Ev.g rfl) (EvL.cons (Ev.g rfl) EvL.nil)) (fun hp w W => c36 _ _ _ (by assumption) (by assumption))) rfl ?_; clear S a w; intro a w S)
        simp only [List.nil_append] at S
        (refine st_yf S rfl rfl (Yr.ys (ys_and2 (Ev.g rfl) (Ev.g rfl) Ev.c)) rfl ?_; clear S a w; intro a w S)
        (refine st_y S (Yr.ys (ys_or (Ev.t rfl) Ev.c (Ev.g rfl))) rfl ?_; clear S a w; intro a w S)
        refine st_nil ?_
        (refine (then_normal (hK8 _ _ ?_)); clear hK8)
        by_cases hb : y.qty < x.qty ∨ (x.qty = y.qty ∧ rankP y.price < rankP x.price)
        · have hbt : (decide (y.qty < x.qty) || decide (x.qty = y.qty) && decide (rankP y.price < rankP x.price)) = true := by simpa using hb
          have hnv : bestF y x = ⟨y.item, x.qty, x.price⟩ := by unfold bestF; rw [if_pos hb]
          refine wpIn_cond_true (((Ev.t rfl) a rfl S.kn).trans (by rw [hbt])) (h_beginR S (by kernel_rfl) (by kernel_rfl) (by repeat first | exact hlo | refine lets_then ?_ | refine lets_block ?_) 6 ?_)
          clear S a w
          intro a w S
          have rw_c : (y.enc.set 1 (.int .i64 x.qty)).set 2 (.int .u64 (x.price.toNat : Int)) = Line.enc ⟨y.item, x.qty, x.price⟩ := rfl
          have rw_k : (k : Int) + 1 = ((k + 1 : Nat) : Int) := rfl
          (refine h_y (i := 0) S (by repeat (first | exact List.Sublist.refl _ | exact List.nil_sublist _ | refine .cons_cons _ ?_ | refine .cons _ ?_)) rfl (by kernel_rfl) (by kernel_rfl) (by kernel_rfl) (fun _ _ _ _ h => h) (ys_fieldN (FieldT.mk Try.underlying74 rfl Try.sizeOf3 rfl) (Ev.t rfl) (i' := 4) rfl) rfl ?_; clear S a w; intro a w S)
          (refine h_y (i := 1) S (by repeat (first | exact List.Sublist.refl _ | exact List.nil_sublist _ | refine .cons_cons _ ?_ | refine .cons _ ?_)) rfl (by kernel_rfl) (by kernel_rfl) (by kernel_rfl) (fun _ _ _ _ h => h) (ys_ld ⟨Try.isAgg3, Try.sizeOf3⟩ (Ev.t rfl) (k := 0) rfl rfl) rfl ?_; clear S a w; intro a w S)
          (refine h_y (i := 2) S (by repeat (first | exact List.Sublist.refl _ | exact List.nil_sublist _ | refine .cons_cons _ ?_ | refine .cons _ ?_)) rfl (by kernel_rfl) (by kernel_rfl) (by kernel_rfl) (fun _ _ _ _ h => h) (ys_fieldN (FieldT.mk Try.underlying74 rfl Try.sizeOf27 rfl) (Ev.t rfl) (i' := 5) rfl) rfl ?_; clear S a w; intro a w S)
          (refine h_y (i := 3) S (by repeat (first | exact List.Sublist.refl _ | exact List.nil_sublist _ | refine .cons_cons _ ?_ | refine .cons _ ?_)) rfl (by kernel_rfl) (by kernel_rfl) (by kernel_rfl) (fun _ _ _ _ h => h) (ys_ld ⟨Try.isAgg27, Try.sizeOf27⟩ (Ev.t rfl) (k := 0) rfl rfl) rfl ?_; clear S a w; intro a w S)
          (refine h_y (i := 4) S (by repeat (first | exact List.Sublist.refl _ | exact List.nil_sublist _ | refine .cons_cons _ ?_ | refine .cons _ ?_)) rfl (by kernel_rfl) (by kernel_rfl) (by kernel_rfl) (fun _ _ _ _ h => h) (ys_fieldN (FieldT.mk Try.underlying50 rfl Try.sizeOf3 rfl) (Ev.t rfl) (i' := 1) rfl) rfl ?_; clear S a w; intro a w S)
          (refine h_m0 (i := 5) rfl (by kernel_rfl) (op_st S Try.sizeOf3 (Ev.t rfl) (Ev.t rfl) (k := 6) rfl rfl (by simp) ?_); clear S a w; intro a w S; refine h_on S _ (List.Sublist.refl _) (by repeat (first | exact List.Sublist.refl _ | exact List.nil_sublist _ | refine .cons_cons _ ?_ | refine .cons _ ?_)) ?_)
          (refine h_y (i := 6) S (by repeat (first | exact List.Sublist.refl _ | exact List.nil_sublist _ | refine .cons_cons _ ?_ | refine .cons _ ?_)) rfl (by kernel_rfl) (by kernel_rfl) (by kernel_rfl) (fun _ _ _ _ h => h) (ys_fieldN (FieldT.mk Try.underlying50 rfl Try.sizeOf27 rfl) (Ev.t rfl) (i' := 2) rfl) rfl ?_; clear S a w; intro a w S)
          (refine h_m0 (i := 7) rfl (by kernel_rfl) (op_st S Try.sizeOf27 (Ev.t rfl) (Ev.t rfl) (k := 6) rfl rfl (by simp) ?_); clear S a w; intro a w S; refine h_on S _ (List.Sublist.refl _) (by repeat (first | exact List.Sublist.refl _ | exact List.nil_sublist _ | refine .cons_cons _ ?_ | refine .cons _ ?_)) ?_)
          rw [rw_c] at S
          refine h_done (by kernel_rfl) ?_
          (refine (in_normal (then_normal (hK6 _ _ ?_))); clear hK6)
          refine region_round (by kernel_rfl) (by repeat first | exact hlo | refine lets_then ?_ | refine lets_block ?_) ?_
          (refine st_y S (Yr.ys (ys_addI (Ev.t rfl) Ev.c (fun _ => by unfold I64; omega))) rfl ?_; clear S a w; intro a w S)
          rw [rw_k] at S
          (refine st_y S (Yr.ys (ys_move (Ev.t rfl))) rfl ?_; clear S a w; intro a w S)
          refine st_nil ?_
          refine (then_normal ?_)
          exact ⟨k + 1, by omega, by omega, by rw [hnx, hnv]; exact S.picks (by repeat (first | exact Fits.nil | refine Fits.skip rfl ?_ | refine Fits.cons rfl ?_)) (by repeat (first | exact Picks.nil | (refine Picks.rest ?_; (repeat (first | exact List.Sublist.refl _ | refine List.Sublist.cons_cons _ ?_ | refine List.Sublist.cons _ ?_)); done) | refine Picks.take 0 rfl ?_ | refine Picks.take 1 rfl ?_ | refine Picks.take 2 rfl ?_ | refine Picks.take 3 rfl ?_ | refine Picks.take 4 rfl ?_ | refine Picks.take 5 rfl ?_ | refine Picks.take 6 rfl ?_ | refine Picks.take 7 rfl ?_ | refine Picks.take 8 rfl ?_ | refine Picks.take 9 rfl ?_ | refine Picks.take 10 rfl ?_ | refine Picks.take 11 rfl ?_))⟩
        · have hbf : (decide (y.qty < x.qty) || decide (x.qty = y.qty) && decide (rankP y.price < rankP x.price)) = false := by rw [Bool.eq_false_iff]; intro h; exact hb (by simpa using h)
          have hnv : bestF y x = y := by unfold bestF; rw [if_neg hb]
          refine wpIn_cond_false (((Ev.t rfl) a rfl S.kn).trans (by rw [hbf])) (wpIn_skip ?_)
          have rw_k : (k : Int) + 1 = ((k + 1 : Nat) : Int) := rfl
          (refine (in_normal (then_normal (hK6 _ _ ?_))); clear hK6)
          refine region_round (by kernel_rfl) (by repeat first | exact hlo | refine lets_then ?_ | refine lets_block ?_) ?_
          (refine st_y S (Yr.ys (ys_addI (Ev.t rfl) Ev.c (fun _ => by unfold I64; omega))) rfl ?_; clear S a w; intro a w S)
          rw [rw_k] at S
          (refine st_y S (Yr.ys (ys_move (Ev.t rfl))) rfl ?_; clear S a w; intro a w S)
          refine st_nil ?_
          refine (then_normal ?_)
          exact ⟨k + 1, by omega, by omega, by rw [hnx, hnv]; exact S.picks (by repeat (first | exact Fits.nil | refine Fits.skip rfl ?_ | refine Fits.cons rfl ?_)) (by repeat (first | exact Picks.nil | (refine Picks.rest ?_; (repeat (first | exact List.Sublist.refl _ | refine List.Sublist.cons_cons _ ?_ | refine List.Sublist.cons _ ?_)); done) | refine Picks.take 0 rfl ?_ | refine Picks.take 1 rfl ?_ | refine Picks.take 2 rfl ?_ | refine Picks.take 3 rfl ?_ | refine Picks.take 4 rfl ?_ | refine Picks.take 5 rfl ?_ | refine Picks.take 6 rfl ?_ | refine Picks.take 7 rfl ?_ | refine Picks.take 8 rfl ?_ | refine Picks.take 9 rfl ?_ | refine Picks.take 10 rfl ?_ | refine Picks.take 11 rfl ?_))⟩
      · refine wpIn_seq_k fun K5 hK5 => wpIn_cond_false (((Ev.t rfl) a rfl S.kn).trans (by rw [decide_eq_false (by omega)])) (wpIn_exit ?_)
        refine hK2 _ _ (region_round (by kernel_rfl) (by repeat first | exact hlo | refine lets_then ?_ | refine lets_block ?_) ?_)
        rw [show k = r.length by omega, List.take_length] at S
        generalize hY : r.foldl bestF ⟨e.item, e.qty, e.price⟩ = y at S
        (refine st_y S (Yr.ys (ys_ld ⟨Try.isAgg48, Try.sizeOf48⟩ (Ev.t rfl) (k := 3) rfl rfl)) rfl ?_; clear S a w; intro a w S)
        (refine st_y S (Yr.ys (ys_ldA ⟨Try.isAgg50, Try.sizeOf50⟩ (Ev.t rfl) (k := 5) rfl rfl)) rfl ?_; clear S a w; intro a w S)
        (refine st_m (op_bslice1 S Try.underlying48 inf50 rfl rfl rfl (Ev.t rfl) rfl rfl rfl ?_); clear S a w; intro g5 a w S)
        (refine st_m (op_push S Try.underlying48 inf50 rfl (k := 5) (j := 0) rfl (Ev.t rfl) (Ev.t rfl) rfl rfl rfl rfl (by first | omega | (simp only [List.length_append, List.length_cons, List.length_nil]; omega)) rfl rfl rfl ?_); clear S a w; intro A1 cap1 a w S)
        (refine st_m (op_st S Try.sizeOf48 (Ev.t rfl) (Ev.t rfl) (k := 4) rfl rfl (by simp) ?_); clear S a w; intro a w S)
        refine st_nil ?_
        refine (in_normal ?_)
        exact ⟨rfl, (S.wd.get (k := 1) rfl).2, (A1, cap1, out ++ [y]), by dsimp only; rw [hout, List.map_append, ← hY]; rfl, (S.wd.setBlk (k := 1) rfl).picks (by repeat (first | exact Picks.nil | (refine Picks.rest ?_; (repeat (first | exact List.Sublist.refl _ | refine List.Sublist.cons_cons _ ?_ | refine List.Sublist.cons _ ?_)); done) | refine Picks.take 0 rfl ?_ | refine Picks.take 1 rfl ?_ | refine Picks.take 2 rfl ?_ | refine Picks.take 3 rfl ?_ | refine Picks.take 4 rfl ?_ | refine Picks.take 5 rfl ?_ | refine Picks.take 6 rfl ?_ | refine Picks.take 7 rfl ?_ | refine Picks.take 8 rfl ?_ | refine Picks.take 9 rfl ?_ | refine Picks.take 10 rfl ?_ | refine Picks.take 11 rfl ?_))⟩
    · rintro en W2 ⟨⟨r, rfl⟩, ⟨B, c, out⟩, u, hout, hW2⟩
      have hout : out = readK l := hout
      subst hout
      exact ⟨⟨_, rfl⟩, (hW2.get (k := 1) rfl).2, _, _, (hW2.setBlk (k := 1) rfl).picks (by repeat (first | exact Picks.nil | (refine Picks.rest ?_; (repeat (first | exact List.Sublist.refl _ | refine List.Sublist.cons_cons _ ?_ | refine List.Sublist.cons _ ?_)); done) | refine Picks.take 0 rfl ?_ | refine Picks.take 1 rfl ?_ | refine Picks.take 2 rfl ?_ | refine Picks.take 3 rfl ?_ | refine Picks.take 4 rfl ?_ | refine Picks.take 5 rfl ?_ | refine Picks.take 6 rfl ?_ | refine Picks.take 7 rfl ?_ | refine Picks.take 8 rfl ?_ | refine Picks.take 9 rfl ?_ | refine Picks.take 10 rfl ?_ | refine Picks.take 11 rfl ?_))⟩
  · rintro D W' ⟨B, c, hR⟩
    refine in_normal (then_normal (hK1 _ _ ?_))
    exact tail_range (⟨S.kn, hR⟩ : St 62 w0 _ _ a W') (k := 0) rfl (ys_ld ⟨Try.isAgg48, Try.sizeOf48⟩ (Ev.t rfl) (k := 1) rfl rfl) rfl rfl Try.results14 fun W'' hW'' => ⟨_, _, rfl, hW''.picks (by repeat (first | exact Picks.nil | (refine Picks.rest ?_; (repeat (first | exact List.Sublist.refl _ | refine List.Sublist.cons_cons _ ?_ | refine List.Sublist.cons _ ?_)); done) | refine Picks.take 0 rfl ?_ | refine Picks.take 1 rfl ?_ | refine Picks.take 2 rfl ?_ | refine Picks.take 3 rfl ?_ | refine Picks.take 4 rfl ?_ | refine Picks.take 5 rfl ?_ | refine Picks.take 6 rfl ?_ | refine Picks.take 7 rfl ?_ | refine Picks.take 8 rfl ?_ | refine Picks.take 9 rfl ?_ | refine Picks.take 10 rfl ?_ | refine Picks.take 11 rfl ?_)), _, _, rfl, rfl⟩
end Go.Proofs.Ytfblmkocmnbdcaa
set_option linter.unusedVariables false
set_option linter.unusedSimpArgs false
set_option maxRecDepth 100000
set_option maxHeartbeats 4000000
namespace Go.Fw
def idxW {α : Type} (p : α → Bool) : Nat → List α → Int
  | _, [] => -1
  | k, y :: r => if p y then (k : Int) else idxW p (k + 1) r
theorem idxW_any {α : Type} (p : α → Bool) : ∀ (l : List α) (k : Nat), decide (0 ≤ idxW p k l) = l.any p
  | [], k => rfl
  | y :: r, k => by
    unfold idxW
    by_cases h : p y = true
    · rw [if_pos h, List.any_cons, h, Bool.true_or]
      exact decide_eq_true (by omega)
    · rw [if_neg h, idxW_any p r (k + 1), List.any_cons, Bool.eq_false_iff.2 h, Bool.false_or]
end Go.Fw
namespace Go.Proofs.Ytfblmkocmnbdcaa
open Go.Fw Go.Proofs Go.RowKit Go.Proofs.Try
def ReadsV {α : Type} (enc : α → List Value) (w0 : World) (f : FuncId) (cs : List Value) (l : List α) (p : α → Bool) : Prop := ∀ w', Wd w0 [] w' → ∀ x ∈ l, Calls Try.prog f ([Value.agg (enc x).toArray] ++ cs).toArray w' fun e w'' => e = .returned (.bool (p x)) ∧ Bel w'.heap.size w' w''
theorem x71 (w0 : World) (v : Value) (l : List Ent) (f : FuncId) (cs : List Value) (p : Ent → Bool) (hf : ∀ args w, (callFunc f args).run Try.prog w = .ok (.enter f args) w) (hr : ReadsV Ent.enc w0 f cs l p) (h : Sl Ent.enc 6 w0 w0.heap.size v l) :
    Calls Try.prog 71 #[v, .func (.func f) #[] cs.toArray] w0 fun e w' => e = .returned (.int .i64 (idxW p 0 l)) ∧ Bel w0.heap.size w0 w' := by
  obtain ⟨A, cap, rfl, hl, hcap, hA⟩ := h
  refine enter2 func71 rfl ntmps71 rfl fun a S => sg S (.ac rfl <| .z) fun a w S => wp_seq_k fun _ hK1 => sg S (.mv rfl <| .ln underlying34 rfl <| .mc rfl <| .z) fun a w S => wp_block ?_
  refine st_lpM S [4, 5, 8] (X := Nat) (fun k => [(8, true, .int .i64 (k : Int))]) (fun _ => []) (fun k => k ≤ l.length ∧ idxW p k (l.drop k) = idxW p 0 l) (fun k => l.length - k) 0 ⟨Nat.zero_le _, rfl⟩ ?_
  clear S
  intro k a w ⟨hk, hno⟩ S
  by_cases hlt : k < l.length
  · obtain ⟨gq, oq, x, rfl, hx, hd, hcc⟩ := row_at hA hlt
    rw [hd] at hno
    have hrx := fun w' W' => hr w' W' x (List.mem_of_getElem? hx)
    refine sg S (.lt (by omega) rfl rfl <| .z) fun a w S => wp_seq_k fun _ hK2 => st_then S (.t rfl) (wp_skip (then_normal (hK2 _ _ (wp_seq_k fun _ hK2 => wp_block (sg S (.mv rfl <| .as rfl <| .z) fun a w S => wp_seq_k fun _ hK3 => wp_region_lit (run S (.mv rfl <| .mv rfl <| .mv rfl <| .ix underlying34 sizeOf74 (by omega) rfl rfl <| .yy (ys_ldOA ⟨isAgg74, sizeOf74⟩ (.t rfl) (vs := [_, _, _, _, _, _]) rfl (fun _ => hcc)) rfl <| .z) fun a w S => st_y S (ys_callVC (cs := cs) (vs := [.agg (Ent.enc x).toArray]) (v := .bool (p x)) (.t rfl) hf (.cons (.t rfl) .nil) (fun _ w' W' => hrx w' (W'.sub (List.nil_sublist _)))) rfl ?_))))))
    clear S a w
    intro a w S
    cases hp : p x with
    | true =>
      rw [hp] at S
      refine st_nil (then_normal (hK3 _ _ (st_then S (.t rfl) (sg S (.mv rfl <| .as rfl <| .z) fun a w S => wp_ret (in_ret (then_ret (then_ret (in_ret (then_ret (st_ret S (results1 S results71 (Rv.tmp rfl)) ?_))))))))))
      refine ⟨?_, S.wd.below⟩
      rw [← hno, idxW, if_pos hp]
    | false =>
      rw [hp] at S
      refine st_nil (then_normal (hK3 _ _ (st_else S (.t rfl) (wp_skip (in_normal (then_normal (hK2 _ _ (wp_region_lit (run S (.ad (by unfold I64; omega) rfl <| .mv rfl <| .z) fun a w S => st_nil (then_normal ?_))))))))))
      rw [idxW, if_neg (by rw [hp]; decide)] at hno
      exact ⟨k + 1, ⟨by omega, hno⟩, by omega, S.pk⟩
  · obtain rfl : k = l.length := by omega
    rw [List.drop_length] at hno
    refine sg S (.ge (by omega) rfl rfl <| .z) fun a w S => wp_seq_k fun _ hK2 => st_else S (.t rfl) (wp_exit (then_exit (then_exit (in_here (then_normal (hK1 _ _ (sg S (.ac rfl <| .z) fun a w S => wp_ret (st_ret S (results1 S results71 (Rv.tmp rfl)) ?_))))))))
    exact ⟨by rw [← hno]; rfl, S.wd.below⟩
theorem x30 (w0 : World) (v : Value) (l : List Ent) (f : FuncId) (cs : List Value) (p : Ent → Bool) (hf : ∀ args w, (callFunc f args).run Try.prog w = .ok (.enter f args) w) (hr : ReadsV Ent.enc w0 f cs l p) (h : Sl Ent.enc 6 w0 w0.heap.size v l) :
    Calls Try.prog 30 #[v, .func (.func f) #[] cs.toArray] w0 fun e w' => e = .returned (.bool (l.any p)) ∧ Bel w0.heap.size w0 w' := by
  have hs := h
  obtain ⟨A, cap, rfl, hl, hcap, hA⟩ := h
  refine enter2 func30 rfl ntmps30 rfl fun a S => sg S (.ac rfl <| .z) fun a w S => wp_seq_k fun _ hK1 => wp_region_lit (run S (.mv rfl <| .mv rfl <| .z) fun a w S => st_y S (ys_call call71 (.cons (.t rfl) (.cons (.t rfl) .nil)) (fun _ w' W' => x71 w' _ l f cs p hf (fun w'' W'' => hr w'' ((W'.sub (List.nil_sublist _)).step W''.below)) (Sl.old W' hs))) rfl ?_)
  clear S a w
  intro a w S
  refine run S (.yy (ys_geq (.t rfl) Ev.c) rfl <| .as rfl <| .z) fun a w S => st_nil (then_normal (hK1 _ _ (wp_ret (st_ret S (results1 S results30 (Rv.tmp rfl)) ?_))))
  exact ⟨by rw [← idxW_any p l 0], S.wd.below⟩
end Go.Proofs.Ytfblmkocmnbdcaa
set_option linter.unusedVariables false
set_option linter.unusedSimpArgs false
set_option maxRecDepth 100000
set_option maxHeartbeats 4000000
namespace Go.Fw
theorem Line.mkEnc {s : List UInt8} {q : Int} {p : UInt64} : [Value.string (bs s), .int .i64 q, .int .u64 (p.toNat : Int)] = Line.enc ⟨s, q, p⟩ := rfl
theorem CartRd.old {w0 w : World} {L : List Chunk} {X : Cart} {s : Sls3} (W : Wd w0 L w) (h : CartRd w0 X s) : CartRd w X s := ⟨.old W h.1, .old W h.2, .old W h.3⟩
end Go.Fw
namespace Go.Proofs.Ytfblmkocmnbdcaa
open Go.Fw Go.Proofs Go.RowKit Go.Proofs.Try
theorem c31 (w0 : World) (x : Ent) (p q : Int) (g : Nat) (h0 : w0.cell? ⟨g, 0, none⟩ = some (.int .i64 p)) (h1 : w0.cell? ⟨g, 1, none⟩ = some (.int .i64 q)) :
    Calls Try.prog 31 #[.agg (Ent.enc x).toArray, .pointer (some ⟨g, 0, none⟩)] w0 fun e w' => e = .returned (.bool (decide (x.dot.node = p ∧ x.dot.life = q))) ∧ Bel w0.heap.size w0 w' := by
  refine enter2 func31 rfl ntmps31 rfl fun a S => wp_seq_k fun _ hK1 => wp_region_lit (st_m (op_box S (.t rfl) rfl fun g1 a w S => run S (.ac rfl <| .z) fun a w S => st_nil (then_normal (hK1 _ _ (wp_seq_k fun _ hK1 => wp_region_lit (run S (.fa underlying74 sizeOf62 1 rfl rfl rfl <| .fa underlying62 sizeOf3 1 rfl rfl rfl <| .ld gt3 0 rfl rfl rfl <| .fa underlying29 sizeOf3 0 rfl rfl rfl <| .yy (ys_ldO ⟨isAgg3, sizeOf3⟩ (.t rfl) (fun _ => h0)) rfl <| .yy (ys_eql (.t rfl) (.t rfl)) rfl <| .mv rfl <| .z) fun a w S => st_yg S rfl rfl (Yr.ys (ys_fieldN (FieldT.mk underlying74 rfl sizeOf62 rfl) (.t rfl) (i' := 1) rfl)) rfl fun a w S => st_yg S rfl rfl (Yr.ys (ys_fieldN (FieldT.mk underlying62 rfl sizeOf3 rfl) (Ev.g rfl) (i' := 2) rfl)) rfl fun a w S => st_yg S rfl rfl (Yr.ys (ys_ld ⟨isAgg3, sizeOf3⟩ (Ev.g rfl) (k := 0) rfl rfl)) rfl fun a w S => st_yg S rfl rfl (Yr.ys (ys_fieldN (FieldT.mk underlying29 rfl sizeOf3 rfl) (.t rfl) (i' := 1) rfl)) rfl fun a w S => st_yg S rfl rfl (Yr.ys (ys_ldO ⟨isAgg3, sizeOf3⟩ (Ev.g rfl) (fun _ => h1))) rfl fun a w S => st_yg S rfl rfl (Yr.ys (ys_eql (Ev.g rfl) (Ev.g rfl))) rfl fun a w S => run S (.yy (ys_and (.t rfl) (Ev.g rfl) Ev.c) rfl <| .as rfl <| .z) fun a w S => st_nil (then_normal (hK1 _ _ (wp_ret (st_ret S (results1 S results31 (Rv.tmp rfl)) ?_))))))))))
  exact ⟨by simp, S.wd.below⟩
theorem c30 (w0 : World) (v : Value) (l : List Ent) (p q : Int) (g : Nat) (h : Sl Ent.enc 6 w0 w0.heap.size v l) (h0 : w0.cell? ⟨g, 0, none⟩ = some (.int .i64 p)) (h1 : w0.cell? ⟨g, 1, none⟩ = some (.int .i64 q)) :
    Calls Try.prog 30 #[v, .func (.func 31) #[] #[.pointer (some ⟨g, 0, none⟩)]] w0 fun e w' => e = .returned (.bool (l.any fun x => decide (x.dot.node = p ∧ x.dot.life = q))) ∧ Bel w0.heap.size w0 w' :=
  x30 w0 v l _ [.pointer (some ⟨g, 0, none⟩)] _ call31 (fun w' W' x _ => c31 w' x p q g (Wd.cellOld W' h0) (Wd.cellOld W' h1)) h
theorem c10 (w0 : World) (v1 : Value) (A2 A3 : Option Addr) (n2 c2 n3 c3 : Nat) (l : List Ent) (p q : Int) (h : Sl Ent.enc 6 w0 w0.heap.size v1 l) :
    Calls Try.prog 10 #[.agg #[v1, .slice A2 n2 c2, .slice A3 n3 c3], .agg #[.int .i64 p, .int .i64 q]] w0 fun e w' => e = .returned (.bool (l.any fun x => decide (x.dot.node = p ∧ x.dot.life = q))) ∧ Bel w0.heap.size w0 w' := by
  have hs := h
  obtain ⟨A, cap, rfl, hl, hcap, hA⟩ := h
  refine enter2 func10 rfl ntmps10 rfl fun a S => wp_seq_k fun _ hK1 => wp_region_lit (st_m (op_box S (.t rfl) rfl fun g1 a w S => st_m (op_box S (.t rfl) rfl fun g2 a w S => run S (.ac rfl <| .z) fun a w S => st_nil (then_normal (hK1 _ _ (sg S (.fa underlying40 sizeOf34 0 rfl rfl rfl <| .ld gt34 1 rfl rfl rfl <| .yy (ys_mkFunc (.cons (.t rfl) .nil)) rfl <| .xx (ys_call call30 (.cons (.t rfl) (.cons (.t rfl) .nil)) (fun hp w W => c30 _ _ _ _ _ _ (by exact .old W (by assumption)) (by exact Wd.cell W (k := 0) rfl rfl) (by exact Wd.cell W (k := 0) rfl rfl))) rfl <| .as rfl <| .z) fun a w S => wp_ret (st_ret S (results1 S results10 (Rv.tmp rfl)) ?_)))))))
  exact ⟨rfl, S.wd.below⟩
end Go.Proofs.Ytfblmkocmnbdcaa
set_option linter.unusedVariables false
set_option linter.unusedSimpArgs false
namespace Go.Fw
open Go.RowKit
theorem items_tri (p : Option (List UInt8)) (a : List UInt8) (l : List Ent) : itemsFrom p l ≤ (if p = some a then 0 else 1) + itemsFrom (some a) l := by
  cases l with
  | nil => simp [itemsFrom]
  | cons e r =>
    rw [itemsFrom, itemsFrom]
    by_cases h1 : p = some a
    · rw [h1]; omega
    · rw [if_neg h1]; split <;> omega
theorem items_sub {s l : List Ent} (h : s.Sublist l) : ∀ p, itemsFrom p s ≤ itemsFrom p l := by
  induction h with
  | slnil => exact fun _ => Nat.le_refl _
  | cons a _ ih => intro p; rw [itemsFrom]; exact Nat.le_trans (items_tri p a.item _) (Nat.add_le_add_left (ih _) _)
  | cons_cons a _ ih => intro p; rw [itemsFrom, itemsFrom]; exact Nat.add_le_add_left (ih _) _
theorem prune_ok {c : Cart} (h : CartOk c) (p q : Int) : CartOk (pruneK c p q) := by
  refine ⟨prune_can (can_nf h.ctx) (can_len h.ctx).1 (can_len h.ctx).2 p q, Nat.le_trans (List.length_filter_le _ _) h.len, fun e he => ?_, h.order.filter _, ?_, ?_⟩
  · obtain ⟨h1, h2⟩ := List.mem_filter.1 he
    obtain ⟨k1, k2, k3, k4⟩ := h.each e h1
    refine ⟨k1, k2, k3, ?_⟩
    show (c.ctx.prune p q).covers e.dot = true
    rw [prune_covers, k4]
    exact h2
  · exact (List.Sublist.map _ (List.filter_sublist ..)).nodup h.dots
  · exact Nat.le_trans (items_sub (List.filter_sublist ..) none) h.items
theorem prune_lives (c : Cart) (p q : Int) : livesK (pruneK c p q) p q = false := by
  unfold livesK pruneK keepE
  rw [Bool.eq_false_iff]
  intro h
  obtain ⟨x, h1, h2⟩ := List.any_eq_true.1 h
  have := (List.mem_filter.1 h1).2
  rw [h2] at this
  cases this
theorem prune_still {c : Cart} {p q : Int} (h : livesK c p q = false) : (pruneK c p q).ents = c.ents := by
  show keepE p q c.ents = c.ents
  unfold keepE
  rw [List.filter_eq_self]
  intro x hx
  unfold livesK at h
  rw [List.any_eq_false] at h
  have := h x hx
  rw [decide_eq_true_eq] at this
  rw [decide_eq_false this]
  rfl
end Go.Fw
set_option linter.unusedVariables false
set_option linter.unusedSimpArgs false
set_option maxRecDepth 100000
set_option maxHeartbeats 4000000
namespace Go.Proofs.Ytfblmkocmnbdcaa
open Go.Fw Go.Proofs Go.RowKit Go.Proofs.Try
theorem c3 (w0 : World) (v1 v2 v3 v4 v5 : Value) (h : Hist) (ka : UInt64) (p q0 : Int) (h1 : Sl encS 1 w0 w0.heap.size v1 h.items) (h2 : Sl encI 1 w0 w0.heap.size v2 h.qtys) (h3 : Sl encU 1 w0 w0.heap.size v3 h.prices) (h4 : Sl encI 1 w0 w0.heap.size v4 h.nodes) (h5 : Sl encU 1 w0 w0.heap.size v5 h.saws) :
    Calls Try.prog 3 #[.agg #[v1, v2, v3, v4, v5], .int .u64 (ka.toNat : Int), .agg #[.int .i64 p, .int .i64 q0]] w0 fun e w' => e = .returned (.bool true) ∧ Bel w0.heap.size w0 w' := by
  have s1 := h1
  have s2 := h2
  have s3 := h3
  have s4 := h4
  have s5 := h5
  obtain ⟨A, cap, rfl, _⟩ := h1
  obtain ⟨B, capB, rfl, _⟩ := h2
  obtain ⟨C, capC, rfl, _⟩ := h3
  obtain ⟨D, capD, rfl, _⟩ := h4
  obtain ⟨E, capE, rfl, _⟩ := h5
  refine enter3 func3 rfl ntmps3 rfl fun a S => wp_seq_k fun _ hK1 => wp_region_lit (st_m (op_box S (.t rfl) rfl fun g1 a w S => st_m (op_box S (.t rfl) rfl fun g2 a w S => run S (.ac rfl <| .z) fun a w S => st_nil (then_normal (hK1 _ _ (wp_seq_k fun _ hK1 => wp_region_lit (run S (.la gt26 1 rfl rfl rfl <| .z) fun a w S => ?_)))))))
  (refine st_m (op_calls S call6 (.cons (.t rfl) .nil) (c6 _ _ _ _ _ _ _ (by exact .old S.wd (by assumption)) (by exact .old S.wd (by assumption)) (by exact .old S.wd (by assumption)) (by exact .old S.wd (by assumption)) (by exact .old S.wd (by assumption))) rfl ?_); clear S a w; rintro _ _ ⟨A1, r1, A'1, r'1, st1, up1, w11, bs1, rfl, rfl, hr11, hr21, hr31, hr41⟩ a w S)
  refine run S (.mv rfl <| .ex rfl rfl <| .ex rfl rfl <| .as rfl <| .z) fun a w S => ?_
  have hsl : st1.length ≤ 12 := by have := play_states h; rw [← hr11, List.length_map] at this; exact this
  have hsl2 : st1.length ≤ 64 := by omega
  have ok := play_ok h h.many
  change PlayOk (playK h) at ok
  have rw_st := hr11
  have iX : InH (playK h).up (pickK (playK h).st ka) := pick_inH ok.st ka _
  obtain ⟨X, rw_X⟩ : ∃ X, pickK (playK h).st ka = X := ⟨_, rfl⟩
  rw [rw_X] at iX
  have hX := iX.ok.ctx
  obtain ⟨z1, z2, z3⟩ := cart_lens iX.ok
  have hp := prune_ok iX.ok p q0
  obtain ⟨y1, y2, y3⟩ := cart_lens hp
  have hpl := hp.len
  have hxl := iX.ok.len
  have hY := hp.ctx
  have hpr : ∀ x ∈ X.ents, priceB x.price = true := fun x hx => (iX.ok.each x hx).price
  have hpp : ∀ x ∈ (pruneK X p q0).ents, priceB x.price = true := fun x hx => (hp.each x hx).price
  have rw_c := (canE_ok _).2 hp
  have rw_z : (pruneK X p q0).ents.any (fun x => decide (x.dot.node = p ∧ x.dot.life = q0)) = false := prune_lives X p q0
  have rw_d : ∀ c : Cart, decide (c = c) = true := fun c => decide_eq_true rfl
  by_cases hl : livesK X p q0 = true
  · have rw_l : X.ents.any (fun x => decide (x.dot.node = p ∧ x.dot.life = q0)) = true := hl
    refine run S (.as rfl <| .z) fun a w S => st_nil (then_normal (hK1 _ _ (wp_seq_k fun _ hK1 => wp_region_lit (run S (.mv rfl <| .mv rfl <| .z) fun a w S => ?_))))
    (refine st_m (op_calls S call7 (.cons (.t rfl) (.cons (.t rfl) .nil)) (c7 _ _ _ _ (by exact Sl.of_own S.wd (k := 0) rfl (fun _ => rfl)) (by exact carts_rd (by assumption) S.wd (k := 2) rfl) (by assumption)) rfl ?_); clear S a w; rintro _ _ ⟨A11, r11, A21, r21, A31, r31, rfl, rfl⟩ a w S)
    simp only [List.nil_append] at S
    rw [rw_st] at S
    rw [rw_X] at S
    refine st_m (op_alloc S zeroValue40 (cs := _) rfl rfl fun g3 a w S => st_m (op_stW S sizeOf40 (.t rfl) (.t rfl) (k := 0) rfl rfl rfl (by simp [Value.oneCell']) fun a w S => st_nil (then_normal (hK1 _ _ (wp_seq_k fun _ hK1 => wp_region_lit (run S (.la gt40 0 rfl rfl rfl <| .la gt29 7 rfl rfl rfl <| .z) fun a w S => ?_))))))
    (refine st_m (op_calls S call8 (.cons (.t rfl) (.cons (.t rfl) .nil)) (c8 _ _ _ _ _ _ _ (by exact Sl.of_own S.wd (k := 1) rfl (fun _ => rfl)) (by exact ⟨(by exact Sl.of_own S.wd (k := 2) rfl (fun _ => rfl)), (by exact Sl.of_own S.wd (k := 3) rfl (fun _ => rfl))⟩) (by omega) (by omega) (by omega)) rfl ?_); clear S a w; rintro _ _ ⟨A12, r12, A22, r22, A32, r32, rfl, rfl⟩ a w S)
    refine st_m (op_alloc S zeroValue40 (cs := _) rfl rfl fun g4 a w S => st_m (op_stW S sizeOf40 (.t rfl) (.t rfl) (k := 0) rfl rfl rfl (by simp [Value.oneCell']) fun a w S => st_nil (then_normal (hK1 _ _ (wp_seq_k fun _ hK1 => wp_seq_k fun _ hK2 => h_begin0 S (by kernel_rfl) fun a w S => hy 0 S rfl (ys_ldA ⟨isAgg40, sizeOf40⟩ (.t rfl) (k := 0) rfl rfl) rfl fun a w S => h_q (i := 1) S (by repeat (first | exact List.Sublist.refl _ | exact List.nil_sublist _ | refine .cons_cons _ ?_ | refine .cons _ ?_)) rfl (by kernel_rfl) (ys_call call9 (.cons (.t rfl) .nil) (fun hp w W => c9 _ _ _ _ _ (by exact Sl.of_own W (k := 1) rfl (fun _ => rfl)) (by exact ⟨(by exact Sl.of_own W (k := 2) rfl (fun _ => rfl)), (by exact Sl.of_own W (k := 3) rfl (fun _ => rfl))⟩))) rfl fun a w S => ?_)))))
    rw [rw_c] at S
    refine hy 2 S rfl (ys_F (by omega) (ys_neq (.t rfl) Ev.c)) rfl fun a w S => hy 3 S rfl (ys_move (.t rfl)) rfl fun a w S => hyt 4 S rfl rfl rfl (ys_ldA ⟨isAgg40, sizeOf40⟩ (.t rfl) (k := 0) rfl rfl) rfl fun a w S => hyt 5 S rfl rfl rfl (ys_ldA ⟨isAgg29, sizeOf29⟩ (.t rfl) (k := 11) rfl rfl) rfl fun a w S => h_qf (i := 6) S (by repeat (first | exact List.Sublist.refl _ | exact List.nil_sublist _ | refine .cons_cons _ ?_ | refine .cons _ ?_)) rfl (by kernel_rfl) rfl rfl (ys_call call10 (.cons (.t rfl) (.cons (.t rfl) .nil)) (fun hp w W => c10 _ _ _ _ _ _ _ _ _ _ _ (by exact Sl.of_own W (k := 1) rfl (fun _ => rfl)))) rfl fun a w S => ?_
    rw [rw_z] at S
    refine hy 7 S rfl (ys_pickF (.t rfl) (Ev.g rfl)) rfl fun a w S => hy 8 S rfl (ys_move (.t rfl)) rfl fun a w S => hyt 9 S rfl rfl rfl (ys_ldA ⟨isAgg40, sizeOf40⟩ (.t rfl) (k := 0) rfl rfl) rfl fun a w S => hyt 10 S rfl rfl rfl (ys_ldA ⟨isAgg40, sizeOf40⟩ (.t rfl) (k := 4) rfl rfl) rfl fun a w S => hyt 11 S rfl rfl rfl (ys_ldA ⟨isAgg29, sizeOf29⟩ (.t rfl) (k := 11) rfl rfl) rfl fun a w S => ?_
    (refine h_mg (i := 12) S rfl (by kernel_rfl) rfl rfl (op_calls S call12 (.cons (.t rfl) (.cons (.t rfl) .nil)) (c12 _ _ _ _ _ _ _ (by exact Sl.of_own S.wd (k := 5) rfl (fun _ => rfl)) (by exact ⟨(by exact Sl.of_own S.wd (k := 6) rfl (fun _ => rfl)), (by exact Sl.of_own S.wd (k := 7) rfl (fun _ => rfl))⟩) (by omega) (by omega) (by omega)) rfl ?_); clear S a w; rintro _ _ ⟨A13, r13, A23, r23, A33, r33, rfl, rfl⟩ a w S; refine h_n2 S ?_)
    refine h_qf (i := 13) S (by repeat (first | exact List.Sublist.refl _ | exact List.nil_sublist _ | refine .cons_cons _ ?_ | refine .cons _ ?_)) rfl (by kernel_rfl) rfl rfl (ys_call call11 (.cons (.t rfl) (.cons (.t rfl) .nil)) (fun hp w W => c11 _ _ _ _ _ _ _ _ _ (by exact Sl.of_own W (k := 4) rfl (fun _ => rfl)) (by exact ⟨(by exact Sl.of_own W (k := 5) rfl (fun _ => rfl)), (by exact Sl.of_own W (k := 6) rfl (fun _ => rfl))⟩) (by exact Sl.of_own W (k := 0) rfl (fun _ => rfl)) (by exact ⟨(by exact Sl.of_own W (k := 1) rfl (fun _ => rfl)), (by exact Sl.of_own W (k := 2) rfl (fun _ => rfl))⟩))) rfl fun a w S => ?_
    simp only [List.nil_append] at S
    refine hyt 14 S rfl rfl rfl (ys_not (Ev.g rfl)) rfl fun a w S => hy 15 S rfl (ys_pickF (.t rfl) (.t rfl)) rfl fun a w S => h_done (by kernel_rfl) (then_normal (hK2 _ _ (st_else S (.t rfl) (wp_skip (then_normal (hK1 _ _ (wp_seq_k fun _ hK1 => h_begin0 S (by kernel_rfl) fun a w S => hy 0 S rfl (ys_ldA ⟨isAgg40, sizeOf40⟩ (.t rfl) (k := 7) rfl rfl) rfl fun a w S => hy 1 S rfl (ys_ldA ⟨isAgg29, sizeOf29⟩ (.t rfl) (k := 14) rfl rfl) rfl fun a w S => ?_)))))))
    refine h_q (i := 2) S (by repeat (first | exact List.Sublist.refl _ | exact List.nil_sublist _ | refine .cons_cons _ ?_ | refine .cons _ ?_)) rfl (by kernel_rfl) (ys_call call10 (.cons (.t rfl) (.cons (.t rfl) .nil)) (fun hp w W => c10 _ _ _ _ _ _ _ _ _ _ _ (by exact Sl.of_own W (k := 8) rfl (fun _ => rfl)))) rfl fun a w S => ?_
    rw [rw_l] at S
    refine hy 3 S rfl (ys_move (.t rfl)) rfl fun a w S => hsk 4 S rfl rfl rfl rfl rfl fun a w S => hsk 5 S rfl rfl rfl rfl rfl fun a w S => hsk 6 S rfl rfl rfl rfl rfl fun a w S => hsk 7 S rfl rfl rfl rfl rfl fun a w S => hsk 8 S rfl rfl rfl rfl rfl fun a w S => ?_
    refine hy 9 S rfl (ys_pickT (.t rfl) Ev.c) rfl fun a w S => hy 10 S rfl (ys_assign (.t rfl)) rfl fun a w S => h_done (by kernel_rfl) (then_normal (hK1 _ _ (wp_ret (st_ret S (results1 S results3 (Rv.tmp rfl)) ?_))))
    exact ⟨rfl, S.wd.below⟩
  · have rw_l : X.ents.any (fun x => decide (x.dot.node = p ∧ x.dot.life = q0)) = false := by simpa [livesK] using hl
    have hst := prune_still (c := X) (p := p) (q := q0) (by simpa using hl)
    have rw_k : decide (readK (pruneK X p q0).ents = readK X.ents) = true := decide_eq_true (by rw [hst])
    refine run S (.as rfl <| .z) fun a w S => st_nil (then_normal (hK1 _ _ (wp_seq_k fun _ hK1 => wp_region_lit (run S (.mv rfl <| .mv rfl <| .z) fun a w S => ?_))))
    (refine st_m (op_calls S call7 (.cons (.t rfl) (.cons (.t rfl) .nil)) (c7 _ _ _ _ (by exact Sl.of_own S.wd (k := 0) rfl (fun _ => rfl)) (by exact carts_rd (by assumption) S.wd (k := 2) rfl) (by assumption)) rfl ?_); clear S a w; rintro _ _ ⟨A11, r11, A21, r21, A31, r31, rfl, rfl⟩ a w S)
    simp only [List.nil_append] at S
    rw [rw_st] at S
    rw [rw_X] at S
    refine st_m (op_alloc S zeroValue40 (cs := _) rfl rfl fun g3 a w S => st_m (op_stW S sizeOf40 (.t rfl) (.t rfl) (k := 0) rfl rfl rfl (by simp [Value.oneCell']) fun a w S => st_nil (then_normal (hK1 _ _ (wp_seq_k fun _ hK1 => wp_region_lit (run S (.la gt40 0 rfl rfl rfl <| .la gt29 7 rfl rfl rfl <| .z) fun a w S => ?_))))))
    (refine st_m (op_calls S call8 (.cons (.t rfl) (.cons (.t rfl) .nil)) (c8 _ _ _ _ _ _ _ (by exact Sl.of_own S.wd (k := 1) rfl (fun _ => rfl)) (by exact ⟨(by exact Sl.of_own S.wd (k := 2) rfl (fun _ => rfl)), (by exact Sl.of_own S.wd (k := 3) rfl (fun _ => rfl))⟩) (by omega) (by omega) (by omega)) rfl ?_); clear S a w; rintro _ _ ⟨A12, r12, A22, r22, A32, r32, rfl, rfl⟩ a w S)
    refine st_m (op_alloc S zeroValue40 (cs := _) rfl rfl fun g4 a w S => st_m (op_stW S sizeOf40 (.t rfl) (.t rfl) (k := 0) rfl rfl rfl (by simp [Value.oneCell']) fun a w S => st_nil (then_normal (hK1 _ _ (wp_seq_k fun _ hK1 => wp_seq_k fun _ hK2 => h_begin0 S (by kernel_rfl) fun a w S => hy 0 S rfl (ys_ldA ⟨isAgg40, sizeOf40⟩ (.t rfl) (k := 0) rfl rfl) rfl fun a w S => h_q (i := 1) S (by repeat (first | exact List.Sublist.refl _ | exact List.nil_sublist _ | refine .cons_cons _ ?_ | refine .cons _ ?_)) rfl (by kernel_rfl) (ys_call call9 (.cons (.t rfl) .nil) (fun hp w W => c9 _ _ _ _ _ (by exact Sl.of_own W (k := 1) rfl (fun _ => rfl)) (by exact ⟨(by exact Sl.of_own W (k := 2) rfl (fun _ => rfl)), (by exact Sl.of_own W (k := 3) rfl (fun _ => rfl))⟩))) rfl fun a w S => ?_)))))
    rw [rw_c] at S
    refine hy 2 S rfl (ys_F (by omega) (ys_neq (.t rfl) Ev.c)) rfl fun a w S => hy 3 S rfl (ys_move (.t rfl)) rfl fun a w S => hyt 4 S rfl rfl rfl (ys_ldA ⟨isAgg40, sizeOf40⟩ (.t rfl) (k := 0) rfl rfl) rfl fun a w S => hyt 5 S rfl rfl rfl (ys_ldA ⟨isAgg29, sizeOf29⟩ (.t rfl) (k := 11) rfl rfl) rfl fun a w S => h_qf (i := 6) S (by repeat (first | exact List.Sublist.refl _ | exact List.nil_sublist _ | refine .cons_cons _ ?_ | refine .cons _ ?_)) rfl (by kernel_rfl) rfl rfl (ys_call call10 (.cons (.t rfl) (.cons (.t rfl) .nil)) (fun hp w W => c10 _ _ _ _ _ _ _ _ _ _ _ (by exact Sl.of_own W (k := 1) rfl (fun _ => rfl)))) rfl fun a w S => ?_
    rw [rw_z] at S
    refine hy 7 S rfl (ys_pickF (.t rfl) (Ev.g rfl)) rfl fun a w S => hy 8 S rfl (ys_move (.t rfl)) rfl fun a w S => hyt 9 S rfl rfl rfl (ys_ldA ⟨isAgg40, sizeOf40⟩ (.t rfl) (k := 0) rfl rfl) rfl fun a w S => hyt 10 S rfl rfl rfl (ys_ldA ⟨isAgg40, sizeOf40⟩ (.t rfl) (k := 4) rfl rfl) rfl fun a w S => hyt 11 S rfl rfl rfl (ys_ldA ⟨isAgg29, sizeOf29⟩ (.t rfl) (k := 11) rfl rfl) rfl fun a w S => ?_
    (refine h_mg (i := 12) S rfl (by kernel_rfl) rfl rfl (op_calls S call12 (.cons (.t rfl) (.cons (.t rfl) .nil)) (c12 _ _ _ _ _ _ _ (by exact Sl.of_own S.wd (k := 5) rfl (fun _ => rfl)) (by exact ⟨(by exact Sl.of_own S.wd (k := 6) rfl (fun _ => rfl)), (by exact Sl.of_own S.wd (k := 7) rfl (fun _ => rfl))⟩) (by omega) (by omega) (by omega)) rfl ?_); clear S a w; rintro _ _ ⟨A13, r13, A23, r23, A33, r33, rfl, rfl⟩ a w S; refine h_n2 S ?_)
    refine h_qf (i := 13) S (by repeat (first | exact List.Sublist.refl _ | exact List.nil_sublist _ | refine .cons_cons _ ?_ | refine .cons _ ?_)) rfl (by kernel_rfl) rfl rfl (ys_call call11 (.cons (.t rfl) (.cons (.t rfl) .nil)) (fun hp w W => c11 _ _ _ _ _ _ _ _ _ (by exact Sl.of_own W (k := 4) rfl (fun _ => rfl)) (by exact ⟨(by exact Sl.of_own W (k := 5) rfl (fun _ => rfl)), (by exact Sl.of_own W (k := 6) rfl (fun _ => rfl))⟩) (by exact Sl.of_own W (k := 0) rfl (fun _ => rfl)) (by exact ⟨(by exact Sl.of_own W (k := 1) rfl (fun _ => rfl)), (by exact Sl.of_own W (k := 2) rfl (fun _ => rfl))⟩))) rfl fun a w S => ?_
    simp only [List.nil_append] at S
    refine hyt 14 S rfl rfl rfl (ys_not (Ev.g rfl)) rfl fun a w S => hy 15 S rfl (ys_pickF (.t rfl) (.t rfl)) rfl fun a w S => h_done (by kernel_rfl) (then_normal (hK2 _ _ (st_else S (.t rfl) (wp_skip (then_normal (hK1 _ _ (wp_seq_k fun _ hK1 => h_begin0 S (by kernel_rfl) fun a w S => hy 0 S rfl (ys_ldA ⟨isAgg40, sizeOf40⟩ (.t rfl) (k := 7) rfl rfl) rfl fun a w S => hy 1 S rfl (ys_ldA ⟨isAgg29, sizeOf29⟩ (.t rfl) (k := 14) rfl rfl) rfl fun a w S => ?_)))))))
    refine h_q (i := 2) S (by repeat (first | exact List.Sublist.refl _ | exact List.nil_sublist _ | refine .cons_cons _ ?_ | refine .cons _ ?_)) rfl (by kernel_rfl) (ys_call call10 (.cons (.t rfl) (.cons (.t rfl) .nil)) (fun hp w W => c10 _ _ _ _ _ _ _ _ _ _ _ (by exact Sl.of_own W (k := 8) rfl (fun _ => rfl)))) rfl fun a w S => ?_
    rw [rw_l] at S
    refine hy 3 S rfl (ys_move (.t rfl)) rfl fun a w S => hyt 4 S rfl rfl rfl (ys_ldA ⟨isAgg40, sizeOf40⟩ (.t rfl) (k := 3) rfl rfl) rfl fun a w S => hyt 6 S rfl rfl rfl (ys_ldA ⟨isAgg40, sizeOf40⟩ (.t rfl) (k := 7) rfl rfl) rfl fun a w S => ?_
    (refine h_mg (i := 5) S rfl (by kernel_rfl) rfl rfl (op_calls S call14 (.cons (.t rfl) .nil) (c14 _ _ _ _ _ _ _ _ _ (by exact Sl.of_own S.wd (k := 4) rfl (fun _ => rfl)) (by assumption) (by omega)) rfl ?_); clear S a w; rintro _ _ ⟨A2, r2, rfl, rfl⟩ a w S; refine h_n2 S ?_)
    (refine h_mg (i := 7) S rfl (by kernel_rfl) rfl rfl (op_calls S call14 (.cons (.t rfl) .nil) (c14 _ _ _ _ _ _ _ _ _ (by exact Sl.of_own S.wd (k := 9) rfl (fun _ => rfl)) (by assumption) (by omega)) rfl ?_); clear S a w; rintro _ _ ⟨A3, r3, rfl, rfl⟩ a w S; refine h_n2 S ?_)
    refine h_qf (i := 8) S (by repeat (first | exact List.Sublist.refl _ | exact List.nil_sublist _ | refine .cons_cons _ ?_ | refine .cons _ ?_)) rfl (by kernel_rfl) rfl rfl (ys_call call13 (.cons (.t rfl) (.cons (.t rfl) .nil)) (fun hp w W => c13 _ _ _ _ _ (by exact Sl.of_own W (k := 1) rfl (fun _ => rfl)) (by exact Sl.of_own W (k := 0) rfl (fun _ => rfl)))) rfl fun a w S => ?_
    rw [rw_k] at S
    refine hy 9 S rfl (ys_pickF (.t rfl) (Ev.g rfl)) rfl fun a w S => hy 10 S rfl (ys_assign (.t rfl)) rfl fun a w S => h_done (by kernel_rfl) (then_normal (hK1 _ _ (wp_ret (st_ret S (results1 S results3 (Rv.tmp rfl)) ?_))))
    exact ⟨rfl, S.wd.below⟩
end Go.Proofs.Ytfblmkocmnbdcaa
