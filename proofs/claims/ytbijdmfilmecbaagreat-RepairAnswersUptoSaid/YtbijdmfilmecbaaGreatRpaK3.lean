/- Contracts and laws that the statement Rpa leans on, part 3. -/
import Derived.Test.YtbijdmfilmecbaaGreatRpaK2
import Derived.ScopeJumps
import Derived.LoopN
import Derived.Shelf.SlGeneric
import Derived.Shelf.SlIter.Nil
import Derived.Ground.GgzProg
import Derived.Test.YtbijdmfilmecbaaGreatProg
set_option linter.unusedVariables false
set_option linter.unusedSimpArgs false
set_option maxRecDepth 100000
namespace Go.Proofs.YtbijdmfilmecbaaGreat
open Go.Fw Go.Proofs Go.RowKit Go.ChangeShapes Go.WideShapes Go.ChangeAt Go.Deep Go.Joins Go.Proofs.Tryz
section
variable {H : Type} {enc : TypeId × Value → H} {w : World}
theorem wf_u64 {n : Int} (h : (Lit.int .u64 n).wf = true) : 0 ≤ n ∧ n ≤ 18446744073709551615 := by
 simp only [Lit.wf, IntKind.min, IntKind.max, IntKind.signed, IntKind.bits, Bool.and_eq_true, decide_eq_true_eq, Bool.false_eq_true, if_false] at h
 omega
theorem rdSum : Rdr enc Tryz.prog w 77 fun cs b => ∃ x : Sm, cs = Sm.enc x ∧ (0 ≤ x.hash ∧ x.hash ≤ 18446744073709551615) ∧ x.key.length + 1 ≤ b := by
 refine (Rdr.struct underlying77 (by kernel_rfl) (.cons (Rdr.int underlying3) (.cons (Rdr.str underlying9) (.cons (Rdr.int underlying60) .nil)))).mono ?_
 rintro cs b ⟨_, _, rfl, ⟨_, _, x, rfl, _⟩, _, _, rfl, ⟨_, hb, s, rfl, hs⟩, _, _, rfl, ⟨_, _, h, rfl, hw⟩, rfl⟩
 exact ⟨⟨x, s, h⟩, rfl, wf_u64 hw, by dsimp only; omega⟩
theorem read_sumsB {v : Value} {d : DataW H} {p : List MemPlace} (hv : ∃ A len cap, v = .slice A len cap) (h : DataW.Trod enc Tryz.prog w 0 (fun _ => true) true 22 v d p) (hb : Rows.uptoBulk d ≤ 1048576) :
   ∃ l, Sl Sm.enc 3 w w.heap.size v l ∧ Sums l ∧ l.length + 1 ≤ Rows.uptoBulk d := by
 obtain ⟨v', l, hc, hs, hl, hf⟩ := Rdr.top (Rdr.slice (k := 3) underlying22 (by kernel_rfl) rfl (fun _ => rfl) rdSum) h
 obtain ⟨A, n, c, rfl⟩ := hv
 simp only [Value.cells, List.cons.injEq, and_true] at hc
 subst hc
 exact ⟨l, hs, ⟨fun x hx => by obtain ⟨b', h1, h2, h3⟩ := hf x hx; exact h2, fun x hx => by obtain ⟨b', h1, h2, h3⟩ := hf x hx; omega, by omega⟩, hl⟩
end
end Go.Proofs.YtbijdmfilmecbaaGreat
set_option maxHeartbeats 4000000
namespace Go.Proofs.YtbijdmfilmecbaaGreat
open Go.Fw Go.Proofs Go.RowKit Go.Proofs.Tryz
theorem mbrG_iff {x y : Mbr} : x = y ↔ x.node = y.node ∧ x.epoch = y.epoch ∧ x.stamp = y.stamp ∧ x.status = y.status := ⟨fun e => by subst e; exact ⟨rfl, rfl, rfl, rfl⟩, fun ⟨e1, e2, e3, e4⟩ => by cases x; cases y; simp_all⟩
theorem dotG_iff {x y : Dot} : x = y ↔ x.node = y.node ∧ x.life = y.life ∧ x.count = y.count := ⟨fun e => by subst e; exact ⟨rfl, rfl, rfl⟩, fun ⟨e1, e2, e3⟩ => by cases x; cases y; simp_all⟩
theorem c37 (w0 : World) (v1 : Value) (l : List Dot) (h : Sl Dot.enc 3 w0 w0.heap.size v1 l) (hn : l.length ≤ 4194304) :
   Rets Tryz.prog 37 #[v1] w0 fun v L => ∃ A c, v = .slice A l.length c ∧ L = [rowOf 86 3 Dot.enc A c l] := by
 have h0 := h
 obtain ⟨A, cap, rfl, hl, hcap, hA⟩ := h
 unfold Go.Fw.Rets
 refine enter1 func37 rfl ntmps37 rfl fun a S => sg S (.ac rfl <| .z) fun a w S => wp_seq_k fun _ hK1 => sg S (.mv rfl <| .yy (ys_sNil underlying33 (.t rfl) Ev.c) rfl <| .z) fun a w S => ?_
 refine Xj S (.t rfl) (fun h1 => ?_) (fun h1 => ?_)
 refine sg S (.ac rfl <| .z) fun a w S => wp_ret (Zh (Zk S (results1 S results37 (Rv.tmp rfl)) ?_))
 rotate_left
 refine wp_skip (Za (hK1 _ _ (wp_seq_k fun _ hK1 => wp_region_lit (Zi (op_bslice0 S underlying33 sizeOf86 rfl fun g1 a w S => run S (.mv rfl <| .z) fun a w S => Zi (Xi _ (S.nil_ 86 _ Go.Fw.Dot.enc _) underlying33 underlying33 (.inr ⟨_, rfl⟩) inf86 rfl (k := 0) rfl (.t rfl) (.t rfl) (Src.sl (Sl.old S.wd h0) (by decide) Go.Fw.Dot.enc_len Go.Fw.Dot.enc_one) (by first | omega | (simp only [List.length_append, List.length_cons, List.length_nil]; omega) | (simp; omega)) rfl rfl rfl fun A1 cap1 a w S => ?_))))))
 simp only [List.nil_append] at S
 refine run S (.as rfl <| .z) fun a w S => Zb (Za (hK1 _ _ (wp_ret (Zk S (results1 S results37 (Rv.tmp rfl)) ?_))))
 rotate_left
 · have hnil : l = [] := by
     refine List.eq_nil_of_length_eq_zero (Decidable.byContradiction fun hne => ?_)
     obtain ⟨g, o, rfl, _⟩ := hA (by omega)
     cases h1
   subst hnil
   exact ⟨_, _, rfl, (S.nil_ 86 3 Dot.enc none).wd.sub (by repeat (first | exact List.Sublist.refl _ | exact List.nil_sublist _ | refine .cons_cons _ ?_ | refine .cons _ ?_)), none, 0, rfl, rfl⟩
 · try simp only [List.nil_append] at S ⊢
   exact ⟨_, _, rfl, S.wd.sub (by repeat (first | exact List.Sublist.refl _ | exact List.nil_sublist _ | refine .cons_cons _ ?_ | refine .cons _ ?_)), _, _, rfl, rfl⟩
theorem c34 (w0 : World) (v v' : Value) (l l' : List Dot) (h : Sl Dot.enc 3 w0 w0.heap.size v l) (h' : Sl Dot.enc 3 w0 w0.heap.size v' l') :
   Calls Tryz.prog 34 #[v, v'] w0 fun e w' => e = .returned (.bool (decide (l = l'))) ∧ Bel w0.heap.size w0 w' := by
 obtain ⟨A, cap, rfl, hl, hcap, hA⟩ := h
 obtain ⟨A', cap', rfl, hl', hcap', hA'⟩ := h'
 refine enter2 func34 rfl ntmps34 rfl fun a S => sg S (.ac rfl <| .z) fun a w S => wp_seq_k fun _ hK1 => sg S (.mv rfl <| .ln underlying33 rfl <| .mv rfl <| .ln underlying33 rfl <| .yy (Zu (.t rfl) (.t rfl)) rfl <| .z) fun a w S => ?_
 refine st_if S (.t rfl) (fun h1 => ?_) (fun h1 => ?_)
 refine sg S (.ac rfl <| .z) fun a w S => wp_ret (Zh (Zk S (results1 S results34 (Rv.tmp rfl)) ?_))
 rotate_left
 refine wp_skip (Za (hK1 _ _ (wp_seq_k fun _ hK1 => sg S (.mv rfl <| .ln underlying33 rfl <| .mc rfl <| .z) fun a w S => wp_block ?_)))
 rotate_left
 · refine ⟨?_, S.wd.below⟩
   rw [decide_eq_false (fun e => h1 (by rw [e]))]
 · refine st_lpK S (X := Nat) (fun k => [(13, true, .int .i64 (k : Int))]) (fun _ L => L) (fun k => k ≤ l.length ∧ l.take k = l'.take k) (fun k => l.length - k) 0 ⟨Nat.zero_le _, rfl⟩ ?_
   clear S
   intro k a w ⟨hk, hno⟩ S
   by_cases hlt : k < l.length
   · obtain ⟨g, o, m, rfl, hmm, hd, hc⟩ := Zv hA hlt
     obtain ⟨g', o', m', rfl, hmm', hd', hc'⟩ := Zv hA' (show k < l'.length by omega)
     clear hA hA'
     refine sg S (.lt (by omega) rfl rfl <| .z) fun a w S => wp_seq_k fun _ hK2 => Zd S (.t rfl) (wp_skip (Za (hK2 _ _ (wp_seq_k fun _ hK2 => wp_block (sg S (.mv rfl <| .as rfl <| .z) fun a w S => wp_seq_k fun _ hK3 => Xe S (by kernel_rfl) (by kernel_rfl) fun a S => qrun S (.mv rfl <| .mv rfl <| .ix underlying33 sizeOf86 (by omega) rfl rfl <| .yy (Ye ⟨isAgg86, sizeOf86⟩ (.t rfl) (vs := [_, _, _]) rfl (fun _ => hc)) rfl <| .mv rfl <| .mv rfl <| .ix underlying33 sizeOf86 (by omega) rfl rfl <| .yy (Ye ⟨isAgg86, sizeOf86⟩ (.t rfl) (vs := [_, _, _]) rfl (fun _ => hc')) rfl <| .yy (ys_neA (.t rfl) (.t rfl) eq86) rfl <| .z) fun a S => ?_)))))
     (refine q_nil ?_; intro w W; replace S := St.mk S W; clear W)
     refine Za (hK3 _ _ ?_)
     refine Xj S (.t rfl) (fun h2 => ?_) (fun h2 => ?_)
     refine sg S (.ac rfl <| .z) fun a w S => wp_ret (Yq (Zh (Zh (Yq (Zh (Zk S (results1 S results34 (Rv.tmp rfl)) ?_))))))
     rotate_left
     refine wp_skip (Zj (Za (hK2 _ _ (wp_region_lit (run S (.ad (by unfold I64; omega) rfl <| .mv rfl <| .z) fun a w S => Zb (Za ?_))))))
     rotate_left
     · refine ⟨?_, S.wd.below⟩
       have hne : ¬ m = m' := fun e => by
         have h3 := h2
         rw [dotG_iff] at e
         simp at h3
         simp_all
       rw [at_ne hmm hmm' hne]
     · have heq : m = m' := by
         have h3 := h2
         rw [dotG_iff]
         simpa using h3
       exact ⟨k + 1, ⟨by omega, at_step hno hmm hmm' heq⟩, by omega, S.wk⟩
   · refine sg S (.ge (by omega) rfl rfl <| .z) fun a w S => wp_seq_k fun _ hK2 => Zf S (.t rfl) (wp_exit (Zc (Zc (Zs (Za (hK1 _ _ (sg S (.ac rfl <| .z) fun a w S => wp_ret (Zk S (results1 S results34 (Rv.tmp rfl)) ?_))))))))
     refine ⟨?_, S.wd.below⟩
     rw [decide_eq_true]
     rw [List.take_of_length_le (by omega), List.take_of_length_le (by omega)] at hno
     exact hno
theorem c66 (w0 : World) (v1 : Value) (l : List Mbr) (h : Sl Mbr.enc 4 w0 w0.heap.size v1 l) (hn : l.length ≤ 4194304) :
   Rets Tryz.prog 66 #[v1] w0 fun v L => ∃ A c, v = .slice A l.length c ∧ L = [rowOf 106 4 Mbr.enc A c l] := by
 have h0 := h
 obtain ⟨A, cap, rfl, hl, hcap, hA⟩ := h
 unfold Go.Fw.Rets
 refine enter1 func66 rfl ntmps66 rfl fun a S => sg S (.ac rfl <| .z) fun a w S => wp_seq_k fun _ hK1 => sg S (.mv rfl <| .yy (ys_sNil underlying30 (.t rfl) Ev.c) rfl <| .z) fun a w S => ?_
 refine Xj S (.t rfl) (fun h1 => ?_) (fun h1 => ?_)
 refine sg S (.ac rfl <| .z) fun a w S => wp_ret (Zh (Zk S (results1 S results66 (Rv.tmp rfl)) ?_))
 rotate_left
 refine wp_skip (Za (hK1 _ _ (wp_seq_k fun _ hK1 => wp_region_lit (Zi (op_bslice0 S underlying30 sizeOf106 rfl fun g1 a w S => run S (.mv rfl <| .z) fun a w S => Zi (Xi _ (S.nil_ 106 _ Go.Fw.Mbr.enc _) underlying30 underlying30 (.inr ⟨_, rfl⟩) inf106 rfl (k := 0) rfl (.t rfl) (.t rfl) (Src.sl (Sl.old S.wd h0) (by decide) Go.Fw.Mbr.enc_len Go.Fw.Mbr.enc_one) (by first | omega | (simp only [List.length_append, List.length_cons, List.length_nil]; omega) | (simp; omega)) rfl rfl rfl fun A1 cap1 a w S => ?_))))))
 simp only [List.nil_append] at S
 refine run S (.as rfl <| .z) fun a w S => Zb (Za (hK1 _ _ (wp_ret (Zk S (results1 S results66 (Rv.tmp rfl)) ?_))))
 rotate_left
 · have hnil : l = [] := by
     refine List.eq_nil_of_length_eq_zero (Decidable.byContradiction fun hne => ?_)
     obtain ⟨g, o, rfl, _⟩ := hA (by omega)
     cases h1
   subst hnil
   exact ⟨_, _, rfl, (S.nil_ 106 4 Mbr.enc none).wd.sub (by repeat (first | exact List.Sublist.refl _ | exact List.nil_sublist _ | refine .cons_cons _ ?_ | refine .cons _ ?_)), none, 0, rfl, rfl⟩
 · try simp only [List.nil_append] at S ⊢
   exact ⟨_, _, rfl, S.wd.sub (by repeat (first | exact List.Sublist.refl _ | exact List.nil_sublist _ | refine .cons_cons _ ?_ | refine .cons _ ?_)), _, _, rfl, rfl⟩
theorem c65 (w0 : World) (v v' : Value) (l l' : List Mbr) (h : Sl Mbr.enc 4 w0 w0.heap.size v l) (h' : Sl Mbr.enc 4 w0 w0.heap.size v' l') :
   Calls Tryz.prog 65 #[v, v'] w0 fun e w' => e = .returned (.bool (decide (l = l'))) ∧ Bel w0.heap.size w0 w' := by
 obtain ⟨A, cap, rfl, hl, hcap, hA⟩ := h
 obtain ⟨A', cap', rfl, hl', hcap', hA'⟩ := h'
 refine enter2 func65 rfl ntmps65 rfl fun a S => sg S (.ac rfl <| .z) fun a w S => wp_seq_k fun _ hK1 => sg S (.mv rfl <| .ln underlying30 rfl <| .mv rfl <| .ln underlying30 rfl <| .yy (Zu (.t rfl) (.t rfl)) rfl <| .z) fun a w S => ?_
 refine st_if S (.t rfl) (fun h1 => ?_) (fun h1 => ?_)
 refine sg S (.ac rfl <| .z) fun a w S => wp_ret (Zh (Zk S (results1 S results65 (Rv.tmp rfl)) ?_))
 rotate_left
 refine wp_skip (Za (hK1 _ _ (wp_seq_k fun _ hK1 => sg S (.mv rfl <| .ln underlying30 rfl <| .mc rfl <| .z) fun a w S => wp_block ?_)))
 rotate_left
 · refine ⟨?_, S.wd.below⟩
   rw [decide_eq_false (fun e => h1 (by rw [e]))]
 · refine st_lpK S (X := Nat) (fun k => [(13, true, .int .i64 (k : Int))]) (fun _ L => L) (fun k => k ≤ l.length ∧ l.take k = l'.take k) (fun k => l.length - k) 0 ⟨Nat.zero_le _, rfl⟩ ?_
   clear S
   intro k a w ⟨hk, hno⟩ S
   by_cases hlt : k < l.length
   · obtain ⟨g, o, m, rfl, hmm, hd, hc⟩ := Zv hA hlt
     obtain ⟨g', o', m', rfl, hmm', hd', hc'⟩ := Zv hA' (show k < l'.length by omega)
     clear hA hA'
     refine sg S (.lt (by omega) rfl rfl <| .z) fun a w S => wp_seq_k fun _ hK2 => Zd S (.t rfl) (wp_skip (Za (hK2 _ _ (wp_seq_k fun _ hK2 => wp_block (sg S (.mv rfl <| .as rfl <| .z) fun a w S => wp_seq_k fun _ hK3 => Xe S (by kernel_rfl) (by kernel_rfl) fun a S => qrun S (.mv rfl <| .mv rfl <| .ix underlying30 sizeOf106 (by omega) rfl rfl <| .yy (Ye ⟨isAgg106, sizeOf106⟩ (.t rfl) (vs := [_, _, _, _]) rfl (fun _ => hc)) rfl <| .mv rfl <| .mv rfl <| .ix underlying30 sizeOf106 (by omega) rfl rfl <| .yy (Ye ⟨isAgg106, sizeOf106⟩ (.t rfl) (vs := [_, _, _, _]) rfl (fun _ => hc')) rfl <| .yy (ys_neA (.t rfl) (.t rfl) eq106) rfl <| .z) fun a S => ?_)))))
     (refine q_nil ?_; intro w W; replace S := St.mk S W; clear W)
     refine Za (hK3 _ _ ?_)
     refine Xj S (.t rfl) (fun h2 => ?_) (fun h2 => ?_)
     refine sg S (.ac rfl <| .z) fun a w S => wp_ret (Yq (Zh (Zh (Yq (Zh (Zk S (results1 S results65 (Rv.tmp rfl)) ?_))))))
     rotate_left
     refine wp_skip (Zj (Za (hK2 _ _ (wp_region_lit (run S (.ad (by unfold I64; omega) rfl <| .mv rfl <| .z) fun a w S => Zb (Za ?_))))))
     rotate_left
     · refine ⟨?_, S.wd.below⟩
       have hne : ¬ m = m' := fun e => by
         have h3 := h2
         rw [mbrG_iff] at e
         simp at h3
         simp_all
       rw [at_ne hmm hmm' hne]
     · have heq : m = m' := by
         have h3 := h2
         rw [mbrG_iff]
         simpa using h3
       exact ⟨k + 1, ⟨by omega, at_step hno hmm hmm' heq⟩, by omega, S.wk⟩
   · refine sg S (.ge (by omega) rfl rfl <| .z) fun a w S => wp_seq_k fun _ hK2 => Zf S (.t rfl) (wp_exit (Zc (Zc (Zs (Za (hK1 _ _ (sg S (.ac rfl <| .z) fun a w S => wp_ret (Zk S (results1 S results65 (Rv.tmp rfl)) ?_))))))))
     refine ⟨?_, S.wd.below⟩
     rw [decide_eq_true]
     rw [List.take_of_length_le (by omega), List.take_of_length_le (by omega)] at hno
     exact hno
end Go.Proofs.YtbijdmfilmecbaaGreat
namespace Go.Fw
open Go.RowKit
def getT (T : List KH) (k : List UInt8) : Option Int := (T.find? fun x => decide (x.1 = k)).map (·.2)
theorem getT_none {T : List KH} {k : List UInt8} (h : getT T k = none) : ∀ x ∈ T, x.1 ≠ k := by
 unfold getT at h
 rw [Option.map_eq_none_iff, List.find?_eq_none] at h
 intro x hx e
 exact h x hx (decide_eq_true e)
theorem getT_some {T : List KH} {k : List UInt8} {h : Int} (e : getT T k = some h) : (k, h) ∈ T := by
 unfold getT at e
 obtain ⟨x, hx, rfl⟩ := Option.map_eq_some_iff.1 e
 have h1 := List.find?_some hx
 have h2 := List.mem_of_find?_eq_some hx
 have h3 : x.1 = k := of_decide_eq_true h1
 rw [← h3]
 exact h2
theorem key_inj {T : List KH} (hT : T.Pairwise ltK) {k : List UInt8} {h h' : Int} (h1 : (k, h) ∈ T) (h2 : (k, h') ∈ T) : h = h' := by
 refine Decidable.byContradiction fun hne => ?_
 induction T with
 | nil => cases h1
 | cons x r ih =>
   rw [List.pairwise_cons] at hT
   rcases List.mem_cons.1 h1 with a1 | a1
   · rcases List.mem_cons.1 h2 with a2 | a2
     · rw [← a1] at a2
       simp at a2
       exact hne a2.symm
     · have := hT.1 _ a2
       rw [← a1] at this
       unfold ltK at this
       rw [Wa] at this
       cases this
   · rcases List.mem_cons.1 h2 with a2 | a2
     · have := hT.1 _ a1
       rw [← a2] at this
       unfold ltK at this
       rw [Wa] at this
       cases this
     · exact ih hT.2 a1 a2
theorem getT_mem {T : List KH} (hT : T.Pairwise ltK) {k : List UInt8} {h : Int} (e : (k, h) ∈ T) : getT T k = some h := by
 cases hg : getT T k with
 | none => exact absurd rfl (getT_none hg _ e)
 | some u => rw [key_inj hT (getT_some hg) e]
def missP (T U : List KH) (places : List Int) (k : List UInt8) : Bool := (places.any fun p => decide (p = (placeK k : Int))) && (!(getT T k).isSome || (!(getT U k).isSome || decide ((getT T k).getD 0 ≠ (getT U k).getD 0)))
def bothT (T : List KH) (sums : List Sm) : List KH := setsT [] (T.map (smP 0) ++ sums)
def missT (T : List KH) (sums : List Sm) (places : List Int) : List (List UInt8) := ((bothT T sums).filter fun x => missP T (setsT [] sums) places x.1).map (·.1)
def namesOk (sums : List Sm) : Bool := sums.all fun s => nameB s.key
def missA (T : List KH) (sums : List Sm) (places : List Int) : List (List UInt8) × Int := if okP 4 4 places = true then (if namesOk sums = true then (missT T sums places, 0) else ([], 6)) else ([], 80)
theorem sets_app (T : List KH) (l r : List Sm) : setsT T (l ++ r) = setsT (setsT T l) r := by unfold setsT; rw [List.foldl_append]
theorem sets_self : ∀ (T : List KH), KhOk T → setsT [] (T.map (smP 0)) = T := fun T hT => by
 have key : ∀ (R P : List KH), KhOk (P ++ R) → setsT P (R.map (smP 0)) = P ++ R := by
   intro R
   induction R with
   | nil => intro P _; simp [setsT]
   | cons x r ih =>
     intro P h
     have hn : nameB (smP 0 x).key = true := h.name x (by simp)
     have hp : ∀ y ∈ P, Op.bytesLess y.1 x.1 = true := fun y hy => by
       have := List.pairwise_append.1 h.sorted
       exact this.2.2 y hy x (by simp)
     show setsT (if nameB (smP 0 x).key = true then setT (smP 0 x).key (smP 0 x).hash P else P) (r.map (smP 0)) = _
     rw [if_pos hn]
     have e : setT (smP 0 x).key (smP 0 x).hash P = P ++ [x] := by
       have : ∀ P : List KH, (∀ y ∈ P, Op.bytesLess y.1 x.1 = true) → setT x.1 x.2 P = P ++ [x] := by
         intro P
         induction P with
         | nil => intro _; rfl
         | cons z q ihq =>
           intro hz
           have h1 : Op.bytesLess z.1 x.1 = true := hz z (by simp)
           obtain ⟨zk, zh⟩ := z
           rw [setT, if_neg (by rw [Xv h1]; simp), if_neg (less_ne h1).symm, ihq fun y hy => hz y (by simp [hy])]
           rfl
       exact this P hp
     rw [e, ih (P ++ [x]) (by rw [List.append_assoc]; exact h), List.append_assoc]
     rfl
 have := key T [] (by simpa using hT)
 simpa using this
theorem smp_ok {T : List KH} (hT : KhOk T) : hashOk (T.map (smP 0)) := fun x hx => by
 obtain ⟨y, hy, rfl⟩ := List.mem_map.1 hx
 exact hT.hash y hy
theorem both_ok {T : List KH} {sums : List Sm} (hT : KhOk T) (hs : hashOk sums) : KhOk (bothT T sums) := by
 refine sets_ok _ (fun x hx => ?_) kh_nil
 rcases List.mem_append.1 hx with hx | hx
 · exact smp_ok hT x hx
 · exact hs x hx
theorem both_eq {T : List KH} {sums : List Sm} (hT : KhOk T) : bothT T sums = setsT T sums := by
 unfold bothT
 rw [sets_app, sets_self T hT]
theorem sets_has {k : List UInt8} : ∀ (l : List Sm) {T : List KH}, KhOk T → hashOk l → namesOk l = true → ((∃ h, (k, h) ∈ setsT T l) ↔ (∃ h, (k, h) ∈ T) ∨ ∃ s ∈ l, s.key = k)
 | [], T, _, _, _ => by simp [setsT]
 | s :: r, T, hT, hl, hn => by
   unfold namesOk at hn
   rw [List.all_cons, Bool.and_eq_true] at hn
   have ih := sets_has (k := k) r (setT_ok hT hn.1 (hl s (by simp))) (fun x hx => hl x (by simp [hx])) hn.2
   show (∃ h, (k, h) ∈ setsT (if nameB s.key = true then setT s.key s.hash T else T) r) ↔ _
   rw [if_pos hn.1, ih]
   constructor
   · rintro (⟨h, hh⟩ | ⟨x, hx, e⟩)
     · rcases (Xw hT.sorted).1 hh with e | ⟨h1, _⟩
       · simp at e
         exact .inr ⟨s, by simp, e.1.symm⟩
       · exact .inl ⟨h, h1⟩
     · exact .inr ⟨x, by simp [hx], e⟩
   · rintro (⟨h, hh⟩ | ⟨x, hx, e⟩)
     · by_cases e : k = s.key
       · exact .inl ⟨s.hash, (Xw hT.sorted).2 (.inl (by rw [e]))⟩
       · exact .inl ⟨h, (Xw hT.sorted).2 (.inr ⟨hh, e⟩)⟩
     · rcases List.mem_cons.1 hx with rfl | hx
       · exact .inl ⟨x.hash, (Xw hT.sorted).2 (.inl (by rw [e]))⟩
       · exact .inr ⟨x, hx, e⟩
theorem both_has {T : List KH} {sums : List Sm} {k : List UInt8} (hT : KhOk T) (hs : hashOk sums) (hn : namesOk sums = true) : (∃ h, (k, h) ∈ bothT T sums) ↔ (∃ h, (k, h) ∈ T) ∨ ∃ h, (k, h) ∈ setsT [] sums := by
 rw [both_eq hT, sets_has sums hT hs hn, sets_has sums kh_nil hs hn]
 simp
theorem miss_mem {T : List KH} {sums : List Sm} {places : List Int} {k : List UInt8} (hT : KhOk T) (hs : hashOk sums) (hn : namesOk sums = true) : k ∈ missT T sums places ↔
   (placeK k : Int) ∈ places ∧ ((∃ h, (k, h) ∈ T ∧ getT (setsT [] sums) k ≠ some h) ∨ ((∃ h, (k, h) ∈ setsT [] sums) ∧ ∀ h, (k, h) ∉ T)) := by
 have hU := sets_ok sums hs kh_nil
 unfold missT
 rw [List.mem_map]
 have hany : ∀ k, (places.any fun p => decide (p = (placeK k : Int))) = true ↔ (placeK k : Int) ∈ places := fun k => by
   rw [List.any_eq_true]
   constructor
   · rintro ⟨p, hp, e⟩
     rw [← of_decide_eq_true e]; exact hp
   · exact fun h => ⟨_, h, decide_eq_true rfl⟩
 constructor
 · rintro ⟨⟨k', u⟩, hx, rfl⟩
   obtain ⟨h1, h2⟩ := List.mem_filter.1 hx
   unfold missP at h2
   rw [Bool.and_eq_true] at h2
   refine ⟨(hany _).1 h2.1, ?_⟩
   have h3 := (both_has hT hs hn).1 ⟨u, h1⟩
   cases hg : getT T k' with
   | none =>
     refine .inr ⟨?_, fun h hh => getT_none hg _ hh rfl⟩
     rcases h3 with ⟨h, hh⟩ | h3
     · exact absurd rfl (getT_none hg _ hh)
     · exact h3
   | some v =>
     refine .inl ⟨v, getT_some hg, fun e => ?_⟩
     have h4 := h2.2
     dsimp only at h4
     rw [hg, e] at h4
     simp at h4
 · rintro ⟨h1, h2⟩
   have h3 : ∃ h, (k, h) ∈ bothT T sums := (both_has hT hs hn).2 (by
     rcases h2 with ⟨h, hh, _⟩ | ⟨h, _⟩
     · exact .inl ⟨h, hh⟩
     · exact .inr h)
   obtain ⟨u, hu⟩ := h3
   refine ⟨(k, u), List.mem_filter.2 ⟨hu, ?_⟩, rfl⟩
   unfold missP
   rw [Bool.and_eq_true]
   refine ⟨(hany k).2 h1, ?_⟩
   dsimp only
   rcases h2 with ⟨h, hh, hne⟩ | ⟨_, hno⟩
   · rw [getT_mem hT.sorted hh]
     cases hg : getT (setsT [] sums) k with
     | none => simp
     | some v =>
       rw [hg] at hne
       simp
       exact fun e => hne (by rw [e])
   · cases hg : getT T k with
     | none => simp
     | some v => exact absurd (getT_some hg) (hno v)
theorem miss_sorted {T : List KH} {sums : List Sm} {places : List Int} (hT : KhOk T) (hs : hashOk sums) : ((missT T sums places).map fun k => ((k, 0) : KH)).Pairwise ltK := by
 unfold missT
 rw [List.map_map]
 refine List.pairwise_map.2 (((both_ok hT hs).sorted.filter _).imp fun h => ?_)
 exact h
theorem miss_len (T : List KH) (sums : List Sm) (places : List Int) : (missT T sums places).length ≤ T.length + sums.length := by
 unfold missT
 rw [List.length_map]
 have h1 := List.length_filter_le (fun x : KH => missP T (setsT [] sums) places x.1) (bothT T sums)
 have h2 := sets_len (T.map (smP 0) ++ sums) []
 rw [List.length_append, List.length_map, List.length_nil] at h2
 unfold bothT at h1 ⊢
 omega
end Go.Fw
namespace Go.Fw
open Go.RowKit
structure Sl1 where
 a : Option Addr
 n : Nat
 c : Nat
abbrev Sl1.v (s : Sl1) : Value := .slice s.a s.n s.c
abbrev Sl1.nil : Sl1 := ⟨none, 0, 0⟩
structure MV where
 kind : Int
 fr : Int
 to : Int
 rq : Int
 key : List UInt8
 ce : Sl1
 cm : Sl1
 cc : Sl1
 ow : Int
 pt : Int
 nn : Int
 r1 : Int
 r2 : Int
 r3 : Int
 rm : Sl1
 pe : Sl1
 su : Sl1
abbrev MV.enc (m : MV) : List Value := [.int .i64 m.kind, .int .i64 m.fr, .int .i64 m.to, .int .i64 m.rq, .string (bs m.key), .slice m.ce.a m.ce.n m.ce.c, .slice m.cm.a m.cm.n m.cm.c, .slice m.cc.a m.cc.n m.cc.c, .int .i64 m.ow, .int .i64 m.pt, .int .i64 m.nn, .int .i64 m.r1, .int .i64 m.r2, .int .i64 m.r3, .slice m.rm.a m.rm.n m.rm.c, .slice m.pe.a m.pe.n m.pe.c, .slice m.su.a m.su.n m.su.c]
theorem MV.enc_len (m : MV) : (MV.enc m).length = 17 := rfl
theorem MV.enc_one (m : MV) : ∀ u ∈ MV.enc m, u.oneCell' = true := fun u hu => by
 simp [MV.enc] at hu
 rcases hu with rfl | rfl | rfl | rfl | rfl | rfl | rfl | rfl | rfl | rfl | rfl | rfl | rfl | rfl | rfl | rfl | rfl <;> rfl
abbrev XV.enc (self : Int) (g : Nat) (m : MV) : List Value := .int .i64 self :: .pointer (some ⟨g, 0, none⟩) :: MV.enc m
abbrev giveV (self : Int) (m : MV) (k : List UInt8) : MV := ⟨9, self, m.fr, 0, k, .nil, .nil, .nil, -1, m.pt, 0, 0, 0, 0, .nil, .nil, .nil⟩
abbrev treeV (self : Int) (m : MV) (n : Int) (s : Sl1) : MV := ⟨8, self, m.fr, 0, [], .nil, .nil, .nil, -1, m.pt, n, 0, 0, 0, .nil, .nil, s⟩
theorem giveV_enc (self : Int) (m : MV) (k : List UInt8) : #[Value.int .i64 9, .int .i64 self, .int .i64 m.fr, .int .i64 0, .string (bs k), .slice none 0 0, .slice none 0 0, .slice none 0 0, .int .i64 (-1), .int .i64 m.pt, .int .i64 0, .int .i64 0, .int .i64 0, .int .i64 0, .slice none 0 0, .slice none 0 0, .slice none 0 0] = (MV.enc (giveV self m k)).toArray := rfl
def haveT (T : List KH) (l : List (List UInt8)) : List (List UInt8) := l.filter (hasT T)
def giveT (self : Int) (m : MV) (T : List KH) (l : List (List UInt8)) : List MV := (haveT T l).map (giveV self m)
theorem haveT_snoc {T : List KH} {l : List (List UInt8)} {i : Nat} {k : List UInt8} (h : l[i]? = some k) : haveT T (l.take (i + 1)) = haveT T (l.take i) ++ if hasT T k = true then [k] else [] := by
 unfold haveT
 rw [List.take_add_one, h, Option.toList_some, List.filter_append]
 congr 1
 by_cases e : hasT T k = true
 · rw [if_pos e, List.filter_cons_of_pos e]; rfl
 · rw [if_neg e, List.filter_cons_of_neg e]; rfl
theorem haveT_len (T : List KH) (l : List (List UInt8)) : (haveT T l).length ≤ l.length := List.length_filter_le _ _
theorem part_key {T : List KH} (hT : KhOk T) (k : List UInt8) (p : Int) (hp : p.toNat = placeK k) : ((keysT T [p]).filter fun s => decide (s.key = k)).length = if hasT T k = true then 1 else 0 := by
 have e1 : (keysT T [p]) = (partT T (placeK k)).map (smP p) := by
   unfold keysT
   rw [List.flatMap_cons, List.flatMap_nil, List.append_nil, hp]
 have hs : (partT T (placeK k)).Pairwise ltK := hT.sorted.filter _
 have hm : ∀ x, x ∈ partT T (placeK k) ↔ x ∈ T ∧ placeK x.1 = placeK k := fun x => Yz
 have e2 : ((partT T (placeK k)).map (smP p)).filter (fun s => decide (s.key = k)) = ((partT T (placeK k)).filter fun x => decide (x.1 = k)).map (smP p) := by
   rw [List.filter_map]; rfl
 rw [e1, e2, List.length_map]
 have hn : ((partT T (placeK k)).filter fun x => decide (x.1 = k)).Pairwise ltK := hs.filter _
 by_cases h : hasT T k = true
 · rw [if_pos h]
   unfold hasT at h
   rw [List.any_eq_true] at h
   obtain ⟨x, hx, e⟩ := h
   rw [decide_eq_true_eq] at e
   have hxm : x ∈ (partT T (placeK k)).filter fun x => decide (x.1 = k) := by
     rw [List.mem_filter, decide_eq_true_eq]
     exact ⟨(hm x).2 ⟨hx, by rw [e]⟩, e⟩
   have hall : ∀ y ∈ (partT T (placeK k)).filter fun x => decide (x.1 = k), y.1 = k := fun y hy => by
     rw [List.mem_filter, decide_eq_true_eq] at hy; exact hy.2
   generalize (partT T (placeK k)).filter (fun x => decide (x.1 = k)) = l at hn hxm hall
   match l, hn, hxm, hall with
   | [_], _, _, _ => rfl
   | a :: b :: r, hn, _, hall =>
     exfalso
     have h1 := (List.pairwise_cons.1 hn).1 b (by simp)
     unfold ltK at h1
     rw [hall a (by simp), hall b (by simp)] at h1
     rw [Wa] at h1
     cases h1
 · rw [if_neg h]
   rw [List.length_eq_zero_iff, List.filter_eq_nil_iff]
   intro x hx
   rw [decide_eq_true_eq]
   intro e
   refine h ?_
   unfold hasT
   rw [List.any_eq_true]
   exact ⟨x, ((hm x).1 hx).1, decide_eq_true e⟩
structure Ans where
 gives : List (List UInt8)
 tree : Option (Int × List Sm)
abbrev Ans.nil : Ans := ⟨[], none⟩
def Ans.sums (a : Ans) : List Sm := match a.tree with
 | some p => p.2
 | none => []
def leavesT (T : List KH) (u : List Int) : List Sm := u.flatMap fun p => ⟨p, [], 0⟩ :: keysT T [p]
def downT (T : List KH) (n : Int) (sums : List Sm) : Option (Int × List Sm) :=
 if okP n 4 (sums.map (·.place)) = true ∧ unlikeT T n sums ≠ [] then (if n = 4 then some (5, leavesT T (unlikeT T n sums)) else some (n + 1, sumsT T (n + 1) (belowT (unlikeT T n sums)))) else none
def placesS (sums : List Sm) : List Int := (sums.filter fun s => decide (s.key = [])).map (·.place)
def restS (sums : List Sm) : List Sm := sums.filter fun s => !decide (s.key = [])
def missW (T : List KH) (sums : List Sm) : List (List UInt8) := (missA T (restS sums) (placesS sums)).1
def keyS (k : List UInt8) : Sm := ⟨0, k, 0⟩
def keysQ (T : List KH) (sums : List Sm) : Ans := if missW T sums = [] then .nil else ⟨haveT T (missW T sums), some (6, (missW T sums).map keyS)⟩
def onA (T : List KH) (n : Int) (sums : List Sm) : Ans :=
 if 0 ≤ n ∧ n ≤ 4 then ⟨[], downT T n sums⟩ else if n = 5 then keysQ T sums else if n = 6 then ⟨haveT T (sums.map (·.key)), none⟩ else .nil
def ansV (self : Int) (m : MV) (a : Ans) (B : Option Addr) (cB : Nat) : List MV := a.gives.map (giveV self m) ++ match a.tree with
 | some p => [treeV self m p.1 ⟨B, p.2.length, cB⟩]
 | none => []
theorem unlike_mem {T : List KH} {n x : Int} {sums : List Sm} (h : x ∈ unlikeT T n sums) : x ∈ sums.map (·.place) := by
 unfold unlikeT at h
 obtain ⟨s, hs, rfl⟩ := List.mem_map.1 h
 exact List.mem_map.2 ⟨s, (List.mem_filter.1 hs).1, rfl⟩
theorem We {n d : Int} {l : List Int} : okP n d l = true ↔ (0 ≤ n ∧ n ≤ d) ∧ ∀ x ∈ l, 0 ≤ x ∧ x < 2 ^ n.toNat := by
 unfold okP
 rw [Bool.and_eq_true, Bool.and_eq_true, decide_eq_true_eq, decide_eq_true_eq, List.all_eq_true]
 constructor
 · rintro ⟨h1, h2⟩; exact ⟨h1, fun x hx => of_decide_eq_true (h2 x hx)⟩
 · rintro ⟨h1, h2⟩; exact ⟨h1, fun x hx => decide_eq_true (h2 x hx)⟩
theorem okP_unlike {T : List KH} {n d : Int} {sums : List Sm} (h : okP n d (sums.map (·.place)) = true) : okP n d (unlikeT T n sums) = true := by
 obtain ⟨h1, h2⟩ := We.1 h
 exact We.2 ⟨h1, fun x hx => h2 x (unlike_mem hx)⟩
theorem okP_below {n : Int} {l : List Int} (h : okP n 4 l = true) (hn : n ≠ 4) : okP n 3 l = true ∧ okP (n + 1) 4 (belowT l) = true := by
 obtain ⟨⟨h0, h1⟩, h2⟩ := We.1 h
 refine ⟨We.2 ⟨⟨h0, by omega⟩, h2⟩, We.2 ⟨⟨by omega, by omega⟩, fun x hx => ?_⟩⟩
 obtain ⟨p, hp, hx⟩ := List.mem_flatMap.1 hx
 obtain ⟨h3, h4⟩ := h2 p hp
 have e : (2 : Int) ^ (n + 1).toNat = 2 * 2 ^ n.toNat := by
   rw [show (n + 1).toNat = n.toNat + 1 by omega, Int.pow_succ]; omega
 rw [e]
 generalize (2 : Int) ^ n.toNat = b at h4
 simp at hx
 omega
theorem okP_one {p : Int} {l : List Int} (h : okP 4 4 l = true) (hp : p ∈ l) : okP 4 4 [p] = true := by
 obtain ⟨h1, h2⟩ := We.1 h
 exact We.2 ⟨h1, fun x hx => by rw [List.mem_singleton.1 hx]; exact h2 p hp⟩
theorem Wf (T : List KH) (p : Int) : (keysT T [p]).length ≤ T.length := by
 unfold keysT
 rw [List.flatMap_cons, List.flatMap_nil, List.append_nil, List.length_map]
 exact List.length_filter_le _ _
theorem leaves_snoc {T : List KH} {u : List Int} {i : Nat} {p : Int} (h : u[i]? = some p) : leavesT T (u.take (i + 1)) = (leavesT T (u.take i) ++ [⟨p, [], 0⟩]) ++ keysT T [p] := by
 unfold leavesT
 rw [List.take_add_one, h, Option.toList_some, List.flatMap_append, List.flatMap_cons, List.flatMap_nil, List.append_nil, List.append_assoc]
 rfl
theorem leaves_len (T : List KH) (u : List Int) : (leavesT T u).length ≤ u.length * (T.length + 1) := by
 unfold leavesT
 induction u with
 | nil => simp
 | cons p r ih =>
   rw [List.flatMap_cons, List.length_append, List.length_cons, List.length_cons, Nat.add_mul]
   have := Wf T p
   omega
end Go.Fw
namespace Go.Proofs.YtbijdmfilmecbaaGreat
open Go.Fw Go.Proofs Go.RowKit Go.Proofs.Tryz
theorem sl_i1 {w0 w : World} {L : List Chunk} {k g : Nat} {t : TypeId} {fr : Nat × Nat} {x : Int} (W : Wd w0 L w) (hk : L[k]? = some (.blk g (.cells #[.int .i64 x] t fr))) : Sl encI 1 w w.heap.size (.slice (some ⟨g, 0, none⟩) 1 1) [x] := Sl.of_blk (enc := encI) (cap := 1) [x] W hk rfl (fun _ => rfl) (Nat.le_refl 1) (by decide)
theorem c69 (w0 : World) (self n : Int) (pv : Value) (m : MV) (A : Option Addr) (l c : Nat) :
   Calls Tryz.prog 69 #[.agg (.int .i64 self :: pv :: MV.enc m).toArray, .int .i64 n, .slice A l c] w0 fun e w' => e = .returned (.agg (MV.enc (treeV self m n ⟨A, l, c⟩)).toArray) ∧ Bel w0.heap.size w0 w' := by
 refine enter3 func69 rfl ntmps69 rfl fun a S => wp_seq_k fun _ hK1 => wp_region_lit (Zi (Ym S (.t rfl) rfl fun g1 a w S => Zi (Zt S zeroValue35 (cs := _) rfl rfl fun g2 a w S => Zb (Za (hK1 _ _ (wp_seq_k fun _ hK1 => wp_region_lit (run S (.fa underlying91 sizeOf3 0 rfl rfl rfl <| .ld gt3 1 rfl rfl rfl <| .fa underlying91 sizeOf35 2 rfl rfl rfl <| .fa underlying35 sizeOf3 3 rfl rfl rfl <| .ld gt3 1 rfl rfl rfl <| .fa underlying91 sizeOf35 2 rfl rfl rfl <| .fa underlying35 sizeOf3 11 rfl rfl rfl <| .ld gt3 1 rfl rfl rfl <| .mv rfl <| .mv rfl <| .yy (Yj (ps := [(0, _), (1, Go.Operand.tmp 8), (2, Go.Operand.tmp 11), (7, Go.Operand.tmp 14), (6, _), (8, Go.Operand.tmp 15), (11, Go.Operand.tmp 16)]) (us := [_, _, _, _, _, _, _, _, _, _, _, _, _, _, _, _, _]) bld35 (.cons Ev.c (.cons (.t rfl) (.cons (.t rfl) (.cons (.t rfl) (.cons Ev.c (.cons (.t rfl) (.cons (.t rfl) .nil))))))) rfl) rfl <| .z) fun a w S => Zi (Ya S sizeOf35 (.t rfl) (.t rfl) (k := 0) rfl rfl rfl (by simp [Value.oneCell']) fun a w S => Zb (Za (hK1 _ _ (wp_ret (Zk S (results1 S results69 (Rv.cell (k := 0) ⟨isAgg35, sizeOf35⟩ rfl rfl rfl)) ?_))))))))))))
 exact ⟨rfl, S.wd.below⟩
theorem c72 (w0 : World) (self : Int) (m : MV) (g cap : Nat) (A : Option Addr) (gs : List Nat) (T : List KH) (v : Value) (l : List (List UInt8)) (h : TreeAt w0 g A cap gs T) (hT : KhOk T) (hl : T.length ≤ 1048576) (h2 : Sl encS' 1 w0 w0.heap.size v l) (hk : ∀ k ∈ l, k.length ≤ 1048576) (hn : l.length ≤ 1048576) :
   Rets Tryz.prog 72 #[.agg (XV.enc self g m).toArray, v] w0 fun u L => ∃ B cB, u = .slice B (giveT self m T l).length cB ∧ L = [rowOf 35 17 MV.enc B cB (giveT self m T l)] := by
 obtain ⟨A', cap', rfl, hl', hcap', hA'⟩ := h2
 unfold Go.Fw.Rets
 refine enter2 func72 rfl ntmps72 rfl fun a S => wp_seq_k fun _ hK1 => wp_region_lit (Zi (Ym S (.t rfl) rfl fun g1 a w S => run S (.ac rfl <| .z) fun a w S => Zb (Za (hK1 _ _ (sg S (.ac rfl <| .z) fun a w S => wp_seq_k fun _ hK1 => sg S (.mv rfl <| .ln underlying58 rfl <| .mc rfl <| .z) fun a w S => wp_block ?_)))))
 replace S := S.nil_ 35 17 MV.enc none
 refine Yg S [5, 14] (X := Nat × Option Addr × Nat) (fun q => [(5, true, .slice q.2.1 (giveT self m T (l.take q.1)).length q.2.2), (14, true, .int .i64 (q.1 : Int))])
   (fun q => [rowOf 35 17 MV.enc q.2.1 q.2.2 (giveT self m T (l.take q.1)), .blk g1 (.cells (XV.enc self g m).toArray 91)]) (fun q => q.1 ≤ l.length) (fun q => l.length - q.1) (0, none, 0) (Nat.zero_le _) ?_
 clear S
 rintro ⟨i, B, cB⟩ a w hi S
 dsimp only at hi S
 have hgl : (giveT self m T (l.take i)).length ≤ i := by
   unfold giveT
   rw [List.length_map]
   have := haveT_len T (l.take i)
   rw [List.length_take] at this
   omega
 by_cases hlt : i < l.length
 · obtain ⟨gq, oq, k, rfl, hk1, hd, hc⟩ := Zv hA' hlt
   have hkl := hk k (List.mem_of_getElem? hk1)
   have hst := haveT_snoc (T := T) hk1
   have hok : okP 4 4 [(placeK k : Int)] = true := We.2 ⟨⟨by omega, by omega⟩, fun x hx => by
     rw [List.mem_singleton.1 hx]
     have := placeK_lt k
     have e : (2 : Int) ^ (4 : Int).toNat = 16 := by decide
     omega⟩
   have hka : keysA T [(placeK k : Int)] = (keysT T [(placeK k : Int)], 0) := if_pos hok
   have hkx := part_key hT k (placeK k : Int) (Int.toNat_natCast _)
   have hkn := Wf T (placeK k : Int)
   have hg1 : giveT self m T (l.take (i + 1)) = giveT self m T (l.take i) ++ List.replicate (if hasT T k = true then 1 else 0) (giveV self m k) := by
     unfold giveT
     rw [hst, List.map_append]
     congr 1
     split <;> rfl
   generalize giveT self m T (l.take i) = G at *
   obtain ⟨p, hp⟩ : ∃ p, placeK k = p := ⟨_, rfl⟩
   have rw_p : ((placeK k : Nat) : Int) = (p : Int) := by rw [hp]
   rw [hp] at hkx hkn hka
   generalize hks : keysT T [(p : Int)] = ks at *
   have rw_1 : (keysA T [(p : Int)]).1 = ks := by rw [hka]
   have rw_2 : (keysA T [(p : Int)]).2 = 0 := by rw [hka]
   have halt_d := trivial
   refine sg S (.lt (by omega) rfl rfl <| .z) fun a w S => wp_seq_k fun _ hK2 => Zd S (.t rfl) (wp_skip (Za (hK2 _ _ (wp_seq_k fun _ hK2 => wp_block (sg S (.ix underlying58 sizeOf9 (by omega) rfl rfl <| .yy (Zw ⟨isAgg9, sizeOf9⟩ (.t rfl) (fun _ => hc 0 _ rfl)) rfl <| .as rfl <| .z) fun a w S => wp_seq_k fun _ hK3 => ?_)))))
   clear halt_d
   refine Code.wp_mono (Q := fun e a w => match e with
     | .normal => ∃ B1 c1, St 55 w0 [(9, true, .int .i64 0), (8, true, .slice B1 ks.length c1), (7, true, .string (bs k)), (5, true, .slice B G.length cB), (14, true, .int .i64 (i : Int)), (13, true, .int .i64 (l.length : Int)), (12, true, .slice (some ⟨gq, oq, none⟩) l.length cap'), (4, true, .slice none 0 0), (2, true, .pointer (some ⟨g1, 0, none⟩)), (0, true, .agg (XV.enc self g m).toArray), (1, true, .slice (some ⟨gq, oq, none⟩) l.length cap')]
         [rowOf 77 3 Sm.enc B1 c1 ks, rowOf 35 17 MV.enc B cB G, .blk g1 (.cells (XV.enc self g m).toArray 91)] a w
     | _ => False) (fun e a w q => ?_) ?_
   rotate_left
   · have hold_r := trivial
     have lr_nil := trivial
     refine h_begin S (by kernel_rfl) [] fun a w S => hy 0 S rfl (Zm (FieldT.mk underlying91 rfl sizeOf36 rfl) (.t rfl) (i' := 1) rfl) rfl fun a w S => hy 2 S rfl (Ze (.t rfl)) rfl fun a w S => ?_
     refine h_split (i := 1) (j := 3) (by kernel_rfl) rfl rfl ?_ ?_
     (refine op_y S (Yr.ys (Yd ⟨isAgg36, sizeOf36⟩ (.t rfl) (k := 1) rfl rfl)) rfl ?_; clear S a w; intro a w S; refine Yw S ?_)
     refine h_q (i := 3) S (by repeat (first | exact List.Sublist.refl _ | exact List.nil_sublist _ | refine .cons_cons _ ?_ | refine .cons _ ?_)) rfl (by kernel_rfl) (Zg call88 (.cons (.t rfl) .nil) (fun hp w W => c88 _ _ (by omega))) rfl fun a w S => ?_
     rw [rw_p] at S
     (refine h_m (i := 4) rfl (by kernel_rfl) (Zp S underlying82 inf3 rfl rfl rfl (.t rfl) rfl rfl rfl ?_); clear S a w; intro g2 a w S; refine Yw S ?_)
     (refine h_m (i := 5) rfl (by kernel_rfl) (Zq S call68 (.cons (.t rfl) (.cons (.t rfl) .nil)) (c68 _ _ _ _ _ _ _ _ (by exact .old S.wd (by assumption)) (by assumption) (by assumption) (by exact sl_i1 S.wd (k := 0) rfl) (by (simp; done))) rfl ?_); clear S a w; rintro _ _ ⟨B1, c1, rfl, rfl⟩ a w S; refine Yw S ?_)
     rw [rw_1] at S
     rw [rw_2] at S
     refine hy 6 S rfl (Ze (.t rfl)) rfl fun a w S => hy 7 S rfl (ys_ext (.t rfl) rfl) rfl fun a w S => hy 8 S rfl (ys_ext (.t rfl) rfl) rfl fun a w S => hy 9 S rfl (Yu (.t rfl)) rfl fun a w S => hy 10 S rfl (Yu (.t rfl)) rfl fun a w S => Xg (by kernel_rfl) ?_
     rotate_left
     (refine op_y S (Zg call88 (.cons (.t rfl) .nil) (fun hp w W => c88 _ _ (by omega))) rfl ?_; clear S a w; intro a w S; refine Yw S ?_)
     rw [rw_p] at S
     refine h_split (i := 1) (j := 4) (by kernel_rfl) rfl rfl ?_ ?_
     (refine op_y S (Yr.ys (Yd ⟨isAgg36, sizeOf36⟩ (.t rfl) (k := 1) rfl rfl)) rfl ?_; clear S a w; intro a w S; refine Yw S ?_)
     (refine h_m (i := 4) rfl (by kernel_rfl) (Zp S underlying82 inf3 rfl rfl rfl (.t rfl) rfl rfl rfl ?_); clear S a w; intro g2 a w S; refine Yw S ?_)
     (refine h_m (i := 5) rfl (by kernel_rfl) (Zq S call68 (.cons (.t rfl) (.cons (.t rfl) .nil)) (c68 _ _ _ _ _ _ _ _ (by exact .old S.wd (by assumption)) (by assumption) (by assumption) (by exact sl_i1 S.wd (k := 0) rfl) (by (simp; done))) rfl ?_); clear S a w; rintro _ _ ⟨B1, c1, rfl, rfl⟩ a w S; refine Yw S ?_)
     rw [rw_1] at S
     rw [rw_2] at S
     refine hy 6 S rfl (Ze (.t rfl)) rfl fun a w S => hy 7 S rfl (ys_ext (.t rfl) rfl) rfl fun a w S => hy 8 S rfl (ys_ext (.t rfl) rfl) rfl fun a w S => hy 9 S rfl (Yu (.t rfl)) rfl fun a w S => hy 10 S rfl (Yu (.t rfl)) rfl fun a w S => Xg (by kernel_rfl) ?_
     rotate_left
     (refine Zp S underlying82 inf3 rfl rfl rfl (.t rfl) rfl rfl rfl ?_; clear S a w; intro g2 a w S; refine Yw S ?_)
     refine h_q (i := 1) S (by repeat (first | exact List.Sublist.refl _ | exact List.nil_sublist _ | refine .cons_cons _ ?_ | refine .cons _ ?_)) rfl (by kernel_rfl) (Yr.ys (Yd ⟨isAgg36, sizeOf36⟩ (.t rfl) (k := 2) rfl rfl)) rfl fun a w S => ?_
     (refine h_m (i := 5) rfl (by kernel_rfl) (Zq S call68 (.cons (.t rfl) (.cons (.t rfl) .nil)) (c68 _ _ _ _ _ _ _ _ (by exact .old S.wd (by assumption)) (by assumption) (by assumption) (by exact sl_i1 S.wd (k := 0) rfl) (by (simp; done))) rfl ?_); clear S a w; rintro _ _ ⟨B1, c1, rfl, rfl⟩ a w S; refine Yw S ?_)
     rw [rw_1] at S
     rw [rw_2] at S
     refine hy 6 S rfl (Ze (.t rfl)) rfl fun a w S => hy 7 S rfl (ys_ext (.t rfl) rfl) rfl fun a w S => hy 8 S rfl (ys_ext (.t rfl) rfl) rfl fun a w S => hy 9 S rfl (Yu (.t rfl)) rfl fun a w S => hy 10 S rfl (Yu (.t rfl)) rfl fun a w S => Xg (by kernel_rfl) ?_
     rotate_left
     all_goals exact ⟨_, _, S.pk⟩
   clear S
   rcases e with _ | _ | _ | _ | _ | _ | _
   any_goals exact q.elim
   obtain ⟨B1, c1, S⟩ := q
   refine Za (hK3 _ _ ?_)
   clear hK3
   have hksl := (S.wd.room (k := 0) rfl).1
   refine wp_seq_k fun _ hK3 => sg S (.mv rfl <| .yy (Yf (by omega) (Zu (.t rfl) Ev.c)) rfl <| .z) fun a w S => Zf S (.t rfl) (wp_skip (Za (hK3 _ _ (sg S (.mv rfl <| .ln underlying22 rfl <| .mc rfl <| .z) fun a w S => wp_block ?_))))
   have e0 : G = G ++ List.replicate ((ks.take 0).filter fun s => decide (s.key = k)).length (giveV self m k) := by simp
   rw [e0] at S
   refine Yg S [5, 31] (X := Nat × Option Addr × Nat) (fun q => [(5, true, .slice q.2.1 (G ++ List.replicate ((ks.take q.1).filter fun s => decide (s.key = k)).length (giveV self m k)).length q.2.2), (31, true, .int .i64 (q.1 : Int))])
     (fun q => [rowOf 35 17 MV.enc q.2.1 q.2.2 (G ++ List.replicate ((ks.take q.1).filter fun s => decide (s.key = k)).length (giveV self m k)), rowOf 77 3 Sm.enc B1 c1 ks, .blk g1 (.cells (XV.enc self g m).toArray 91)]) (fun q => q.1 ≤ ks.length) (fun q => ks.length - q.1) (0, B, cB) (Nat.zero_le _) ?_
   clear S
   rintro ⟨j, C, cC⟩ a w hj S
   dsimp only at hj S
   by_cases hjl : j < ks.length
   · obtain ⟨gS, rfl⟩ := S.wd.row_at (k := 1) rfl (by omega)
     obtain ⟨s, hs⟩ : ∃ s, ks[j]? = some s := ⟨_, List.getElem?_eq_getElem hjl⟩
     have hfl := List.length_filter_le (fun s : Sm => decide (s.key = k)) (ks.take j)
     rw [List.length_take] at hfl
     by_cases he : s.key = k
     · have rw_e := decide_eq_true he
       have hf : ((ks.take (j + 1)).filter fun s => decide (s.key = k)).length = ((ks.take j).filter fun s => decide (s.key = k)).length + 1 := by
         rw [List.take_add_one, hs, Option.toList_some, List.filter_append, List.filter_cons_of_pos (by exact rw_e), List.length_append]; rfl
       generalize ((ks.take j).filter fun s => decide (s.key = k)).length = c at *
       have rw_g := giveV_enc self m k
       have hGl : (G ++ List.replicate c (giveV self m k)).length ≤ 4194304 := by rw [List.length_append, List.length_replicate]; omega
       have hG2 : (G ++ List.replicate c (giveV self m k)) ++ [giveV self m k] = G ++ List.replicate (c + 1) (giveV self m k) := by rw [List.replicate_succ', List.append_assoc]
       generalize G ++ List.replicate c (giveV self m k) = H at *
       refine sg S (.lt (by omega) rfl rfl <| .z) fun a w S => wp_seq_k fun _ hK3 => Zd S (.t rfl) (wp_skip (Za (hK3 _ _ (wp_seq_k fun _ hK3 => wp_block (wp_seq_k fun _ hK4 => wp_region_lit (run S (.ix underlying22 sizeOf77 (by omega) rfl rfl <| .yy (ys_ldWA ⟨isAgg77, sizeOf77⟩ (.t rfl) (k := 1) rfl hs (fun _ => rfl)) rfl <| .z) fun a w S => Zi (Zt S zeroValue77 (cs := _) rfl rfl fun g2 a w S => Zi (Ya S sizeOf77 (.t rfl) (.t rfl) (k := 0) rfl rfl rfl (by simp [Value.oneCell']) fun a w S => Zb (Za (hK4 _ _ (wp_seq_k fun _ hK4 => wp_region_lit (run S (.fa underlying77 sizeOf9 1 rfl rfl rfl <| .ld gt9 0 rfl rfl rfl <| .mv rfl <| .yy (Xq (.t rfl) (.t rfl)) rfl <| .z) fun a w S => ?_))))))))))))
       rw [rw_e] at S
       refine Zb (Za (hK4 _ _ (Zd S (.t rfl) (wp_region_lit (run S (.mv rfl <| .fa underlying91 sizeOf3 0 rfl rfl rfl <| .ld gt3 3 rfl rfl rfl <| .fa underlying91 sizeOf35 2 rfl rfl rfl <| .fa underlying35 sizeOf3 3 rfl rfl rfl <| .ld gt3 3 rfl rfl rfl <| .fa underlying91 sizeOf35 2 rfl rfl rfl <| .fa underlying35 sizeOf3 11 rfl rfl rfl <| .ld gt3 3 rfl rfl rfl <| .mv rfl <| .yy (Yj (ps := [(0, _), (1, Go.Operand.tmp 41), (2, Go.Operand.tmp 44), (7, Go.Operand.tmp 47), (6, _), (4, Go.Operand.tmp 48)]) (us := [_, _, _, _, _, _, _, _, _, _, _, _, _, _, _, _, _]) bld35 (.cons Ev.c (.cons (.t rfl) (.cons (.t rfl) (.cons (.t rfl) (.cons Ev.c (.cons (.t rfl) .nil)))))) rfl) rfl <| .z) fun a w S => ?_)))))
       rw [rw_g] at S
       refine Zi (Zp S underlying46 inf35 rfl rfl rfl (.t rfl) rfl rfl rfl fun g3 a w S => ?_)
       rw [rw_g] at S
       refine Zi (Yc S underlying46 inf35 rfl (k := 2) (j := 0) rfl (.t rfl) (.t rfl) rfl rfl rfl rfl (by first | omega | (simp only [List.length_append, List.length_cons, List.length_nil]; omega)) rfl rfl rfl fun A1 cap1 a w S => ?_)
       rw [rw_g] at S
       refine run S (.as rfl <| .z) fun a w S => ?_
       rw [rw_g] at S
       refine Zb ?_
       rw [rw_g] at S
       refine Zj (Za (hK3 _ _ ?_))
       rw [rw_g] at S
       refine wp_region_lit ?_
       rw [rw_g] at S
       refine run S (.ad (by unfold I64; omega) rfl <| .z) fun a w S => ?_
       rw [rw_g] at S
       refine run S (.mv rfl <| .z) fun a w S => ?_
       rw [rw_g] at S
       refine Zb ?_
       rw [rw_g] at S
       refine Za ?_
       rw [rw_g] at S
       rw [hG2, ← hf] at S
       exact ⟨(j + 1, A1, cap1), by dsimp only; omega, by dsimp only; omega, S.pk⟩
     · have rw_e := decide_eq_false he
       have hf : ((ks.take (j + 1)).filter fun s => decide (s.key = k)).length = ((ks.take j).filter fun s => decide (s.key = k)).length := by
         rw [List.take_add_one, hs, Option.toList_some, List.filter_append, List.filter_cons_of_neg (by rw [rw_e]; simp), List.filter_nil, List.append_nil]
       refine sg S (.lt (by omega) rfl rfl <| .z) fun a w S => wp_seq_k fun _ hK3 => Zd S (.t rfl) (wp_skip (Za (hK3 _ _ (wp_seq_k fun _ hK3 => wp_block (wp_seq_k fun _ hK4 => wp_region_lit (run S (.ix underlying22 sizeOf77 (by omega) rfl rfl <| .yy (ys_ldWA ⟨isAgg77, sizeOf77⟩ (.t rfl) (k := 1) rfl hs (fun _ => rfl)) rfl <| .z) fun a w S => Zi (Zt S zeroValue77 (cs := _) rfl rfl fun g2 a w S => Zi (Ya S sizeOf77 (.t rfl) (.t rfl) (k := 0) rfl rfl rfl (by simp [Value.oneCell']) fun a w S => Zb (Za (hK4 _ _ (wp_seq_k fun _ hK4 => wp_region_lit (run S (.fa underlying77 sizeOf9 1 rfl rfl rfl <| .ld gt9 0 rfl rfl rfl <| .mv rfl <| .yy (Xq (.t rfl) (.t rfl)) rfl <| .z) fun a w S => ?_))))))))))))
       rw [rw_e] at S
       refine Zb (Za (hK4 _ _ (Zf S (.t rfl) (wp_skip (Zj (Za (hK3 _ _ (wp_region_lit (run S (.ad (by unfold I64; omega) rfl <| .mv rfl <| .z) fun a w S => Zb (Za ?_))))))))))
       rw [← hf] at S
       exact ⟨(j + 1, C, cC), by dsimp only; omega, by dsimp only; omega, S.pk⟩
   obtain rfl : j = ks.length := by omega
   rw [List.take_length, hkx] at S
   refine sg S (.ge (by omega) rfl rfl <| .z) fun a w S => wp_seq_k fun _ hK3 => Zf S (.t rfl) (wp_exit (Zc (Zc (Zs (Zj (Za (hK2 _ _ (wp_region_lit (run S (.ad (by unfold I64; omega) rfl <| .mv rfl <| .z) fun a w S => Zb (Za ?_))))))))))
   exact ⟨(i + 1, C, cC), by dsimp only; omega, by dsimp only; omega, by dsimp only; rw [hg1]; exact S.pk⟩
 obtain rfl : i = l.length := by omega
 rw [List.take_length] at S
 refine sg S (.ge (by omega) rfl rfl <| .z) fun a w S => wp_seq_k fun _ hK2 => Zf S (.t rfl) (wp_exit (Zc (Zc (Zs (Za (hK1 _ _ (sg S (.mv rfl <| .as rfl <| .z) fun a w S => wp_ret (Zk S (results1 S results72 (Rv.tmp rfl)) ?_))))))))
 exact ⟨_, _, rfl, S.wd.pk, B, cB, rfl, rfl⟩
end Go.Proofs.YtbijdmfilmecbaaGreat
namespace Go.Fw
open Go.RowKit
structure Sls3 where
 a1 : Option Addr
 n1 : Nat
 c1 : Nat
 a2 : Option Addr
 n2 : Nat
 c2 : Nat
 a3 : Option Addr
 n3 : Nat
 c3 : Nat
abbrev SCart := Cart × Sls3
abbrev SUpd := Upd × Sls3
abbrev SCart.enc (p : SCart) : List Value := [.slice p.2.a1 p.2.n1 p.2.c1, .slice p.2.a2 p.2.n2 p.2.c2, .slice p.2.a3 p.2.n3 p.2.c3]
theorem SCart.enc_len (p : SCart) : (SCart.enc p).length = 3 := rfl
theorem SCart.enc_one (p : SCart) : ∀ u ∈ SCart.enc p, u.oneCell' = true := fun u hu => by simp [SCart.enc] at hu; rcases hu with rfl | rfl | rfl <;> rfl
abbrev SUpd.enc (p : SUpd) : List Value := Upd.enc p.1 (.slice p.2.a1 p.2.n1 p.2.c1) (.slice p.2.a2 p.2.n2 p.2.c2) (.slice p.2.a3 p.2.n3 p.2.c3)
theorem SUpd.enc_len (p : SUpd) : (SUpd.enc p).length = 10 := rfl
theorem SUpd.enc_one (p : SUpd) : ∀ u ∈ SUpd.enc p, u.oneCell' = true := fun u hu => by simp [SUpd.enc, Upd.enc] at hu; rcases hu with rfl | rfl | rfl | rfl | rfl | rfl | rfl | rfl | rfl | rfl <;> rfl
structure CartIn (w1 : World) (bs : List Nat) (X : Cart) (s : Sls3) : Prop where
 ents : SlIn Ent.enc 6 w1 bs (.slice s.a1 s.n1 s.c1) X.ents
 marks : SlIn Dot.enc 3 w1 bs (.slice s.a2 s.n2 s.c2) X.ctx.marks
 cloud : SlIn Dot.enc 3 w1 bs (.slice s.a3 s.n3 s.c3) X.ctx.cloud
structure CartRd (w : World) (X : Cart) (s : Sls3) : Prop where
 ents : Sl Ent.enc 6 w w.heap.size (.slice s.a1 s.n1 s.c1) X.ents
 marks : Sl Dot.enc 3 w w.heap.size (.slice s.a2 s.n2 s.c2) X.ctx.marks
 cloud : Sl Dot.enc 3 w w.heap.size (.slice s.a3 s.n3 s.c3) X.ctx.cloud
section
variable {w0 w w1 : World} {L : List Chunk} {k : Nat} {bs bs' : List Nat} {X : Cart} {s : Sls3}
theorem CartIn.rd (h : CartIn w1 bs X s) (W : Wd w0 L w) (hk : L[k]? = some (.ice w1 bs)) : CartRd w X s := ⟨h.ents.sl W hk, h.marks.sl W hk, h.cloud.sl W hk⟩
theorem CartRd.ctx (h : CartRd w X s) : RdCtx w w.heap.size (.slice s.a2 s.n2 s.c2) (.slice s.a3 s.n3 s.c3) X.ctx := ⟨h.marks, h.cloud⟩
end
end Go.Fw
namespace Go.Fw
open Go.RowKit Go.Sort Go.Proofs
abbrev MEnt := {e : Ent // mayD e.dot = true}
instance : Inhabited MEnt := ⟨⟨⟨[], ⟨0, 1, 1⟩, 0, 0⟩, rfl⟩⟩
abbrev MEnt.enc (e : MEnt) : List Value := Ent.enc e.1
end Go.Fw
namespace Go.Ft
open Go.RowKit
abbrev bs (l : List UInt8) : ByteArray := ⟨l.toArray⟩
section ops
variable {P : Program} {n : Nat} {w0 : World} {K : KL} {L : List Chunk} {b : Bool} {dst : Option Tmp} {ty : TypeId} {pos : String} {aft : Array Edge} {gd : Option (Nat × Bool)}
end ops
section
variable {P : Program} {n : Nat} {w0 : World} {K : KL} {L : List Chunk} {ty : TypeId} {pos : String} {aft : Array Edge} {gd : Option (Nat × Bool)} {a : Act} {w : World} {Z : Act → World → Prop} {Q : Exit → Act → World → Prop} {d : Nat}
end
section
variable {P : Program} {n : Nat} {w0 : World} {K : KL} {L : List Chunk} {ty : TypeId} {pos : String} {aft : Array Edge} {gd : Option (Nat × Bool)} {a : Act} {w : World} {Z : Act → World → Prop} {Q : Exit → Act → World → Prop} {d : Nat}
end
section
variable {P : Program} {n : Nat} {w0 : World} {K : KL} {L : List Chunk} {ty : TypeId} {pos : String} {aft : Array Edge} {gd : Option (Nat × Bool)} {a : Act} {w : World} {Z : Act → World → Prop} {Q : Exit → Act → World → Prop} {d : Nat}
end
section
variable {P : Program} {Q : Exit → Act → World → Prop} {J : Act → World → Prop} {l i : Nat} {a : Act} {w : World}
end
section ops
variable {P : Program} {n : Nat} {w0 : World} {K : KL} {L : List Chunk} {b : Bool} {dst : Option Tmp} {ty : TypeId} {pos : String} {aft : Array Edge} {gd : Option (Nat × Bool)}
end ops
end Go.Ft
namespace Go.Ft
open Go.RowKit
section ops
variable {P : Program} {n : Nat} {w0 : World} {K : KL} {L : List Chunk} {b : Bool} {dst : Option Tmp} {ty : TypeId} {pos : String} {aft : Array Edge} {gd : Option (Nat × Bool)}
end ops
section
variable {n : Nat} {w0 : World} {K : KL} {L : List Chunk} {a : Act} {w : World} {c : Chunk}
end
theorem Wd.cell {w0 w : World} {L : List Chunk} (W : Wd w0 L w) {k g i : Nat} {cs : List Value} {e : TypeId} {fr : Nat × Nat} {v : Value} (hk : L[k]? = some (.blk g (.cells cs.toArray e fr))) (hc : nth cs i = some v) : w.cell? ⟨g, i, none⟩ = some v := by
 rw [cell_of_row w g i _ e fr (W.get hk).2]
 rw [nth_eq] at hc
 simpa using hc
section split
variable {P : Program} {Q : Exit → Act → World → Prop} {n : Nat} {w0 : World} {K : KL} {L Lr : List Chunk} {a : Act} {w : World} {ops : Array Oper} {fuel : Nat} {listed : Array Bool} {md : Region.Mode}
end split
section
variable {P : Program} {n : Nat} {w0 : World} {K : KL} {L : List Chunk} {ty : TypeId} {pos : String} {aft : Array Edge} {gd : Option (Nat × Bool)} {a : Act} {w : World} {Z : Act → World → Prop} {Q : Exit → Act → World → Prop} {d : Nat}
end
end Go.Ft
namespace Go.Ft
open Go.RowKit
def ltM (a b : Dot) : Prop := a.node < b.node ∨ (a.node = b.node ∧ a.life < b.life)
def ltC (a b : Dot) : Prop := a.node < b.node ∨ (a.node = b.node ∧ (a.life < b.life ∨ (a.life = b.life ∧ a.count < b.count)))
theorem belowC_iff (a b : Dot) : belowD a b = true ↔ ltC a b := by
 simp only [belowD, ltC]
 split
 · simp; omega
 · split <;> simp <;> omega
structure Nf (C : Ctx) : Prop where
 marks : C.marks.Pairwise ltM
 cloud : C.cloud.Pairwise ltC
 mayM : ∀ x ∈ C.marks, mayD x = true
 mayC : ∀ x ∈ C.cloud, mayD x = true
 gap : ∀ x ∈ C.cloud, markOf C.marks x.node x.life + 1 < x.count
end Go.Ft
namespace Go.Ft
open Go.RowKit
structure Ent where
 item : List UInt8
 dot : Dot
 qty : Int
 price : UInt64
deriving DecidableEq
abbrev Ent.enc (e : Ent) : List Value := [.string (bs e.item), .int .i64 e.dot.node, .int .i64 e.dot.life, .int .i64 e.dot.count, .int .i64 e.qty, .int .u64 (e.price.toNat : Int)]
structure Cart where
 ents : List Ent
 ctx : Ctx
deriving DecidableEq
abbrev Cart.zero : Cart := ⟨[], ⟨[], []⟩⟩
structure Line where
 item : List UInt8
 qty : Int
 price : UInt64
deriving DecidableEq
abbrev Line.enc (e : Line) : List Value := [.string (bs e.item), .int .i64 e.qty, .int .u64 (e.price.toNat : Int)]
def ltE (a b : Ent) : Prop := Op.bytesLess a.item b.item = true ∨ (a.item = b.item ∧ ltC a.dot b.dot)
instance (a b : Ent) : Decidable (ltE a b) := decidable_of_iff (Op.bytesLess a.item b.item = true ∨ (a.item = b.item ∧ belowD a.dot b.dot = true)) (by rw [belowC_iff]; rfl)
def clashE (a b : Cart) : Prop := ∃ x ∈ a.ents, ∃ y ∈ b.ents, x.dot = y.dot ∧ x ≠ y
instance (a b : Cart) : Decidable (clashE a b) := by unfold clashE; infer_instance
end Go.Ft
namespace Go.Proofs.YtbijdmfilmecbaaGreat
open Go.Fw Go.Proofs Go.RowKit Go.Proofs.Tryz
theorem c81 (w0 : World) (v1 : Value) (l : List Dot) (h : Sl Dot.enc 3 w0 w0.heap.size v1 l) (hn : l.length ≤ 4194304) :
   Rets Tryz.prog 81 #[v1] w0 fun v L => ∃ A c, v = .slice A l.length c ∧ L = [rowOf 137 3 Dot.enc A c l] := by
 have h0 := h
 obtain ⟨A, cap, rfl, hl, hcap, hA⟩ := h
 unfold Go.Fw.Rets
 refine enter1 func81 rfl ntmps81 rfl fun a S => sg S (.ac rfl <| .z) fun a w S => wp_seq_k fun _ hK1 => sg S (.mv rfl <| .yy (ys_sNil underlying24 (.t rfl) Ev.c) rfl <| .z) fun a w S => ?_
 refine Xj S (.t rfl) (fun h1 => ?_) (fun h1 => ?_)
 refine sg S (.ac rfl <| .z) fun a w S => wp_ret (Zh (Zk S (results1 S results81 (Rv.tmp rfl)) ?_))
 rotate_left
 refine wp_skip (Za (hK1 _ _ (wp_seq_k fun _ hK1 => wp_region_lit (Zi (op_bslice0 S underlying24 sizeOf137 rfl fun g1 a w S => run S (.mv rfl <| .z) fun a w S => Zi (Xi _ (S.nil_ 137 _ Go.Fw.Dot.enc _) underlying24 underlying24 (.inr ⟨_, rfl⟩) inf137 rfl (k := 0) rfl (.t rfl) (.t rfl) (Src.sl (Sl.old S.wd h0) (by decide) Go.Fw.Dot.enc_len Go.Fw.Dot.enc_one) (by first | omega | (simp only [List.length_append, List.length_cons, List.length_nil]; omega) | (simp; omega)) rfl rfl rfl fun A1 cap1 a w S => ?_))))))
 simp only [List.nil_append] at S
 refine run S (.as rfl <| .z) fun a w S => Zb (Za (hK1 _ _ (wp_ret (Zk S (results1 S results81 (Rv.tmp rfl)) ?_))))
 rotate_left
 · have hnil : l = [] := by
     refine List.eq_nil_of_length_eq_zero (Decidable.byContradiction fun hne => ?_)
     obtain ⟨g, o, rfl, _⟩ := hA (by omega)
     cases h1
   subst hnil
   exact ⟨_, _, rfl, (S.nil_ 137 3 Dot.enc none).wd.sub (by repeat (first | exact List.Sublist.refl _ | exact List.nil_sublist _ | refine .cons_cons _ ?_ | refine .cons _ ?_)), none, 0, rfl, rfl⟩
 · try simp only [List.nil_append] at S ⊢
   exact ⟨_, _, rfl, S.wd.sub (by repeat (first | exact List.Sublist.refl _ | exact List.nil_sublist _ | refine .cons_cons _ ?_ | refine .cons _ ?_)), _, _, rfl, rfl⟩
end Go.Proofs.YtbijdmfilmecbaaGreat
namespace Go.Proofs.YtbijdmfilmecbaaGreat
open Go.Fw Go.Proofs Go.RowKit Go.Proofs.Tryz
theorem c52 (w0 : World) (v1 v2 : Value) (C : Ctx) (h : RdCtx w0 w0.heap.size v1 v2 C) (hn : C.marks.length ≤ 1048576) (hn' : C.cloud.length ≤ 1048576) :
   Rets Tryz.prog 52 #[.agg #[v1, v2]] w0 fun v L => ∃ A1 r1 A2 r2, v = .agg #[.slice A1 C.marks.length r1, .slice A2 C.cloud.length r2] ∧
     L = [rowOf 137 3 Dot.enc A1 r1 C.marks, rowOf 113 3 Dot.enc A2 r2 C.cloud] := by
 obtain ⟨h1, h2⟩ := id h
 obtain ⟨B1, q1, rfl, _⟩ := id h1
 obtain ⟨B2, q2, rfl, _⟩ := id h2
 unfold Go.Fw.Rets
 refine enter1 func52 rfl ntmps52 rfl fun a S => wp_seq_k fun _ hK1 => wp_region_lit (Zi (Ym S (.t rfl) rfl fun g1 a w S => Zi (Zt S zeroValue27 (cs := _) rfl rfl fun g2 a w S => Zb (Za (hK1 _ _ (wp_seq_k fun _ hK1 => h_beginE S (by kernel_rfl) 0 fun a w S => hy 0 S rfl (Zm (FieldT.mk underlying27 rfl sizeOf24 rfl) (.t rfl) (i' := 0) rfl) rfl fun a w S => hy 1 S rfl (Yd ⟨isAgg24, sizeOf24⟩ (.t rfl) (k := 0) rfl rfl) rfl fun a w S => hy 3 S rfl (Zm (FieldT.mk underlying27 rfl sizeOf25 rfl) (.t rfl) (i' := 1) rfl) rfl fun a w S => ?_))))))
 refine hy 4 S rfl (Yd ⟨isAgg25, sizeOf25⟩ (.t rfl) (k := 0) rfl rfl) rfl fun a w S => ?_
 (refine h_m (i := 2) rfl (by kernel_rfl) (Zq S call81 (.cons (.t rfl) .nil) (c81 _ _ _ (by exact .old S.wd (by assumption)) (by omega)) rfl ?_); clear S a w; rintro _ _ ⟨A1, c1, rfl, rfl⟩ a w S; refine Yw S ?_)
 (refine h_m (i := 5) rfl (by kernel_rfl) (Zq S call82 (.cons (.t rfl) .nil) (c82 _ _ _ (by exact .old S.wd (by assumption)) (by omega)) rfl ?_); clear S a w; rintro _ _ ⟨A2, c2, rfl, rfl⟩ a w S; refine Yw S ?_)
 refine hy 6 S rfl (Yj (ps := [(0, Go.Operand.tmp 5), (1, Go.Operand.tmp 8)]) (us := [_, _]) bld27 (.cons (.t rfl) (.cons (.t rfl) .nil)) rfl) rfl fun a w S => ?_
 (refine h_m0 (i := 7) rfl (by kernel_rfl) (Ya S sizeOf27 (.t rfl) (.t rfl) (k := 2) rfl rfl rfl (by simp [Value.oneCell']) ?_); clear S a w; intro a w S; refine Yw S ?_)
 refine Xg (by kernel_rfl) (Za (hK1 _ _ (wp_ret (Zk S (results1 S results52 (Rv.cell (k := 2) ⟨isAgg27, sizeOf27⟩ rfl rfl rfl)) ?_))))
 (replace S := S.pull 1 rfl; try simp only [List.set_cons_zero, List.set_cons_succ, List.eraseIdx_cons_succ, List.eraseIdx_cons_zero] at S)
 exact ⟨_, _, rfl, S.wd.sub (by repeat (first | exact List.Sublist.refl _ | exact List.nil_sublist _ | refine .cons_cons _ ?_ | refine .cons _ ?_)), _, _, _, _, rfl, rfl⟩
end Go.Proofs.YtbijdmfilmecbaaGreat
namespace Go.Fw
theorem cart_same {X Y : Cart} : (decide (X.ents = Y.ents) && decide (X.ctx = Y.ctx)) = decide (X = Y) := by
 cases X; cases Y; simp
end Go.Fw
namespace Go.Proofs.YtbijdmfilmecbaaGreat
open Go.Fw Go.Proofs Go.RowKit Go.Proofs.Tryz
theorem c16 (w0 : World) (v1 v2 v3 : Value) (X : Cart) (h : Sl Ent.enc 6 w0 w0.heap.size v1 X.ents) (hr : RdCtx w0 w0.heap.size v2 v3 X.ctx) (hl1 : X.ents.length ≤ 1048576) (hl2 : X.ctx.marks.length ≤ 1048576) (hl3 : X.ctx.cloud.length ≤ 1048576) :
   Rets Tryz.prog 16 #[.agg #[v1, v2, v3]] w0 fun v L => ∃ A1 r1 A2 r2 A3 r3, v = .agg #[.slice A1 X.ents.length r1, .slice A2 X.ctx.marks.length r2, .slice A3 X.ctx.cloud.length r3] ∧
     L = [rowOf 115 6 Ent.enc A1 r1 X.ents, rowOf 137 3 Dot.enc A2 r2 X.ctx.marks, rowOf 113 3 Dot.enc A3 r3 X.ctx.cloud] := by
 have hs := h
 have hrr := hr
 obtain ⟨A, cap, rfl, hl, hcap, hA⟩ := h
 obtain ⟨⟨A2, cap2, rfl, _⟩, ⟨A3, cap3, rfl, _⟩⟩ := hr
 unfold Go.Fw.Rets
 refine enter1 func16 rfl ntmps16 rfl fun a S => wp_seq_k fun _ hK1 => wp_region_lit (Zi (Ym S (.t rfl) rfl fun g1 a w S => Zi (Zt S zeroValue29 (cs := _) rfl rfl fun g2 a w S => Zb (Za (hK1 _ _ (wp_seq_k fun _ hK1 => h_beginE S (by kernel_rfl) 0 fun a w S => hy 0 S rfl (Zm (FieldT.mk underlying29 rfl sizeOf23 rfl) (.t rfl) (i' := 0) rfl) rfl fun a w S => hy 1 S rfl (Yd ⟨isAgg23, sizeOf23⟩ (.t rfl) (k := 0) rfl rfl) rfl fun a w S => hy 3 S rfl (Zm (FieldT.mk underlying29 rfl sizeOf27 rfl) (.t rfl) (i' := 1) rfl) rfl fun a w S => ?_))))))
 refine hy 4 S rfl (Yn ⟨isAgg27, sizeOf27⟩ (.t rfl) (k := 0) rfl rfl) rfl fun a w S => ?_
 (refine h_m (i := 2) rfl (by kernel_rfl) (Zq S call51 (.cons (.t rfl) .nil) (c51 _ _ _ (by exact .old S.wd (by assumption)) (by omega)) rfl ?_); clear S a w; rintro _ _ ⟨A1, c1, rfl, rfl⟩ a w S; refine Yw S ?_)
 (refine h_m (i := 5) rfl (by kernel_rfl) (Zq S call52 (.cons (.t rfl) .nil) (c52 _ _ _ _ (by exact .old S.wd (by assumption)) (by assumption) (by assumption)) rfl ?_); clear S a w; rintro _ _ ⟨A11, r11, A21, r21, rfl, rfl⟩ a w S; refine Yw S ?_)
 refine hy 6 S rfl (Yj (ps := [(0, Go.Operand.tmp 5), (1, Go.Operand.tmp 8)]) (us := [_, _, _]) bld29 (.cons (.t rfl) (.cons (.t rfl) .nil)) rfl) rfl fun a w S => ?_
 (refine h_m0 (i := 7) rfl (by kernel_rfl) (Ya S sizeOf29 (.t rfl) (.t rfl) (k := 3) rfl rfl rfl (by simp [Value.oneCell']) ?_); clear S a w; intro a w S; refine Yw S ?_)
 refine Xg (by kernel_rfl) (Za (hK1 _ _ (wp_ret (Zk S (results1 S results16 (Rv.cell (k := 3) ⟨isAgg29, sizeOf29⟩ rfl rfl rfl)) ?_))))
 exact ⟨_, _, rfl, S.wd.pk, _, _, _, _, _, _, rfl, rfl⟩
theorem c23 (w0 : World) (v1 v2 v3 v4 v5 v6 : Value) (X Y : Cart) (h : Sl Ent.enc 6 w0 w0.heap.size v1 X.ents) (hr : RdCtx w0 w0.heap.size v2 v3 X.ctx) (h' : Sl Ent.enc 6 w0 w0.heap.size v4 Y.ents) (hr' : RdCtx w0 w0.heap.size v5 v6 Y.ctx) :
   Calls Tryz.prog 23 #[.agg #[v1, v2, v3], .agg #[v4, v5, v6]] w0 fun e w' => e = .returned (.bool (decide (X = Y))) ∧ Bel w0.heap.size w0 w' := by
 have hs := h
 have hrr := hr
 have hs' := h'
 have hrr' := hr'
 obtain ⟨A, cap, rfl, hl, hcap, hA⟩ := h
 obtain ⟨⟨A2, cap2, rfl, _⟩, ⟨A3, cap3, rfl, _⟩⟩ := hr
 obtain ⟨B, capB, rfl, hlB, hcapB, hB⟩ := h'
 obtain ⟨⟨B2, capB2, rfl, _⟩, ⟨B3, capB3, rfl, _⟩⟩ := hr'
 refine enter2 func23 rfl ntmps23 rfl fun a S => wp_seq_k fun _ hK1 => wp_region_lit (Zi (Ym S (.t rfl) rfl fun g1 a w S => Zi (Ym S (.t rfl) rfl fun g2 a w S => run S (.ac rfl <| .z) fun a w S => Zb (Za (hK1 _ _ (wp_seq_k fun _ hK1 => wp_region_lit (run S (.fa underlying29 sizeOf23 0 rfl rfl rfl <| .ld gt23 1 rfl rfl rfl <| .fa underlying29 sizeOf23 0 rfl rfl rfl <| .ld gt23 0 rfl rfl rfl <| .xx (Zg call58 (.cons (.t rfl) (.cons (.t rfl) .nil)) (fun hp w W => c58 _ _ _ _ _ (by exact .old W (by assumption)) (by exact .old W (by assumption)))) rfl <| .mv rfl <| .z) fun a w S => Yt S rfl rfl (Yr.ys (Zm (FieldT.mk underlying29 rfl sizeOf27 rfl) (.t rfl) (i' := 1) rfl)) rfl fun a w S => Yt S rfl rfl (Yr.ys (Yn ⟨isAgg27, sizeOf27⟩ (Ev.g rfl) (k := 1) rfl rfl)) rfl fun a w S => Yt S rfl rfl (Yr.ys (Zm (FieldT.mk underlying29 rfl sizeOf27 rfl) (.t rfl) (i' := 1) rfl)) rfl fun a w S => Yt S rfl rfl (Yr.ys (Yn ⟨isAgg27, sizeOf27⟩ (Ev.g rfl) (k := 0) rfl rfl)) rfl fun a w S => Yt S rfl rfl (Zg call59 (.cons (Ev.g rfl) (.cons (Ev.g rfl) .nil)) (fun hp w W => c59 _ _ _ _ _ _ _ (by exact .old W (by assumption)) (by exact .old W (by assumption)))) rfl fun a w S => run S (.yy (Xs (.t rfl) (Ev.g rfl) Ev.c) rfl <| .as rfl <| .z) fun a w S => Zb (Za (hK1 _ _ (wp_ret ?_))))))))))
 refine Zk S (results1 S results23 (Rv.tmp rfl)) ?_
 exact ⟨by rw [cart_same], S.wd.below⟩
end Go.Proofs.YtbijdmfilmecbaaGreat
namespace Go.Fw
open Go.RowKit
theorem CartRd.old {w0 w : World} {L : List Chunk} {X : Cart} {s : Sls3} (W : Wd w0 L w) (h : CartRd w0 X s) : CartRd w X s := ⟨.old W h.1, .old W h.2, .old W h.3⟩
def CartsRd (w : World) (l : List SCart) : Prop := ∀ x ∈ l, CartRd w x.1 x.2
theorem CartsRd.old {w0 w : World} {L : List Chunk} {l : List SCart} (W : Wd w0 L w) (h : CartsRd w0 l) : CartsRd w l := fun x hx => (h x hx).old W
theorem CartRd.wd {w0 w : World} {X : Cart} {s : Sls3} (h : CartRd w0 X s) (W : Wd w0 [] w) : CartRd w X s := h.old W
end Go.Fw
namespace Go.Proofs.YtbijdmfilmecbaaGreat
open Go.Fw Go.Proofs Go.RowKit Go.Proofs.Tryz
end Go.Proofs.YtbijdmfilmecbaaGreat
namespace Go.Fw
open Go.RowKit
structure MX where
 c : Cart
 mem : List Mbr
 pe : List Dot
 su : List Sm
abbrev MX.nil : MX := ⟨Cart.zero, [], [], []⟩
structure MsgRd (w : World) (m : MV) (x : MX) : Prop where
 ents : Sl Ent.enc 6 w w.heap.size (.slice m.ce.a m.ce.n m.ce.c) x.c.ents
 ctx : RdCtx w w.heap.size (.slice m.cm.a m.cm.n m.cm.c) (.slice m.cc.a m.cc.n m.cc.c) x.c.ctx
 mem : Sl Mbr.enc 4 w w.heap.size (.slice m.rm.a m.rm.n m.rm.c) x.mem
 pe : Sl Dot.enc 3 w w.heap.size (.slice m.pe.a m.pe.n m.pe.c) x.pe
 su : Sl Sm.enc 3 w w.heap.size (.slice m.su.a m.su.n m.su.c) x.su
theorem MsgRd.old {w0 w : World} {L : List Chunk} {m : MV} {x : MX} (W : Wd w0 L w) (h : MsgRd w0 m x) : MsgRd w m x := ⟨.old W h.1, .old W h.2, .old W h.3, .old W h.4, .old W h.5⟩
structure SameV (m m' : MV) : Prop where
 kind : m.kind = m'.kind
 fr : m.fr = m'.fr
 to : m.to = m'.to
 rq : m.rq = m'.rq
 key : m.key = m'.key
 ow : m.ow = m'.ow
 pt : m.pt = m'.pt
 nn : m.nn = m'.nn
 r1 : m.r1 = m'.r1
 r2 : m.r2 = m'.r2
 r3 : m.r3 = m'.r3
theorem ne_ff {a b : Int} (h : a = b) : decide (a ≠ b) = false := decide_eq_false (fun e => e h)
end Go.Fw
namespace Go.Proofs.YtbijdmfilmecbaaGreat
open Go.Fw Go.Proofs Go.RowKit Go.Proofs.Tryz
theorem c33 (w0 : World) (a b c : Int) (v v' : Value) (l : List Mbr) (h : Sl Mbr.enc 4 w0 w0.heap.size v l) (h' : Sl Mbr.enc 4 w0 w0.heap.size v' l) :
   Calls Tryz.prog 33 #[.agg #[.int .i64 a, .int .i64 b, .int .i64 c, v], .agg #[.int .i64 a, .int .i64 b, .int .i64 c, v']] w0 fun e w' => e = .returned (.bool true) ∧ Bel w0.heap.size w0 w' := by
 have rw_1 : ∀ x : Int, decide (x = x) = true := fun x => decide_eq_true rfl
 have rw_2 : decide (l = l) = true := decide_eq_true rfl
 refine enter2 func33 rfl ntmps33 rfl fun a S => wp_seq_k fun _ hK1 => wp_region_lit (Zi (Ym S (.t rfl) rfl fun g1 a w S => Zi (Ym S (.t rfl) rfl fun g2 a w S => run S (.ac rfl <| .z) fun a w S => Zb (Za (hK1 _ _ (wp_seq_k fun _ hK1 => wp_region_lit ?_))))))
 refine run S (.fa underlying32 sizeOf3 0 rfl rfl rfl <| .ld gt3 1 rfl rfl rfl <| .fa underlying32 sizeOf3 0 rfl rfl rfl <| .ld gt3 0 rfl rfl rfl <| .yy (Yk (by omega) (Yi (.t rfl) (.t rfl))) rfl <| .mv rfl <| .gy rfl rfl (Zm (FieldT.mk underlying32 rfl sizeOf3 rfl) (.t rfl) (i' := 1) rfl) <| .gy rfl rfl (Yd ⟨isAgg3, sizeOf3⟩ (.t rfl) (k := 1) rfl rfl) <| .gy rfl rfl (Zm (FieldT.mk underlying32 rfl sizeOf3 rfl) (.t rfl) (i' := 1) rfl) <| .gy rfl rfl (Yd ⟨isAgg3, sizeOf3⟩ (.t rfl) (k := 0) rfl rfl) <| .gy rfl rfl (Yk (by omega) (Yi (.t rfl) (.t rfl))) <| .yy (Zr (.t rfl) (.t rfl)) rfl <| .mv rfl <| .gy rfl rfl (Zm (FieldT.mk underlying32 rfl sizeOf3 rfl) (.t rfl) (i' := 2) rfl) <| .gy rfl rfl (Yd ⟨isAgg3, sizeOf3⟩ (.t rfl) (k := 1) rfl rfl) <| .gy rfl rfl (Zm (FieldT.mk underlying32 rfl sizeOf3 rfl) (.t rfl) (i' := 2) rfl) <| .gy rfl rfl (Yd ⟨isAgg3, sizeOf3⟩ (.t rfl) (k := 0) rfl rfl) <| .gy rfl rfl (Yk (by omega) (Yi (.t rfl) (.t rfl))) <| .yy (Zr (.t rfl) (.t rfl)) rfl <| .mv rfl <| .gy rfl rfl (Zm (FieldT.mk underlying32 rfl sizeOf30 rfl) (.t rfl) (i' := 3) rfl) <| .gy rfl rfl (Yd ⟨isAgg30, sizeOf30⟩ (.t rfl) (k := 1) rfl rfl) <| .gy rfl rfl (Zm (FieldT.mk underlying32 rfl sizeOf30 rfl) (.t rfl) (i' := 3) rfl) <| .gy rfl rfl (Yd ⟨isAgg30, sizeOf30⟩ (.t rfl) (k := 0) rfl rfl) <| .gx rfl rfl (Zg call65 (.cons (.t rfl) (.cons (.t rfl) .nil)) (fun hp w W => c65 _ _ _ _ _ (by exact .old W (by assumption)) (by exact .old W (by assumption)))) <| .z) fun a w S => ?_
 simp only [List.nil_append] at S
 refine run S (.yy (Zr (.t rfl) (.t rfl)) rfl <| .as rfl <| .z) fun a w S => Zb (Za (hK1 _ _ (wp_ret (Zk S (results1 S results33 (Rv.tmp rfl)) ?_))))
 exact ⟨rfl, S.wd.below⟩
theorem c8 (w0 : World) (m m' : MV) (x : MX) (h : MsgRd w0 m x) (h' : MsgRd w0 m' x) (hs : SameV m m') :
   Calls Tryz.prog 8 #[.agg (MV.enc m).toArray, .agg (MV.enc m').toArray] w0 fun e w' => e = .returned (.bool true) ∧ Bel w0.heap.size w0 w' := by
 obtain ⟨e1, e2, e3, e4, e5, e6, e7, e8, e9, e10, e11⟩ := hs
 obtain ⟨a1, a2, a3, a4, a5⟩ := h
 obtain ⟨b1, b2, b3, b4, b5⟩ := h'
 have rw_1 := ne_ff e1
 have rw_2 := ne_ff e2
 have rw_3 := ne_ff e3
 have rw_4 := ne_ff e4
 have rw_6 := ne_ff e6
 have rw_7 := ne_ff e7
 have rw_8 := ne_ff e8
 have rw_5 : decide (m.key ≠ m'.key) = false := decide_eq_false (fun e => e e5)
 have rw_9 := e9
 have rw_10 := e10
 have rw_11 := e11
 have rw_12 : decide (x.c = x.c) = true := decide_eq_true rfl
 have rw_13 : decide (x.pe = x.pe) = true := decide_eq_true rfl
 have rw_14 : decide (x.su = x.su) = true := decide_eq_true rfl
 refine enter2 func8 rfl ntmps8 rfl fun a S => wp_seq_k fun _ hK1 => wp_region_lit (Zi (Ym S (.t rfl) rfl fun g1 a w S => Zi (Ym S (.t rfl) rfl fun g2 a w S => run S (.ac rfl <| .z) fun a w S => Zb (Za (hK1 _ _ (wp_seq_k fun _ hK1 => wp_seq_k fun _ hK2 => wp_region_lit ?_))))))
 refine run S (.fa underlying35 sizeOf3 0 rfl rfl rfl <| .ld gt3 1 rfl rfl rfl <| .fa underlying35 sizeOf3 0 rfl rfl rfl <| .ld gt3 0 rfl rfl rfl <| .yy (Yf (by omega) (Zu (.t rfl) (.t rfl))) rfl <| .mv rfl <| .gy rfl rfl (Zm (FieldT.mk underlying35 rfl sizeOf3 rfl) (.t rfl) (i' := 1) rfl) <| .gy rfl rfl (Yd ⟨isAgg3, sizeOf3⟩ (.t rfl) (k := 1) rfl rfl) <| .gy rfl rfl (Zm (FieldT.mk underlying35 rfl sizeOf3 rfl) (.t rfl) (i' := 1) rfl) <| .gy rfl rfl (Yd ⟨isAgg3, sizeOf3⟩ (.t rfl) (k := 0) rfl rfl) <| .gy rfl rfl (Yf (by omega) (Zu (.t rfl) (.t rfl))) <| .yy (Zn (.t rfl) (.t rfl)) rfl <| .mv rfl <| .gy rfl rfl (Zm (FieldT.mk underlying35 rfl sizeOf3 rfl) (.t rfl) (i' := 2) rfl) <| .gy rfl rfl (Yd ⟨isAgg3, sizeOf3⟩ (.t rfl) (k := 1) rfl rfl) <| .gy rfl rfl (Zm (FieldT.mk underlying35 rfl sizeOf3 rfl) (.t rfl) (i' := 2) rfl) <| .gy rfl rfl (Yd ⟨isAgg3, sizeOf3⟩ (.t rfl) (k := 0) rfl rfl) <| .gy rfl rfl (Yf (by omega) (Zu (.t rfl) (.t rfl))) <| .yy (Zn (.t rfl) (.t rfl)) rfl <| .mv rfl <| .gy rfl rfl (Zm (FieldT.mk underlying35 rfl sizeOf3 rfl) (.t rfl) (i' := 3) rfl) <| .gy rfl rfl (Yd ⟨isAgg3, sizeOf3⟩ (.t rfl) (k := 1) rfl rfl) <| .gy rfl rfl (Zm (FieldT.mk underlying35 rfl sizeOf3 rfl) (.t rfl) (i' := 3) rfl) <| .gy rfl rfl (Yd ⟨isAgg3, sizeOf3⟩ (.t rfl) (k := 0) rfl rfl) <| .gy rfl rfl (Yf (by omega) (Zu (.t rfl) (.t rfl))) <| .yy (Zn (.t rfl) (.t rfl)) rfl <| .mv rfl <| .gy rfl rfl (Zm (FieldT.mk underlying35 rfl sizeOf9 rfl) (.t rfl) (i' := 4) rfl) <| .gy rfl rfl (Yd ⟨isAgg9, sizeOf9⟩ (.t rfl) (k := 1) rfl rfl) <| .gy rfl rfl (Zm (FieldT.mk underlying35 rfl sizeOf9 rfl) (.t rfl) (i' := 4) rfl) <| .gy rfl rfl (Yd ⟨isAgg9, sizeOf9⟩ (.t rfl) (k := 0) rfl rfl) <| .gy rfl rfl (ys_neqStr (.t rfl) (.t rfl)) <| .z) fun a w S => ?_
 rw [rw_5] at S
 refine run S (.yy (Zn (.t rfl) (.t rfl)) rfl <| .mv rfl <| .gy rfl rfl (Zm (FieldT.mk underlying35 rfl sizeOf3 rfl) (.t rfl) (i' := 8) rfl) <| .gy rfl rfl (Yd ⟨isAgg3, sizeOf3⟩ (.t rfl) (k := 1) rfl rfl) <| .gy rfl rfl (Zm (FieldT.mk underlying35 rfl sizeOf3 rfl) (.t rfl) (i' := 8) rfl) <| .gy rfl rfl (Yd ⟨isAgg3, sizeOf3⟩ (.t rfl) (k := 0) rfl rfl) <| .gy rfl rfl (Yf (by omega) (Zu (.t rfl) (.t rfl))) <| .yy (Zn (.t rfl) (.t rfl)) rfl <| .mv rfl <| .gy rfl rfl (Zm (FieldT.mk underlying35 rfl sizeOf3 rfl) (.t rfl) (i' := 9) rfl) <| .gy rfl rfl (Yd ⟨isAgg3, sizeOf3⟩ (.t rfl) (k := 1) rfl rfl) <| .gy rfl rfl (Zm (FieldT.mk underlying35 rfl sizeOf3 rfl) (.t rfl) (i' := 9) rfl) <| .gy rfl rfl (Yd ⟨isAgg3, sizeOf3⟩ (.t rfl) (k := 0) rfl rfl) <| .gy rfl rfl (Yf (by omega) (Zu (.t rfl) (.t rfl))) <| .yy (Zn (.t rfl) (.t rfl)) rfl <| .mv rfl <| .gy rfl rfl (Zm (FieldT.mk underlying35 rfl sizeOf3 rfl) (.t rfl) (i' := 10) rfl) <| .gy rfl rfl (Yd ⟨isAgg3, sizeOf3⟩ (.t rfl) (k := 1) rfl rfl) <| .gy rfl rfl (Zm (FieldT.mk underlying35 rfl sizeOf3 rfl) (.t rfl) (i' := 10) rfl) <| .gy rfl rfl (Yd ⟨isAgg3, sizeOf3⟩ (.t rfl) (k := 0) rfl rfl) <| .gy rfl rfl (Yf (by omega) (Zu (.t rfl) (.t rfl))) <| .yy (Zn (.t rfl) (.t rfl)) rfl <| .z) fun a w S => ?_
 refine Zb (Za (hK2 _ _ (Zf S (.t rfl) (wp_skip (Za (hK1 _ _ (wp_seq_k fun _ hK1 => wp_region_lit (run S (.fa underlying35 sizeOf29 5 rfl rfl rfl <| .la gt29 1 rfl rfl rfl <| .fa underlying35 sizeOf29 5 rfl rfl rfl <| .la gt29 0 rfl rfl rfl <| .xx (Zg call23 (.cons (.t rfl) (.cons (.t rfl) .nil)) (fun hp w W => c23 _ _ _ _ _ _ _ _ _ (by exact .old W (by assumption)) (by exact .old W (by assumption)) (by exact .old W (by assumption)) (by exact .old W (by assumption)))) rfl <| .z) fun a w S => ?_))))))))
 simp only [List.nil_append] at S
 refine run S (.mv rfl <| .gy rfl rfl (Zm (FieldT.mk underlying35 rfl sizeOf32 rfl) (.t rfl) (i' := 11) rfl) <| .gy rfl rfl (Yn ⟨isAgg32, sizeOf32⟩ (.t rfl) (k := 1) rfl rfl) <| .z) fun a w S => ?_
 rw [rw_9] at S
 rw [rw_10] at S
 rw [rw_11] at S
 refine run S (.gy rfl rfl (Zm (FieldT.mk underlying35 rfl sizeOf32 rfl) (.t rfl) (i' := 11) rfl) <| .gy rfl rfl (Yn ⟨isAgg32, sizeOf32⟩ (.t rfl) (k := 0) rfl rfl) <| .gx rfl rfl (Zg call33 (.cons (.t rfl) (.cons (.t rfl) .nil)) (fun hp w W => c33 _ _ _ _ _ _ _ (by exact .old W (by assumption)) (by exact .old W (by assumption)))) <| .yy (Zr (.t rfl) (.t rfl)) rfl <| .mv rfl <| .gy rfl rfl (Zm (FieldT.mk underlying35 rfl sizeOf33 rfl) (.t rfl) (i' := 15) rfl) <| .gy rfl rfl (Yd ⟨isAgg33, sizeOf33⟩ (.t rfl) (k := 1) rfl rfl) <| .gy rfl rfl (Zm (FieldT.mk underlying35 rfl sizeOf33 rfl) (.t rfl) (i' := 15) rfl) <| .gy rfl rfl (Yd ⟨isAgg33, sizeOf33⟩ (.t rfl) (k := 0) rfl rfl) <| .gx rfl rfl (Zg call34 (.cons (.t rfl) (.cons (.t rfl) .nil)) (fun hp w W => c34 _ _ _ _ _ (by exact .old W (by assumption)) (by exact .old W (by assumption)))) <| .z) fun a w S => ?_
 simp only [List.nil_append] at S
 refine run S (.yy (Zr (.t rfl) (.t rfl)) rfl <| .mv rfl <| .gy rfl rfl (Zm (FieldT.mk underlying35 rfl sizeOf22 rfl) (.t rfl) (i' := 16) rfl) <| .gy rfl rfl (Yd ⟨isAgg22, sizeOf22⟩ (.t rfl) (k := 1) rfl rfl) <| .gy rfl rfl (Zm (FieldT.mk underlying35 rfl sizeOf22 rfl) (.t rfl) (i' := 16) rfl) <| .gy rfl rfl (Yd ⟨isAgg22, sizeOf22⟩ (.t rfl) (k := 0) rfl rfl) <| .gx rfl rfl (Zg call35 (.cons (.t rfl) (.cons (.t rfl) .nil)) (fun hp w W => c35 _ _ _ _ _ (by exact .old W (by assumption)) (by exact .old W (by assumption)))) <| .z) fun a w S => ?_
 simp only [List.nil_append] at S
 refine run S (.yy (Zr (.t rfl) (.t rfl)) rfl <| .as rfl <| .z) fun a w S => Zb (Za (hK1 _ _ (wp_ret (Zk S (results1 S results8 (Rv.tmp rfl)) ?_))))
 exact ⟨rfl, S.wd.below⟩
end Go.Proofs.YtbijdmfilmecbaaGreat
namespace Go.Proofs.YtbijdmfilmecbaaGreat
open Go.Fw Go.Proofs Go.RowKit Go.ChangeShapes Go.WideShapes Go.ChangeAt Go.Deep Go.Joins Go.Proofs.Tryz
section
variable {H : Type} {enc : TypeId × Value → H} {w : World}
theorem rdMbrG : Rdr enc Tryz.prog w 106 fun cs _ => ∃ d : Mbr, cs = Mbr.enc d ∧ True := by
 refine (Rdr.struct underlying106 (by kernel_rfl) (.cons (Rdr.int underlying3) (.cons (Rdr.int underlying3) (.cons (Rdr.int underlying3) (.cons (Rdr.int underlying3) .nil))))).mono ?_
 rintro cs b ⟨_, _, rfl, ⟨_, _, x, rfl, _⟩, _, _, rfl, ⟨_, _, y, rfl, _⟩, _, _, rfl, ⟨_, _, z, rfl, _⟩, _, _, rfl, ⟨_, _, u, rfl, _⟩, rfl⟩
 exact ⟨⟨x, y, z, u⟩, rfl, trivial⟩
theorem rdPeerG : Rdr enc Tryz.prog w 86 fun cs _ => ∃ d : Dot, cs = Dot.enc d ∧ True := Rdr.dot (i1 := 0) (i2 := 0) (i3 := 0) (k := .i64) underlying86 (by kernel_rfl) underlying3 underlying3 underlying3
theorem rdRingG : Rdr enc Tryz.prog w 32 fun cs b => ∃ (x y z : Int) (v : Value) (l : List Mbr), cs = [.int .i64 x, .int .i64 y, .int .i64 z, v] ∧ Sl Mbr.enc 4 w w.heap.size v l ∧ l.length + 1 ≤ b := by
 refine (Rdr.struct underlying32 (by kernel_rfl) (.cons (Rdr.int underlying3) (.cons (Rdr.int underlying3) (.cons (Rdr.int underlying3) (.cons (Rdr.slice (k := 4) underlying30 (by kernel_rfl) rfl (fun _ => rfl) rdMbrG) .nil))))).mono ?_
 rintro cs b ⟨_, _, rfl, ⟨_, _, x, rfl, _⟩, _, _, rfl, ⟨_, _, y, rfl, _⟩, _, _, rfl, ⟨_, _, z, rfl, _⟩, _, _, rfl, ⟨_, hb, v, l, rfl, hs, hl, _⟩, rfl⟩
 exact ⟨x, y, z, v, l, rfl, hs, by omega⟩
structure MgRd (w : World) (m : MV) (x : MX) (b : Nat) : Prop where
 rd : MsgRd w m x
 k1 : x.c.ents.length ≤ b
 k2 : x.c.ctx.marks.length ≤ b
 k3 : x.c.ctx.cloud.length ≤ b
 k4 : x.mem.length ≤ b
 k5 : x.pe.length ≤ b
 k6 : x.su.length + 1 ≤ b
 hash : ∀ s ∈ x.su, 0 ≤ s.hash ∧ s.hash ≤ 18446744073709551615
 keys : ∀ s ∈ x.su, s.key.length ≤ b
theorem rdMsg : Rdr enc Tryz.prog w 35 fun cs b => ∃ m x, cs = MV.enc m ∧ MgRd w m x b := by
 refine (Rdr.struct underlying35 (by kernel_rfl) (.cons (Rdr.int underlying3) (.cons (Rdr.int underlying3) (.cons (Rdr.int underlying3) (.cons (Rdr.int underlying3) (.cons (Rdr.str underlying9) (.cons rdCart (.cons (Rdr.int underlying3) (.cons (Rdr.int underlying3) (.cons (Rdr.int underlying3) (.cons rdRingG (.cons (Rdr.slice (k := 3) underlying33 (by kernel_rfl) rfl (fun _ => rfl) rdPeerG) (.cons (Rdr.slice (k := 3) underlying22 (by kernel_rfl) rfl (fun _ => rfl) rdSum) .nil))))))))))))).mono ?_
 rintro cs b ⟨_, _, rfl, ⟨_, _, i1, rfl, _⟩, _, _, rfl, ⟨_, _, i2, rfl, _⟩, _, _, rfl, ⟨_, _, i3, rfl, _⟩, _, _, rfl, ⟨_, _, i4, rfl, _⟩, _, _, rfl, ⟨_, _, key, rfl, _⟩, _, _, rfl, ⟨_, hb1, u1, u2, u3, X, rfl, hX⟩, _, _, rfl, ⟨_, _, i5, rfl, _⟩, _, _, rfl, ⟨_, _, i6, rfl, _⟩, _, _, rfl, ⟨_, _, i7, rfl, _⟩, _, _, rfl, ⟨_, hb2, a, b', c, v4, mem, rfl, hmem, hml⟩, _, _, rfl, ⟨_, hb3, v5, pe, rfl, hpe, hpl, _⟩, _, _, rfl, ⟨_, hb4, v6, su, rfl, hsu, hsl, hsf⟩, rfl⟩
 obtain ⟨h1, ⟨h2, h3⟩, l1, l2, l3, _⟩ := hX
 have q1 := h1
 have q2 := h2
 have q3 := h3
 have q4 := hmem
 have q5 := hpe
 have q6 := hsu
 obtain ⟨A1, c1, rfl, _⟩ := h1
 obtain ⟨A2, c2, rfl, _⟩ := h2
 obtain ⟨A3, c3, rfl, _⟩ := h3
 obtain ⟨A4, c4, rfl, _⟩ := hmem
 obtain ⟨A5, c5, rfl, _⟩ := hpe
 obtain ⟨A6, c6, rfl, _⟩ := hsu
 refine ⟨⟨i1, i2, i3, i4, key, ⟨A1, _, c1⟩, ⟨A2, _, c2⟩, ⟨A3, _, c3⟩, i5, i6, i7, a, b', c, ⟨A4, _, c4⟩, ⟨A5, _, c5⟩, ⟨A6, _, c6⟩⟩, ⟨X, mem, pe, su⟩, rfl, ⟨q1, ⟨q2, q3⟩, q4, q5, q6⟩, by dsimp only; omega, by dsimp only; omega, by dsimp only; omega, by dsimp only; omega, by dsimp only; omega, by dsimp only; omega, fun s hs => ?_, fun s hs => ?_⟩
 · obtain ⟨b2, g1, g2, g3⟩ := hsf s hs
   exact g2
 · obtain ⟨b2, g1, g2, g3⟩ := hsf s hs
   omega
theorem read_msg {t : TypeId} (e : t = 35) {r : Reach} {b0 : Nat} {v : Value} {d : DataW H} {p : List MemPlace} (hv : Value.okWide Tryz.prog w r b0 t v) (h : DataW.Trod enc Tryz.prog w 0 (fun _ => true) true t v d p) :
   ∃ m x, v = .agg (MV.enc m).toArray ∧ MgRd w m x (Rows.uptoBulk d) := by
 subst e
 obtain ⟨m, x, hc, hX⟩ := Rdr.top rdMsg h
 exact ⟨m, x, top_agg underlying35 hv hc, hX⟩
end
end Go.Proofs.YtbijdmfilmecbaaGreat
namespace Go.Fw
open Go.RowKit
def SameMs (w : World) (l l' : List MV) : Prop := l.length = l'.length ∧ ∀ (i : Nat) (m m' : MV), l[i]? = some m → l'[i]? = some m' → ∃ x, MsgRd w m x ∧ MsgRd w m' x ∧ SameV m m'
theorem SameMs.old {w0 w : World} {L : List Chunk} {l l' : List MV} (W : Wd w0 L w) (h : SameMs w0 l l') : SameMs w l l' := ⟨h.1, fun i m m' h1 h2 => by
 obtain ⟨x, r1, r2, r3⟩ := h.2 i m m' h1 h2
 exact ⟨x, r1.old W, r2.old W, r3⟩⟩
abbrev MV.at5 (m : MV) (e k c r p s : Sl1) : MV := ⟨m.kind, m.fr, m.to, m.rq, m.key, e, k, c, m.ow, m.pt, m.nn, m.r1, m.r2, m.r3, r, p, s⟩
theorem at5_id (m : MV) : MV.enc m = MV.enc (m.at5 m.ce m.cm m.cc m.rm m.pe m.su) := rfl
theorem lay_c (m : MV) (e k c r p s : Sl1) (A1 A2 A3 : Option Addr) (n1 n2 n3 c1 c2 c3 : Nat) : lay (MV.enc (m.at5 e k c r p s)) 5 [.slice A1 n1 c1, .slice A2 n2 c2, .slice A3 n3 c3] = MV.enc (m.at5 ⟨A1, n1, c1⟩ ⟨A2, n2, c2⟩ ⟨A3, n3, c3⟩ r p s) := rfl
theorem lay_r (m : MV) (e k c r p s : Sl1) (A : Option Addr) (n d : Nat) : lay (MV.enc (m.at5 e k c r p s)) 11 [.int .i64 m.r1, .int .i64 m.r2, .int .i64 m.r3, .slice A n d] = MV.enc (m.at5 e k c ⟨A, n, d⟩ p s) := rfl
theorem set_p (m : MV) (e k c r p s : Sl1) (A : Option Addr) (n d : Nat) : (MV.enc (m.at5 e k c r p s)).set 15 (.slice A n d) = MV.enc (m.at5 e k c r ⟨A, n, d⟩ s) := rfl
theorem set_s (m : MV) (e k c r p s : Sl1) (A : Option Addr) (n d : Nat) : (MV.enc (m.at5 e k c r p s)).set 16 (.slice A n d) = MV.enc (m.at5 e k c r p ⟨A, n, d⟩) := rfl
theorem at5_same (m : MV) (e k c r p s : Sl1) : SameV (m.at5 e k c r p s) m := ⟨rfl, rfl, rfl, rfl, rfl, rfl, rfl, rfl, rfl, rfl, rfl⟩
end Go.Fw
namespace Go.Proofs.YtbijdmfilmecbaaGreat
open Go.Fw Go.Proofs Go.RowKit Go.Proofs.Tryz
theorem c42 (w0 : World) (v v' : Value) (l l' : List MV) (h : Sl MV.enc 17 w0 w0.heap.size v l) (h' : Sl MV.enc 17 w0 w0.heap.size v' l') (hs : SameMs w0 l l') :
   Calls Tryz.prog 42 #[v, v', .func (.func 8) #[] #[]] w0 fun e w' => e = .returned (.bool true) ∧ Bel w0.heap.size w0 w' := by
 obtain ⟨A, cap, rfl, hl, hcap, hA⟩ := h
 obtain ⟨A', cap', rfl, hl', hcap', hA'⟩ := h'
 obtain ⟨hll, hsm⟩ := hs
 have rw_ll : ((l'.length : Nat) : Int) = ((l.length : Nat) : Int) := by rw [hll]
 refine enter3 func42 rfl ntmps42 rfl fun a S => sg S (.ac rfl <| .z) fun a w S => wp_seq_k fun _ hK1 => wp_seq_k fun _ hK2 => wp_region_lit (run S (.mv rfl <| .ln underlying46 rfl <| .mv rfl <| .ln underlying46 rfl <| .z) fun a w S => ?_)
 rw [rw_ll] at S
 refine run S (.yy (Yf (by omega) (Zu (.t rfl) (.t rfl))) rfl <| .z) fun a w S => Zb (Za (hK2 _ _ (Zf S (.t rfl) (wp_skip (Za (hK1 _ _ (wp_seq_k fun _ hK1 => sg S (.mv rfl <| .ln underlying46 rfl <| .mc rfl <| .z) fun a w S => wp_block ?_)))))))
 refine Yg S [17] (X := Nat) (fun k => [(17, true, .int .i64 (k : Int))]) (fun _ => []) (fun k => k ≤ l.length) (fun k => l.length - k) 0 (Nat.zero_le _) ?_
 clear S
 rintro k a w hk S
 by_cases hlt : k < l.length
 · obtain ⟨g, o, x, rfl, hx, hd, hcx⟩ := Zv hA hlt
   obtain ⟨g', o', x', rfl, hx', hd', hcx'⟩ := Zv hA' (show k < l'.length by omega)
   obtain ⟨X, r1, r2, r3⟩ := hsm k x x' hx hx'
   refine sg S (.lt (by omega) rfl rfl <| .z) fun a w S => wp_seq_k fun _ hK2 => Zd S (.t rfl) (wp_skip (Za (hK2 _ _ (wp_seq_k fun _ hK2 => wp_block (wp_seq_k fun _ hK3 => wp_region_lit (run S (.mv rfl <| .ix underlying46 sizeOf35 (by omega) rfl rfl <| .yy (Ye ⟨isAgg35, sizeOf35⟩ (.t rfl) (vs := [_, _, _, _, _, _, _, _, _, _, _, _, _, _, _, _, _]) rfl (fun _ => hcx)) rfl <| .z) fun a w S => Zi (Zt S zeroValue35 (cs := _) rfl rfl fun g1 a w S => run S (.as rfl <| .z) fun a w S => Zi (Ya S sizeOf35 (.t rfl) (.t rfl) (k := 0) rfl rfl rfl (by simp [Value.oneCell']) fun a w S => Zb (Za (hK3 _ _ (wp_seq_k fun _ hK3 => wp_region_lit (run S (.mv rfl <| .mv rfl <| .ix underlying46 sizeOf35 (by omega) rfl rfl <| .yy (Ye ⟨isAgg35, sizeOf35⟩ (.t rfl) (vs := [_, _, _, _, _, _, _, _, _, _, _, _, _, _, _, _, _]) rfl (fun _ => hcx')) rfl <| .z) fun a w S => Zi (Zt S zeroValue35 (cs := _) rfl rfl fun g2 a w S => Zi (Ya S sizeOf35 (.t rfl) (.t rfl) (k := 0) rfl rfl rfl (by simp [Value.oneCell']) fun a w S => Zb (Za (hK3 _ _ (wp_seq_k fun _ hK3 => wp_region_lit ?_)))))))))))))))))
   refine run S (.mv rfl <| .la gt35 1 rfl rfl rfl <| .la gt35 0 rfl rfl rfl <| .xx (ys_callV (.t rfl) call8 (.cons (.t rfl) (.cons (.t rfl) .nil)) (fun hp w W => c8 _ _ _ _ (by exact .old W (by assumption)) (by exact .old W (by assumption)) (by assumption))) rfl <| .nt rfl <| .z) fun a w S => Zb (Za (hK3 _ _ (Zf S (.t rfl) (wp_skip (Zj (Za (hK2 _ _ (wp_region_lit (run S (.ad (by unfold I64; omega) rfl <| .mv rfl <| .z) fun a w S => Zb (Za ?_))))))))))
   exact ⟨k + 1, by omega, by omega, S.pk⟩
 · obtain rfl : k = l.length := by omega
   refine sg S (.ge (by omega) rfl rfl <| .z) fun a w S => wp_seq_k fun _ hK2 => Zf S (.t rfl) (wp_exit (Zc (Zc (Zs (Za (hK1 _ _ (sg S (.ac rfl <| .z) fun a w S => wp_ret (Zk S (results1 S results42 (Rv.tmp rfl)) ?_))))))))
   exact ⟨rfl, S.wd.below⟩
theorem c11 (w0 : World) (v v' : Value) (l l' : List MV) (h : Sl MV.enc 17 w0 w0.heap.size v l) (h' : Sl MV.enc 17 w0 w0.heap.size v' l') (hs : SameMs w0 l l') :
   Calls Tryz.prog 11 #[v, v'] w0 fun e w' => e = .returned (.bool true) ∧ Bel w0.heap.size w0 w' := by
 refine enter2 func11 rfl ntmps11 rfl fun a S => sg S (.ac rfl <| .z) fun a w S => sg S (.mv rfl <| .mv rfl <| .xx (Zg call42 (.cons (.t rfl) (.cons (.t rfl) (.cons Ev.f .nil))) (fun hp w W => c42 _ _ _ _ _ (by exact .old W (by assumption)) (by exact .old W (by assumption)) (by exact .old W (by assumption)))) rfl <| .as rfl <| .z) fun a w S => wp_ret (Zk S (results1 S results11 (Rv.tmp rfl)) ?_)
 exact ⟨rfl, S.wd.below⟩
theorem c36 (w0 : World) (a b c : Int) (v : Value) (l : List Mbr) (h : Sl Mbr.enc 4 w0 w0.heap.size v l) (hn : l.length ≤ 1048576) :
   Rets Tryz.prog 36 #[.agg #[.int .i64 a, .int .i64 b, .int .i64 c, v]] w0 fun u L => ∃ B k, u = .agg #[.int .i64 a, .int .i64 b, .int .i64 c, .slice B l.length k] ∧ L = [rowOf 106 4 Mbr.enc B k l] := by
 have hs := h
 obtain ⟨A, cap, rfl, hl, hcap, hA⟩ := h
 unfold Go.Fw.Rets
 refine enter1 func36 rfl ntmps36 rfl fun a S => wp_seq_k fun _ hK1 => wp_region_lit (Zi (Ym S (.t rfl) rfl fun g1 a w S => Zi (Zt S zeroValue32 (cs := _) rfl rfl fun g2 a w S => Zb (Za (hK1 _ _ (wp_seq_k fun _ hK1 => wp_region_lit (run S (.fa underlying32 sizeOf30 3 rfl rfl rfl <| .ld gt30 1 rfl rfl rfl <| .z) fun a w S => ?_)))))))
 (refine Zi (Zq S call66 (.cons (.t rfl) .nil) (c66 _ _ _ (by exact .old S.wd (by assumption)) (by omega)) rfl ?_); clear S a w; rintro _ _ ⟨A1, c1, rfl, rfl⟩ a w S)
 refine run S (.fa underlying32 sizeOf30 3 rfl rfl rfl <| .z) fun a w S => Zi (Xr S sizeOf30 (.t rfl) (.t rfl) (k := 2) rfl rfl (by simp) fun a w S => Zb (Za (hK1 _ _ (wp_seq_k fun _ hK1 => wp_region_lit (run S (.la gt32 2 rfl rfl rfl <| .z) fun a w S => Zi (Ya S sizeOf32 (.t rfl) (.t rfl) (k := 1) rfl rfl rfl (by simp [Value.oneCell']) fun a w S => Zb (Za (hK1 _ _ (wp_ret (Zk S (results1 S results36 (Rv.cell (k := 1) ⟨isAgg32, sizeOf32⟩ rfl rfl rfl)) ?_))))))))))
 exact ⟨_, _, rfl, S.wd.picks (L' := [rowOf 106 4 Mbr.enc A1 c1 l]) (by repeat (first | exact Picks.nil | (refine Picks.rest ?_; (repeat (first | exact List.Sublist.refl _ | refine List.Sublist.cons_cons _ ?_ | refine List.Sublist.cons _ ?_)); done) | refine Picks.take 0 rfl ?_ | refine Picks.take 1 rfl ?_ | refine Picks.take 2 rfl ?_ | refine Picks.take 3 rfl ?_ | refine Picks.take 4 rfl ?_ | refine Picks.take 5 rfl ?_ | refine Picks.take 6 rfl ?_ | refine Picks.take 7 rfl ?_ | refine Picks.take 8 rfl ?_ | refine Picks.take 9 rfl ?_ | refine Picks.take 10 rfl ?_ | refine Picks.take 11 rfl ?_)), A1, c1, rfl, rfl⟩
theorem c14 (w0 : World) : Calls Tryz.prog 14 #[] w0 fun e w' => e = .returned (.int .i64 8) ∧ Bel w0.heap.size w0 w' := by
 refine enter0 func14 rfl ntmps14 rfl fun a S => sg S (.ac rfl <| .z) fun a w S => sg S (.ac rfl <| .z) fun a w S => wp_ret (Zk S (results1 S results14 (Rv.tmp rfl)) ?_)
 exact ⟨rfl, S.wd.below⟩
theorem c9 (w0 : World) (m : MV) (x : MX) (h : MsgRd w0 m x) (h1 : x.c.ents.length ≤ 1048576) (h2 : x.c.ctx.marks.length ≤ 1048576) (h3 : x.c.ctx.cloud.length ≤ 1048576) (h4 : x.mem.length ≤ 1048576) (h5 : x.pe.length ≤ 1048576) (h6 : x.su.length ≤ 1048576) :
   Rets Tryz.prog 9 #[.agg (MV.enc m).toArray] w0 fun u L => ∃ A1 r1 A2 r2 A3 r3 A4 r4 A5 r5 A6 r6, u = .agg (MV.enc (m.at5 ⟨A1, x.c.ents.length, r1⟩ ⟨A2, x.c.ctx.marks.length, r2⟩ ⟨A3, x.c.ctx.cloud.length, r3⟩ ⟨A4, x.mem.length, r4⟩ ⟨A5, x.pe.length, r5⟩ ⟨A6, x.su.length, r6⟩)).toArray ∧
     L = [rowOf 115 6 Ent.enc A1 r1 x.c.ents, rowOf 137 3 Dot.enc A2 r2 x.c.ctx.marks, rowOf 113 3 Dot.enc A3 r3 x.c.ctx.cloud, rowOf 106 4 Mbr.enc A4 r4 x.mem, rowOf 86 3 Dot.enc A5 r5 x.pe, rowOf 77 3 Sm.enc A6 r6 x.su] := by
 obtain ⟨a1, a2, a3, a4, a5⟩ := h
 have halt_d := trivial
 unfold Go.Fw.Rets
 refine enter1 func9 rfl ntmps9 rfl fun a S => wp_seq_k fun _ hK1 => wp_region_lit (Zi (Ym S (.t rfl) rfl fun g1 a w S => Zi (Zt S zeroValue35 (cs := _) rfl rfl fun g2 a w S => Zb (Za (hK1 _ _ (wp_seq_k fun _ hK1 => ?_))))))
 clear halt_d
 rw [at5_id m] at S
 refine Code.wp_mono (Q := fun e a w => match e with
   | .normal => ∃ A1 c1 A2 c2 A3 c3 A4 c4, St 20 w0 [(2, true, .pointer (some ⟨g2, 0, none⟩)), (1, true, .pointer (some ⟨g1, 0, none⟩))] [rowOf 115 6 Ent.enc A1 c1 x.c.ents, rowOf 137 3 Dot.enc A2 c2 x.c.ctx.marks, rowOf 113 3 Dot.enc A3 c3 x.c.ctx.cloud, rowOf 106 4 Mbr.enc A4 c4 x.mem,
       .blk g2 (.cells (MV.enc ⟨0, 0, 0, 0, [], .nil, .nil, .nil, 0, 0, 0, 0, 0, 0, .nil, .nil, .nil⟩).toArray 35), .blk g1 (.cells (MV.enc (m.at5 ⟨A1, x.c.ents.length, c1⟩ ⟨A2, x.c.ctx.marks.length, c2⟩ ⟨A3, x.c.ctx.cloud.length, c3⟩ ⟨A4, x.mem.length, c4⟩ m.pe m.su)).toArray 35)] a w
   | _ => False) (fun e a w qq => ?_) ?_
 rotate_left
 · have rw_l1 := lay_c m
   have rw_l2 := lay_r m
   refine h_beginE S (by kernel_rfl) 1 fun a w S => hy 0 S rfl (Zm (FieldT.mk underlying35 rfl sizeOf29 rfl) (.t rfl) (i' := 5) rfl) rfl fun a w S => hy 3 S rfl (Zm (FieldT.mk underlying35 rfl sizeOf32 rfl) (.t rfl) (i' := 11) rfl) rfl fun a w S => ?_
   refine h_split (i := 1) (j := 4) (by kernel_rfl) rfl rfl ?_ ?_
   (refine op_y S (Yr.ys (Yn ⟨isAgg29, sizeOf29⟩ (.t rfl) (k := 1) rfl rfl)) rfl ?_; clear S a w; intro a w S; refine Yw S ?_)
   refine h_split (i := 2) (j := 4) (by kernel_rfl) rfl rfl ?_ ?_
   (refine Zq S call16 (.cons (.t rfl) .nil) (c16 _ _ _ _ _ (by exact .old S.wd (by assumption)) (by exact .old S.wd (by assumption)) (by assumption) (by assumption) (by assumption)) rfl ?_; clear S a w; rintro _ _ ⟨A11, r11, A21, r21, A31, r31, rfl, rfl⟩ a w S; refine Yw S ?_)
   simp only [List.nil_append] at S
   refine h_q (i := 4) S (by repeat (first | exact List.Sublist.refl _ | exact List.nil_sublist _ | refine .cons_cons _ ?_ | refine .cons _ ?_)) rfl (by kernel_rfl) (Yr.ys (Yn ⟨isAgg32, sizeOf32⟩ (.t rfl) (k := 4) rfl rfl)) rfl fun a w S => hy 6 S rfl (Zm (FieldT.mk underlying35 rfl sizeOf29 rfl) (.t rfl) (i' := 5) rfl) rfl fun a w S => ?_
   (refine h_m (i := 5) rfl (by kernel_rfl) (Zq S call36 (.cons (.t rfl) .nil) (c36 _ _ _ _ _ _ (by exact .old S.wd (by assumption)) (by assumption)) rfl ?_); clear S a w; rintro _ _ ⟨B1, k1, rfl, rfl⟩ a w S; refine Yw S ?_)
   simp only [List.nil_append] at S
   (refine h_m0 (i := 7) rfl (by kernel_rfl) (op_stA S sizeOf29 (.t rfl) (.t rfl) (k := 5) rfl rfl (by simp [Value.oneCell']) (by simp) ?_); clear S a w; intro a w S; refine Yw S ?_)
   rw [rw_l1] at S
   refine hy 8 S rfl (Zm (FieldT.mk underlying35 rfl sizeOf32 rfl) (.t rfl) (i' := 11) rfl) rfl fun a w S => ?_
   (refine h_m0 (i := 9) rfl (by kernel_rfl) (op_stA S sizeOf32 (.t rfl) (.t rfl) (k := 5) rfl rfl (by simp [Value.oneCell']) (by simp) ?_); clear S a w; intro a w S; refine Yw S ?_)
   rw [rw_l2] at S
   refine Xg (by kernel_rfl) ?_
   rotate_left
   (refine op_y S (Yr.ys (Yn ⟨isAgg32, sizeOf32⟩ (.t rfl) (k := 1) rfl rfl)) rfl ?_; clear S a w; intro a w S; refine Yw S ?_)
   (refine h_m (i := 2) rfl (by kernel_rfl) (Zq S call16 (.cons (.t rfl) .nil) (c16 _ _ _ _ _ (by exact .old S.wd (by assumption)) (by exact .old S.wd (by assumption)) (by assumption) (by assumption) (by assumption)) rfl ?_); clear S a w; rintro _ _ ⟨A11, r11, A21, r21, A31, r31, rfl, rfl⟩ a w S; refine Yw S ?_)
   simp only [List.nil_append] at S
   refine hy 6 S rfl (Zm (FieldT.mk underlying35 rfl sizeOf29 rfl) (.t rfl) (i' := 5) rfl) rfl fun a w S => ?_
   (refine h_m (i := 5) rfl (by kernel_rfl) (Zq S call36 (.cons (.t rfl) .nil) (c36 _ _ _ _ _ _ (by exact .old S.wd (by assumption)) (by assumption)) rfl ?_); clear S a w; rintro _ _ ⟨B1, k1, rfl, rfl⟩ a w S; refine Yw S ?_)
   (refine h_m0 (i := 7) rfl (by kernel_rfl) (op_stA S sizeOf29 (.t rfl) (.t rfl) (k := 5) rfl rfl (by simp [Value.oneCell']) (by simp) ?_); clear S a w; intro a w S; refine Yw S ?_)
   rw [rw_l1] at S
   refine hy 8 S rfl (Zm (FieldT.mk underlying35 rfl sizeOf32 rfl) (.t rfl) (i' := 11) rfl) rfl fun a w S => ?_
   (refine h_m0 (i := 9) rfl (by kernel_rfl) (op_stA S sizeOf32 (.t rfl) (.t rfl) (k := 5) rfl rfl (by simp [Value.oneCell']) (by simp) ?_); clear S a w; intro a w S; refine Yw S ?_)
   rw [rw_l2] at S
   refine Xg (by kernel_rfl) ?_
   rotate_left
   (refine op_y S (Yr.ys (Yn ⟨isAgg32, sizeOf32⟩ (.t rfl) (k := 1) rfl rfl)) rfl ?_; clear S a w; intro a w S; refine Yw S ?_)
   refine h_q (i := 1) S (by repeat (first | exact List.Sublist.refl _ | exact List.nil_sublist _ | refine .cons_cons _ ?_ | refine .cons _ ?_)) rfl (by kernel_rfl) (Yr.ys (Yn ⟨isAgg29, sizeOf29⟩ (.t rfl) (k := 1) rfl rfl)) rfl fun a w S => ?_
   (refine h_m (i := 2) rfl (by kernel_rfl) (Zq S call16 (.cons (.t rfl) .nil) (c16 _ _ _ _ _ (by exact .old S.wd (by assumption)) (by exact .old S.wd (by assumption)) (by assumption) (by assumption) (by assumption)) rfl ?_); clear S a w; rintro _ _ ⟨A11, r11, A21, r21, A31, r31, rfl, rfl⟩ a w S; refine Yw S ?_)
   simp only [List.nil_append] at S
   refine hy 6 S rfl (Zm (FieldT.mk underlying35 rfl sizeOf29 rfl) (.t rfl) (i' := 5) rfl) rfl fun a w S => ?_
   (refine h_m (i := 5) rfl (by kernel_rfl) (Zq S call36 (.cons (.t rfl) .nil) (c36 _ _ _ _ _ _ (by exact .old S.wd (by assumption)) (by assumption)) rfl ?_); clear S a w; rintro _ _ ⟨B1, k1, rfl, rfl⟩ a w S; refine Yw S ?_)
   (refine h_m0 (i := 7) rfl (by kernel_rfl) (op_stA S sizeOf29 (.t rfl) (.t rfl) (k := 5) rfl rfl (by simp [Value.oneCell']) (by simp) ?_); clear S a w; intro a w S; refine Yw S ?_)
   rw [rw_l1] at S
   refine hy 8 S rfl (Zm (FieldT.mk underlying35 rfl sizeOf32 rfl) (.t rfl) (i' := 11) rfl) rfl fun a w S => ?_
   (refine h_m0 (i := 9) rfl (by kernel_rfl) (op_stA S sizeOf32 (.t rfl) (.t rfl) (k := 5) rfl rfl (by simp [Value.oneCell']) (by simp) ?_); clear S a w; intro a w S; refine Yw S ?_)
   rw [rw_l2] at S
   refine Xg (by kernel_rfl) ?_
   rotate_left
   all_goals exact ⟨A11, r11, A21, r21, A31, r31, B1, k1, S.pk⟩
 clear S
 rcases e with _ | _ | _ | _ | _ | _ | _
 any_goals exact qq.elim
 obtain ⟨A1, c1, A2, c2, A3, c3, A4, c4, S⟩ := qq
 refine Za ?_
 first | refine hK9 _ _ ?_ | refine hK8 _ _ ?_ | refine hK7 _ _ ?_ | refine hK6 _ _ ?_ | refine hK5 _ _ ?_ | refine hK4 _ _ ?_ | refine hK3 _ _ ?_ | refine hK2 _ _ ?_ | refine hK1 _ _ ?_
 have halt_d := trivial
 refine wp_seq_k fun _ hK2 => ?_
 clear halt_d
 refine Code.wp_mono (Q := fun e a w => match e with
   | .normal => ∃ A5 c5 A6 c6, St 20 w0 [(2, true, .pointer (some ⟨g2, 0, none⟩)), (1, true, .pointer (some ⟨g1, 0, none⟩))] [rowOf 115 6 Ent.enc A1 c1 x.c.ents, rowOf 137 3 Dot.enc A2 c2 x.c.ctx.marks, rowOf 113 3 Dot.enc A3 c3 x.c.ctx.cloud, rowOf 106 4 Mbr.enc A4 c4 x.mem, rowOf 86 3 Dot.enc A5 c5 x.pe, rowOf 77 3 Sm.enc A6 c6 x.su,
       .blk g2 (.cells (MV.enc ⟨0, 0, 0, 0, [], .nil, .nil, .nil, 0, 0, 0, 0, 0, 0, .nil, .nil, .nil⟩).toArray 35), .blk g1 (.cells (MV.enc (m.at5 ⟨A1, x.c.ents.length, c1⟩ ⟨A2, x.c.ctx.marks.length, c2⟩ ⟨A3, x.c.ctx.cloud.length, c3⟩ ⟨A4, x.mem.length, c4⟩ ⟨A5, x.pe.length, c5⟩ ⟨A6, x.su.length, c6⟩)).toArray 35)] a w
   | _ => False) (fun e a w qq => ?_) ?_
 rotate_left
 · have rw_l1 := set_p m
   have rw_l2 := set_s m
   refine h_beginE S (by kernel_rfl) 5 fun a w S => hy 0 S rfl (Zm (FieldT.mk underlying35 rfl sizeOf33 rfl) (.t rfl) (i' := 15) rfl) rfl fun a w S => hy 3 S rfl (Zm (FieldT.mk underlying35 rfl sizeOf22 rfl) (.t rfl) (i' := 16) rfl) rfl fun a w S => ?_
   refine h_split (i := 1) (j := 4) (by kernel_rfl) rfl rfl ?_ ?_
   (refine op_y S (Yr.ys (Yd ⟨isAgg33, sizeOf33⟩ (.t rfl) (k := 5) rfl rfl)) rfl ?_; clear S a w; intro a w S; refine Yw S ?_)
   refine h_split (i := 2) (j := 4) (by kernel_rfl) rfl rfl ?_ ?_
   (refine Zq S call37 (.cons (.t rfl) .nil) (c37 _ _ _ (by exact .old S.wd (by assumption)) (by omega)) rfl ?_; clear S a w; rintro _ _ ⟨A5, c5, rfl, rfl⟩ a w S; refine Yw S ?_)
   simp only [List.nil_append] at S
   refine h_q (i := 4) S (by repeat (first | exact List.Sublist.refl _ | exact List.nil_sublist _ | refine .cons_cons _ ?_ | refine .cons _ ?_)) rfl (by kernel_rfl) (Yr.ys (Yd ⟨isAgg22, sizeOf22⟩ (.t rfl) (k := 6) rfl rfl)) rfl fun a w S => hy 6 S rfl (Zm (FieldT.mk underlying35 rfl sizeOf33 rfl) (.t rfl) (i' := 15) rfl) rfl fun a w S => ?_
   (refine h_m (i := 5) rfl (by kernel_rfl) (Zq S call27 (.cons (.t rfl) .nil) (c27 _ _ _ (by exact .old S.wd (by assumption)) (by omega)) rfl ?_); clear S a w; rintro _ _ ⟨A6, c6, rfl, rfl⟩ a w S; refine Yw S ?_)
   simp only [List.nil_append] at S
   (refine h_m0 (i := 7) rfl (by kernel_rfl) (Xr S sizeOf33 (.t rfl) (.t rfl) (k := 7) rfl rfl (by simp) ?_); clear S a w; intro a w S; refine Yw S ?_)
   rw [rw_l1] at S
   refine hy 8 S rfl (Zm (FieldT.mk underlying35 rfl sizeOf22 rfl) (.t rfl) (i' := 16) rfl) rfl fun a w S => ?_
   (refine h_m0 (i := 9) rfl (by kernel_rfl) (Xr S sizeOf22 (.t rfl) (.t rfl) (k := 7) rfl rfl (by simp) ?_); clear S a w; intro a w S; refine Yw S ?_)
   rw [rw_l2] at S
   refine Xg (by kernel_rfl) ?_
   rotate_left
   (refine op_y S (Yr.ys (Yd ⟨isAgg22, sizeOf22⟩ (.t rfl) (k := 5) rfl rfl)) rfl ?_; clear S a w; intro a w S; refine Yw S ?_)
   (refine h_m (i := 2) rfl (by kernel_rfl) (Zq S call37 (.cons (.t rfl) .nil) (c37 _ _ _ (by exact .old S.wd (by assumption)) (by omega)) rfl ?_); clear S a w; rintro _ _ ⟨A5, c5, rfl, rfl⟩ a w S; refine Yw S ?_)
   simp only [List.nil_append] at S
   refine hy 6 S rfl (Zm (FieldT.mk underlying35 rfl sizeOf33 rfl) (.t rfl) (i' := 15) rfl) rfl fun a w S => ?_
   (refine h_m (i := 5) rfl (by kernel_rfl) (Zq S call27 (.cons (.t rfl) .nil) (c27 _ _ _ (by exact .old S.wd (by assumption)) (by omega)) rfl ?_); clear S a w; rintro _ _ ⟨A6, c6, rfl, rfl⟩ a w S; refine Yw S ?_)
   (refine h_m0 (i := 7) rfl (by kernel_rfl) (Xr S sizeOf33 (.t rfl) (.t rfl) (k := 7) rfl rfl (by simp) ?_); clear S a w; intro a w S; refine Yw S ?_)
   rw [rw_l1] at S
   refine hy 8 S rfl (Zm (FieldT.mk underlying35 rfl sizeOf22 rfl) (.t rfl) (i' := 16) rfl) rfl fun a w S => ?_
   (refine h_m0 (i := 9) rfl (by kernel_rfl) (Xr S sizeOf22 (.t rfl) (.t rfl) (k := 7) rfl rfl (by simp) ?_); clear S a w; intro a w S; refine Yw S ?_)
   rw [rw_l2] at S
   refine Xg (by kernel_rfl) ?_
   rotate_left
   (refine op_y S (Yr.ys (Yd ⟨isAgg22, sizeOf22⟩ (.t rfl) (k := 5) rfl rfl)) rfl ?_; clear S a w; intro a w S; refine Yw S ?_)
   refine h_q (i := 1) S (by repeat (first | exact List.Sublist.refl _ | exact List.nil_sublist _ | refine .cons_cons _ ?_ | refine .cons _ ?_)) rfl (by kernel_rfl) (Yr.ys (Yd ⟨isAgg33, sizeOf33⟩ (.t rfl) (k := 5) rfl rfl)) rfl fun a w S => ?_
   (refine h_m (i := 2) rfl (by kernel_rfl) (Zq S call37 (.cons (.t rfl) .nil) (c37 _ _ _ (by exact .old S.wd (by assumption)) (by omega)) rfl ?_); clear S a w; rintro _ _ ⟨A5, c5, rfl, rfl⟩ a w S; refine Yw S ?_)
   simp only [List.nil_append] at S
   refine hy 6 S rfl (Zm (FieldT.mk underlying35 rfl sizeOf33 rfl) (.t rfl) (i' := 15) rfl) rfl fun a w S => ?_
   (refine h_m (i := 5) rfl (by kernel_rfl) (Zq S call27 (.cons (.t rfl) .nil) (c27 _ _ _ (by exact .old S.wd (by assumption)) (by omega)) rfl ?_); clear S a w; rintro _ _ ⟨A6, c6, rfl, rfl⟩ a w S; refine Yw S ?_)
   (refine h_m0 (i := 7) rfl (by kernel_rfl) (Xr S sizeOf33 (.t rfl) (.t rfl) (k := 7) rfl rfl (by simp) ?_); clear S a w; intro a w S; refine Yw S ?_)
   rw [rw_l1] at S
   refine hy 8 S rfl (Zm (FieldT.mk underlying35 rfl sizeOf22 rfl) (.t rfl) (i' := 16) rfl) rfl fun a w S => ?_
   (refine h_m0 (i := 9) rfl (by kernel_rfl) (Xr S sizeOf22 (.t rfl) (.t rfl) (k := 7) rfl rfl (by simp) ?_); clear S a w; intro a w S; refine Yw S ?_)
   rw [rw_l2] at S
   refine Xg (by kernel_rfl) ?_
   rotate_left
   all_goals first | exact ⟨A5, c5, A6, c6, S.pk⟩ | exact ⟨A6, c6, A5, c5, S.pk⟩
 clear S
 rcases e with _ | _ | _ | _ | _ | _ | _
 any_goals exact qq.elim
 obtain ⟨A5, c5, A6, c6, S⟩ := qq
 refine Za ?_
 first | refine hK9 _ _ ?_ | refine hK8 _ _ ?_ | refine hK7 _ _ ?_ | refine hK6 _ _ ?_ | refine hK5 _ _ ?_ | refine hK4 _ _ ?_ | refine hK3 _ _ ?_ | refine hK2 _ _ ?_ | refine hK1 _ _ ?_
 obtain ⟨y, hy9⟩ : ∃ y, m.at5 ⟨A1, x.c.ents.length, c1⟩ ⟨A2, x.c.ctx.marks.length, c2⟩ ⟨A3, x.c.ctx.cloud.length, c3⟩ ⟨A4, x.mem.length, c4⟩ ⟨A5, x.pe.length, c5⟩ ⟨A6, x.su.length, c6⟩ = y := ⟨_, rfl⟩
 rw [hy9] at S
 refine wp_seq_k fun _ hK3 => wp_region_lit (run S (.la gt35 7 rfl rfl rfl <| .z) fun a w S => Zi (Ya S sizeOf35 (.t rfl) (.t rfl) (k := 6) rfl rfl rfl (by simp [Value.oneCell']) fun a w S => Zb (Za (hK3 _ _ (wp_ret (Zk S (results1 S results9 (Rv.cell (k := 6) ⟨isAgg35, sizeOf35⟩ rfl rfl rfl)) ?_))))))
 exact ⟨_, _, rfl, S.wd.picks (L' := [rowOf 115 6 Ent.enc A1 c1 x.c.ents, rowOf 137 3 Dot.enc A2 c2 x.c.ctx.marks, rowOf 113 3 Dot.enc A3 c3 x.c.ctx.cloud, rowOf 106 4 Mbr.enc A4 c4 x.mem, rowOf 86 3 Dot.enc A5 c5 x.pe, rowOf 77 3 Sm.enc A6 c6 x.su]) (by repeat (first | exact Picks.nil | (refine Picks.rest ?_; (repeat (first | exact List.Sublist.refl _ | refine List.Sublist.cons_cons _ ?_ | refine List.Sublist.cons _ ?_)); done) | refine Picks.take 0 rfl ?_ | refine Picks.take 1 rfl ?_ | refine Picks.take 2 rfl ?_ | refine Picks.take 3 rfl ?_ | refine Picks.take 4 rfl ?_ | refine Picks.take 5 rfl ?_ | refine Picks.take 6 rfl ?_ | refine Picks.take 7 rfl ?_ | refine Picks.take 8 rfl ?_ | refine Picks.take 9 rfl ?_ | refine Picks.take 10 rfl ?_ | refine Picks.take 11 rfl ?_)), A1, c1, A2, c2, A3, c3, A4, c4, A5, c5, A6, c6, by rw [hy9], rfl⟩
end Go.Proofs.YtbijdmfilmecbaaGreat
namespace Go.Fw
open Go.RowKit
structure BareV (B : Option Addr) (n cB : Nat) (m : MV) : Prop where
 ce : m.ce = .nil
 cm : m.cm = .nil
 cc : m.cc = .nil
 rm : m.rm = .nil
 pe : m.pe = .nil
 su : m.su = .nil ∨ m.su = ⟨B, n, cB⟩
abbrev bang : Sm := ⟨0, [33], 0⟩
end Go.Fw
namespace Go.Proofs.YtbijdmfilmecbaaGreat
open Go.Fw Go.Proofs Go.RowKit Go.Proofs.Tryz
theorem d48 (w0 : World) : Calls Tryz.prog 48 #[.agg #[.slice none 0 0, .slice none 0 0, .slice none 0 0]] w0 fun e w' => e = .returned (.tuple #[]) ∧ Bel w0.heap.size w0 w' := by
 refine enter1 func48 rfl ntmps48 rfl fun a S => wp_seq_k fun _ hK1 => wp_region_lit (Zi (Ym S (.t rfl) rfl fun g1 a w S => Zb (Za (hK1 _ _ (wp_seq_k fun _ hK1 => sg S (.fa underlying29 sizeOf23 0 rfl rfl rfl <| .ld gt23 0 rfl rfl rfl <| .ln underlying23 rfl <| .mc rfl <| .z) fun a w S => wp_block (Xf 1 (Yb (sg S (.ge (by omega) rfl rfl <| .z) fun a w S => wp_seq_k fun _ hK2 => Zf S (.t rfl) (wp_exit (Zc (Zc (Zs (Za (hK1 _ _ (wp_seq_k fun _ hK1 => sg S (.fa underlying29 sizeOf27 1 rfl rfl rfl <| .fa underlying27 sizeOf24 1 rfl rfl rfl <| .ld gt24 0 rfl rfl rfl <| .ln underlying24 rfl <| .mc rfl <| .z) fun a w S => wp_block (Xf 1 (Yb (sg S (.ge (by omega) rfl rfl <| .z) fun a w S => wp_seq_k fun _ hK3 => Zf S (.t rfl) (wp_exit (Zc (Zc (Zs (Za (hK1 _ _ (wp_seq_k fun _ hK1 => wp_region_lit (run S (.fa underlying29 sizeOf27 1 rfl rfl rfl <| .fa underlying27 sizeOf25 2 rfl rfl rfl <| .ld gt25 0 rfl rfl rfl <| .ln underlying25 rfl <| .mc rfl <| .z) fun a w S => Zb ?_))))))))))))))))))))))))))
 refine Za (hK1 _ _ (wp_block (Xf 1 (Yb (sg S (.ge (by omega) rfl rfl <| .z) fun a w S => wp_seq_k fun _ hK1 => Zf S (.t rfl) (wp_exit (Zc (Zc (Zs (st_end S (results0 results48) ?_))))))))))
 exact ⟨rfl, S.wd.below⟩
theorem o13 {w0 w : World} {L : List Chunk} {C B : Option Addr} {cC cB : Nat} {l : List MV} {s : List Sm} (W : Wd w0 (rowOf 35 17 MV.enc C cC l :: rowOf 77 3 Sm.enc B cB s :: L) w) (hb : ∀ m ∈ l, BareV B s.length cB m) (hn : l.length ≤ 9223372036854775807) (hs : s.length ≤ 9223372036854775807) :
   RetsO Tryz.prog 13 #[.slice C l.length cC] w0 w fun v L' => v = .tuple #[] ∧ L' = L := by
 unfold Go.Fw.RetsO
 refine enterW1 W func13 rfl ntmps13 rfl fun a S => sg S (.mv rfl <| .ln underlying46 rfl <| .mc rfl <| .z) fun a w S => wp_block ?_
 refine Yg S [8] (X := Nat × List MV × List Sm) (fun q => [(8, true, .int .i64 (q.1 : Int))]) (fun q => rowOf 35 17 MV.enc C cC q.2.1 :: rowOf 77 3 Sm.enc B cB q.2.2 :: L)
   (fun q => q.1 ≤ l.length ∧ q.2.1.length = l.length ∧ q.2.2.length = s.length ∧ ∀ m ∈ q.2.1, BareV B s.length cB m) (fun q => l.length - q.1) (0, l, s) ⟨Nat.zero_le _, rfl, rfl, hb⟩ ?_
 clear S
 rintro ⟨q, l1, s1⟩ a w ⟨hq, hl1, hs1, hb1⟩ S
 dsimp only at hq hl1 hs1 hb1 S
 by_cases hlt : q < l.length
 · obtain ⟨m, hm⟩ : ∃ m, l1[q]? = some m := ⟨l1[q]'(by omega), List.getElem?_eq_getElem _⟩
   obtain ⟨gC, rfl⟩ := S.wd.row_at (k := 0) rfl (by have := (S.wd.room (k := 0) rfl).1; omega)
   have hbm := hb1 m (List.mem_of_getElem? hm)
   have rw_cea : m.ce.a = none := by rw [hbm.ce]
   have rw_cen : m.ce.n = 0 := by rw [hbm.ce]
   have rw_cec : m.ce.c = 0 := by rw [hbm.ce]
   have rw_cma : m.cm.a = none := by rw [hbm.cm]
   have rw_cmn : m.cm.n = 0 := by rw [hbm.cm]
   have rw_cmc : m.cm.c = 0 := by rw [hbm.cm]
   have rw_cca : m.cc.a = none := by rw [hbm.cc]
   have rw_ccn : m.cc.n = 0 := by rw [hbm.cc]
   have rw_ccc : m.cc.c = 0 := by rw [hbm.cc]
   have rw_rma : m.rm.a = none := by rw [hbm.rm]
   have rw_rmn : m.rm.n = 0 := by rw [hbm.rm]
   have rw_rmc : m.rm.c = 0 := by rw [hbm.rm]
   have rw_pea : m.pe.a = none := by rw [hbm.pe]
   have rw_pen : m.pe.n = 0 := by rw [hbm.pe]
   have rw_pec : m.pe.c = 0 := by rw [hbm.pe]
   have rw_o : 0 + q * 17 + 11 + 3 = 0 + q * 17 + 14 := rfl
   have rw_z : ((0 : Nat) : Int) = 0 := rfl
   rcases hbm.su with hsu | hsu
   · have rw_sa : m.su.a = none := by rw [hsu]
     have rw_sn : m.su.n = 0 := by rw [hsu]
     have rw_sc : m.su.c = 0 := by rw [hsu]
     refine sg S (.lt (by omega) rfl rfl <| .z) fun a w S => wp_seq_k fun _ hK1 => Zd S (.t rfl) (wp_skip (Za (hK1 _ _ (wp_seq_k fun _ hK1 => wp_block (sg S (.mv rfl <| .as rfl <| .z) fun a w S => wp_seq_k fun _ hK2 => wp_region_lit (run S (.mv rfl <| .mv rfl <| .ix underlying46 sizeOf35 (by omega) rfl rfl <| .yy (Zz (FieldT.mk underlying35 rfl sizeOf29 rfl) (.t rfl)) rfl <| .yy (ys_ldWS ⟨isAgg29, sizeOf29⟩ (.t rfl) (vs := [_, _, _]) (k := 0) rfl hm (fun _ => rfl) rfl) rfl <| .z) fun a w S => ?_))))))
     rw [rw_cea] at S
     rw [rw_cen] at S
     rw [rw_cec] at S
     rw [rw_cma] at S
     rw [rw_cmn] at S
     rw [rw_cmc] at S
     rw [rw_cca] at S
     rw [rw_ccn] at S
     rw [rw_ccc] at S
     refine run S (.xx (Zg call48 (.cons (.t rfl) .nil) (fun hp w W => d48 _)) rfl <| .z) fun a w S => Zb (Za (hK2 _ _ (wp_seq_k fun _ hK2 => wp_seq_k fun _ hK3 => wp_region_lit (run S (.mv rfl <| .mv rfl <| .ix underlying46 sizeOf35 (by omega) rfl rfl <| .yy (Zz (FieldT.mk underlying35 rfl sizeOf32 rfl) (.t rfl)) rfl <| .yy (Zz (FieldT.mk underlying32 rfl sizeOf30 rfl) (.t rfl)) rfl <| .z) fun a w S => ?_))))
     rw [rw_o] at S
     refine run S (.yy (Xu ⟨isAgg30, sizeOf30⟩ (.t rfl) (k := 0) rfl hm (fun _ => rfl) rfl) rfl <| .z) fun a w S => ?_
     rw [rw_rma] at S
     rw [rw_rmn] at S
     rw [rw_rmc] at S
     rw [rw_o] at S
     refine run S (.ln underlying30 rfl <| .z) fun a w S => ?_
     rw [rw_o] at S
     rw [rw_z] at S
     refine run S (.mc rfl <| .z) fun a w S => ?_
     rw [rw_o] at S
     refine Zb ?_
     rw [rw_o] at S
     refine Za (hK3 _ _ ?_)
     rw [rw_o] at S
     refine wp_block ?_
     rw [rw_o] at S
     refine Xf 1 (Yb (wp_seq_k fun _ hK3 => ?_))
     rw [rw_o] at S
     refine wp_region_lit ?_
     rw [rw_o] at S
     refine run S (.ge (by omega) rfl rfl <| .z) fun a w S => ?_
     rw [rw_o] at S
     refine Zb ?_
     rw [rw_o] at S
     refine Za (hK3 _ _ ?_)
     rw [rw_o] at S
     refine wp_seq_k fun _ hK3 => ?_
     rw [rw_o] at S
     refine Zf S (.t rfl) ?_
     rw [rw_o] at S
     refine wp_exit ?_
     rw [rw_o] at S
     refine Zc (Zc (Zs (Za (hK2 _ _ ?_))))
     rw [rw_o] at S
     refine wp_seq_k fun _ hK2 => ?_
     rw [rw_o] at S
     refine wp_seq_k fun _ hK4 => ?_
     rw [rw_o] at S
     refine wp_region_lit ?_
     rw [rw_o] at S
     refine run S (.mv rfl <| .z) fun a w S => ?_
     rw [rw_o] at S
     refine run S (.mv rfl <| .z) fun a w S => ?_
     rw [rw_o] at S
     refine run S (.ix underlying46 sizeOf35 (by omega) rfl rfl <| .z) fun a w S => ?_
     rw [rw_o] at S
     refine run S (.yy (Zz (FieldT.mk underlying35 rfl sizeOf33 rfl) (.t rfl)) rfl <| .z) fun a w S => ?_
     rw [rw_o] at S
     refine run S (.yy (Xu ⟨isAgg33, sizeOf33⟩ (.t rfl) (k := 0) rfl hm (fun _ => rfl) rfl) rfl <| .z) fun a w S => ?_
     rw [rw_pea] at S
     rw [rw_pen] at S
     rw [rw_pec] at S
     rw [rw_o] at S
     refine run S (.ln underlying33 rfl <| .z) fun a w S => ?_
     rw [rw_o] at S
     rw [rw_z] at S
     refine run S (.mc rfl <| .z) fun a w S => ?_
     rw [rw_o] at S
     refine Zb ?_
     rw [rw_o] at S
     refine Za (hK4 _ _ ?_)
     rw [rw_o] at S
     refine wp_block ?_
     rw [rw_o] at S
     refine Xf 1 (Yb (wp_seq_k fun _ hK4 => ?_))
     rw [rw_o] at S
     refine wp_region_lit ?_
     rw [rw_o] at S
     refine run S (.ge (by omega) rfl rfl <| .z) fun a w S => ?_
     rw [rw_o] at S
     refine Zb ?_
     rw [rw_o] at S
     refine Za (hK4 _ _ ?_)
     rw [rw_o] at S
     refine wp_seq_k fun _ hK4 => ?_
     rw [rw_o] at S
     refine Zf S (.t rfl) ?_
     rw [rw_o] at S
     refine wp_exit ?_
     rw [rw_o] at S
     refine Zc (Zc (Zs (Za (hK2 _ _ ?_))))
     rw [rw_o] at S
     refine wp_seq_k fun _ hK2 => ?_
     rw [rw_o] at S
     refine wp_seq_k fun _ hK5 => ?_
     rw [rw_o] at S
     refine wp_region_lit ?_
     rw [rw_o] at S
     refine run S (.mv rfl <| .z) fun a w S => ?_
     rw [rw_o] at S
     refine run S (.mv rfl <| .z) fun a w S => ?_
     rw [rw_o] at S
     refine run S (.ix underlying46 sizeOf35 (by omega) rfl rfl <| .z) fun a w S => ?_
     rw [rw_o] at S
     refine run S (.yy (Zz (FieldT.mk underlying35 rfl sizeOf22 rfl) (.t rfl)) rfl <| .z) fun a w S => ?_
     rw [rw_o] at S
     refine run S (.yy (Xu ⟨isAgg22, sizeOf22⟩ (.t rfl) (k := 0) rfl hm (fun _ => rfl) rfl) rfl <| .z) fun a w S => ?_
     rw [rw_o] at S
     rw [rw_sa] at S
     rw [rw_sn] at S
     rw [rw_sc] at S
     refine run S (.ln underlying22 rfl <| .z) fun a w S => ?_
     rw [rw_o] at S
     rw [rw_z] at S
     refine run S (.mc rfl <| .z) fun a w S => ?_
     rw [rw_o] at S
     refine Zb ?_
     rw [rw_o] at S
     refine Za (hK5 _ _ ?_)
     rw [rw_o] at S
     refine wp_block ?_
     rw [rw_o] at S
     refine Xf 1 (Yb (wp_seq_k fun _ hK5 => ?_))
     rw [rw_o] at S
     refine wp_region_lit ?_
     rw [rw_o] at S
     refine run S (.ge (by omega) rfl rfl <| .z) fun a w S => ?_
     rw [rw_o] at S
     refine Zb ?_
     rw [rw_o] at S
     refine Za (hK5 _ _ ?_)
     rw [rw_o] at S
     refine wp_seq_k fun _ hK5 => ?_
     rw [rw_o] at S
     refine Zf S (.t rfl) ?_
     rw [rw_o] at S
     refine wp_exit ?_
     rw [rw_o] at S
     refine Zc (Zc (Zs (Za (hK2 _ _ ?_))))
     rw [rw_o] at S
     refine wp_region_lit ?_
     rw [rw_o] at S
     refine run S (.mv rfl <| .z) fun a w S => ?_
     rw [rw_o] at S
     refine run S (.mv rfl <| .z) fun a w S => ?_
     rw [rw_o] at S
     refine run S (.ix underlying46 sizeOf35 (by omega) rfl rfl <| .z) fun a w S => ?_
     rw [rw_o] at S
     refine run S (.yy (Zz (FieldT.mk underlying35 rfl sizeOf3 rfl) (.t rfl)) rfl <| .z) fun a w S => ?_
     rw [rw_o] at S
     refine Zi (op_stFld (enc := MV.enc) (size := 17) (i := q) (j := 0) (xo := m) (v := .int .i64 99) { m with kind := 99 } S MV.enc_len sizeOf3 (.t rfl) Ev.c rfl (k := 0) rfl hm (by omega) (by decide) rfl ?_)
     clear S
     intro a w S
     refine Zb ?_
     rw [rw_o] at S
     refine Zj (Za (hK1 _ _ ?_))
     rw [rw_o] at S
     refine wp_region_lit ?_
     rw [rw_o] at S
     refine run S (.ad (by unfold I64; omega) rfl <| .z) fun a w S => ?_
     rw [rw_o] at S
     refine run S (.mv rfl <| .z) fun a w S => ?_
     rw [rw_o] at S
     refine Zb ?_
     rw [rw_o] at S
     refine Za ?_
     rw [rw_o] at S
     exact ⟨(q + 1, l1.set q { m with kind := 99 }, s1), ⟨by dsimp only; omega, by dsimp only; rw [List.length_set]; exact hl1, by dsimp only; omega, fun m' hm' => by
       rcases List.mem_or_eq_of_mem_set hm' with h | rfl
       · exact hb1 m' h
       · exact ⟨hbm.ce, hbm.cm, hbm.cc, hbm.rm, hbm.pe, hbm.su⟩⟩, by dsimp only; omega, S.pk⟩
   · have rw_sa : m.su.a = B := by rw [hsu]
     have rw_sn : m.su.n = s.length := by rw [hsu]
     have rw_sc : m.su.c = cB := by rw [hsu]
     refine sg S (.lt (by omega) rfl rfl <| .z) fun a w S => wp_seq_k fun _ hK1 => Zd S (.t rfl) (wp_skip (Za (hK1 _ _ (wp_seq_k fun _ hK1 => wp_block (sg S (.mv rfl <| .as rfl <| .z) fun a w S => wp_seq_k fun _ hK2 => wp_region_lit (run S (.mv rfl <| .mv rfl <| .ix underlying46 sizeOf35 (by omega) rfl rfl <| .yy (Zz (FieldT.mk underlying35 rfl sizeOf29 rfl) (.t rfl)) rfl <| .yy (ys_ldWS ⟨isAgg29, sizeOf29⟩ (.t rfl) (vs := [_, _, _]) (k := 0) rfl hm (fun _ => rfl) rfl) rfl <| .z) fun a w S => ?_))))))
     rw [rw_cea] at S
     rw [rw_cen] at S
     rw [rw_cec] at S
     rw [rw_cma] at S
     rw [rw_cmn] at S
     rw [rw_cmc] at S
     rw [rw_cca] at S
     rw [rw_ccn] at S
     rw [rw_ccc] at S
     refine run S (.xx (Zg call48 (.cons (.t rfl) .nil) (fun hp w W => d48 _)) rfl <| .z) fun a w S => Zb (Za (hK2 _ _ (wp_seq_k fun _ hK2 => wp_seq_k fun _ hK3 => wp_region_lit (run S (.mv rfl <| .mv rfl <| .ix underlying46 sizeOf35 (by omega) rfl rfl <| .yy (Zz (FieldT.mk underlying35 rfl sizeOf32 rfl) (.t rfl)) rfl <| .yy (Zz (FieldT.mk underlying32 rfl sizeOf30 rfl) (.t rfl)) rfl <| .z) fun a w S => ?_))))
     rw [rw_o] at S
     refine run S (.yy (Xu ⟨isAgg30, sizeOf30⟩ (.t rfl) (k := 0) rfl hm (fun _ => rfl) rfl) rfl <| .z) fun a w S => ?_
     rw [rw_rma] at S
     rw [rw_rmn] at S
     rw [rw_rmc] at S
     rw [rw_o] at S
     refine run S (.ln underlying30 rfl <| .z) fun a w S => ?_
     rw [rw_o] at S
     rw [rw_z] at S
     refine run S (.mc rfl <| .z) fun a w S => ?_
     rw [rw_o] at S
     refine Zb ?_
     rw [rw_o] at S
     refine Za (hK3 _ _ ?_)
     rw [rw_o] at S
     refine wp_block ?_
     rw [rw_o] at S
     refine Xf 1 (Yb (wp_seq_k fun _ hK3 => ?_))
     rw [rw_o] at S
     refine wp_region_lit ?_
     rw [rw_o] at S
     refine run S (.ge (by omega) rfl rfl <| .z) fun a w S => ?_
     rw [rw_o] at S
     refine Zb ?_
     rw [rw_o] at S
     refine Za (hK3 _ _ ?_)
     rw [rw_o] at S
     refine wp_seq_k fun _ hK3 => ?_
     rw [rw_o] at S
     refine Zf S (.t rfl) ?_
     rw [rw_o] at S
     refine wp_exit ?_
     rw [rw_o] at S
     refine Zc (Zc (Zs (Za (hK2 _ _ ?_))))
     rw [rw_o] at S
     refine wp_seq_k fun _ hK2 => ?_
     rw [rw_o] at S
     refine wp_seq_k fun _ hK4 => ?_
     rw [rw_o] at S
     refine wp_region_lit ?_
     rw [rw_o] at S
     refine run S (.mv rfl <| .z) fun a w S => ?_
     rw [rw_o] at S
     refine run S (.mv rfl <| .z) fun a w S => ?_
     rw [rw_o] at S
     refine run S (.ix underlying46 sizeOf35 (by omega) rfl rfl <| .z) fun a w S => ?_
     rw [rw_o] at S
     refine run S (.yy (Zz (FieldT.mk underlying35 rfl sizeOf33 rfl) (.t rfl)) rfl <| .z) fun a w S => ?_
     rw [rw_o] at S
     refine run S (.yy (Xu ⟨isAgg33, sizeOf33⟩ (.t rfl) (k := 0) rfl hm (fun _ => rfl) rfl) rfl <| .z) fun a w S => ?_
     rw [rw_pea] at S
     rw [rw_pen] at S
     rw [rw_pec] at S
     rw [rw_o] at S
     refine run S (.ln underlying33 rfl <| .z) fun a w S => ?_
     rw [rw_o] at S
     rw [rw_z] at S
     refine run S (.mc rfl <| .z) fun a w S => ?_
     rw [rw_o] at S
     refine Zb ?_
     rw [rw_o] at S
     refine Za (hK4 _ _ ?_)
     rw [rw_o] at S
     refine wp_block ?_
     rw [rw_o] at S
     refine Xf 1 (Yb (wp_seq_k fun _ hK4 => ?_))
     rw [rw_o] at S
     refine wp_region_lit ?_
     rw [rw_o] at S
     refine run S (.ge (by omega) rfl rfl <| .z) fun a w S => ?_
     rw [rw_o] at S
     refine Zb ?_
     rw [rw_o] at S
     refine Za (hK4 _ _ ?_)
     rw [rw_o] at S
     refine wp_seq_k fun _ hK4 => ?_
     rw [rw_o] at S
     refine Zf S (.t rfl) ?_
     rw [rw_o] at S
     refine wp_exit ?_
     rw [rw_o] at S
     refine Zc (Zc (Zs (Za (hK2 _ _ ?_))))
     rw [rw_o] at S
     refine wp_seq_k fun _ hK2 => ?_
     rw [rw_o] at S
     refine wp_seq_k fun _ hK5 => ?_
     rw [rw_o] at S
     refine wp_region_lit ?_
     rw [rw_o] at S
     refine run S (.mv rfl <| .z) fun a w S => ?_
     rw [rw_o] at S
     refine run S (.mv rfl <| .z) fun a w S => ?_
     rw [rw_o] at S
     refine run S (.ix underlying46 sizeOf35 (by omega) rfl rfl <| .z) fun a w S => ?_
     rw [rw_o] at S
     refine run S (.yy (Zz (FieldT.mk underlying35 rfl sizeOf22 rfl) (.t rfl)) rfl <| .z) fun a w S => ?_
     rw [rw_o] at S
     refine run S (.yy (Xu ⟨isAgg22, sizeOf22⟩ (.t rfl) (k := 0) rfl hm (fun _ => rfl) rfl) rfl <| .z) fun a w S => ?_
     rw [rw_o] at S
     rw [rw_sa] at S
     rw [rw_sn] at S
     rw [rw_sc] at S
     refine run S (.ln underlying22 rfl <| .z) fun a w S => ?_
     rw [rw_o] at S
     refine run S (.mc rfl <| .z) fun a w S => ?_
     rw [rw_o] at S
     refine Zb ?_
     rw [rw_o] at S
     refine Za (hK5 _ _ ?_)
     rw [rw_o] at S
     refine wp_block ?_
     rw [rw_o] at S
     refine Yg S [61] (X := Nat × List Sm) (fun r => [(61, true, .int .i64 (r.1 : Int))]) (fun r => rowOf 35 17 MV.enc (some ⟨gC, 0, none⟩) cC l1 :: rowOf 77 3 Sm.enc B cB r.2 :: L)
       (fun r => r.1 ≤ s.length ∧ r.2.length = s.length) (fun r => s.length - r.1) (0, s1) ⟨Nat.zero_le _, hs1⟩ ?_
     clear S
     rintro ⟨k, s2⟩ a w ⟨hk, hs2⟩ S
     dsimp only at hk hs2 S
     by_cases hlt2 : k < s.length
     · obtain ⟨x, hx⟩ : ∃ x, s2[k]? = some x := ⟨s2[k]'(by omega), List.getElem?_eq_getElem _⟩
       obtain ⟨gB, rfl⟩ := S.wd.row_at (k := 1) rfl (by have := (S.wd.room (k := 1) rfl).1; omega)
       refine wp_seq_k fun _ hK5 => ?_
       rw [rw_o] at S
       refine wp_region_lit ?_
       rw [rw_o] at S
       refine run S (.lt (by omega) rfl rfl <| .z) fun a w S => ?_
       rw [rw_o] at S
       refine Zb ?_
       rw [rw_o] at S
       refine Za (hK5 _ _ ?_)
       rw [rw_o] at S
       refine wp_seq_k fun _ hK5 => ?_
       rw [rw_o] at S
       refine Zd S (.t rfl) ?_
       rw [rw_o] at S
       refine wp_skip ?_
       rw [rw_o] at S
       refine Za (hK5 _ _ ?_)
       rw [rw_o] at S
       refine wp_seq_k fun _ hK5 => ?_
       rw [rw_o] at S
       refine wp_block ?_
       rw [rw_o] at S
       refine wp_seq_k fun _ hK6 => ?_
       rw [rw_o] at S
       refine wp_region_lit ?_
       rw [rw_o] at S
       refine run S (.mv rfl <| .z) fun a w S => ?_
       rw [rw_o] at S
       refine run S (.as rfl <| .z) fun a w S => ?_
       rw [rw_o] at S
       refine Zb ?_
       rw [rw_o] at S
       refine Za (hK6 _ _ ?_)
       rw [rw_o] at S
       refine wp_region_lit ?_
       rw [rw_o] at S
       refine run S (.mv rfl <| .z) fun a w S => ?_
       rw [rw_o] at S
       refine run S (.mv rfl <| .z) fun a w S => ?_
       rw [rw_o] at S
       refine run S (.ix underlying46 sizeOf35 (by omega) rfl rfl <| .z) fun a w S => ?_
       rw [rw_o] at S
       refine run S (.yy (Zz (FieldT.mk underlying35 rfl sizeOf22 rfl) (.t rfl)) rfl <| .z) fun a w S => ?_
       rw [rw_o] at S
       refine run S (.yy (Xu ⟨isAgg22, sizeOf22⟩ (.t rfl) (k := 0) rfl hm (fun _ => rfl) rfl) rfl <| .z) fun a w S => ?_
       rw [rw_o] at S
       rw [rw_sn] at S
       rw [rw_sc] at S
       rw [rw_sa] at S
       refine run S (.mv rfl <| .z) fun a w S => ?_
       rw [rw_o] at S
       refine run S (.yy (Yj (ps := [(1, _)]) (us := [_, _, _]) bld77 (.cons Ev.c .nil) rfl) rfl <| .z) fun a w S => ?_
       rw [rw_o] at S
       refine run S (.ix underlying22 sizeOf77 (by omega) rfl rfl <| .z) fun a w S => ?_
       rw [rw_o] at S
       refine Zi (op_stRow (enc := Sm.enc) (size := 3) (i := k) (l := s2) (yn := bang) S (fun _ => rfl) rfl sizeOf77 (.t rfl) (.t rfl) rfl (by simp [Value.oneCell']) (k := 1) rfl hx (Nat.zero_add _) ?_)
       clear S
       intro a w S
       refine Zb ?_
       rw [rw_o] at S
       refine Zj (Za (hK5 _ _ ?_))
       rw [rw_o] at S
       refine wp_region_lit ?_
       rw [rw_o] at S
       refine run S (.ad (by unfold I64; omega) rfl <| .z) fun a w S => ?_
       rw [rw_o] at S
       refine run S (.mv rfl <| .z) fun a w S => ?_
       rw [rw_o] at S
       refine Zb ?_
       rw [rw_o] at S
       refine Za ?_
       rw [rw_o] at S
       exact ⟨(k + 1, s2.set k bang), ⟨by dsimp only; omega, by dsimp only; rw [List.length_set]; exact hs2⟩, by dsimp only; omega, S.pk⟩
     obtain rfl : k = s.length := by omega
     refine wp_seq_k fun _ hK5 => ?_
     rw [rw_o] at S
     refine wp_region_lit ?_
     rw [rw_o] at S
     refine run S (.ge (by omega) rfl rfl <| .z) fun a w S => ?_
     rw [rw_o] at S
     refine Zb ?_
     rw [rw_o] at S
     refine Za (hK5 _ _ ?_)
     rw [rw_o] at S
     refine wp_seq_k fun _ hK5 => ?_
     rw [rw_o] at S
     refine Zf S (.t rfl) ?_
     rw [rw_o] at S
     refine wp_exit ?_
     rw [rw_o] at S
     refine Zc (Zc (Zs (Za (hK2 _ _ ?_))))
     rw [rw_o] at S
     refine wp_region_lit ?_
     rw [rw_o] at S
     refine run S (.mv rfl <| .z) fun a w S => ?_
     rw [rw_o] at S
     refine run S (.mv rfl <| .z) fun a w S => ?_
     rw [rw_o] at S
     refine run S (.ix underlying46 sizeOf35 (by omega) rfl rfl <| .z) fun a w S => ?_
     rw [rw_o] at S
     refine run S (.yy (Zz (FieldT.mk underlying35 rfl sizeOf3 rfl) (.t rfl)) rfl <| .z) fun a w S => ?_
     rw [rw_o] at S
     refine Zi (op_stFld (enc := MV.enc) (size := 17) (i := q) (j := 0) (xo := m) (v := .int .i64 99) { m with kind := 99 } S MV.enc_len sizeOf3 (.t rfl) Ev.c rfl (k := 0) rfl hm (by omega) (by decide) rfl ?_)
     clear S
     intro a w S
     refine Zb ?_
     rw [rw_o] at S
     refine Zj (Za (hK1 _ _ ?_))
     rw [rw_o] at S
     refine wp_region_lit ?_
     rw [rw_o] at S
     refine run S (.ad (by unfold I64; omega) rfl <| .z) fun a w S => ?_
     rw [rw_o] at S
     refine run S (.mv rfl <| .z) fun a w S => ?_
     rw [rw_o] at S
     refine Zb ?_
     rw [rw_o] at S
     refine Za ?_
     rw [rw_o] at S
     exact ⟨(q + 1, l1.set q { m with kind := 99 }, s2), ⟨by dsimp only; omega, by dsimp only; rw [List.length_set]; exact hl1, by dsimp only; omega, fun m' hm' => by
       rcases List.mem_or_eq_of_mem_set hm' with h | rfl
       · exact hb1 m' h
       · exact ⟨hbm.ce, hbm.cm, hbm.cc, hbm.rm, hbm.pe, hbm.su⟩⟩, by dsimp only; omega, S.pk⟩
 obtain rfl : q = l.length := by omega
 refine sg S (.ge (by omega) rfl rfl <| .z) fun a w S => wp_seq_k fun _ hK1 => Zf S (.t rfl) (wp_exit (Zc (Zc (Zs (st_end S (results0 results13) ?_)))))
 exact ⟨_, L, rfl, S.wd.pk, rfl, rfl⟩
end Go.Proofs.YtbijdmfilmecbaaGreat
namespace Go.Fw
open Go.RowKit
theorem st_straight {P : Program} {Q : Exit → Act → World → Prop} {a : Act} {w : World} {c : Code} (h : c.wp P (Exit.jump 0 (fun _ _ => False) Q) a w) : (Code.scope c).wp P Q a w :=
 wp_scope_straight (wp_mono h fun e a w h => by
   cases e with
   | goto l => exact h.2.elim
   | _ => exact h)
end Go.Fw
namespace Go.Proofs.YtbijdmfilmecbaaGreat
open Go.Fw Go.Proofs Go.RowKit Go.Proofs.Tryz
theorem d30 (w0 : World) (level : Int) (v2 : Value) : Calls Tryz.prog 30 #[.pointer none, .int .i64 level, v2] w0 fun e w' => e = .returned (.tuple #[.slice none 0 0, .int .i64 8]) ∧ Bel w0.heap.size w0 w' := by
 refine enter3 func30 rfl ntmps30 rfl fun a S => sg S (.ac rfl <| .ac rfl <| .z) fun a w S => wp_seq_k fun _ hK1 => sg S (.mv rfl <| .xx (Zg call60 (.cons (.t rfl) .nil) (fun hp w W => d60 _)) rfl <| .nt rfl <| .z) fun a w S => Zd S (.t rfl) (sg S (.ac rfl <| .ac rfl <| .z) fun a w S => wp_ret (Zh (Zk S (results2 S results30 (Rv.tmp rfl) (Rv.tmp rfl)) ?_)))
 exact ⟨rfl, S.wd.below⟩
theorem e30 (w0 : World) (g : Nat) (level : Int) (v2 : Value) (h0 : w0.cell? ⟨g, 0, none⟩ = some (.slice none 0 0)) : Calls Tryz.prog 30 #[.pointer (some ⟨g, 0, none⟩), .int .i64 level, v2] w0 fun e w' => e = .returned (.tuple #[.slice none 0 0, .int .i64 8]) ∧ Bel w0.heap.size w0 w' := by
 refine enter3 func30 rfl ntmps30 rfl fun a S => sg S (.ac rfl <| .ac rfl <| .z) fun a w S => wp_seq_k fun _ hK1 => sg S (.mv rfl <| .xx (Zg call60 (.cons (.t rfl) .nil) (fun hp w W => c60 _ _ _ _ _ (by exact Wd.cellOld W (by assumption)))) rfl <| .nt rfl <| .z) fun a w S => Zd S (.t rfl) (sg S (.ac rfl <| .ac rfl <| .z) fun a w S => wp_ret (Zh (Zk S (results2 S results30 (Rv.tmp rfl) (Rv.tmp rfl)) ?_)))
 exact ⟨rfl, S.wd.below⟩
end Go.Proofs.YtbijdmfilmecbaaGreat
namespace Go.Fw
open Go.RowKit
abbrev MV.zero : MV := ⟨0, 0, 0, 0, [], .nil, .nil, .nil, 0, 0, 0, 0, 0, 0, .nil, .nil, .nil⟩
abbrev beginV (self to part : Int) (s : Sl1) : MV := ⟨8, self, to, 0, [], .nil, .nil, .nil, -1, part, 0, 0, 0, 0, .nil, .nil, s⟩
def nodeB (n : Int) : Bool := decide (0 ≤ n) && decide (n < 8)
def begB (self to part : Int) : Bool := nodeB self && nodeB to && decide (0 ≤ part) && decide (part < 64)
theorem begB_no {self to part : Int} (h : begB self to part = false) : nodeB self = false ∨ nodeB to = false ∨ part < 0 ∨ 64 ≤ part := by
 unfold begB at h
 cases h1 : nodeB self with
 | false => exact .inl rfl
 | true =>
   cases h2 : nodeB to with
   | false => exact .inr (.inl rfl)
   | true =>
     rw [h1, h2] at h
     simp at h
     omega
theorem begB_yes {self to part : Int} (h : begB self to part = true) : nodeB self = true ∧ nodeB to = true ∧ 0 ≤ part ∧ part < 64 := by
 unfold begB at h
 simp at h
 exact ⟨h.1.1.1, h.1.1.2, h.1.2, h.2⟩
end Go.Fw
namespace Go.Proofs.YtbijdmfilmecbaaGreat
open Go.Fw Go.Proofs Go.RowKit Go.Proofs.Tryz
theorem c29 (w0 : World) (n : Int) : Calls Tryz.prog 29 #[.int .i64 n] w0 fun e w' => e = .returned (.bool (nodeB n)) ∧ Bel w0.heap.size w0 w' := by
 refine enter1 func29 rfl ntmps29 rfl fun a S => sg S (.ac rfl <| .z) fun a w S => wp_seq_k fun _ hK1 => wp_region_lit (run S (.mv rfl <| .yy (Yp (.t rfl) Ev.c) rfl <| .mv rfl <| .z) fun a w S => Yt S rfl rfl (Yr.ys (Ze (.t rfl))) rfl fun a w S => Yt S rfl rfl (Yr.ys (Yh (Ev.g rfl) Ev.c)) rfl fun a w S => run S (.yy (Xs (.t rfl) (Ev.g rfl) Ev.c) rfl <| .as rfl <| .z) fun a w S => Zb (Za (hK1 _ _ (wp_ret (Zk S (results1 S results29 (Rv.tmp rfl)) ?_)))))
 exact ⟨rfl, S.wd.below⟩
theorem c31 (w0 : World) (n : Int) : Calls Tryz.prog 31 #[.int .i64 n] w0 fun e w' => e = .returned (.bool (nodeB n)) ∧ Bel w0.heap.size w0 w' := by
 refine enter1 func31 rfl ntmps31 rfl fun a S => sg S (.ac rfl <| .z) fun a w S => wp_seq_k fun _ hK1 => wp_region_lit (run S (.mv rfl <| .yy (Yp (.t rfl) Ev.c) rfl <| .mv rfl <| .z) fun a w S => Yt S rfl rfl (Yr.ys (Ze (.t rfl))) rfl fun a w S => Yt S rfl rfl (Yr.ys (Yh (Ev.g rfl) Ev.c)) rfl fun a w S => run S (.yy (Xs (.t rfl) (Ev.g rfl) Ev.c) rfl <| .as rfl <| .z) fun a w S => Zb (Za (hK1 _ _ (wp_ret (Zk S (results1 S results31 (Rv.tmp rfl)) ?_)))))
 exact ⟨rfl, S.wd.below⟩
theorem c6 (w0 : World) (self to part : Int) (g cap : Nat) (A : Option Addr) (gs : List Nat) (T : List KH) (h : TreeAt w0 g A cap gs T) (hT : KhOk T) (hl : T.length ≤ 1048576) (hb : begB self to part = true) :
   Rets Tryz.prog 6 #[.int .i64 self, .int .i64 to, .int .i64 part, .pointer (some ⟨g, 0, none⟩)] w0 fun u L => ∃ B c, u = .tuple #[.agg (MV.enc (beginV self to part ⟨B, (sumsT T 0 [0]).length, c⟩)).toArray, .int .i64 0] ∧ L = [rowOf 77 3 Sm.enc B c (sumsT T 0 [0])] := by
 obtain ⟨b1, b2, b3, b4⟩ := begB_yes hb
 have hl4 : T.length ≤ 4194304 := by omega
 have hok : okP 0 4 [0] = true := by decide
 have rw_1 : (sumsA T 0 [0]).2 = 0 := by unfold sumsA; rw [if_pos hok]
 have rw_2 : (sumsA T 0 [0]).1 = sumsT T 0 [0] := by unfold sumsA; rw [if_pos hok]
 have h00 : ([0] : List Int).length ≤ 4194304 := by decide
 have rw_3 := b1
 have rw_4 := b2
 have rw_5 : decide (part < 0) = false := decide_eq_false (by omega)
 have rw_6 : decide (64 ≤ part) = false := decide_eq_false (by omega)
 generalize sumsT T 0 [0] = st at *
 unfold Go.Fw.Rets
 refine enter4 func6 rfl ntmps6 rfl fun a S => wp_seq_k fun _ hK1 => wp_region_lit (Zi (Zt S zeroValue35 (cs := _) rfl rfl fun g1 a w S => run S (.ac rfl <| .z) fun a w S => Zb (Za (hK1 _ _ (wp_seq_k fun _ hK1 => wp_seq_k fun _ hK2 => wp_region_lit (run S (.mv rfl <| .xx (Zg call29 (.cons (.t rfl) .nil) (fun hp w W => c29 _ _)) rfl <| .z) fun a w S => ?_))))))
 rw [rw_3] at S
 refine run S (.nt rfl <| .mv rfl <| .gy rfl rfl (Ze (.t rfl)) <| .gx rfl rfl (Zg call29 (.cons (.t rfl) .nil) (fun hp w W => c29 _ _)) <| .z) fun a w S => ?_
 rw [rw_4] at S
 refine run S (.gy rfl rfl (Xb (.t rfl)) <| .yy (Zn (.t rfl) (.t rfl)) rfl <| .mv rfl <| .gy rfl rfl (Ze (.t rfl)) <| .gy rfl rfl (Yf (by omega) (Yh (.t rfl) Ev.c)) <| .yy (Zn (.t rfl) (.t rfl)) rfl <| .mv rfl <| .gy rfl rfl (Ze (.t rfl)) <| .gy rfl rfl (Yf (by omega) (Yp (.t rfl) Ev.c)) <| .yy (Zn (.t rfl) (.t rfl)) rfl <| .z) fun a w S => Zb (Za (hK2 _ _ (Zf S (.t rfl) (wp_skip (Za (hK1 _ _ (wp_seq_k fun _ hK1 => wp_region_lit (run S (.mv rfl <| .z) fun a w S => Zi (Zp S underlying82 inf3 rfl rfl rfl Ev.c rfl rfl rfl fun g2 a w S => ?_)))))))))
 (refine Zi (Zq S call30 (.cons (.t rfl) (.cons Ev.c (.cons (.t rfl) .nil))) (c30 _ _ _ _ _ _ _ _ _ (by exact .old S.wd (by assumption)) (by assumption) (by assumption) (by exact sl_i1 S.wd (k := 0) rfl) (by assumption)) rfl ?_); clear S a w; rintro _ _ ⟨B1, c1, rfl, rfl⟩ a w S)
 rw [rw_1] at S
 rw [rw_2] at S
 refine run S (.mv rfl <| .ex rfl rfl <| .ex rfl rfl <| .as rfl <| .as rfl <| .z) fun a w S => Zb (Za (hK1 _ _ (wp_seq_k fun _ hK1 => sg S (.mv rfl <| .yy (Yf (by omega) (Zu (.t rfl) Ev.c)) rfl <| .z) fun a w S => Zf S (.t rfl) (wp_skip (Za (hK1 _ _ (wp_seq_k fun _ hK1 => wp_region_lit (run S (.mv rfl <| .mv rfl <| .mv rfl <| .mv rfl <| .yy (Yj (ps := [(0, _), (1, Go.Operand.tmp 38), (2, Go.Operand.tmp 39), (7, Go.Operand.tmp 40), (6, _), (11, Go.Operand.tmp 41)]) (us := [_, _, _, _, _, _, _, _, _, _, _, _, _, _, _, _, _]) bld35 (.cons Ev.c (.cons (.t rfl) (.cons (.t rfl) (.cons (.t rfl) (.cons Ev.c (.cons (.t rfl) .nil)))))) rfl) rfl <| .z) fun a w S => Zi (Ya S sizeOf35 (.t rfl) (.t rfl) (k := 2) rfl rfl rfl (by simp [Value.oneCell']) fun a w S => run S (.ac rfl <| .z) fun a w S => Zb (Za (hK1 _ _ (wp_ret (Zk S (results2 S results6 (Rv.cell (k := 2) ⟨isAgg35, sizeOf35⟩ rfl rfl rfl) (Rv.tmp rfl)) ?_)))))))))))))
 exact ⟨_, _, rfl, S.wd.picks (L' := [rowOf 77 3 Sm.enc B1 c1 st]) (by repeat (first | exact Picks.nil | (refine Picks.rest ?_; (repeat (first | exact List.Sublist.refl _ | refine List.Sublist.cons_cons _ ?_ | refine List.Sublist.cons _ ?_)); done) | refine Picks.take 0 rfl ?_ | refine Picks.take 1 rfl ?_ | refine Picks.take 2 rfl ?_ | refine Picks.take 3 rfl ?_ | refine Picks.take 4 rfl ?_ | refine Picks.take 5 rfl ?_ | refine Picks.take 6 rfl ?_ | refine Picks.take 7 rfl ?_ | refine Picks.take 8 rfl ?_ | refine Picks.take 9 rfl ?_ | refine Picks.take 10 rfl ?_ | refine Picks.take 11 rfl ?_)), B1, c1, rfl, rfl⟩
theorem d6 (w0 : World) (self to part : Int) (v : Value) (hb : begB self to part = false) :
   Calls Tryz.prog 6 #[.int .i64 self, .int .i64 to, .int .i64 part, v] w0 fun e w' => e = .returned (.tuple #[.agg (MV.enc MV.zero).toArray, .int .i64 1]) ∧ Bel w0.heap.size w0 w' := by
 cases h1 : nodeB self with
 | false =>
   have rw_1 := h1
   refine enter4 func6 rfl ntmps6 rfl fun a S => wp_seq_k fun _ hK1 => wp_region_lit (Zi (Zt S zeroValue35 (cs := _) rfl rfl fun g1 a w S => run S (.ac rfl <| .z) fun a w S => Zb (Za (hK1 _ _ (wp_seq_k fun _ hK1 => wp_seq_k fun _ hK2 => wp_region_lit (run S (.mv rfl <| .xx (Zg call29 (.cons (.t rfl) .nil) (fun hp w W => c29 _ _)) rfl <| .z) fun a w S => ?_))))))
   rw [rw_1] at S
   refine run S (.nt rfl <| .mv rfl <| .sk rfl rfl rfl <| .sk rfl rfl rfl <| .sk rfl rfl rfl <| .yy (Zr (.t rfl) Ev.c) rfl <| .mv rfl <| .sk rfl rfl rfl <| .sk rfl rfl rfl <| .yy (Zr (.t rfl) Ev.c) rfl <| .mv rfl <| .sk rfl rfl rfl <| .sk rfl rfl rfl <| .yy (Zr (.t rfl) Ev.c) rfl <| .z) fun a w S => Zb (Za (hK2 _ _ (Zd S (.t rfl) (wp_seq_k fun _ hK2 => wp_region_lit (run S (.yy (Yj (ps := []) (us := [_, _, _, _, _, _, _, _, _, _, _, _, _, _, _, _, _]) bld35 .nil rfl) rfl <| .z) fun a w S => Zi (Ya S sizeOf35 (.t rfl) (.t rfl) (k := 0) rfl rfl rfl (by simp [Value.oneCell']) fun a w S => run S (.ac rfl <| .z) fun a w S => Zb (Za (hK2 _ _ (wp_ret (Zh (Zk S (results2 S results6 (Rv.cell (k := 0) ⟨isAgg35, sizeOf35⟩ rfl rfl rfl) (Rv.tmp rfl)) ?_)))))))))))
   exact ⟨rfl, S.wd.below⟩
 | true =>
   have rw_1 := h1
   cases h2 : nodeB to with
   | false =>
     have rw_2 := h2
     refine enter4 func6 rfl ntmps6 rfl fun a S => wp_seq_k fun _ hK1 => wp_region_lit (Zi (Zt S zeroValue35 (cs := _) rfl rfl fun g1 a w S => run S (.ac rfl <| .z) fun a w S => Zb (Za (hK1 _ _ (wp_seq_k fun _ hK1 => wp_seq_k fun _ hK2 => wp_region_lit (run S (.mv rfl <| .xx (Zg call29 (.cons (.t rfl) .nil) (fun hp w W => c29 _ _)) rfl <| .z) fun a w S => ?_))))))
     rw [rw_1] at S
     refine run S (.nt rfl <| .mv rfl <| .gy rfl rfl (Ze (.t rfl)) <| .gx rfl rfl (Zg call29 (.cons (.t rfl) .nil) (fun hp w W => c29 _ _)) <| .z) fun a w S => ?_
     rw [rw_2] at S
     refine run S (.gy rfl rfl (Xb (.t rfl)) <| .yy (Zn (.t rfl) (.t rfl)) rfl <| .mv rfl <| .sk rfl rfl rfl <| .sk rfl rfl rfl <| .yy (Zr (.t rfl) Ev.c) rfl <| .mv rfl <| .sk rfl rfl rfl <| .sk rfl rfl rfl <| .yy (Zr (.t rfl) Ev.c) rfl <| .z) fun a w S => Zb (Za (hK2 _ _ (Zd S (.t rfl) (wp_seq_k fun _ hK2 => wp_region_lit (run S (.yy (Yj (ps := []) (us := [_, _, _, _, _, _, _, _, _, _, _, _, _, _, _, _, _]) bld35 .nil rfl) rfl <| .z) fun a w S => Zi (Ya S sizeOf35 (.t rfl) (.t rfl) (k := 0) rfl rfl rfl (by simp [Value.oneCell']) fun a w S => run S (.ac rfl <| .z) fun a w S => Zb (Za (hK2 _ _ (wp_ret (Zh (Zk S (results2 S results6 (Rv.cell (k := 0) ⟨isAgg35, sizeOf35⟩ rfl rfl rfl) (Rv.tmp rfl)) ?_)))))))))))
     exact ⟨rfl, S.wd.below⟩
   | true =>
     have rw_2 := h2
     by_cases h3 : part < 0
     · have rw_3 : decide (part < 0) = true := decide_eq_true h3
       refine enter4 func6 rfl ntmps6 rfl fun a S => wp_seq_k fun _ hK1 => wp_region_lit (Zi (Zt S zeroValue35 (cs := _) rfl rfl fun g1 a w S => run S (.ac rfl <| .z) fun a w S => Zb (Za (hK1 _ _ (wp_seq_k fun _ hK1 => wp_seq_k fun _ hK2 => wp_region_lit (run S (.mv rfl <| .xx (Zg call29 (.cons (.t rfl) .nil) (fun hp w W => c29 _ _)) rfl <| .z) fun a w S => ?_))))))
       rw [rw_1] at S
       refine run S (.nt rfl <| .mv rfl <| .gy rfl rfl (Ze (.t rfl)) <| .gx rfl rfl (Zg call29 (.cons (.t rfl) .nil) (fun hp w W => c29 _ _)) <| .z) fun a w S => ?_
       rw [rw_2] at S
       refine run S (.gy rfl rfl (Xb (.t rfl)) <| .yy (Zn (.t rfl) (.t rfl)) rfl <| .mv rfl <| .gy rfl rfl (Ze (.t rfl)) <| .gy rfl rfl (Yk (by omega) (Yh (.t rfl) Ev.c)) <| .yy (Zn (.t rfl) (.t rfl)) rfl <| .mv rfl <| .sk rfl rfl rfl <| .sk rfl rfl rfl <| .yy (Zr (.t rfl) Ev.c) rfl <| .z) fun a w S => Zb (Za (hK2 _ _ (Zd S (.t rfl) (wp_seq_k fun _ hK2 => wp_region_lit (run S (.yy (Yj (ps := []) (us := [_, _, _, _, _, _, _, _, _, _, _, _, _, _, _, _, _]) bld35 .nil rfl) rfl <| .z) fun a w S => Zi (Ya S sizeOf35 (.t rfl) (.t rfl) (k := 0) rfl rfl rfl (by simp [Value.oneCell']) fun a w S => run S (.ac rfl <| .z) fun a w S => Zb (Za (hK2 _ _ (wp_ret (Zh (Zk S (results2 S results6 (Rv.cell (k := 0) ⟨isAgg35, sizeOf35⟩ rfl rfl rfl) (Rv.tmp rfl)) ?_)))))))))))
       exact ⟨rfl, S.wd.below⟩
     · have rw_3 : decide (part < 0) = false := decide_eq_false h3
       have h4 : 64 ≤ part := by
         rcases begB_no hb with h | h | h | h
         · rw [h1] at h; cases h
         · rw [h2] at h; cases h
         · exact absurd h h3
         · exact h
       have rw_4 : decide (64 ≤ part) = true := decide_eq_true (by omega)
       refine enter4 func6 rfl ntmps6 rfl fun a S => wp_seq_k fun _ hK1 => wp_region_lit (Zi (Zt S zeroValue35 (cs := _) rfl rfl fun g1 a w S => run S (.ac rfl <| .z) fun a w S => Zb (Za (hK1 _ _ (wp_seq_k fun _ hK1 => wp_seq_k fun _ hK2 => wp_region_lit (run S (.mv rfl <| .xx (Zg call29 (.cons (.t rfl) .nil) (fun hp w W => c29 _ _)) rfl <| .z) fun a w S => ?_))))))
       rw [rw_1] at S
       refine run S (.nt rfl <| .mv rfl <| .gy rfl rfl (Ze (.t rfl)) <| .gx rfl rfl (Zg call29 (.cons (.t rfl) .nil) (fun hp w W => c29 _ _)) <| .z) fun a w S => ?_
       rw [rw_2] at S
       refine run S (.gy rfl rfl (Xb (.t rfl)) <| .yy (Zn (.t rfl) (.t rfl)) rfl <| .mv rfl <| .gy rfl rfl (Ze (.t rfl)) <| .gy rfl rfl (Yf (by omega) (Yh (.t rfl) Ev.c)) <| .yy (Zn (.t rfl) (.t rfl)) rfl <| .mv rfl <| .gy rfl rfl (Ze (.t rfl)) <| .gy rfl rfl (Yk (by omega) (Yp (.t rfl) Ev.c)) <| .yy (Zn (.t rfl) (.t rfl)) rfl <| .z) fun a w S => Zb (Za (hK2 _ _ (Zd S (.t rfl) (wp_seq_k fun _ hK2 => wp_region_lit (run S (.yy (Yj (ps := []) (us := [_, _, _, _, _, _, _, _, _, _, _, _, _, _, _, _, _]) bld35 .nil rfl) rfl <| .z) fun a w S => Zi (Ya S sizeOf35 (.t rfl) (.t rfl) (k := 0) rfl rfl rfl (by simp [Value.oneCell']) fun a w S => run S (.ac rfl <| .z) fun a w S => Zb (Za (hK2 _ _ (wp_ret (Zh (Zk S (results2 S results6 (Rv.cell (k := 0) ⟨isAgg35, sizeOf35⟩ rfl rfl rfl) (Rv.tmp rfl)) ?_)))))))))))
       exact ⟨rfl, S.wd.below⟩
theorem e6 (w0 : World) (self to part : Int) (hb : begB self to part = true) :
   Calls Tryz.prog 6 #[.int .i64 self, .int .i64 to, .int .i64 part, .pointer none] w0 fun e w' => e = .returned (.tuple #[.agg (MV.enc MV.zero).toArray, .int .i64 8]) ∧ Bel w0.heap.size w0 w' := by
 obtain ⟨b1, b2, b3, b4⟩ := begB_yes hb
 have rw_3 := b1
 have rw_4 := b2
 have rw_5 : decide (part < 0) = false := decide_eq_false (by omega)
 have rw_6 : decide (64 ≤ part) = false := decide_eq_false (by omega)
 refine enter4 func6 rfl ntmps6 rfl fun a S => wp_seq_k fun _ hK1 => wp_region_lit (Zi (Zt S zeroValue35 (cs := _) rfl rfl fun g1 a w S => run S (.ac rfl <| .z) fun a w S => Zb (Za (hK1 _ _ (wp_seq_k fun _ hK1 => wp_seq_k fun _ hK2 => wp_region_lit (run S (.mv rfl <| .xx (Zg call29 (.cons (.t rfl) .nil) (fun hp w W => c29 _ _)) rfl <| .z) fun a w S => ?_))))))
 rw [rw_3] at S
 refine run S (.nt rfl <| .mv rfl <| .gy rfl rfl (Ze (.t rfl)) <| .gx rfl rfl (Zg call29 (.cons (.t rfl) .nil) (fun hp w W => c29 _ _)) <| .z) fun a w S => ?_
 rw [rw_4] at S
 refine run S (.gy rfl rfl (Xb (.t rfl)) <| .yy (Zn (.t rfl) (.t rfl)) rfl <| .mv rfl <| .gy rfl rfl (Ze (.t rfl)) <| .gy rfl rfl (Yf (by omega) (Yh (.t rfl) Ev.c)) <| .yy (Zn (.t rfl) (.t rfl)) rfl <| .mv rfl <| .gy rfl rfl (Ze (.t rfl)) <| .gy rfl rfl (Yf (by omega) (Yp (.t rfl) Ev.c)) <| .yy (Zn (.t rfl) (.t rfl)) rfl <| .z) fun a w S => Zb (Za (hK2 _ _ (Zf S (.t rfl) (wp_skip (Za (hK1 _ _ (wp_seq_k fun _ hK1 => wp_region_lit (run S (.mv rfl <| .z) fun a w S => Zi (Zp S underlying82 inf3 rfl rfl rfl Ev.c rfl rfl rfl fun g2 a w S => run S (.xx (Zg call30 (.cons (.t rfl) (.cons Ev.c (.cons (.t rfl) .nil))) (fun hp w W => d30 _ _ _)) rfl <| .mv rfl <| .ex rfl rfl <| .ex rfl rfl <| .as rfl <| .as rfl <| .z) fun a w S => Zb (Za (hK1 _ _ (wp_seq_k fun _ hK1 => sg S (.mv rfl <| .yy (Yk (by omega) (Zu (.t rfl) Ev.c)) rfl <| .z) fun a w S => Zd S (.t rfl) (wp_seq_k fun _ hK2 => wp_region_lit (run S (.yy (Yj (ps := []) (us := [_, _, _, _, _, _, _, _, _, _, _, _, _, _, _, _, _]) bld35 .nil rfl) rfl <| .z) fun a w S => Zi (Ya S sizeOf35 (.t rfl) (.t rfl) (k := 1) rfl rfl rfl (by simp [Value.oneCell']) fun a w S => run S (.ac rfl <| .z) fun a w S => Zb (Za (hK2 _ _ (wp_ret (Zh ?_)))))))))))))))))))
 refine Zk S (results2 S results6 (Rv.cell (k := 1) ⟨isAgg35, sizeOf35⟩ rfl rfl rfl) (Rv.tmp rfl)) ?_
 exact ⟨rfl, S.wd.below⟩
theorem d7 (w0 : World) (self to part : Int) (v : Value) (hb : begB self to part = false) :
   Calls Tryz.prog 7 #[.int .i64 self, .int .i64 to, .int .i64 part, v] w0 fun e w' => e = .returned (.tuple #[.agg (MV.enc MV.zero).toArray, .int .i64 1]) ∧ Bel w0.heap.size w0 w' := by
 cases h1 : nodeB self with
 | false =>
   have rw_1 := h1
   refine enter4 func7 rfl ntmps7 rfl fun a S => wp_seq_k fun _ hK1 => wp_region_lit (Zi (Zt S zeroValue35 (cs := _) rfl rfl fun g1 a w S => run S (.ac rfl <| .z) fun a w S => Zb (Za (hK1 _ _ (wp_seq_k fun _ hK1 => wp_seq_k fun _ hK2 => wp_region_lit (run S (.mv rfl <| .xx (Zg call31 (.cons (.t rfl) .nil) (fun hp w W => c31 _ _)) rfl <| .z) fun a w S => ?_))))))
   rw [rw_1] at S
   refine run S (.nt rfl <| .mv rfl <| .sk rfl rfl rfl <| .sk rfl rfl rfl <| .sk rfl rfl rfl <| .yy (Zr (.t rfl) Ev.c) rfl <| .mv rfl <| .sk rfl rfl rfl <| .sk rfl rfl rfl <| .yy (Zr (.t rfl) Ev.c) rfl <| .mv rfl <| .sk rfl rfl rfl <| .sk rfl rfl rfl <| .yy (Zr (.t rfl) Ev.c) rfl <| .z) fun a w S => Zb (Za (hK2 _ _ (Zd S (.t rfl) (wp_seq_k fun _ hK2 => wp_region_lit (run S (.yy (Yj (ps := []) (us := [_, _, _, _, _, _, _, _, _, _, _, _, _, _, _, _, _]) bld35 .nil rfl) rfl <| .z) fun a w S => Zi (Ya S sizeOf35 (.t rfl) (.t rfl) (k := 0) rfl rfl rfl (by simp [Value.oneCell']) fun a w S => run S (.ac rfl <| .z) fun a w S => Zb (Za (hK2 _ _ (wp_ret (Zh (Zk S (results2 S results7 (Rv.cell (k := 0) ⟨isAgg35, sizeOf35⟩ rfl rfl rfl) (Rv.tmp rfl)) ?_)))))))))))
   exact ⟨rfl, S.wd.below⟩
 | true =>
   have rw_1 := h1
   cases h2 : nodeB to with
   | false =>
     have rw_2 := h2
     refine enter4 func7 rfl ntmps7 rfl fun a S => wp_seq_k fun _ hK1 => wp_region_lit (Zi (Zt S zeroValue35 (cs := _) rfl rfl fun g1 a w S => run S (.ac rfl <| .z) fun a w S => Zb (Za (hK1 _ _ (wp_seq_k fun _ hK1 => wp_seq_k fun _ hK2 => wp_region_lit (run S (.mv rfl <| .xx (Zg call31 (.cons (.t rfl) .nil) (fun hp w W => c31 _ _)) rfl <| .z) fun a w S => ?_))))))
     rw [rw_1] at S
     refine run S (.nt rfl <| .mv rfl <| .gy rfl rfl (Ze (.t rfl)) <| .gx rfl rfl (Zg call31 (.cons (.t rfl) .nil) (fun hp w W => c31 _ _)) <| .z) fun a w S => ?_
     rw [rw_2] at S
     refine run S (.gy rfl rfl (Xb (.t rfl)) <| .yy (Zn (.t rfl) (.t rfl)) rfl <| .mv rfl <| .sk rfl rfl rfl <| .sk rfl rfl rfl <| .yy (Zr (.t rfl) Ev.c) rfl <| .mv rfl <| .sk rfl rfl rfl <| .sk rfl rfl rfl <| .yy (Zr (.t rfl) Ev.c) rfl <| .z) fun a w S => Zb (Za (hK2 _ _ (Zd S (.t rfl) (wp_seq_k fun _ hK2 => wp_region_lit (run S (.yy (Yj (ps := []) (us := [_, _, _, _, _, _, _, _, _, _, _, _, _, _, _, _, _]) bld35 .nil rfl) rfl <| .z) fun a w S => Zi (Ya S sizeOf35 (.t rfl) (.t rfl) (k := 0) rfl rfl rfl (by simp [Value.oneCell']) fun a w S => run S (.ac rfl <| .z) fun a w S => Zb (Za (hK2 _ _ (wp_ret (Zh (Zk S (results2 S results7 (Rv.cell (k := 0) ⟨isAgg35, sizeOf35⟩ rfl rfl rfl) (Rv.tmp rfl)) ?_)))))))))))
     exact ⟨rfl, S.wd.below⟩
   | true =>
     have rw_2 := h2
     by_cases h3 : part < 0
     · have rw_3 : decide (part < 0) = true := decide_eq_true h3
       refine enter4 func7 rfl ntmps7 rfl fun a S => wp_seq_k fun _ hK1 => wp_region_lit (Zi (Zt S zeroValue35 (cs := _) rfl rfl fun g1 a w S => run S (.ac rfl <| .z) fun a w S => Zb (Za (hK1 _ _ (wp_seq_k fun _ hK1 => wp_seq_k fun _ hK2 => wp_region_lit (run S (.mv rfl <| .xx (Zg call31 (.cons (.t rfl) .nil) (fun hp w W => c31 _ _)) rfl <| .z) fun a w S => ?_))))))
       rw [rw_1] at S
       refine run S (.nt rfl <| .mv rfl <| .gy rfl rfl (Ze (.t rfl)) <| .gx rfl rfl (Zg call31 (.cons (.t rfl) .nil) (fun hp w W => c31 _ _)) <| .z) fun a w S => ?_
       rw [rw_2] at S
       refine run S (.gy rfl rfl (Xb (.t rfl)) <| .yy (Zn (.t rfl) (.t rfl)) rfl <| .mv rfl <| .gy rfl rfl (Ze (.t rfl)) <| .gy rfl rfl (Yk (by omega) (Yh (.t rfl) Ev.c)) <| .yy (Zn (.t rfl) (.t rfl)) rfl <| .mv rfl <| .sk rfl rfl rfl <| .sk rfl rfl rfl <| .yy (Zr (.t rfl) Ev.c) rfl <| .z) fun a w S => Zb (Za (hK2 _ _ (Zd S (.t rfl) (wp_seq_k fun _ hK2 => wp_region_lit (run S (.yy (Yj (ps := []) (us := [_, _, _, _, _, _, _, _, _, _, _, _, _, _, _, _, _]) bld35 .nil rfl) rfl <| .z) fun a w S => Zi (Ya S sizeOf35 (.t rfl) (.t rfl) (k := 0) rfl rfl rfl (by simp [Value.oneCell']) fun a w S => run S (.ac rfl <| .z) fun a w S => Zb (Za (hK2 _ _ (wp_ret (Zh (Zk S (results2 S results7 (Rv.cell (k := 0) ⟨isAgg35, sizeOf35⟩ rfl rfl rfl) (Rv.tmp rfl)) ?_)))))))))))
       exact ⟨rfl, S.wd.below⟩
     · have rw_3 : decide (part < 0) = false := decide_eq_false h3
       have h4 : 64 ≤ part := by
         rcases begB_no hb with h | h | h | h
         · rw [h1] at h; cases h
         · rw [h2] at h; cases h
         · exact absurd h h3
         · exact h
       have rw_4 : decide (63 < part) = true := decide_eq_true (by omega)
       refine enter4 func7 rfl ntmps7 rfl fun a S => wp_seq_k fun _ hK1 => wp_region_lit (Zi (Zt S zeroValue35 (cs := _) rfl rfl fun g1 a w S => run S (.ac rfl <| .z) fun a w S => Zb (Za (hK1 _ _ (wp_seq_k fun _ hK1 => wp_seq_k fun _ hK2 => wp_region_lit (run S (.mv rfl <| .xx (Zg call31 (.cons (.t rfl) .nil) (fun hp w W => c31 _ _)) rfl <| .z) fun a w S => ?_))))))
       rw [rw_1] at S
       refine run S (.nt rfl <| .mv rfl <| .gy rfl rfl (Ze (.t rfl)) <| .gx rfl rfl (Zg call31 (.cons (.t rfl) .nil) (fun hp w W => c31 _ _)) <| .z) fun a w S => ?_
       rw [rw_2] at S
       refine run S (.gy rfl rfl (Xb (.t rfl)) <| .yy (Zn (.t rfl) (.t rfl)) rfl <| .mv rfl <| .gy rfl rfl (Ze (.t rfl)) <| .gy rfl rfl (Yf (by omega) (Yh (.t rfl) Ev.c)) <| .yy (Zn (.t rfl) (.t rfl)) rfl <| .mv rfl <| .gy rfl rfl (Ze (.t rfl)) <| .gy rfl rfl (Yk (by omega) (Xt (.t rfl) Ev.c)) <| .yy (Zn (.t rfl) (.t rfl)) rfl <| .z) fun a w S => Zb (Za (hK2 _ _ (Zd S (.t rfl) (wp_seq_k fun _ hK2 => wp_region_lit (run S (.yy (Yj (ps := []) (us := [_, _, _, _, _, _, _, _, _, _, _, _, _, _, _, _, _]) bld35 .nil rfl) rfl <| .z) fun a w S => Zi (Ya S sizeOf35 (.t rfl) (.t rfl) (k := 0) rfl rfl rfl (by simp [Value.oneCell']) fun a w S => run S (.ac rfl <| .z) fun a w S => Zb (Za (hK2 _ _ (wp_ret (Zh (Zk S (results2 S results7 (Rv.cell (k := 0) ⟨isAgg35, sizeOf35⟩ rfl rfl rfl) (Rv.tmp rfl)) ?_)))))))))))
       exact ⟨rfl, S.wd.below⟩
theorem c7 (w0 : World) (self to part : Int) (g cap : Nat) (A : Option Addr) (T : List KH) (h : DocAt w0 g A cap T) (hT : KhOk T) (hl : T.length ≤ 1048576) (hb : begB self to part = true) :
   Rets Tryz.prog 7 #[.int .i64 self, .int .i64 to, .int .i64 part, .pointer (some ⟨g, 0, none⟩)] w0 fun u L => ∃ B c, u = .tuple #[.agg (MV.enc (beginV self to part ⟨B, (sumsT T 0 [0]).length, c⟩)).toArray, .int .i64 0] ∧ L = [rowOf 77 3 Sm.enc B c (sumsT T 0 [0])] := by
 obtain ⟨b1, b2, b3, b4⟩ := begB_yes hb
 have hl4 : T.length ≤ 4194304 := by omega
 have hok : okP 0 4 [0] = true := by decide
 have rw_1 : (sumsA T 0 [0]).2 = 0 := by unfold sumsA; rw [if_pos hok]
 have rw_2 : (sumsA T 0 [0]).1 = sumsT T 0 [0] := by unfold sumsA; rw [if_pos hok]
 have h00 : ([0] : List Int).length ≤ 4194304 := by decide
 have rw_3 := b1
 have rw_4 := b2
 have rw_5 : decide (part < 0) = false := decide_eq_false (by omega)
 have rw_6 : decide (63 < part) = false := decide_eq_false (by omega)
 generalize sumsT T 0 [0] = st at *
 unfold Go.Fw.Rets
 refine enter4 func7 rfl ntmps7 rfl fun a S => wp_seq_k fun _ hK1 => wp_region_lit (Zi (Zt S zeroValue35 (cs := _) rfl rfl fun g1 a w S => run S (.ac rfl <| .z) fun a w S => Zb (Za (hK1 _ _ (wp_seq_k fun _ hK1 => wp_seq_k fun _ hK2 => wp_region_lit (run S (.mv rfl <| .xx (Zg call31 (.cons (.t rfl) .nil) (fun hp w W => c31 _ _)) rfl <| .z) fun a w S => ?_))))))
 rw [rw_3] at S
 refine run S (.nt rfl <| .mv rfl <| .gy rfl rfl (Ze (.t rfl)) <| .gx rfl rfl (Zg call31 (.cons (.t rfl) .nil) (fun hp w W => c31 _ _)) <| .z) fun a w S => ?_
 rw [rw_4] at S
 refine run S (.gy rfl rfl (Xb (.t rfl)) <| .yy (Zn (.t rfl) (.t rfl)) rfl <| .mv rfl <| .gy rfl rfl (Ze (.t rfl)) <| .gy rfl rfl (Yf (by omega) (Yh (.t rfl) Ev.c)) <| .yy (Zn (.t rfl) (.t rfl)) rfl <| .mv rfl <| .gy rfl rfl (Ze (.t rfl)) <| .gy rfl rfl (Yf (by omega) (Xt (.t rfl) Ev.c)) <| .yy (Zn (.t rfl) (.t rfl)) rfl <| .z) fun a w S => Zb (Za (hK2 _ _ (Zf S (.t rfl) (wp_skip (Za (hK1 _ _ (wp_seq_k fun _ hK1 => sg S (.mv rfl <| .yy (Wc underlying37 (.t rfl) Ev.c) rfl <| .z) fun a w S => Zf S (.t rfl) (wp_skip (Za (hK1 _ _ (wp_seq_k fun _ hK1 => wp_region_lit (run S (.mv rfl <| .z) fun a w S => Zi (Zp S underlying82 inf3 rfl rfl rfl Ev.c rfl rfl rfl fun g2 a w S => ?_)))))))))))))
 (refine Zi (Zq S call32 (.cons (.t rfl) (.cons Ev.c (.cons (.t rfl) .nil))) (c32 _ _ _ _ _ _ _ _ (by exact .old S.wd (by assumption)) (by assumption) (by assumption) (by exact sl_i1 S.wd (k := 0) rfl) (by assumption)) rfl ?_); clear S a w; rintro _ _ ⟨B1, c1, rfl, rfl⟩ a w S)
 rw [rw_1] at S
 rw [rw_2] at S
 refine run S (.mv rfl <| .ex rfl rfl <| .ex rfl rfl <| .as rfl <| .as rfl <| .z) fun a w S => Zb (Za (hK1 _ _ (wp_seq_k fun _ hK1 => wp_region_lit (run S (.mv rfl <| .mv rfl <| .mv rfl <| .mv rfl <| .yy (Yj (ps := [(0, _), (1, Go.Operand.tmp 38), (2, Go.Operand.tmp 39), (6, _), (7, Go.Operand.tmp 40), (11, Go.Operand.tmp 41)]) (us := [_, _, _, _, _, _, _, _, _, _, _, _, _, _, _, _, _]) bld35 (.cons Ev.c (.cons (.t rfl) (.cons (.t rfl) (.cons Ev.c (.cons (.t rfl) (.cons (.t rfl) .nil)))))) rfl) rfl <| .z) fun a w S => Zi (Ya S sizeOf35 (.t rfl) (.t rfl) (k := 2) rfl rfl rfl (by simp [Value.oneCell']) fun a w S => run S (.ac rfl <| .z) fun a w S => Zb (Za (hK1 _ _ (wp_ret (Zk S (results2 S results7 (Rv.cell (k := 2) ⟨isAgg35, sizeOf35⟩ rfl rfl rfl) (Rv.tmp rfl)) ?_)))))))))
 exact ⟨_, _, rfl, S.wd.picks (L' := [rowOf 77 3 Sm.enc B1 c1 st]) (by repeat (first | exact Picks.nil | (refine Picks.rest ?_; (repeat (first | exact List.Sublist.refl _ | refine List.Sublist.cons_cons _ ?_ | refine List.Sublist.cons _ ?_)); done) | refine Picks.take 0 rfl ?_ | refine Picks.take 1 rfl ?_ | refine Picks.take 2 rfl ?_ | refine Picks.take 3 rfl ?_ | refine Picks.take 4 rfl ?_ | refine Picks.take 5 rfl ?_ | refine Picks.take 6 rfl ?_ | refine Picks.take 7 rfl ?_ | refine Picks.take 8 rfl ?_ | refine Picks.take 9 rfl ?_ | refine Picks.take 10 rfl ?_ | refine Picks.take 11 rfl ?_)), B1, c1, rfl, rfl⟩
end Go.Proofs.YtbijdmfilmecbaaGreat
namespace Go.Fw
open Go.RowKit
theorem getT_cons (x : KH) (r : List KH) (k : List UInt8) : getT (x :: r) k = if x.1 = k then some x.2 else getT r k := by
 unfold getT
 rw [List.find?_cons]
 by_cases h : x.1 = k
 · rw [if_pos h]; simp [h]
 · rw [if_neg h]; simp [h]
theorem kh_sm {w : World} {B : Nat} {A : Option Addr} {cap : Nat} {T : List KH} (h : Sl Kh.enc 3 w B (.slice A T.length cap) T) : Sl Sm.enc 3 w B (.slice A (T.map (smP 0)).length cap) (T.map (smP 0)) := by
 obtain ⟨A', cap', e, h1, h2, h3⟩ := h
 cases e
 refine ⟨A, cap, rfl, by rw [List.length_map]; exact h1, h2, fun hp => ?_⟩
 rw [List.length_map] at hp
 obtain ⟨g, o, rfl, hg, hc⟩ := h3 hp
 refine ⟨g, o, rfl, hg, fun k x hx j u hu => ?_⟩
 rw [List.getElem?_map] at hx
 obtain ⟨y, hy, rfl⟩ := Option.map_eq_some_iff.1 hx
 exact hc k y hy j u hu
theorem names_step {l : List Sm} {q : Nat} {x : Sm} (h : l[q]? = some x) : namesOk (l.take (q + 1)) = (namesOk (l.take q) && nameB x.key) := by
 unfold namesOk
 rw [List.take_add_one, h, Option.toList_some, List.all_append]
 simp
theorem names_no {l : List Sm} {x : Sm} (hx : x ∈ l) (h : nameB x.key = false) : namesOk l = false := by
 unfold namesOk
 rw [List.all_eq_false]
 exact ⟨x, hx, by rw [h]; simp⟩
theorem any_step {l : List Int} {q : Nat} {x : Int} (f : Int → Bool) (h : l[q]? = some x) : (l.take (q + 1)).any f = ((l.take q).any f || f x) := by
 rw [List.take_add_one, h, Option.toList_some, List.any_append]
 simp
theorem missF_step {T U l : List KH} {places : List Int} {q : Nat} {x : KH} (h : l[q]? = some x) : ((l.take (q + 1)).filter fun x => missP T U places x.1).map (·.1) = ((l.take q).filter fun x => missP T U places x.1).map (·.1) ++ (if missP T U places x.1 = true then [x.1] else []) := by
 rw [List.take_add_one, h, Option.toList_some, List.filter_append, List.map_append]
 congr 1
 by_cases hm : missP T U places x.1 = true <;> simp [hm]
end Go.Fw
namespace Go.Proofs.YtbijdmfilmecbaaGreat
open Go.Fw Go.Proofs Go.RowKit Go.Proofs.Tryz
theorem c76 (w0 : World) (v1 : Value) (T : List KH) (k : List UInt8) (h : Sl Kh.enc 3 w0 w0.heap.size v1 T) :
   Calls Tryz.prog 76 #[v1, .string (bs k)] w0 fun e w' => e = .returned (.tuple #[.int .u64 ((getT T k).getD 0), .bool (getT T k).isSome]) ∧ Bel w0.heap.size w0 w' := by
 obtain ⟨A, cap, rfl, hl, hcap, hA⟩ := h
 refine enter2 func76 rfl ntmps76 rfl fun a S => sg S (.ac rfl <| .ac rfl <| .z) fun a w S => wp_seq_k fun _ hK1 => sg S (.ac rfl <| .z) fun a w S => wp_block ?_
 refine Yg S [4, 5, 6] (X := Nat) (fun q => [(4, true, .int .u64 0), (5, true, .bool false), (6, true, .int .i64 (q : Int))]) (fun _ => []) (fun q => q ≤ T.length ∧ getT (T.drop q) k = getT T k) (fun q => T.length - q) 0 ⟨Nat.zero_le _, rfl⟩ ?_
 clear S
 rintro q a w ⟨hq, hg⟩ S
 by_cases hlt : q < T.length
 · obtain ⟨g, o, x, rfl, hx, hd, hc⟩ := Zv hA hlt
   rw [hd, getT_cons] at hg
   by_cases hk : x.1 = k
   · have rw_k := decide_eq_true hk
     rw [if_pos hk] at hg
     refine wp_seq_k fun _ hK2 => sg S (.mv rfl <| .mv rfl <| .ln underlying22 rfl <| .lt (by omega) rfl rfl <| .z) fun a w S => Zd S (.t rfl) (wp_skip (Za (hK2 _ _ (wp_seq_k fun _ hK2 => wp_block (wp_seq_k fun _ hK3 => wp_region_lit (run S (.mv rfl <| .mv rfl <| .ix underlying22 sizeOf77 (by omega) rfl rfl <| .yy (Zz (FieldT.mk underlying77 rfl sizeOf9 rfl) (.t rfl)) rfl <| .yy (Zw ⟨isAgg9, sizeOf9⟩ (.t rfl) (fun _ => hc _ _ rfl)) rfl <| .mv rfl <| .yy (Xq (.t rfl) (.t rfl)) rfl <| .z) fun a w S => ?_))))))
     rw [rw_k] at S
     refine Zb (Za (hK3 _ _ (Zd S (.t rfl) (sg S (.mv rfl <| .mv rfl <| .ix underlying22 sizeOf77 (by omega) rfl rfl <| .yy (Zz (FieldT.mk underlying77 rfl sizeOf60 rfl) (.t rfl)) rfl <| .yy (Zw ⟨isAgg60, sizeOf60⟩ (.t rfl) (fun _ => hc _ _ rfl)) rfl <| .as rfl <| .ac rfl <| .z) fun a w S => wp_ret (Yq (Zh (Zh (Yq (Zh (Zk S (results2 S results76 (Rv.tmp rfl) (Rv.tmp rfl)) ?_))))))))))
     rw [← hg]
     exact ⟨rfl, S.wd.below⟩
   · have rw_k := decide_eq_false hk
     rw [if_neg hk] at hg
     refine wp_seq_k fun _ hK2 => sg S (.mv rfl <| .mv rfl <| .ln underlying22 rfl <| .lt (by omega) rfl rfl <| .z) fun a w S => Zd S (.t rfl) (wp_skip (Za (hK2 _ _ (wp_seq_k fun _ hK2 => wp_block (wp_seq_k fun _ hK3 => wp_region_lit (run S (.mv rfl <| .mv rfl <| .ix underlying22 sizeOf77 (by omega) rfl rfl <| .yy (Zz (FieldT.mk underlying77 rfl sizeOf9 rfl) (.t rfl)) rfl <| .yy (Zw ⟨isAgg9, sizeOf9⟩ (.t rfl) (fun _ => hc _ _ rfl)) rfl <| .mv rfl <| .yy (Xq (.t rfl) (.t rfl)) rfl <| .z) fun a w S => ?_))))))
     rw [rw_k] at S
     refine Zb (Za (hK3 _ _ (Zf S (.t rfl) (wp_skip (Zj (Za (hK2 _ _ (wp_region_lit (run S (.mv rfl <| .ad (by unfold I64; omega) rfl <| .as rfl <| .z) fun a w S => Zb (Za ?_))))))))))
     exact ⟨q + 1, ⟨by omega, hg⟩, by omega, S.pk⟩
 · obtain rfl : q = T.length := by omega
   rw [List.drop_length] at hg
   refine wp_seq_k fun _ hK2 => sg S (.mv rfl <| .mv rfl <| .ln underlying22 rfl <| .ge (by omega) rfl rfl <| .z) fun a w S => Zf S (.t rfl) (wp_exit (Zc (Zc (Zs (Za (hK1 _ _ (sg S (.ac rfl <| .ac rfl <| .z) fun a w S => wp_ret (Zk S (results2 S results76 (Rv.tmp rfl) (Rv.tmp rfl)) ?_))))))))
   rw [← hg]
   exact ⟨rfl, S.wd.below⟩
theorem c46 (w0 : World) (g cap : Nat) (A : Option Addr) (T : List KH) (v1 v2 : Value) (places : List Int) (sums : List Sm) (h : DocAt w0 g A cap T) (hT : KhOk T) (h1 : Sl encI 1 w0 w0.heap.size v1 places) (hn : places.length ≤ 1048576) (h2 : Sl Sm.enc 3 w0 w0.heap.size v2 sums) (hs : Sums sums) (hTs : T.length + sums.length ≤ 1048576) :
   Rets Tryz.prog 46 #[.pointer (some ⟨g, 0, none⟩), v1, v2] w0 fun u L => ∃ B c, u = .tuple #[.slice B (missA T sums places).1.length c, .int .i64 (missA T sums places).2] ∧ L = [rowOf 9 1 encS' B c (missA T sums places).1] := by
 have h44 : (4 : Int) ≤ 4 := by omega
 cases hok : okP 4 4 places with
 | false =>
   have rw_4 := hok
   have e : missA T sums places = ([], 80) := by unfold missA; rw [hok]; rfl
   rw [e]
   unfold Go.Fw.Rets
   refine enter3 func46 rfl ntmps46 rfl fun a S => sg S (.ac rfl <| .ac rfl <| .z) fun a w S => wp_seq_k fun _ hK1 => wp_seq_k fun _ hK2 => wp_region_lit (run S (.mv rfl <| .xx (Zg call64 (.cons Ev.c (.cons Ev.c (.cons (.t rfl) .nil))) (fun hp w W => c64 _ _ _ _ _ (by exact .old W (by assumption)) (by assumption))) rfl <| .z) fun a w S => ?_)
   rw [rw_4] at S
   refine run S (.nt rfl <| .z) fun a w S => Zb (Za (hK2 _ _ (Zd S (.t rfl) (sg S (.ac rfl <| .ac rfl <| .z) fun a w S => wp_ret (Zh (Zk S (results2 S results46 (Rv.tmp rfl) (Rv.tmp rfl)) ?_))))))
   exact ⟨_, _, rfl, (S.nil_ 9 1 encS' none).wd.pk, none, 0, rfl, rfl⟩
 | true =>
   have rw_4 := hok
   have h20 := h2
   have h10 := h1
   obtain ⟨A2, cap2, rfl, hl2, hcap2, hA2⟩ := h2
   obtain ⟨A1, cap1, rfl, hl1, hcap1, hA1⟩ := h1
   unfold Go.Fw.Rets
   refine enter3 func46 rfl ntmps46 rfl fun a S => sg S (.ac rfl <| .ac rfl <| .z) fun a w S => wp_seq_k fun _ hK1 => wp_seq_k fun _ hK2 => wp_region_lit (run S (.mv rfl <| .xx (Zg call64 (.cons Ev.c (.cons Ev.c (.cons (.t rfl) .nil))) (fun hp w W => c64 _ _ _ _ _ (by exact .old W (by assumption)) (by assumption))) rfl <| .z) fun a w S => ?_)
   rw [rw_4] at S
   refine run S (.nt rfl <| .z) fun a w S => Zb (Za (hK2 _ _ (Zf S (.t rfl) (wp_skip (Za (hK1 _ _ (wp_seq_k fun _ hK1 => sg S (.ac rfl <| .z) fun a w S => wp_block ?_)))))))
   refine Yg S [8] (X := Nat) (fun q => [(8, true, .int .i64 (q : Int))]) (fun _ => []) (fun q => q ≤ sums.length ∧ namesOk (sums.take q) = true) (fun q => sums.length - q) 0 ⟨Nat.zero_le _, rfl⟩ ?_
   clear S
   rintro q a w ⟨hq, hno⟩ S
   by_cases hlt : q < sums.length
   · obtain ⟨g2, o2, x, rfl, hx, hd, hc⟩ := Zv hA2 hlt
     have hkl := hs.key x (List.mem_of_getElem? hx)
     cases hnx : nameB x.key with
     | false =>
       have rw_n := hnx
       have e : missA T sums places = ([], 6) := by unfold missA; rw [if_pos hok, names_no (List.mem_of_getElem? hx) hnx]; rfl
       rw [e] at *
       refine wp_seq_k fun _ hK2 => sg S (.mv rfl <| .mv rfl <| .ln underlying22 rfl <| .lt (by omega) rfl rfl <| .z) fun a w S => Zd S (.t rfl) (wp_skip (Za (hK2 _ _ (wp_seq_k fun _ hK2 => wp_block (wp_seq_k fun _ hK3 => wp_region_lit (run S (.mv rfl <| .mv rfl <| .ix underlying22 sizeOf77 (by omega) rfl rfl <| .yy (Zz (FieldT.mk underlying77 rfl sizeOf9 rfl) (.t rfl)) rfl <| .yy (Zw ⟨isAgg9, sizeOf9⟩ (.t rfl) (fun _ => hc _ _ rfl)) rfl <| .xx (Zg call74 (.cons (.t rfl) .nil) (fun hp w W => c74 _ _ (by assumption))) rfl <| .z) fun a w S => ?_))))))
       rw [rw_n] at S
       refine run S (.nt rfl <| .z) fun a w S => Zb (Za (hK3 _ _ (Zd S (.t rfl) (sg S (.ac rfl <| .ac rfl <| .z) fun a w S => wp_ret (Yq (Zh (Zh (Yq (Zh (Zk S (results2 S results46 (Rv.tmp rfl) (Rv.tmp rfl)) ?_))))))))))
       exact ⟨_, _, rfl, (S.nil_ 9 1 encS' none).wd.pk, none, 0, rfl, rfl⟩
     | true =>
       have rw_n := hnx
       have hst := names_step hx
       rw [hno, hnx] at hst
       refine wp_seq_k fun _ hK2 => sg S (.mv rfl <| .mv rfl <| .ln underlying22 rfl <| .lt (by omega) rfl rfl <| .z) fun a w S => Zd S (.t rfl) (wp_skip (Za (hK2 _ _ (wp_seq_k fun _ hK2 => wp_block (wp_seq_k fun _ hK3 => wp_region_lit (run S (.mv rfl <| .mv rfl <| .ix underlying22 sizeOf77 (by omega) rfl rfl <| .yy (Zz (FieldT.mk underlying77 rfl sizeOf9 rfl) (.t rfl)) rfl <| .yy (Zw ⟨isAgg9, sizeOf9⟩ (.t rfl) (fun _ => hc _ _ rfl)) rfl <| .xx (Zg call74 (.cons (.t rfl) .nil) (fun hp w W => c74 _ _ (by assumption))) rfl <| .z) fun a w S => ?_))))))
       rw [rw_n] at S
       refine run S (.nt rfl <| .z) fun a w S => Zb (Za (hK3 _ _ (Zf S (.t rfl) (wp_skip (Zj (Za (hK2 _ _ (wp_region_lit (run S (.mv rfl <| .ad (by unfold I64; omega) rfl <| .as rfl <| .z) fun a w S => Zb (Za ?_))))))))))
       exact ⟨q + 1, ⟨by omega, hst⟩, by omega, S.pk⟩
   obtain rfl : q = sums.length := by omega
   rw [List.take_length] at hno
   have hkeys := h.keys
   have hrow := h.row
   have hrow1 := kh_sm hrow
   have hml : (T.map (smP 0)).length = T.length := List.length_map ..
   rw [← hml] at hkeys
   have hrow2 : Sl Kh.enc 3 w0 w0.heap.size (.slice A (T.map (smP 0)).length cap) T := by rw [hml]; exact hrow
   clear hrow
   have hsB : Sums (T.map (smP 0) ++ sums) := by
     refine ⟨fun x hx => ?_, fun x hx => ?_, by rw [List.length_append, hml]; exact hTs⟩
     · rcases List.mem_append.1 hx with hx | hx
       · exact smp_ok hT x hx
       · exact hs.hash x hx
     · rcases List.mem_append.1 hx with hx | hx
       · obtain ⟨y, hy, rfl⟩ := List.mem_map.1 hx
         exact Nat.le_trans (name_len (hT.name y hy)) (by omega)
       · exact hs.key x hx
   have e : missA T sums places = (missT T sums places, 0) := by unfold missA; rw [if_pos hok, if_pos hno]
   have hmt := miss_len T sums places
   have hBl := hsB.room
   have hBk := hsB.ok
   refine wp_seq_k fun _ hK2 => sg S (.mv rfl <| .mv rfl <| .ln underlying22 rfl <| .ge (by omega) rfl rfl <| .z) fun a w S => Zf S (.t rfl) (wp_exit (Zc (Zc (Zs (Za (hK1 _ _ (wp_seq_k fun _ hK1 => wp_region_lit (run S (.mv rfl <| .z) fun a w S => ?_))))))))
   (refine Zi (Zq S call28 (.cons (.t rfl) .nil) (c28 _ _ _ (by exact .old S.wd (by assumption)) (by assumption)) rfl ?_); clear S a w; rintro _ _ ⟨g1, A3, cap3, rfl, rfl⟩ a w S)
   refine run S (.as rfl <| .z) fun a w S => Zb (Za (hK1 _ _ (wp_seq_k fun _ hK1 => wp_region_lit (run S (.mv rfl <| .yy (Zy (.t rfl)) rfl <| .fa underlying124 sizeOf22 0 rfl rfl rfl <| .yy (Zw ⟨isAgg22, sizeOf22⟩ (.t rfl) (fun _ => hkeys)) rfl <| .z) fun a w S => Zi (Xi _ (S.nil_ 77 _ Go.Fw.Sm.enc _) underlying22 underlying22 (.inr ⟨_, rfl⟩) inf77 rfl (k := 0) rfl Ev.c (.t rfl) (Src.sl (Sl.old S.wd hrow1) (by decide) Go.Fw.Sm.enc_len Go.Fw.Sm.enc_one) (by first | omega | (simp only [List.length_append, List.length_cons, List.length_nil]; omega) | (simp; omega)) rfl rfl rfl fun A4 cap4 a w S => ?_)))))
   simp only [List.nil_append] at S
   refine run S (.mv rfl <| .z) fun a w S => Zi (Xi _ S underlying22 underlying22 (.inr ⟨_, rfl⟩) inf77 rfl (k := 0) rfl (.t rfl) (.t rfl) (Src.sl (Sl.old S.wd h20) (by decide) Go.Fw.Sm.enc_len Go.Fw.Sm.enc_one) (by first | omega | (simp only [List.length_append, List.length_cons, List.length_nil]; omega) | (simp; omega)) rfl rfl rfl fun A5 cap5 a w S => ?_)
   (refine Zi (Zq S call28 (.cons (.t rfl) .nil) (c28 _ _ _ (by exact Sl.of_own S.wd (k := 0) rfl (fun _ => rfl)) (by assumption)) rfl ?_); clear S a w; rintro _ _ ⟨g2, A6, cap6, rfl, rfl⟩ a w S)
   refine run S (.as rfl <| .z) fun a w S => Zb (Za (hK1 _ _ (sg S (.ac rfl <| .z) fun a w S => wp_seq_k fun _ hK1 => sg S (.ac rfl <| .z) fun a w S => wp_block ?_)))
   have eU : missT T sums places = (((setsT [] (T.map (smP 0) ++ sums)).filter fun x => missP T (setsT [] sums) places x.1).map (·.1)) := rfl
   generalize setsT [] (T.map (smP 0) ++ sums) = Bo at *
   generalize setsT [] sums = U at *
   have hfl : ∀ q, (((Bo.take q).filter fun x => missP T U places x.1).map (·.1)).length ≤ Bo.length := fun q => by
     rw [List.length_map]
     exact Nat.le_trans (List.length_filter_le _ _) (by rw [List.length_take]; omega)
   refine Yg (S.nil_ 9 1 encS' none) [11, 12] (X := Nat × Option Addr × Nat) (fun q => [(11, true, .slice q.2.1 (((Bo.take q.1).filter fun x => missP T U places x.1).map (·.1)).length q.2.2), (12, true, .int .i64 (q.1 : Int))])
     (fun q => rowOf 9 1 encS' q.2.1 q.2.2 (((Bo.take q.1).filter fun x => missP T U places x.1).map (·.1)) :: docP g2 A6 cap6 Bo (docP g1 A3 cap3 U [])) (fun q => q.1 ≤ Bo.length) (fun q => Bo.length - q.1) (0, none, 0) (Nat.zero_le _) ?_
   clear S
   rintro ⟨i, B, cB⟩ a w hi S
   dsimp only at hi S
   have hfi := hfl i
   by_cases hlt : i < Bo.length
   · obtain ⟨ga, rfl⟩ := S.wd.row_at (k := 2) rfl (by have := (S.wd.room (k := 2) rfl).1; omega)
     obtain ⟨x, hx⟩ : ∃ x, Bo[i]? = some x := ⟨_, List.getElem?_eq_getElem hlt⟩
     have hxl := name_len (hBk.name x (List.mem_of_getElem? hx))
     have hst := missF_step (T := T) (U := U) (places := places) hx
     generalize ((Bo.take i).filter fun x => missP T U places x.1).map (·.1) = M at *
     refine wp_seq_k fun _ hK3 => sg S (.mv rfl <| .mv rfl <| .yy (Zy (.t rfl)) rfl <| .fa underlying124 sizeOf22 0 rfl rfl rfl <| .ld gt22 1 rfl rfl rfl <| .ln underlying22 rfl <| .lt (by omega) rfl rfl <| .z) fun a w S => Zd S (.t rfl) (wp_skip (Za (hK3 _ _ (wp_seq_k fun _ hK3 => wp_block (sg S (.mv rfl <| .yy (Zy (.t rfl)) rfl <| .fa underlying124 sizeOf22 0 rfl rfl rfl <| .ld gt22 1 rfl rfl rfl <| .mv rfl <| .ix underlying22 sizeOf77 (by omega) rfl rfl <| .yy (Zz (FieldT.mk underlying77 rfl sizeOf9 rfl) (.t rfl)) rfl <| .yy (Xu ⟨isAgg9, sizeOf9⟩ (.t rfl) (k := 2) rfl hx (fun _ => rfl) rfl) rfl <| .as rfl <| .z) fun a w S => sg S (.ac rfl <| .z) fun a w S => wp_seq_k fun _ hK4 => sg S (.ac rfl <| .z) fun a w S => wp_block ?_)))))
     refine Yg S [14, 15] (X := Nat) (fun q => [(14, true, .bool ((places.take q).any fun p => decide (p = (placeK x.1 : Int)))), (15, true, .int .i64 (q : Int))]) (fun _ => rowOf 9 1 encS' B cB M :: docP g2 (some ⟨ga, 0, none⟩) cap6 Bo (docP g1 A3 cap3 U [])) (fun q => q ≤ places.length) (fun q => places.length - q) 0 (Nat.zero_le _) ?_
     clear S
     rintro q a w hq S
     by_cases hqt : q < places.length
     · obtain ⟨g5, o5, y, rfl, hy, hdy, hcy⟩ := Zv hA1 hqt
       have hsy := any_step (fun p => decide (p = (placeK x.1 : Int))) hy
       cases hany : (places.take q).any fun p => decide (p = (placeK x.1 : Int)) with
       | true =>
         rw [hany] at S hsy
         rw [Bool.true_or] at hsy
         refine wp_seq_k fun _ hK5 => sg S (.mv rfl <| .mv rfl <| .ln underlying82 rfl <| .lt (by omega) rfl rfl <| .z) fun a w S => Zd S (.t rfl) (wp_skip (Za (hK5 _ _ (wp_seq_k fun _ hK5 => wp_block (Xe S (by kernel_rfl) (by kernel_rfl) fun a S => qrun S (.mv rfl <| .mv rfl <| .sk rfl rfl rfl <| .sk rfl rfl rfl <| .sk rfl rfl rfl <| .sk rfl rfl rfl <| .sk rfl rfl rfl <| .sk rfl rfl rfl <| .sk rfl rfl rfl <| .yy (Zr (.t rfl) Ev.c) rfl <| .as rfl <| .z) fun a S => ?_)))))
         (refine q_nil ?_; intro w W; replace S := St.mk S W; clear W)
         refine Zj (Za (hK5 _ _ (wp_region_lit (run S (.mv rfl <| .ad (by unfold I64; omega) rfl <| .as rfl <| .z) fun a w S => Zb (Za ?_)))))
         exact ⟨q + 1, by omega, by omega, by rw [hsy]; exact S.pk⟩
       | false =>
         rw [hany] at S hsy
         rw [Bool.false_or] at hsy
         refine wp_seq_k fun _ hK5 => sg S (.mv rfl <| .mv rfl <| .ln underlying82 rfl <| .lt (by omega) rfl rfl <| .z) fun a w S => Zd S (.t rfl) (wp_skip (Za (hK5 _ _ (wp_seq_k fun _ hK5 => wp_block (Xe S (by kernel_rfl) (by kernel_rfl) fun a S => qrun S (.mv rfl <| .mv rfl <| .gy rfl rfl (Ze (.t rfl)) <| .gy rfl rfl (Ze (.t rfl)) <| .gy rfl rfl (Yv underlying82 sizeOf3 (.t rfl) (.t rfl) (fun _ => by omega)) <| .gy rfl rfl (Zw ⟨isAgg3, sizeOf3⟩ (.t rfl) (fun _ => hcy 0 _ rfl)) <| .gy rfl rfl (Ze (.t rfl)) <| .gx rfl rfl (Zg call75 (.cons (.t rfl) .nil) (fun hp w W => c75 _ _ (by omega))) <| .gy rfl rfl (Yi (.t rfl) (.t rfl)) <| .yy (Zn (.t rfl) (.t rfl)) rfl <| .as rfl <| .z) fun a S => ?_)))))
         (refine q_nil ?_; intro w W; replace S := St.mk S W; clear W)
         refine Zj (Za (hK5 _ _ (wp_region_lit (run S (.mv rfl <| .ad (by unfold I64; omega) rfl <| .as rfl <| .z) fun a w S => Zb (Za ?_)))))
         exact ⟨q + 1, by omega, by omega, by rw [hsy]; exact S.pk⟩
     obtain rfl : q = places.length := by omega
     rw [List.take_length] at S
     have hmp : missP T U places x.1 = ((places.any fun p => decide (p = (placeK x.1 : Int))) && (!(getT T x.1).isSome || (!(getT U x.1).isSome || decide ((getT T x.1).getD 0 ≠ (getT U x.1).getD 0)))) := rfl
     obtain ⟨s1, rw_s1⟩ : ∃ b, (getT T x.1).isSome = b := ⟨_, rfl⟩
     obtain ⟨s2, rw_s2⟩ : ∃ b, (getT U x.1).isSome = b := ⟨_, rfl⟩
     obtain ⟨d1, rw_d1⟩ : ∃ b, (getT T x.1).getD 0 = b := ⟨_, rfl⟩
     obtain ⟨d2, rw_d2⟩ : ∃ b, (getT U x.1).getD 0 = b := ⟨_, rfl⟩
     rw [rw_s1, rw_s2, rw_d1, rw_d2] at hmp
     generalize (places.any fun p => decide (p = (placeK x.1 : Int))) = an at *
     cases hm : missP T U places x.1 with
     | true =>
       rw [hm] at hmp hst
       rw [if_pos rfl] at hst
       obtain ⟨rfl, hmp⟩ := Bool.and_eq_true_iff.1 hmp.symm
       cases s1 with
       | false =>
         refine wp_seq_k fun _ hK5 => sg S (.mv rfl <| .mv rfl <| .ln underlying82 rfl <| .ge (by omega) rfl rfl <| .z) fun a w S => Zf S (.t rfl) (wp_exit (Zc (Zc (Zs (Za (hK4 _ _ (wp_seq_k fun _ hK4 => wp_region_lit (run S (.mv rfl <| .yy (Zy (.t rfl)) rfl <| .fa underlying124 sizeOf22 0 rfl rfl rfl <| .yy (Zw ⟨isAgg22, sizeOf22⟩ (.t rfl) (fun _ => hkeys)) rfl <| .mv rfl <| .xx (Zg call76 (.cons (.t rfl) (.cons (.t rfl) .nil)) (fun hp w W => c76 _ _ _ _ (by exact .old W (by assumption)))) rfl <| .z) fun a w S => ?_))))))))
         rw [rw_d1] at S
         rw [rw_s1] at S
         refine run S (.mv rfl <| .ex rfl rfl <| .ex rfl rfl <| .as rfl <| .as rfl <| .z) fun a w S => Zb (Za (hK4 _ _ (wp_seq_k fun _ hK4 => wp_region_lit (run S (.mv rfl <| .yy (Zy (.t rfl)) rfl <| .fa underlying124 sizeOf22 0 rfl rfl rfl <| .ld gt22 3 rfl rfl rfl <| .mv rfl <| .xx (Zg call76 (.cons (.t rfl) (.cons (.t rfl) .nil)) (fun hp w W => c76 _ _ _ _ (by exact Sl.of_own W (k := 4) rfl (fun _ => rfl)))) rfl <| .z) fun a w S => ?_))))
         rw [rw_s2] at S
         rw [rw_d2] at S
         refine run S (.mv rfl <| .ex rfl rfl <| .ex rfl rfl <| .as rfl <| .as rfl <| .z) fun a w S => Zb (Za (hK4 _ _ (sg S (.mv rfl <| .mv rfl <| .gy rfl rfl (Ze (.t rfl)) <| .gy rfl rfl (Xb (.t rfl)) <| .gy rfl rfl (Ze (.t rfl)) <| .sk rfl rfl rfl <| .sk rfl rfl rfl <| .gy rfl rfl (Zr (.t rfl) Ev.c) <| .gy rfl rfl (Ze (.t rfl)) <| .sk rfl rfl rfl <| .sk rfl rfl rfl <| .sk rfl rfl rfl <| .gy rfl rfl (Zr (.t rfl) Ev.c) <| .yy (Zr (.t rfl) (.t rfl)) rfl <| .z) fun a w S => Zd S (.t rfl) (wp_region_lit (run S (.mv rfl <| .mv rfl <| .z) fun a w S => Zi (Zp S underlying58 inf9 rfl rfl rfl (.t rfl) rfl rfl rfl fun g3 a w S => Zi (Yc S underlying58 inf9 rfl (k := 1) (j := 0) rfl (.t rfl) (.t rfl) rfl rfl rfl rfl (by first | omega | (simp only [List.length_append, List.length_cons, List.length_nil]; omega)) rfl rfl rfl fun A6 cap7 a w S => run S (.as rfl <| .z) fun a w S => Zb (Zj (Za (hK3 _ _ (wp_region_lit (run S (.mv rfl <| .ad (by unfold I64; omega) rfl <| .as rfl <| .z) fun a w S => Zb (Za ?_)))))))))))))
         exact ⟨(i + 1, A6, cap7), by dsimp only; omega, by dsimp only; omega, by dsimp only; rw [hst]; exact S.pk⟩
       | true =>
         cases s2 with
         | false =>
           refine wp_seq_k fun _ hK5 => sg S (.mv rfl <| .mv rfl <| .ln underlying82 rfl <| .ge (by omega) rfl rfl <| .z) fun a w S => Zf S (.t rfl) (wp_exit (Zc (Zc (Zs (Za (hK4 _ _ (wp_seq_k fun _ hK4 => wp_region_lit (run S (.mv rfl <| .yy (Zy (.t rfl)) rfl <| .fa underlying124 sizeOf22 0 rfl rfl rfl <| .yy (Zw ⟨isAgg22, sizeOf22⟩ (.t rfl) (fun _ => hkeys)) rfl <| .mv rfl <| .xx (Zg call76 (.cons (.t rfl) (.cons (.t rfl) .nil)) (fun hp w W => c76 _ _ _ _ (by exact .old W (by assumption)))) rfl <| .z) fun a w S => ?_))))))))
           rw [rw_d1] at S
           rw [rw_s1] at S
           refine run S (.mv rfl <| .ex rfl rfl <| .ex rfl rfl <| .as rfl <| .as rfl <| .z) fun a w S => Zb (Za (hK4 _ _ (wp_seq_k fun _ hK4 => wp_region_lit (run S (.mv rfl <| .yy (Zy (.t rfl)) rfl <| .fa underlying124 sizeOf22 0 rfl rfl rfl <| .ld gt22 3 rfl rfl rfl <| .mv rfl <| .xx (Zg call76 (.cons (.t rfl) (.cons (.t rfl) .nil)) (fun hp w W => c76 _ _ _ _ (by exact Sl.of_own W (k := 4) rfl (fun _ => rfl)))) rfl <| .z) fun a w S => ?_))))
           rw [rw_d2] at S
           rw [rw_s2] at S
           refine run S (.mv rfl <| .ex rfl rfl <| .ex rfl rfl <| .as rfl <| .as rfl <| .z) fun a w S => Zb (Za (hK4 _ _ (sg S (.mv rfl <| .mv rfl <| .gy rfl rfl (Ze (.t rfl)) <| .gy rfl rfl (Xb (.t rfl)) <| .gy rfl rfl (Ze (.t rfl)) <| .gy rfl rfl (Ze (.t rfl)) <| .gy rfl rfl (Xb (.t rfl)) <| .gy rfl rfl (Zn (.t rfl) (.t rfl)) <| .gy rfl rfl (Ze (.t rfl)) <| .sk rfl rfl rfl <| .sk rfl rfl rfl <| .sk rfl rfl rfl <| .gy rfl rfl (Zr (.t rfl) Ev.c) <| .yy (Zr (.t rfl) (.t rfl)) rfl <| .z) fun a w S => Zd S (.t rfl) (wp_region_lit (run S (.mv rfl <| .mv rfl <| .z) fun a w S => Zi (Zp S underlying58 inf9 rfl rfl rfl (.t rfl) rfl rfl rfl fun g3 a w S => Zi (Yc S underlying58 inf9 rfl (k := 1) (j := 0) rfl (.t rfl) (.t rfl) rfl rfl rfl rfl (by first | omega | (simp only [List.length_append, List.length_cons, List.length_nil]; omega)) rfl rfl rfl fun A6 cap7 a w S => run S (.as rfl <| .z) fun a w S => Zb (Zj (Za (hK3 _ _ (wp_region_lit (run S (.mv rfl <| .ad (by unfold I64; omega) rfl <| .as rfl <| .z) fun a w S => Zb (Za ?_)))))))))))))
           exact ⟨(i + 1, A6, cap7), by dsimp only; omega, by dsimp only; omega, by dsimp only; rw [hst]; exact S.pk⟩
         | true =>
           have rw_e : decide (d1 ≠ d2) = true := by simpa using hmp
           refine wp_seq_k fun _ hK5 => sg S (.mv rfl <| .mv rfl <| .ln underlying82 rfl <| .ge (by omega) rfl rfl <| .z) fun a w S => Zf S (.t rfl) (wp_exit (Zc (Zc (Zs (Za (hK4 _ _ (wp_seq_k fun _ hK4 => wp_region_lit (run S (.mv rfl <| .yy (Zy (.t rfl)) rfl <| .fa underlying124 sizeOf22 0 rfl rfl rfl <| .yy (Zw ⟨isAgg22, sizeOf22⟩ (.t rfl) (fun _ => hkeys)) rfl <| .mv rfl <| .xx (Zg call76 (.cons (.t rfl) (.cons (.t rfl) .nil)) (fun hp w W => c76 _ _ _ _ (by exact .old W (by assumption)))) rfl <| .z) fun a w S => ?_))))))))
           rw [rw_d1] at S
           rw [rw_s1] at S
           refine run S (.mv rfl <| .ex rfl rfl <| .ex rfl rfl <| .as rfl <| .as rfl <| .z) fun a w S => Zb (Za (hK4 _ _ (wp_seq_k fun _ hK4 => wp_region_lit (run S (.mv rfl <| .yy (Zy (.t rfl)) rfl <| .fa underlying124 sizeOf22 0 rfl rfl rfl <| .ld gt22 3 rfl rfl rfl <| .mv rfl <| .xx (Zg call76 (.cons (.t rfl) (.cons (.t rfl) .nil)) (fun hp w W => c76 _ _ _ _ (by exact Sl.of_own W (k := 4) rfl (fun _ => rfl)))) rfl <| .z) fun a w S => ?_))))
           rw [rw_d2] at S
           rw [rw_s2] at S
           refine run S (.mv rfl <| .ex rfl rfl <| .ex rfl rfl <| .as rfl <| .as rfl <| .z) fun a w S => Zb (Za (hK4 _ _ (wp_seq_k fun _ hK4 => wp_region_lit (run S (.mv rfl <| .mv rfl <| .gy rfl rfl (Ze (.t rfl)) <| .gy rfl rfl (Xb (.t rfl)) <| .gy rfl rfl (Ze (.t rfl)) <| .gy rfl rfl (Ze (.t rfl)) <| .gy rfl rfl (Xb (.t rfl)) <| .gy rfl rfl (Zn (.t rfl) (.t rfl)) <| .gy rfl rfl (Ze (.t rfl)) <| .gy rfl rfl (Ze (.t rfl)) <| .gy rfl rfl (Ze (.t rfl)) <| .gy rfl rfl (Zu (.t rfl) (.t rfl)) <| .z) fun a w S => ?_))))
           rw [rw_e] at S
           refine run S (.gy rfl rfl (Zn (.t rfl) (.t rfl)) <| .yy (Zr (.t rfl) (.t rfl)) rfl <| .z) fun a w S => Zb (Za (hK4 _ _ (Zd S (.t rfl) (wp_region_lit (run S (.mv rfl <| .mv rfl <| .z) fun a w S => Zi (Zp S underlying58 inf9 rfl rfl rfl (.t rfl) rfl rfl rfl fun g3 a w S => Zi (Yc S underlying58 inf9 rfl (k := 1) (j := 0) rfl (.t rfl) (.t rfl) rfl rfl rfl rfl (by first | omega | (simp only [List.length_append, List.length_cons, List.length_nil]; omega)) rfl rfl rfl fun A6 cap7 a w S => run S (.as rfl <| .z) fun a w S => Zb (Zj (Za (hK3 _ _ (wp_region_lit (run S (.mv rfl <| .ad (by unfold I64; omega) rfl <| .as rfl <| .z) fun a w S => Zb (Za ?_)))))))))))))
           exact ⟨(i + 1, A6, cap7), by dsimp only; omega, by dsimp only; omega, by dsimp only; rw [hst]; exact S.pk⟩
     | false =>
       rw [hm] at hmp hst
       rw [if_neg (by simp), List.append_nil] at hst
       cases an with
       | false =>
         refine wp_seq_k fun _ hK5 => sg S (.mv rfl <| .mv rfl <| .ln underlying82 rfl <| .ge (by omega) rfl rfl <| .z) fun a w S => Zf S (.t rfl) (wp_exit (Zc (Zc (Zs (Za (hK4 _ _ (wp_seq_k fun _ hK4 => wp_region_lit (run S (.mv rfl <| .yy (Zy (.t rfl)) rfl <| .fa underlying124 sizeOf22 0 rfl rfl rfl <| .yy (Zw ⟨isAgg22, sizeOf22⟩ (.t rfl) (fun _ => hkeys)) rfl <| .mv rfl <| .xx (Zg call76 (.cons (.t rfl) (.cons (.t rfl) .nil)) (fun hp w W => c76 _ _ _ _ (by exact .old W (by assumption)))) rfl <| .z) fun a w S => ?_))))))))
         rw [rw_s1] at S
         rw [rw_d1] at S
         refine run S (.mv rfl <| .ex rfl rfl <| .ex rfl rfl <| .as rfl <| .as rfl <| .z) fun a w S => Zb (Za (hK4 _ _ (wp_seq_k fun _ hK4 => wp_region_lit (run S (.mv rfl <| .yy (Zy (.t rfl)) rfl <| .fa underlying124 sizeOf22 0 rfl rfl rfl <| .ld gt22 3 rfl rfl rfl <| .mv rfl <| .xx (Zg call76 (.cons (.t rfl) (.cons (.t rfl) .nil)) (fun hp w W => c76 _ _ _ _ (by exact Sl.of_own W (k := 4) rfl (fun _ => rfl)))) rfl <| .z) fun a w S => ?_))))
         rw [rw_s2] at S
         rw [rw_d2] at S
         refine run S (.mv rfl <| .ex rfl rfl <| .ex rfl rfl <| .as rfl <| .as rfl <| .z) fun a w S => Zb (Za (hK4 _ _ (sg S (.mv rfl <| .mv rfl <| .sk rfl rfl rfl <| .sk rfl rfl rfl <| .sk rfl rfl rfl <| .s0 rfl rfl <| .s0 rfl rfl <| .sk rfl rfl rfl <| .sk rfl rfl rfl <| .s0 rfl rfl <| .s0 rfl rfl <| .s0 rfl rfl <| .sk rfl rfl rfl <| .yy (Zn (.t rfl) Ev.c) rfl <| .z) fun a w S => Zf S (.t rfl) (wp_skip (Zj (Za (hK3 _ _ (wp_region_lit (run S (.mv rfl <| .ad (by unfold I64; omega) rfl <| .as rfl <| .z) fun a w S => Zb (Za ?_))))))))))
         exact ⟨(i + 1, B, cB), by dsimp only; omega, by dsimp only; omega, by dsimp only; rw [hst]; exact S.pk⟩
       | true =>
         rw [Bool.true_and] at hmp
         obtain ⟨h1, hmp⟩ := Bool.or_eq_false_iff.1 hmp.symm
         obtain ⟨h2, rw_e⟩ := Bool.or_eq_false_iff.1 hmp
         cases s1 with
         | false => cases h1
         | true =>
           cases s2 with
           | false => cases h2
           | true =>
             refine wp_seq_k fun _ hK5 => sg S (.mv rfl <| .mv rfl <| .ln underlying82 rfl <| .ge (by omega) rfl rfl <| .z) fun a w S => Zf S (.t rfl) (wp_exit (Zc (Zc (Zs (Za (hK4 _ _ (wp_seq_k fun _ hK4 => wp_region_lit (run S (.mv rfl <| .yy (Zy (.t rfl)) rfl <| .fa underlying124 sizeOf22 0 rfl rfl rfl <| .yy (Zw ⟨isAgg22, sizeOf22⟩ (.t rfl) (fun _ => hkeys)) rfl <| .mv rfl <| .xx (Zg call76 (.cons (.t rfl) (.cons (.t rfl) .nil)) (fun hp w W => c76 _ _ _ _ (by exact .old W (by assumption)))) rfl <| .z) fun a w S => ?_))))))))
             rw [rw_d1] at S
             rw [rw_s1] at S
             refine run S (.mv rfl <| .ex rfl rfl <| .ex rfl rfl <| .as rfl <| .as rfl <| .z) fun a w S => Zb (Za (hK4 _ _ (wp_seq_k fun _ hK4 => wp_region_lit (run S (.mv rfl <| .yy (Zy (.t rfl)) rfl <| .fa underlying124 sizeOf22 0 rfl rfl rfl <| .ld gt22 3 rfl rfl rfl <| .mv rfl <| .xx (Zg call76 (.cons (.t rfl) (.cons (.t rfl) .nil)) (fun hp w W => c76 _ _ _ _ (by exact Sl.of_own W (k := 4) rfl (fun _ => rfl)))) rfl <| .z) fun a w S => ?_))))
             rw [rw_d2] at S
             rw [rw_s2] at S
             refine run S (.mv rfl <| .ex rfl rfl <| .ex rfl rfl <| .as rfl <| .as rfl <| .z) fun a w S => Zb (Za (hK4 _ _ (wp_seq_k fun _ hK4 => wp_region_lit (run S (.mv rfl <| .mv rfl <| .gy rfl rfl (Ze (.t rfl)) <| .gy rfl rfl (Xb (.t rfl)) <| .gy rfl rfl (Ze (.t rfl)) <| .gy rfl rfl (Ze (.t rfl)) <| .gy rfl rfl (Xb (.t rfl)) <| .gy rfl rfl (Zn (.t rfl) (.t rfl)) <| .gy rfl rfl (Ze (.t rfl)) <| .gy rfl rfl (Ze (.t rfl)) <| .gy rfl rfl (Ze (.t rfl)) <| .gy rfl rfl (Zu (.t rfl) (.t rfl)) <| .z) fun a w S => ?_))))
             rw [rw_e] at S
             refine run S (.gy rfl rfl (Zn (.t rfl) (.t rfl)) <| .yy (Zr (.t rfl) (.t rfl)) rfl <| .z) fun a w S => Zb (Za (hK4 _ _ (Zf S (.t rfl) (wp_skip (Zj (Za (hK3 _ _ (wp_region_lit (run S (.mv rfl <| .ad (by unfold I64; omega) rfl <| .as rfl <| .z) fun a w S => Zb (Za ?_))))))))))
             exact ⟨(i + 1, B, cB), by dsimp only; omega, by dsimp only; omega, by dsimp only; rw [hst]; exact S.pk⟩
   obtain rfl : i = Bo.length := by omega
   rw [List.take_length, ← eU] at S
   refine wp_seq_k fun _ hK3 => sg S (.mv rfl <| .mv rfl <| .yy (Zy (.t rfl)) rfl <| .fa underlying124 sizeOf22 0 rfl rfl rfl <| .ld gt22 1 rfl rfl rfl <| .ln underlying22 rfl <| .ge (by omega) rfl rfl <| .z) fun a w S => Zf S (.t rfl) (wp_exit (Zc (Zc (Zs (Za (hK1 _ _ (sg S (.mv rfl <| .as rfl <| .ac rfl <| .z) fun a w S => wp_ret (Zk S (results2 S results46 (Rv.tmp rfl) (Rv.tmp rfl)) ?_))))))))
   rw [e]
   exact ⟨_, _, rfl, S.wd.pk, _, _, rfl, rfl⟩
end Go.Proofs.YtbijdmfilmecbaaGreat
namespace Go.Fw
open Go.RowKit Go.Maps Go.Sort Go.Proofs Go.Shelf Go.ChangeMaps Go.Proofs.YtbijdmfilmecbaaGreat
section
variable {vv : Int → Value} {P : Program} {n : Nat} {w0 : World} {K : KL} {L : List Chunk} {ty : TypeId} {pos : String} {aft : Array Edge} {gd : Option (Nat × Bool)} {a : Act} {w : World} {Z : Act → World → Prop} {Q : Exit → Act → World → Prop} {d : Nat} {dst : Option Tmp} {b : Bool} {t kt et : TypeId} {l : List (KH × Nat)} {c : Nat}
theorem op_rangeM {g : Nat} {x : Operand} (S : St n w0 K L a w) (ht : P.underlying t = some (.map kt et)) (hx : Ev n true K x (.map (some g))) (hg : w.heap[g]? = some (smO vv l c)) (hd : Nat.blt d n = true)
   (next : ∀ i a w, St n w0 ((d, true, .pointer (some ⟨i, 0, none⟩)) :: K) (.blk i (.mapIter (some g) c #[] c) :: L) a w → Z a w) : Oper.wp P ⟨some d, .range t x, ty, pos, aft, gd⟩ a w Z Q := by
 have h := run_range_map w t kt et g (smE vv l).toArray c ht hg
 refine run_wp (v := .pointer (some ⟨w.heap.size, 0, none⟩)) (w' := w.alloc (.mapIter (some g) c #[] c)) ?_ (next w.heap.size _ _ ⟨S.kn.put hd _, S.wd.alloc _⟩)
 simp only [execOp, hx a rfl S.kn]
 simp [h]
theorem op_nextM {i g i' : Nat} {seen : Array Nat} {x : Operand} (S : St n w0 K L a w) (hx : Ev n true K x (.pointer (some ⟨i', 0, none⟩))) (hi : L[i]? = some (.blk i' (.mapIter (some g) c seen c))) (hg : w.heap[g]? = some (smO vv l c)) (ok : SmOk l c) (hd : Nat.blt d n = true)
   (done : (∀ p ∈ l, p.2 ∈ seen) → ∀ a w, St n w0 ((d, true, .tuple #[.bool false]) :: K) L a w → Z a w)
   (more : ∀ p, p ∈ l → p.2 ∉ seen → ∀ a w, St n w0 ((d, true, .tuple #[.bool true, .string (bs p.1.1), vv p.1.2]) :: K) (L.set i (.blk i' (.mapIter (some g) c (seen.push p.2) c))) a w → Z a w) :
   Oper.wp P ⟨some d, .next x false, ty, pos, aft, gd⟩ a w Z Q := by
 have h1 := (S.wd.get hi).2
 have hold : ∀ e ∈ (smE vv l).toArray.toList, e.born < c := fun e he => by
   have he' : e ∈ smE vv l := he
   unfold smE at he'
   obtain ⟨p, hp, rfl⟩ := List.mem_map.1 he'
   exact ok.lt p hp
 rcases run_next_at (P := P) w ty i' g c c seen (smE vv l).toArray c h1 hg hold (Nat.le_refl _) with ⟨h0, hr⟩ | ⟨e, he, w1, hw1, hr⟩
 · refine run_wp (v := .tuple #[.bool false]) (w' := w) ?_ (done (fun p hp => ?_) _ _ ⟨S.kn.put hd _, S.wd⟩)
   · simp only [execOp, hx a rfl S.kn]
     simp [hr]
   · refine Decidable.byContradiction fun hn => ?_
     have hmem : (⟨.string (bs p.1.1), vv p.1.2, p.2⟩ : MapEntry) ∈ (leftOf (smE vv l).toArray seen) := by
       unfold leftOf
       rw [Array.mem_filter]
       refine ⟨by rw [List.mem_toArray]; exact List.mem_map.2 ⟨p, hp, rfl⟩, ?_⟩
       simpa using hn
     have := Array.size_pos_of_mem hmem
     omega
 · unfold leftOf at he
   rw [Array.mem_toList_iff, Array.mem_filter, List.mem_toArray] at he
   obtain ⟨hm, hns⟩ := he
   unfold smE at hm
   obtain ⟨p, hp, rfl⟩ := List.mem_map.1 hm
   replace hns : p.2 ∉ seen := by simpa using hns
   have W1 : Wd w0 L w1 := by rcases hw1 with rfl | rfl; exact S.wd; exact S.wd.drew
   refine run_wp (v := .tuple #[.bool true, .string (bs p.1.1), vv p.1.2]) (w' := setBlock w1 i' (.mapIter (some g) c (seen.push p.2) c)) ?_ (more p hp hns _ _ ⟨S.kn.put hd _, W1.setBlk hi⟩)
   simp only [execOp, hx a rfl S.kn]
   simp [hr]
theorem ys_entryM {i g i' : Nat} {seen : Array Nat} {p : KH × Nat} {x : Operand} (hx : Ev n b K x (.pointer (some ⟨i', 0, none⟩))) (hi : L[i]? = some (.blk i' (.mapIter (some g) c (seen.push p.2) c))) (hg : ∀ w, Wd w0 L w → w.heap[g]? = some (smO vv l c)) (ok : SmOk l c) (hp : p ∈ l) :
   Yr P ⟨dst, .entry x, ty, pos, aft, gd⟩ n K w0 L b (.tuple #[.string (bs p.1.1), vv p.1.2]) := fun a w hb hkn hw => by
 have h1 := (hw.get hi).2
 have hrun := Go.run_entry_at (P := P) w i' g c seen (smE vv l).toArray c ⟨.string (bs p.1.1), vv p.1.2, p.2⟩ h1 (hg w hw) (List.mem_map.2 ⟨p, hp, rfl⟩) (by
   show ((smE vv l).map (·.born)).Nodup
   unfold smE
   rw [List.map_map]
   exact ok.born)
 simp only [execOp, hx a hb hkn]
 simp [hrun]
end
theorem seen_room {l : List (KH × Nat)} {seen : Array Nat} (hn : seen.toList.Nodup) (hs : ∀ b ∈ seen, b ∈ l.map (·.2)) {p : KH × Nat} (hp : p ∈ l) (hns : p.2 ∉ seen) : seen.size < l.length ∧ (seen.push p.2).toList.Nodup ∧ ∀ b ∈ seen.push p.2, b ∈ l.map (·.2) := by
 have h1 : (p.2 :: seen.toList).Nodup := List.nodup_cons.2 ⟨by simpa using hns, hn⟩
 have h2 := h1.length_le_of_subset (l₂ := l.map (·.2)) fun x hx => by
   rcases List.mem_cons.1 hx with rfl | hx
   · exact List.mem_map.2 ⟨p, hp, rfl⟩
   · exact hs x (by simpa using hx)
 rw [List.length_cons, List.length_map, Array.length_toList] at h2
 refine ⟨by omega, ?_, fun x hx => ?_⟩
 · rw [Array.toList_push, List.nodup_append]
   refine ⟨hn, by simp, fun a ha b hb e => ?_⟩
   simp at hb
   rw [e, hb] at ha
   exact hns (by simpa using ha)
 · rw [Array.mem_push] at hx
   rcases hx with hx | rfl
   · exact hs x hx
   · exact List.mem_map.2 ⟨p, hp, rfl⟩
end Go.Fw
namespace Go.Proofs
open Go.Shelf
def Tryz.keysU_ren : Go.Shelf.Ren := ⟨fun | 7 => 100 | 10 => 122 | n => n, fun | 23 => 154 | 26 => 9 | 3 => 155 | 28 => 159 | 0 => 0 | 27 => 158 | 33 => 133 | 4 => 4 | n => n, fun | n => n⟩
theorem Tryz.keysU : Go.Proofs.SlLaysZ.n7 Tryz.prog Tryz.keysU_ren := {
 mixed := by kernel_rfl
 f7 := ⟨Tryz.f100.name, by decide, Tryz.func100.trans (congrArg some (by kernel_rfl))⟩
 f10 := ⟨Tryz.f122.name, by decide, Tryz.func122.trans (congrArg some (by kernel_rfl))⟩
 t0 := Tryz.underlying0
 a0 := Tryz.isAgg0
 z0 := Tryz.sizeOf0
 v0 := Tryz.zeroValue0
 t4 := Tryz.underlying4
 a4 := Tryz.isAgg4
 z4 := Tryz.sizeOf4
 v4 := Tryz.zeroValue4
 t23 := Tryz.underlying154
 a23 := Tryz.isAgg154
 z23 := Tryz.sizeOf154
 v23 := Tryz.zeroValue154
 t26 := Tryz.underlying9
 a26 := Tryz.isAgg9
 z26 := Tryz.sizeOf9
 v26 := Tryz.zeroValue9
 t27 := Tryz.underlying158
 a27 := Tryz.isAgg158
 z27 := Tryz.sizeOf158
 v27 := Tryz.zeroValue158
 t28 := Tryz.underlying159
 a28 := Tryz.isAgg159
 z28 := Tryz.sizeOf159
 v28 := Tryz.zeroValue159
 t33 := Tryz.underlying133
 a33 := Tryz.isAgg133
 z33 := Tryz.sizeOf133
 v33 := Tryz.zeroValue133 }
end Go.Proofs
namespace Go.Fw
open Go.RowKit
def insU (k : List UInt8) (f : List KH) : List KH := (k, 0) :: f.filter fun x => decide (x.1 ≠ k)
theorem insU_mem {k : List UInt8} {f : List KH} : ∀ x, x ∈ insU k f ↔ x = (k, 0) ∨ (x ∈ f ∧ x.1 ≠ k) := fun x => by
 unfold insU
 rw [List.mem_cons, List.mem_filter, decide_eq_true_eq]
def Keys0 (f : List KH) (p : List UInt8 → Prop) : Prop := ∀ x, x ∈ f ↔ x.2 = 0 ∧ p x.1
theorem keys0_nil {p : List UInt8 → Prop} (h : ∀ k, ¬ p k) : Keys0 [] p := fun x => by
 constructor
 · intro hx; cases hx
 · intro hx; exact absurd hx.2 (h _)
theorem keys0_ins {f : List KH} {p p' : List UInt8 → Prop} {k : List UInt8} (h : Keys0 f p) (hp : ∀ x, p' x ↔ x = k ∨ p x) : Keys0 (insU k f) p' := fun x => by
 rw [insU_mem, h, hp]
 obtain ⟨a, b⟩ := x
 simp only [Prod.mk.injEq]
 constructor
 · rintro (⟨rfl, rfl⟩ | ⟨⟨h1, h2⟩, _⟩)
   · exact ⟨rfl, .inl rfl⟩
   · exact ⟨h1, .inr h2⟩
 · rintro ⟨rfl, rfl | h2⟩
   · exact .inl ⟨rfl, rfl⟩
   · by_cases e : a = k
     · exact .inl ⟨e, rfl⟩
     · exact .inr ⟨⟨rfl, h2⟩, e⟩
theorem Wb {f : List KH} {p p' : List UInt8 → Prop} (h : Keys0 f p) (hp : ∀ x, p' x ↔ p x) : Keys0 f p' := fun x => by rw [h, hp]
theorem born_inj {ml : List (KH × Nat)} (hb : (ml.map (·.2)).Nodup) {e e' : KH × Nat} (he : e ∈ ml) (he' : e' ∈ ml) (h : e.2 = e'.2) : e = e' := by
 obtain ⟨i, hi⟩ := List.mem_iff_getElem?.1 he
 obtain ⟨j, hj⟩ := List.mem_iff_getElem?.1 he'
 have h1 : (ml.map (·.2))[i]? = some e.2 := by rw [List.getElem?_map, hi]; rfl
 have h2 : (ml.map (·.2))[j]? = some e.2 := by rw [List.getElem?_map, hj, h]; rfl
 have hij := (List.getElem?_inj (List.getElem?_eq_some_iff.1 h1).1 hb).1 (h1.trans h2.symm)
 subst hij
 rw [hi] at hj
 simpa using hj
theorem seen_step {ml : List (KH × Nat)} (hb : (ml.map (·.2)).Nodup) {e : KH × Nat} (he : e ∈ ml) {seen : Array Nat} (R : KH × Nat → Prop) : (∃ e' ∈ ml, e'.2 ∈ seen.push e.2 ∧ R e') ↔ R e ∨ ∃ e' ∈ ml, e'.2 ∈ seen ∧ R e' := by
 constructor
 · rintro ⟨e', h1, h2, h3⟩
   rw [Array.mem_push] at h2
   rcases h2 with h2 | h2
   · exact .inr ⟨e', h1, h2, h3⟩
   · obtain rfl := born_inj hb h1 he h2
     exact .inl h3
 · rintro (h | ⟨e', h1, h2, h3⟩)
   · exact ⟨e, he, by rw [Array.mem_push]; exact .inr rfl, h⟩
   · exact ⟨e', h1, by rw [Array.mem_push]; exact .inl h2, h3⟩
theorem pred_add {A : List UInt8 → Prop} {ml : List (KH × Nat)} (hb : (ml.map (·.2)).Nodup) {e : KH × Nat} (he : e ∈ ml) {seen : Array Nat} {B : List UInt8 → KH × Nat → Prop} (hB : B e.1.1 e) (k : List UInt8) :
   (A k ∨ ∃ e' ∈ ml, e'.2 ∈ seen.push e.2 ∧ e'.1.1 = k ∧ B k e') ↔ k = e.1.1 ∨ (A k ∨ ∃ e' ∈ ml, e'.2 ∈ seen ∧ e'.1.1 = k ∧ B k e') := by
 rw [seen_step hb he (fun e' => e'.1.1 = k ∧ B k e')]
 constructor
 · rintro (h | ⟨rfl, _⟩ | h)
   · exact .inr (.inl h)
   · exact .inl rfl
   · exact .inr (.inr h)
 · rintro (rfl | h | h)
   · exact .inr (.inl ⟨rfl, hB⟩)
   · exact .inl h
   · exact .inr (.inr h)
theorem pred_not {A : List UInt8 → Prop} {ml : List (KH × Nat)} (hb : (ml.map (·.2)).Nodup) {e : KH × Nat} (he : e ∈ ml) {seen : Array Nat} {B : List UInt8 → KH × Nat → Prop} (hB : ¬ B e.1.1 e) (k : List UInt8) :
   (A k ∨ ∃ e' ∈ ml, e'.2 ∈ seen.push e.2 ∧ e'.1.1 = k ∧ B k e') ↔ (A k ∨ ∃ e' ∈ ml, e'.2 ∈ seen ∧ e'.1.1 = k ∧ B k e') := by
 rw [seen_step hb he (fun e' => e'.1.1 = k ∧ B k e')]
 constructor
 · rintro (h | ⟨rfl, h⟩ | h)
   · exact .inl h
   · exact absurd h hB
   · exact .inr h
 · rintro (h | h)
   · exact .inl h
   · exact .inr (.inr h)
section
variable {P : Program} {n : Nat} {w0 : World} {K : KL} {L : List Chunk} {ty : TypeId} {pos : String} {aft : Array Edge} {gd : Option (Nat × Bool)} {dst : Option Tmp} {b : Bool} {t : TypeId}
theorem ys_lookSOk {vv : Int → Value} {g : Nat} {o : Obj} {f : List KH} {k : List UInt8} {r : Option Int} {x y : Operand} (T : SmV vv P t) (hx : Ev n b K x (.map (some g))) (hy : Ev n b K y (.string (bs k))) (hk : w0.heap[g]? = some o) (hC : MapV vv o f) (hr : match r with | some h => (k, h) ∈ f | none => ∀ x ∈ f, x.1 ≠ k) :
   Yr P ⟨dst, .lookup t x y true, ty, pos, aft, gd⟩ n K w0 L b (.tuple #[vv (r.getD 0), .bool r.isSome]) := fun a w hb hkn hw => by
 have hlt := (Array.getElem?_eq_some_iff.1 hk).1
 have h := run_lookS (ok := true) T ((hw.below.block g hlt).trans hk) hC hr
 simp only [execOp, hx a hb hkn, hy a hb hkn]
 simp [h]
end
end Go.Fw
namespace Go.Proofs.YtbijdmfilmecbaaGreat
open Go.Fw Go.Proofs Go.RowKit Go.Proofs.Tryz
abbrev kv154 (x : List UInt8) : Value := .string (bs x)
abbrev vv154 (x : Int) : Value := .agg #[]
theorem bld155 : BuildT Tryz.prog 155 [] [] := ⟨⟨_, zeroValue155, rfl⟩, _, underlying155, fun w => by simp⟩
theorem smU : SmV (fun _ => .agg #[]) Tryz.prog 154 := ⟨⟨_, _, underlying154, underlying9, zeroValue155⟩⟩
theorem c100 (w0 : World) (b : Option Nat) :
   Rets Tryz.prog 100 #[.map b] w0 fun u L => ∃ g, u = .func (.func 122) #[] #[.pointer (some ⟨g, 0, none⟩)] ∧ L = [.blk g (.cells #[.map b] 154)] := by
 unfold Go.Fw.Rets
 refine enter1 func100 rfl ntmps100 rfl fun a S => wp_seq_k fun _ hK1 => wp_region_lit (Zi (op_box1 S (.t rfl) rfl rfl fun g1 a w S => run S (.ac rfl <| .z) fun a w S => Zb (Za (hK1 _ _ (sg S (.yy (ys_mkFunc (.cons (.t rfl) .nil)) rfl <| .as rfl <| .z) fun a w S => wp_ret (Zk S (results1 S results100 (Rv.tmp rfl)) ?_))))))
 exact ⟨_, _, rfl, S.wd.pk, _, rfl, rfl⟩
theorem sortedU {f : List KH} {o : Obj} {w0 w : World} {L : List Chunk} {g b : Nat} (W : Wd w0 (.blk g (.cells #[.map (some b)] 154) :: L) w) (hb : w.heap[b]? = some o) (hC : MapV (fun _ => .agg #[]) o f) (hf : f.Pairwise ltK) (hs : ∀ x ∈ f, x.1.length ≤ 1048576) (hl : f.length ≤ 4194304) :
   RetsO Tryz.prog 99 #[.func (.func 122) #[] #[.pointer (some ⟨g, 0, none⟩)]] w0 w fun v L' => ∃ A cap, v = .slice A f.length cap ∧ L' = rowOf 9 1 encS' A cap (f.map (·.1)) :: .blk g (.cells #[.map (some b)] 154) :: L :=
 sorted_keysS (ρk := Tryz.keysU_ren) (ρs := Tryz.sortedS_ren) { Tryz.keysU with } Tryz.sortedS (sortsS _) (enters_of func121 (by kernel_rfl) rfl) (enters_of func122 (by kernel_rfl) rfl) W underlying9 hb hC hf hs hl
theorem c71 (w0 : World) (g cap : Nat) (A : Option Addr) (gs : List Nat) (T : List KH) (v1 v2 : Value) (places : List Int) (sums : List Sm) (h : TreeAt w0 g A cap gs T) (hT : KhOk T) (h1 : Sl encI 1 w0 w0.heap.size v1 places) (hn : places.length ≤ 1048576) (h2 : Sl Sm.enc 3 w0 w0.heap.size v2 sums) (hs : Sums sums) (hTs : T.length + sums.length ≤ 1048576) :
   Rets Tryz.prog 71 #[.pointer (some ⟨g, 0, none⟩), v1, v2] w0 fun u L => ∃ B c, u = .tuple #[.slice B (missA T sums places).1.length c, .int .i64 (missA T sums places).2] ∧ L = [rowOf 9 1 encS' B c (missA T sums places).1] := by
 have hkeys := h.keys
 have hgl := h.len
 cases hok : okP 4 4 places with
 | false =>
   have rw_4 := hok
   have e : missA T sums places = ([], 80) := by unfold missA; rw [hok]; rfl
   rw [e]
   unfold Go.Fw.Rets
   refine enter3 func71 rfl ntmps71 rfl fun a S => sg S (.ac rfl <| .ac rfl <| .z) fun a w S => st_straight (wp_seq_k fun _ hK1 => sg S (.mv rfl <| .xx (Zg call60 (.cons (.t rfl) .nil) (fun hp w W => c60 _ _ _ _ _ (by exact Wd.cellOld W (by assumption)))) rfl <| .nt rfl <| .z) fun a w S => Zf S (.t rfl) (wp_skip (Za (hK1 _ _ (wp_seq_k fun _ hK1 => wp_seq_k fun _ hK2 => wp_region_lit (run S (.mv rfl <| .xx (Zg call63 (.cons Ev.c (.cons (.t rfl) .nil)) (fun hp w W => c63 _ _ _ _ (by exact .old W (by assumption)))) rfl <| .z) fun a w S => ?_))))))
   rw [rw_4] at S
   refine run S (.nt rfl <| .z) fun a w S => Zb (Za (hK2 _ _ (Zd S (.t rfl) (sg S (.ac rfl <| .ac rfl <| .z) fun a w S => wp_ret (Zh ?_)))))
   refine jump_ret ?_
   refine Zk S (results2 S results71 (Rv.tmp rfl) (Rv.tmp rfl)) ?_
   exact ⟨_, _, rfl, (S.nil_ 9 1 encS' none).wd.pk, none, 0, rfl, rfl⟩
 | true =>
   have rw_4 := hok
   have h20 := h2
   have h10 := h1
   obtain ⟨A2, cap2, rfl, hl2, hcap2, hA2⟩ := h2
   obtain ⟨A1, cap1, rfl, hl1, hcap1, hA1⟩ := h1
   unfold Go.Fw.Rets
   refine enter3 func71 rfl ntmps71 rfl fun a S => sg S (.ac rfl <| .ac rfl <| .z) fun a w S => st_straight (wp_seq_k fun _ hK1 => sg S (.mv rfl <| .xx (Zg call60 (.cons (.t rfl) .nil) (fun hp w W => c60 _ _ _ _ _ (by exact Wd.cellOld W (by assumption)))) rfl <| .nt rfl <| .z) fun a w S => Zf S (.t rfl) (wp_skip (Za (hK1 _ _ (wp_seq_k fun _ hK1 => wp_seq_k fun _ hK2 => wp_region_lit (run S (.mv rfl <| .xx (Zg call63 (.cons Ev.c (.cons (.t rfl) .nil)) (fun hp w W => c63 _ _ _ _ (by exact .old W (by assumption)))) rfl <| .z) fun a w S => ?_))))))
   rw [rw_4] at S
   refine run S (.nt rfl <| .z) fun a w S => Zb (Za (hK2 _ _ (Zf S (.t rfl) (wp_skip (Za (hK1 _ _ (wp_seq_k fun _ hK1 => wp_region_lit (Zi (op_makeMap kv146 vv146 S rfl fun g1 a w S => run S (.as rfl <| .z) fun a w S => Zb (Za (hK1 _ _ (wp_seq_k fun _ hK1 => sg S (.mv rfl <| .ln underlying22 rfl <| .mc rfl <| .z) fun a w S => wp_block ?_))))))))))))
   refine Yg S [6, 7, 31] (X := Nat × Obj) (fun q => [(6, true, .slice none 0 0), (7, true, .int .i64 0), (31, true, .int .i64 (q.1 : Int))]) (fun q => [.blk g1 q.2]) (fun q => q.1 ≤ sums.length ∧ namesOk (sums.take q.1) = true ∧ MapC q.2 (setsT [] (sums.take q.1))) (fun q => sums.length - q.1) (0, _) ⟨Nat.zero_le _, rfl, mapC_nil⟩ ?_
   clear S
   rintro ⟨q, o⟩ a w ⟨hq, hno, hC⟩ S
   dsimp only at hq hno hC S
   by_cases hlt : q < sums.length
   · obtain ⟨g2, o2, x, rfl, hx, hd, hc⟩ := Zv hA2 hlt
     have hkl := hs.key x (List.mem_of_getElem? hx)
     cases hnx : nameB x.key with
     | false =>
       have rw_n := hnx
       have e : missA T sums places = ([], 6) := by unfold missA; rw [if_pos hok, names_no (List.mem_of_getElem? hx) hnx]; rfl
       refine sg S (.lt (by omega) rfl rfl <| .z) fun a w S => wp_seq_k fun _ hK2 => Zd S (.t rfl) (wp_skip (Za (hK2 _ _ (wp_seq_k fun _ hK2 => wp_block (wp_seq_k fun _ hK3 => wp_region_lit (run S (.ix underlying22 sizeOf77 (by omega) rfl rfl <| .yy (Ye ⟨isAgg77, sizeOf77⟩ (.t rfl) (vs := [_, _, _]) rfl (fun _ => hc)) rfl <| .z) fun a w S => Zi (Zt S zeroValue77 (cs := _) rfl rfl fun g3 a w S => Zi (Ya S sizeOf77 (.t rfl) (.t rfl) (k := 0) rfl rfl rfl (by simp [Value.oneCell']) fun a w S => Zb (Za (hK3 _ _ (wp_seq_k fun _ hK3 => wp_seq_k fun _ hK4 => wp_region_lit (run S (.fa underlying77 sizeOf9 1 rfl rfl rfl <| .ld gt9 0 rfl rfl rfl <| .xx (Zg call87 (.cons (.t rfl) .nil) (fun hp w W => c87 _ _ (by assumption))) rfl <| .z) fun a w S => ?_))))))))))))
       rw [rw_n] at S
       refine run S (.nt rfl <| .z) fun a w S => Zb (Za (hK4 _ _ (Zd S (.t rfl) (sg S (.ac rfl <| .ac rfl <| .z) fun a w S => wp_ret (Zh (Yq (Zh (Zh (Yq (Zh ?_))))))))))
       refine jump_ret ?_
       refine Zk S (results2 S results71 (Rv.tmp rfl) (Rv.tmp rfl)) ?_
       rw [e]
       exact ⟨_, _, rfl, (S.nil_ 9 1 encS' none).wd.pk, none, 0, rfl, rfl⟩
     | true =>
       have rw_n := hnx
       have hst := names_step hx
       rw [hno, hnx] at hst
       have hT0 := sets_take hs q
       have hsn := sets_step (T := []) hx
       have hsk : setK x.key x.hash (setsT [] (sums.take q)) = setT x.key x.hash (setsT [] (sums.take q)) := by unfold setK; rw [if_pos hnx]
       rw [hsk] at hsn
       refine sg S (.lt (by omega) rfl rfl <| .z) fun a w S => wp_seq_k fun _ hK2 => Zd S (.t rfl) (wp_skip (Za (hK2 _ _ (wp_seq_k fun _ hK2 => wp_block (wp_seq_k fun _ hK3 => wp_region_lit (run S (.ix underlying22 sizeOf77 (by omega) rfl rfl <| .yy (Ye ⟨isAgg77, sizeOf77⟩ (.t rfl) (vs := [_, _, _]) rfl (fun _ => hc)) rfl <| .z) fun a w S => Zi (Zt S zeroValue77 (cs := _) rfl rfl fun g3 a w S => Zi (Ya S sizeOf77 (.t rfl) (.t rfl) (k := 0) rfl rfl rfl (by simp [Value.oneCell']) fun a w S => Zb (Za (hK3 _ _ (wp_seq_k fun _ hK3 => wp_seq_k fun _ hK4 => wp_region_lit (run S (.fa underlying77 sizeOf9 1 rfl rfl rfl <| .ld gt9 0 rfl rfl rfl <| .xx (Zg call87 (.cons (.t rfl) .nil) (fun hp w W => c87 _ _ (by assumption))) rfl <| .z) fun a w S => ?_))))))))))))
       rw [rw_n] at S
       refine run S (.nt rfl <| .z) fun a w S => Zb (Za (hK4 _ _ (Zf S (.t rfl) (wp_skip (Za (hK3 _ _ (wp_region_lit (run S (.mv rfl <| .fa underlying77 sizeOf9 1 rfl rfl rfl <| .ld gt9 0 rfl rfl rfl <| .fa underlying77 sizeOf60 2 rfl rfl rfl <| .ld gt60 0 rfl rfl rfl <| .z) fun a w S => Zi (op_updS (setsT [] (sums.take (q + 1))) S smT146 (.t rfl) (.t rfl) (.t rfl) (j := 1) rfl hC (fun y => by rw [hsn]; exact Xw hT0.sorted) ?_)))))))))
       clear S
       rintro o' hC' a w S
       refine Zb (Zj (Za (hK2 _ _ (wp_region_lit (run S (.ad (by unfold I64; omega) rfl <| .mv rfl <| .z) fun a w S => Zb (Za ?_))))))
       exact ⟨(q + 1, o'), ⟨by dsimp only; omega, hst, hC'⟩, by dsimp only; omega, S.pk⟩
   obtain rfl : q = sums.length := by omega
   rw [List.take_length] at hno hC
   have e : missA T sums places = (missT T sums places, 0) := by unfold missA; rw [if_pos hok, if_pos hno]
   have hU := hs.ok
   have hmem := fun k => miss_mem (T := T) (sums := sums) (places := places) (k := k) hT hs.hash hno
   have hsort := miss_sorted (T := T) (sums := sums) (places := places) hT hs.hash
   have hmt := miss_len T sums places
   generalize setsT [] sums = U at *
   generalize missT T sums places = F at *
   refine sg S (.ge (by omega) rfl rfl <| .z) fun a w S => wp_seq_k fun _ hK2 => Zf S (.t rfl) (wp_exit (Zc (Zc (Zs (Za (hK1 _ _ (wp_seq_k fun _ hK1 => wp_region_lit (Zi (op_makeMap kv154 vv154 S rfl fun g2 a w S => run S (.as rfl <| .z) fun a w S => Zb (Za (hK1 _ _ (wp_seq_k fun _ hK1 => sg S (.mv rfl <| .ln underlying82 rfl <| .mc rfl <| .z) fun a w S => wp_block ?_))))))))))))
   have hag := h.row
   obtain ⟨A3, cap3, e3, hl3, hcap3, hA3⟩ := hag
   cases e3
   refine Yg S [48] (X := Nat × Obj × List KH) (fun q => [(48, true, .int .i64 (q.1 : Int))]) (fun q => [.blk g2 q.2.1, .blk g1 o]) (fun q => q.1 ≤ places.length ∧ MapV (fun _ => .agg #[]) q.2.1 q.2.2 ∧ Keys0 q.2.2 fun k => ∃ p ∈ places.take q.1, p = (placeK k : Int) ∧ ∃ h, (k, h) ∈ T ∧ getT U k ≠ some h) (fun q => places.length - q.1) (0, _, []) ⟨Nat.zero_le _, mapV_nil, keys0_nil fun k hk => by obtain ⟨p, hp, _⟩ := hk; simp at hp⟩ ?_
   clear S
   rintro ⟨q, mo, f⟩ a w ⟨hq, hM, hf⟩ S
   dsimp only at hq hM hf S
   by_cases hqt : q < places.length
   · obtain ⟨g5, o5, y, rfl, hy, hdy, hcy⟩ := Zv hA1 hqt
     have hyb := okP_mem hok (List.mem_of_getElem? hy)
     obtain ⟨i, rfl⟩ : ∃ i : Nat, y = (i : Int) := ⟨y.toNat, by omega⟩
     have hi : i < 16 := by have h5 := hyb.2; have h6 : (2 : Int) ^ (4 : Int).toNat = 16 := by decide
                            rw [h6] at h5; omega
     obtain ⟨gr, o_, b, rfl, hb, hd2, hcx⟩ := Zv hA3 (show i < gs.length by omega)
     obtain ⟨oo, ho, hCp⟩ := h.maps i b hb
     obtain ⟨ml, mc, rfl, mok, mm⟩ := hCp
     have hbl := (Array.getElem?_eq_some_iff.1 ho).1
     refine sg S (.lt (by omega) rfl rfl <| .z) fun a w S => wp_seq_k fun _ hK3 => Zd S (.t rfl) (wp_skip (Za (hK3 _ _ (wp_seq_k fun _ hK3 => wp_block (sg S (.ix underlying82 sizeOf3 (by omega) rfl rfl <| .yy (Zw ⟨isAgg3, sizeOf3⟩ (.t rfl) (fun _ => hcy 0 _ rfl)) rfl <| .as rfl <| .z) fun a w S => wp_seq_k fun _ hK4 => wp_region_lit (run S (.mv rfl <| .yy (Zy (.t rfl)) rfl <| .fa underlying55 sizeOf53 0 rfl rfl rfl <| .fa underlying53 sizeOf51 0 rfl rfl rfl <| .yy (Zw ⟨isAgg51, sizeOf51⟩ (.t rfl) (fun _ => hkeys)) rfl <| .mv rfl <| .ix underlying51 sizeOf146 (by omega) rfl rfl <| .yy (Zw ⟨isAgg146, sizeOf146⟩ (.t rfl) (fun _ => hcx 0 _ rfl)) rfl <| .z) fun a w S => Zi (op_rangeM S underlying146 (.t rfl) ((S.wd.below.block b hbl).trans ho) rfl ?_)))))))
     clear S
     rintro it a w S
     refine Zb (Za (hK4 _ _ (wp_block ?_)))
     refine Yg S [] (X := Array Nat × Obj × List KH) (fun q => []) (fun z => [.blk it (.mapIter (some b) mc z.1 mc), .blk g2 z.2.1, .blk g1 o]) (fun z => z.1.toList.Nodup ∧ (∀ x ∈ z.1, x ∈ ml.map (·.2)) ∧ MapV (fun _ => .agg #[]) z.2.1 z.2.2 ∧ Keys0 z.2.2 fun k => (∃ p ∈ places.take q, p = (placeK k : Int) ∧ ∃ h, (k, h) ∈ T ∧ getT U k ≠ some h) ∨ ∃ e ∈ ml, e.2 ∈ z.1 ∧ e.1.1 = k ∧ getT U k ≠ some e.1.2) (fun z => ml.length - z.1.size) (#[], mo, f) ⟨List.nodup_nil, by simp, hM, Wb hf (fun k => by simp)⟩ ?_
     clear S
     rintro ⟨seen, mo2, f2⟩ a w ⟨hs1, hs2, hM2, hf2⟩ S
     dsimp only at hs1 hs2 hM2 hf2 S
     refine wp_seq_k fun _ hK4 => wp_region_lit ?_
     refine Zi (op_nextM S (.t rfl) (i := 0) rfl ((S.wd.below.block b hbl).trans ho) mok rfl ?_ ?_)
     · intro hall
       clear S
       intro a w S
       refine run S (.ex rfl rfl <| .z) fun a w S => Zb (Za (hK4 _ _ (wp_seq_k fun _ hK4 => Zf S (.t rfl) (wp_exit (Zc (Zc (Zs (Zj (Za (hK3 _ _ (wp_region_lit (run S (.ad (by unfold I64; omega) rfl <| .mv rfl <| .z) fun a w S => Zb (Za ?_)))))))))))))
       refine ⟨(q + 1, mo2, f2), ⟨by dsimp only; omega, hM2, Wb hf2 fun k => ?_⟩, by dsimp only; omega, S.pk⟩
       dsimp only
       rw [List.take_add_one, hy, Option.toList_some]
       constructor
       · rintro ⟨p, hp, rfl, hh, h5, h6⟩
         rcases List.mem_append.1 hp with hp | hp
         · exact .inl ⟨_, hp, rfl, hh, h5, h6⟩
         · rw [List.mem_singleton] at hp
           obtain ⟨e, he, ee⟩ := List.mem_map.1 ((mm (k, hh)).2 (Yz.2 ⟨h5, by dsimp only; omega⟩))
           exact .inr ⟨e, he, hall e he, by rw [ee], by rw [ee]; exact h6⟩
       · rintro (⟨p, hp, h7⟩ | ⟨e, he, _, rfl, h6⟩)
         · exact ⟨p, List.mem_append_left _ hp, h7⟩
         · have h8 := Yz.1 ((mm e.1).1 (List.mem_map.2 ⟨e, he, rfl⟩))
           exact ⟨(i : Int), List.mem_append_right _ (by simp), by rw [h8.2], e.1.2, h8.1, h6⟩
     · intro e he hns
       clear S
       intro a w S
       obtain ⟨hsz, hsn, hsm⟩ := seen_room hs1 hs2 he hns
       refine run S (.ex rfl rfl <| .z) fun a w S => Zb (Za (hK4 _ _ (wp_seq_k fun _ hK4 => Zd S (.t rfl) (wp_skip (Za (hK4 _ _ (wp_block (wp_seq_k fun _ hK4 => wp_region_lit (Xy S (Yr.ys (ys_entryM (.t rfl) (i := 0) rfl (fun w' W' => (W'.below.block b hbl).trans ho) mok he)) rfl ?_)))))))))
       clear S a w
       intro a w S
       refine run S (.ex rfl rfl <| .ex rfl rfl <| .as rfl <| .as rfl <| .z) fun a w S => Zb (Za (hK4 _ _ (wp_seq_k fun _ hK4 => wp_region_lit (run S (.mv rfl <| .mv rfl <| .z) fun a w S => ?_))))
       cases hgk : getT U e.1.1 with
       | none =>
         refine Xy S (Yr.ys (ys_lookS (r := none) smT146 (.t rfl) (.t rfl) (j := 2) rfl hC (getT_none hgk))) rfl ?_
         clear S a w
         intro a w S
         simp only [Option.isSome_none, Option.getD_none] at S
         refine run S (.mv rfl <| .ex rfl rfl <| .ex rfl rfl <| .as rfl <| .as rfl <| .z) fun a w S => Zb (Za (hK4 _ _ (sg S (.mv rfl <| .nt rfl <| .mv rfl <| .sk rfl rfl rfl <| .sk rfl rfl rfl <| .sk rfl rfl rfl <| .yy (Zr (.t rfl) Ev.c) rfl <| .z) fun a w S => Zd S (.t rfl) (wp_region_lit (run S (.mv rfl <| .mv rfl <| .yy (Yj (ps := []) (us := []) bld155 .nil rfl) rfl <| .z) fun a w S => Zi (op_updS (insU e.1.1 f2) S smU (.t rfl) (.t rfl) (.t rfl) (j := 1) rfl hM2 insU_mem ?_))))))
         clear S
         rintro mo3 hM3 a w S
         refine Zb (Zj (Za ?_))
         exact ⟨(seen.push e.2, mo3, insU e.1.1 f2), ⟨hsn, hsm, hM3, keys0_ins hf2 (pred_add (B := fun k e' => getT U k ≠ some e'.1.2) mok.born he (by rw [hgk]; simp))⟩, by dsimp only; rw [Array.size_push]; omega, S.pk⟩
       | some v =>
         refine Xy S (Yr.ys (ys_lookS (r := some v) smT146 (.t rfl) (.t rfl) (j := 2) rfl hC (getT_some hgk))) rfl ?_
         clear S a w
         intro a w S
         simp only [Option.isSome_some, Option.getD_some] at S
         by_cases hv : v = e.1.2
         · have rw_v : decide (v ≠ e.1.2) = false := decide_eq_false (fun h => h hv)
           refine run S (.mv rfl <| .ex rfl rfl <| .ex rfl rfl <| .as rfl <| .as rfl <| .z) fun a w S => Zb (Za (hK4 _ _ (sg S (.mv rfl <| .nt rfl <| .mv rfl <| .gy rfl rfl (Ze (.t rfl)) <| .gy rfl rfl (Ze (.t rfl)) <| .gy rfl rfl (Yf (by omega) (Zu (.t rfl) (.t rfl))) <| .yy (Zn (.t rfl) (.t rfl)) rfl <| .z) fun a w S => Zf S (.t rfl) (wp_skip (Zj (Za ?_))))))
           exact ⟨(seen.push e.2, mo2, f2), ⟨hsn, hsm, hM2, Wb hf2 (pred_not (B := fun k e' => getT U k ≠ some e'.1.2) mok.born he (by rw [hgk, hv]; simp))⟩, by dsimp only; rw [Array.size_push]; omega, S.pk⟩
         · have rw_v : decide (v ≠ e.1.2) = true := decide_eq_true hv
           refine run S (.mv rfl <| .ex rfl rfl <| .ex rfl rfl <| .as rfl <| .as rfl <| .z) fun a w S => Zb (Za (hK4 _ _ (sg S (.mv rfl <| .nt rfl <| .mv rfl <| .gy rfl rfl (Ze (.t rfl)) <| .gy rfl rfl (Ze (.t rfl)) <| .gy rfl rfl (Yk (by omega) (Zu (.t rfl) (.t rfl))) <| .yy (Zn (.t rfl) (.t rfl)) rfl <| .z) fun a w S => Zd S (.t rfl) (wp_region_lit (run S (.mv rfl <| .mv rfl <| .yy (Yj (ps := []) (us := []) bld155 .nil rfl) rfl <| .z) fun a w S => Zi (op_updS (insU e.1.1 f2) S smU (.t rfl) (.t rfl) (.t rfl) (j := 1) rfl hM2 insU_mem ?_))))))
           clear S
           rintro mo3 hM3 a w S
           refine Zb (Zj (Za ?_))
           exact ⟨(seen.push e.2, mo3, insU e.1.1 f2), ⟨hsn, hsm, hM3, keys0_ins hf2 (pred_add (B := fun k e' => getT U k ≠ some e'.1.2) mok.born he (by rw [hgk]; simpa using hv))⟩, by dsimp only; rw [Array.size_push]; omega, S.pk⟩
   obtain rfl : q = places.length := by omega
   rw [List.take_length] at hf
   obtain ⟨ul, uc, rfl, uok, um⟩ := hC
   refine sg S (.ge (by omega) rfl rfl <| .z) fun a w S => wp_seq_k fun _ hK3 => Zf S (.t rfl) (wp_exit (Zc (Zc (Zs (Za (hK1 _ _ (wp_seq_k fun _ hK1 => wp_label (Za (hK1 _ _ (wp_seq_k fun _ hK1 => wp_seq_k fun _ hK4 => wp_region_lit (run S (.mv rfl <| .z) fun a w S => Zi (op_rangeM S underlying146 (.t rfl) ((S.wd.get (k := 1) rfl).2) rfl ?_))))))))))))
   clear S
   rintro it a w S
   refine Zb (Za (hK4 _ _ (wp_block ?_)))
   refine Yg S [] (X := Array Nat × Obj × List KH) (fun q => []) (fun z => [.blk it (.mapIter (some g1) uc z.1 uc), .blk g2 z.2.1, .blk g1 (smO (fun x => .int .u64 x) ul uc)]) (fun z => z.1.toList.Nodup ∧ (∀ x ∈ z.1, x ∈ ul.map (·.2)) ∧ MapV (fun _ => .agg #[]) z.2.1 z.2.2 ∧ Keys0 z.2.2 fun k => (∃ p ∈ places, p = (placeK k : Int) ∧ ∃ h, (k, h) ∈ T ∧ getT U k ≠ some h) ∨ ∃ e ∈ ul, e.2 ∈ z.1 ∧ e.1.1 = k ∧ ((placeK k : Int) ∈ places ∧ getT T k = none)) (fun z => ul.length - z.1.size) (#[], mo, f) ⟨List.nodup_nil, by simp, hM, Wb hf (fun k => by simp)⟩ ?_
   clear S
   rintro ⟨seen, mo2, f2⟩ a w ⟨hs1, hs2, hM2, hf2⟩ S
   dsimp only at hs1 hs2 hM2 hf2 S
   refine wp_seq_k fun _ hK4 => wp_region_lit ?_
   refine Zi (op_nextM S (.t rfl) (i := 0) rfl ((S.wd.get (k := 2) rfl).2) uok rfl ?_ ?_)
   · intro hall
     clear S
     intro a w S
     have hF : Keys0 f2 fun k => k ∈ F := Wb hf2 fun k => by
       rw [hmem]
       constructor
       · rintro ⟨h1, ⟨h, h2, h3⟩ | ⟨⟨u, hu⟩, h3⟩⟩
         · exact .inl ⟨_, h1, rfl, h, h2, h3⟩
         · obtain ⟨e, he, ee⟩ := List.mem_map.1 ((um (k, u)).2 hu)
           refine .inr ⟨e, he, hall e he, by rw [ee], h1, ?_⟩
           cases hg : getT T k with
           | none => rfl
           | some v => exact absurd (getT_some hg) (h3 v)
       · rintro (⟨p, hp, rfl, h⟩ | ⟨e, he, _, rfl, h1, h2⟩)
         · exact ⟨hp, .inl h⟩
         · exact ⟨h1, .inr ⟨⟨e.1.2, (um _).1 (List.mem_map.2 ⟨e, he, rfl⟩)⟩, fun h hh => getT_none h2 _ hh rfl⟩⟩
     have hMF : MapV (fun _ => .agg #[]) mo2 (F.map fun k => ((k, 0) : KH)) := mapC_congr hM2 fun x => by
       rw [hF x, List.mem_map]
       constructor
       · rintro ⟨h1, h2⟩
         exact ⟨x.1, h2, by rw [← h1]⟩
       · rintro ⟨k, hk, rfl⟩
         exact ⟨rfl, hk⟩
     have hlen : ∀ x ∈ F.map (fun k => ((k, 0) : KH)), x.1.length ≤ 1048576 := fun x hx => by
       obtain ⟨k, hk, rfl⟩ := List.mem_map.1 hx
       show k.length ≤ 1048576
       rcases (hmem k).1 hk with ⟨_, ⟨h, h2, _⟩ | ⟨⟨u, hu⟩, _⟩⟩
       · have := name_len (hT.name (k, h) h2); dsimp only at this; omega
       · have := name_len (hU.name (k, u) hu); dsimp only at this; omega
     have e5 : (F.map fun k => ((k, 0) : KH)).map (·.1) = F := by rw [List.map_map]; exact (List.map_congr_left fun _ _ => rfl).trans (List.map_id _)
     have e6 : (F.map fun k => ((k, 0) : KH)).length = F.length := List.length_map ..
     refine run S (.ex rfl rfl <| .z) fun a w S => Zb (Za (hK4 _ _ (wp_seq_k fun _ hK4 => Zf S (.t rfl) (wp_exit (Zc (Zc (Zs (Za (hK1 _ _ (wp_seq_k fun _ hK1 => wp_region_lit (run S (.mv rfl <| .z) fun a w S => ?_)))))))))))
     (refine Zi (Zq S call100 (.cons (.t rfl) .nil) (c100 _ _) rfl ?_); clear S a w; rintro _ _ ⟨g3, rfl, rfl⟩ a w S)
     refine Zi (op_callO S call99 (.cons (.t rfl) .nil) (sortedU S.wd ((S.wd.get (k := 2) rfl).2) hMF hsort hlen (by rw [e6]; omega)) rfl ?_)
     clear S
     rintro _ _ ⟨B, c, rfl, rfl⟩ a w S
     rw [e5, e6] at S
     refine run S (.as rfl <| .ac rfl <| .z) fun a w S => Zb (Za (hK1 _ _ (wp_ret ?_)))
     refine jump_ret ?_
     refine Zk S (results2 S results71 (Rv.tmp rfl) (Rv.tmp rfl)) ?_
     rw [e]
     exact ⟨_, _, rfl, S.wd.pk, _, _, rfl, rfl⟩
   · intro e he hns
     clear S
     intro a w S
     obtain ⟨hsz, hsn, hsm⟩ := seen_room hs1 hs2 he hns
     have hkl := name_len (hU.name e.1 ((um _).1 (List.mem_map.2 ⟨e, he, rfl⟩)))
     have hpk := placeK_lt e.1.1
     obtain ⟨pk, rw_pk⟩ : ∃ y, placeK e.1.1 = y := ⟨_, rfl⟩
     rw [rw_pk] at hpk
     refine run S (.ex rfl rfl <| .z) fun a w S => Zb (Za (hK4 _ _ (wp_seq_k fun _ hK4 => Zd S (.t rfl) (wp_skip (Za (hK4 _ _ (wp_block (wp_seq_k fun _ hK4 => wp_region_lit (Xy S (Yr.ys (ys_entryM (.t rfl) (i := 0) rfl (fun w' W' => (W'.get (k := 2) rfl).2) uok he)) rfl ?_)))))))))
     clear S a w
     intro a w S
     by_cases hin : (pk : Int) ∈ places
     · have rw_i := decide_eq_true hin
       obtain ⟨gr, o_, b, rfl, hb, hd2, hcx⟩ := Zv hA3 (show pk < gs.length by omega)
       obtain ⟨oo, ho, hCp⟩ := h.maps _ b hb
       refine run S (.ex rfl rfl <| .as rfl <| .z) fun a w S => Zb (Za (hK4 _ _ (wp_seq_k fun _ hK4 => wp_region_lit (run S (.mv rfl <| .xx (Zg call88 (.cons (.t rfl) .nil) (fun hp w W => c88 _ _ (by omega))) rfl <| .z) fun a w S => ?_))))
       simp only [List.nil_append] at S
       rw [rw_pk] at S
       refine run S (.as rfl <| .z) fun a w S => Zb (Za (hK4 _ _ (wp_seq_k fun _ hK4 => wp_seq_k fun _ hK5 => wp_region_lit (run S (.mv rfl <| .mv rfl <| .xx (Zg call98 (.cons (.t rfl) (.cons (.t rfl) .nil)) (fun hp w W => c98 _ _ _ _ (by exact .old W (by assumption)))) rfl <| .z) fun a w S => ?_))))
       rw [rw_i] at S
       refine run S (.nt rfl <| .z) fun a w S => Zb (Za (hK5 _ _ (Zf S (.t rfl) (wp_skip (Za (hK4 _ _ (wp_seq_k fun _ hK4 => wp_region_lit (run S (.mv rfl <| .yy (Zy (.t rfl)) rfl <| .fa underlying55 sizeOf53 0 rfl rfl rfl <| .fa underlying53 sizeOf51 0 rfl rfl rfl <| .yy (Zw ⟨isAgg51, sizeOf51⟩ (.t rfl) (fun _ => hkeys)) rfl <| .mv rfl <| .ix underlying51 sizeOf146 (by omega) rfl rfl <| .yy (Zw ⟨isAgg146, sizeOf146⟩ (.t rfl) (fun _ => hcx 0 _ rfl)) rfl <| .mv rfl <| .z) fun a w S => ?_))))))))
       cases hgk : getT T e.1.1 with
       | none =>
         refine Xy S (Yr.ys (ys_lookSOk (r := none) smT146 (.t rfl) (.t rfl) ho hCp (fun x hx => getT_none hgk x (Yz.1 hx).1))) rfl ?_
         clear S a w
         intro a w S
         simp only [Option.isSome_none, Option.getD_none] at S
         refine run S (.mv rfl <| .ex rfl rfl <| .ex rfl rfl <| .as rfl <| .as rfl <| .z) fun a w S => Zb (Za (hK4 _ _ (sg S (.mv rfl <| .nt rfl <| .z) fun a w S => Zd S (.t rfl) (wp_region_lit (run S (.mv rfl <| .mv rfl <| .yy (Yj (ps := []) (us := []) bld155 .nil rfl) rfl <| .z) fun a w S => Zi (op_updS (insU e.1.1 f2) S smU (.t rfl) (.t rfl) (.t rfl) (j := 1) rfl hM2 insU_mem ?_))))))
         clear S
         rintro mo3 hM3 a w S
         refine Zb (Zj (Za ?_))
         exact ⟨(seen.push e.2, mo3, insU e.1.1 f2), ⟨hsn, hsm, hM3, keys0_ins hf2 (pred_add (B := fun k e' => (placeK k : Int) ∈ places ∧ getT T k = none) uok.born he ⟨by rw [rw_pk]; exact hin, hgk⟩)⟩, by dsimp only; rw [Array.size_push]; omega, S.pk⟩
       | some v =>
         refine Xy S (Yr.ys (ys_lookSOk (r := some v) smT146 (.t rfl) (.t rfl) ho hCp (Yz.2 ⟨getT_some hgk, rw_pk⟩))) rfl ?_
         clear S a w
         intro a w S
         simp only [Option.isSome_some, Option.getD_some] at S
         refine run S (.mv rfl <| .ex rfl rfl <| .ex rfl rfl <| .as rfl <| .as rfl <| .z) fun a w S => Zb (Za (hK4 _ _ (sg S (.mv rfl <| .nt rfl <| .z) fun a w S => Zf S (.t rfl) (wp_skip (Zj (Za ?_))))))
         exact ⟨(seen.push e.2, mo2, f2), ⟨hsn, hsm, hM2, Wb hf2 (pred_not (B := fun k e' => (placeK k : Int) ∈ places ∧ getT T k = none) uok.born he (fun h => by rw [hgk] at h; cases h.2))⟩, by dsimp only; rw [Array.size_push]; omega, S.pk⟩
     · have rw_i := decide_eq_false hin
       refine run S (.ex rfl rfl <| .as rfl <| .z) fun a w S => Zb (Za (hK4 _ _ (wp_seq_k fun _ hK4 => wp_region_lit (run S (.mv rfl <| .xx (Zg call88 (.cons (.t rfl) .nil) (fun hp w W => c88 _ _ (by omega))) rfl <| .z) fun a w S => ?_))))
       simp only [List.nil_append] at S
       rw [rw_pk] at S
       refine run S (.as rfl <| .z) fun a w S => Zb (Za (hK4 _ _ (wp_seq_k fun _ hK4 => wp_seq_k fun _ hK5 => wp_region_lit (run S (.mv rfl <| .mv rfl <| .xx (Zg call98 (.cons (.t rfl) (.cons (.t rfl) .nil)) (fun hp w W => c98 _ _ _ _ (by exact .old W (by assumption)))) rfl <| .z) fun a w S => ?_))))
       rw [rw_i] at S
       refine run S (.nt rfl <| .z) fun a w S => Zb (Za (hK5 _ _ (Zd S (.t rfl) (wp_exit (Zc (Zs (Za ?_)))))))
       exact ⟨(seen.push e.2, mo2, f2), ⟨hsn, hsm, hM2, Wb hf2 (pred_not (B := fun k e' => (placeK k : Int) ∈ places ∧ getT T k = none) uok.born he (fun h => hin (by rw [← rw_pk]; exact h.1)))⟩, by dsimp only; rw [Array.size_push]; omega, S.pk⟩
end Go.Proofs.YtbijdmfilmecbaaGreat
namespace Go.Fw
open Go.RowKit
theorem unlikeA_ok {T : List KH} {n : Int} {sums : List Sm} (h : okP n 4 (sums.map (·.place)) = true) : unlikeA T n sums = (unlikeT T n sums, 0) := if_pos h
theorem unlikeA_no {T : List KH} {n : Int} {sums : List Sm} (h : ¬ okP n 4 (sums.map (·.place)) = true) : unlikeA T n sums = ([], 80) := if_neg h
end Go.Fw
namespace Go.Proofs.YtbijdmfilmecbaaGreat
open Go.Fw Go.Proofs Go.RowKit Go.Proofs.Tryz
theorem c39 (w0 : World) (self : Int) (m : MV) (g cap : Nat) (A : Option Addr) (gs : List Nat) (T : List KH) (sums : List Sm) (h : TreeAt w0 g A cap gs T) (hT : KhOk T) (hl : T.length ≤ 1048576) (h2 : Sl Sm.enc 3 w0 w0.heap.size (.slice m.su.a m.su.n m.su.c) sums) (hs : Sums sums) :
   Rets Tryz.prog 39 #[.agg (XV.enc self g m).toArray] w0 fun u L => ∃ C cC B cB, u = .slice C (ansV self m ⟨[], downT T m.nn sums⟩ B cB).length cC ∧ L = [rowOf 35 17 MV.enc C cC (ansV self m ⟨[], downT T m.nn sums⟩ B cB), rowOf 77 3 Sm.enc B cB (Ans.sums ⟨[], downT T m.nn sums⟩)] := by
 have hsl := hs.len
 have hsl4 : sums.length ≤ 4194304 := by omega
 by_cases hok : okP m.nn 4 (sums.map (·.place)) = true
 rotate_left
 · have hu := unlikeA_no (T := T) hok
   have hd : downT T m.nn sums = none := if_neg fun e => hok e.1
   have rw_1 : (unlikeA T m.nn sums).1 = [] := by rw [hu]
   have rw_2 : (unlikeA T m.nn sums).2 = 80 := by rw [hu]
   rw [hd]
   unfold Go.Fw.Rets
   refine enter1 func39 rfl ntmps39 rfl fun a S => wp_seq_k fun _ hK1 => wp_region_lit (Zi (Ym S (.t rfl) rfl fun g1 a w S => run S (.ac rfl <| .z) fun a w S => Zb (Za (hK1 _ _ (wp_seq_k fun _ hK1 => wp_region_lit (run S (.fa underlying91 sizeOf36 1 rfl rfl rfl <| .ld gt36 0 rfl rfl rfl <| .fa underlying91 sizeOf35 2 rfl rfl rfl <| .fa underlying35 sizeOf3 12 rfl rfl rfl <| .ld gt3 0 rfl rfl rfl <| .fa underlying91 sizeOf35 2 rfl rfl rfl <| .fa underlying35 sizeOf22 18 rfl rfl rfl <| .ld gt22 0 rfl rfl rfl <| .z) fun a w S => ?_))))))
   (refine Zi (Zq S call67 (.cons (.t rfl) (.cons (.t rfl) (.cons (.t rfl) .nil))) (c67 _ _ _ _ _ _ _ _ _ (by exact .old S.wd (by assumption)) (by assumption) (by omega) (by exact .old S.wd (by assumption)) (by assumption)) rfl ?_); clear S a w; rintro _ _ ⟨B1, c1, rfl, rfl⟩ a w S)
   rw [rw_1] at S
   rw [rw_2] at S
   refine run S (.mv rfl <| .ex rfl rfl <| .ex rfl rfl <| .as rfl <| .as rfl <| .z) fun a w S => Zb (Za (hK1 _ _ (wp_seq_k fun _ hK1 => sg S (.mv rfl <| .yy (Yk (by omega) (Zu (.t rfl) Ev.c)) rfl <| .mv rfl <| .sk rfl rfl rfl <| .sk rfl rfl rfl <| .sk rfl rfl rfl <| .yy (Zr (.t rfl) Ev.c) rfl <| .z) fun a w S => Zd S (.t rfl) (sg S (.ac rfl <| .z) fun a w S => wp_ret (Zh (Zk S (results1 S results39 (Rv.tmp rfl)) ?_))))))
   replace S := (S.nil_ 77 3 Sm.enc none).nil_ 35 17 MV.enc none
   exact ⟨_, _, rfl, S.wd.pk, none, 0, none, 0, rfl, rfl⟩
 have hu := unlikeA_ok (T := T) hok
 have hul := unlike_len T m.nn sums
 have hou := okP_unlike (T := T) hok
 by_cases hne : unlikeT T m.nn sums = []
 · have hd : downT T m.nn sums = none := if_neg fun e => e.2 hne
   have rw_1 : (unlikeA T m.nn sums).1 = [] := by rw [hu, hne]
   have rw_2 : (unlikeA T m.nn sums).2 = 0 := by rw [hu]
   rw [hd]
   unfold Go.Fw.Rets
   refine enter1 func39 rfl ntmps39 rfl fun a S => wp_seq_k fun _ hK1 => wp_region_lit (Zi (Ym S (.t rfl) rfl fun g1 a w S => run S (.ac rfl <| .z) fun a w S => Zb (Za (hK1 _ _ (wp_seq_k fun _ hK1 => wp_region_lit (run S (.fa underlying91 sizeOf36 1 rfl rfl rfl <| .ld gt36 0 rfl rfl rfl <| .fa underlying91 sizeOf35 2 rfl rfl rfl <| .fa underlying35 sizeOf3 12 rfl rfl rfl <| .ld gt3 0 rfl rfl rfl <| .fa underlying91 sizeOf35 2 rfl rfl rfl <| .fa underlying35 sizeOf22 18 rfl rfl rfl <| .ld gt22 0 rfl rfl rfl <| .z) fun a w S => ?_))))))
   (refine Zi (Zq S call67 (.cons (.t rfl) (.cons (.t rfl) (.cons (.t rfl) .nil))) (c67 _ _ _ _ _ _ _ _ _ (by exact .old S.wd (by assumption)) (by assumption) (by omega) (by exact .old S.wd (by assumption)) (by assumption)) rfl ?_); clear S a w; rintro _ _ ⟨B1, c1, rfl, rfl⟩ a w S)
   rw [rw_1] at S
   rw [rw_2] at S
   refine run S (.mv rfl <| .ex rfl rfl <| .ex rfl rfl <| .as rfl <| .as rfl <| .z) fun a w S => Zb (Za (hK1 _ _ (wp_seq_k fun _ hK1 => sg S (.mv rfl <| .yy (Yf (by omega) (Zu (.t rfl) Ev.c)) rfl <| .mv rfl <| .gy rfl rfl (Ze (.t rfl)) <| .gy rfl rfl (Xc underlying82 (.t rfl)) <| .gy rfl rfl (Yi (.t rfl) Ev.c) <| .yy (Zn (.t rfl) (.t rfl)) rfl <| .z) fun a w S => Zd S (.t rfl) (sg S (.ac rfl <| .z) fun a w S => wp_ret (Zh (Zk S (results1 S results39 (Rv.tmp rfl)) ?_))))))
   replace S := (S.nil_ 77 3 Sm.enc none).nil_ 35 17 MV.enc none
   exact ⟨_, _, rfl, S.wd.pk, none, 0, none, 0, rfl, rfl⟩
 obtain ⟨u, hu0⟩ : ∃ u, unlikeT T m.nn sums = u := ⟨_, rfl⟩
 rw [hu0] at hu hul hou hne
 have rw_1 : (unlikeA T m.nn sums).1 = u := by rw [hu]
 have rw_2 : (unlikeA T m.nn sums).2 = 0 := by rw [hu]
 have hul0 : u.length ≠ 0 := fun e => hne (List.eq_nil_of_length_eq_zero e)
 have rw_0 : decide ((u.length : Int) = 0) = false := decide_eq_false (by omega)
 by_cases h4 : m.nn = 4
 · have hd : downT T m.nn sums = some (5, leavesT T u) := by
     unfold downT
     rw [if_pos ⟨hok, by rw [hu0]; exact hne⟩, if_pos h4, hu0]
   have rw_4 := decide_eq_true h4
   rw [hd]
   have hou4 : okP 4 4 u = true := by have := hou; rw [h4] at this; exact this
   unfold Go.Fw.Rets
   refine enter1 func39 rfl ntmps39 rfl fun a S => wp_seq_k fun _ hK1 => wp_region_lit (Zi (Ym S (.t rfl) rfl fun g1 a w S => run S (.ac rfl <| .z) fun a w S => Zb (Za (hK1 _ _ (wp_seq_k fun _ hK1 => wp_region_lit (run S (.fa underlying91 sizeOf36 1 rfl rfl rfl <| .ld gt36 0 rfl rfl rfl <| .fa underlying91 sizeOf35 2 rfl rfl rfl <| .fa underlying35 sizeOf3 12 rfl rfl rfl <| .ld gt3 0 rfl rfl rfl <| .fa underlying91 sizeOf35 2 rfl rfl rfl <| .fa underlying35 sizeOf22 18 rfl rfl rfl <| .ld gt22 0 rfl rfl rfl <| .z) fun a w S => ?_))))))
   (refine Zi (Zq S call67 (.cons (.t rfl) (.cons (.t rfl) (.cons (.t rfl) .nil))) (c67 _ _ _ _ _ _ _ _ _ (by exact .old S.wd (by assumption)) (by assumption) (by omega) (by exact .old S.wd (by assumption)) (by assumption)) rfl ?_); clear S a w; rintro _ _ ⟨B1, c1, rfl, rfl⟩ a w S)
   rw [rw_1] at S
   rw [rw_2] at S
   refine run S (.mv rfl <| .ex rfl rfl <| .ex rfl rfl <| .as rfl <| .as rfl <| .z) fun a w S => Zb (Za (hK1 _ _ (wp_seq_k fun _ hK1 => sg S (.mv rfl <| .yy (Yf (by omega) (Zu (.t rfl) Ev.c)) rfl <| .mv rfl <| .gy rfl rfl (Ze (.t rfl)) <| .gy rfl rfl (Xc underlying82 (.t rfl)) <| .gy rfl rfl (Yf (by omega) (Yi (.t rfl) Ev.c)) <| .yy (Zn (.t rfl) (.t rfl)) rfl <| .z) fun a w S => Zf S (.t rfl) (wp_skip (Za (hK1 _ _ (wp_seq_k fun _ hK1 => sg S (.fa underlying91 sizeOf35 2 rfl rfl rfl <| .fa underlying35 sizeOf3 12 rfl rfl rfl <| .ld gt3 1 rfl rfl rfl <| .yy (Yk (by omega) (Yi (.t rfl) Ev.c)) rfl <| .z) fun a w S => Zd S (.t rfl) (sg S (.ac rfl <| .z) fun a w S => wp_seq_k fun _ hK2 => sg S (.mv rfl <| .ln underlying82 rfl <| .mc rfl <| .z) fun a w S => wp_block ?_))))))))
   replace S := S.nil_ 77 3 Sm.enc none
   refine Yg S [5, 38] (X := Nat × Option Addr × Nat) (fun q => [(5, true, .slice q.2.1 (leavesT T (u.take q.1)).length q.2.2), (38, true, .int .i64 (q.1 : Int))])
     (fun q => [rowOf 77 3 Sm.enc q.2.1 q.2.2 (leavesT T (u.take q.1)), rowOf 3 1 encI B1 c1 u, .blk g1 (.cells (XV.enc self g m).toArray 91)]) (fun q => q.1 ≤ u.length) (fun q => u.length - q.1) (0, none, 0) (Nat.zero_le _) ?_
   clear S
   rintro ⟨q, B, cB⟩ a w hq S
   dsimp only at hq S
   by_cases hlt : q < u.length
   · obtain ⟨gU, rfl⟩ := S.wd.row_at (k := 1) rfl (by have := (S.wd.room (k := 1) rfl).1; omega)
     obtain ⟨p, hp⟩ : ∃ p, u[q]? = some p := ⟨_, List.getElem?_eq_getElem hlt⟩
     have hst := leaves_snoc (T := T) hp
     have hll := leaves_len T (u.take q)
     rw [List.length_take, Nat.min_eq_left (Nat.le_of_lt hlt)] at hll
     have hl2 : (leavesT T (u.take q)).length ≤ 1048576 * 1048577 := Nat.le_trans hll (Nat.mul_le_mul (by omega) (by omega))
     have hka : keysA T [p] = (keysT T [p], 0) := if_pos (okP_one hou4 (List.mem_of_getElem? hp))
     have hkn := Wf T p
     generalize leavesT T (u.take q) = G at *
     generalize hks : keysT T [p] = ks at *
     have rw_k1 : (keysA T [p]).1 = ks := by rw [hka]
     have rw_k2 : (keysA T [p]).2 = 0 := by rw [hka]
     refine sg S (.lt (by omega) rfl rfl <| .z) fun a w S => wp_seq_k fun _ hK3 => Zd S (.t rfl) (wp_skip (Za (hK3 _ _ (wp_seq_k fun _ hK3 => wp_block (sg S (.ix underlying82 sizeOf3 (by omega) rfl rfl <| .yy (ys_ldW0 ⟨isAgg3, sizeOf3⟩ (.t rfl) (k := 1) rfl hp (fun _ => rfl) rfl) rfl <| .as rfl <| .z) fun a w S => wp_seq_k fun _ hK4 => wp_region_lit (run S (.fa underlying91 sizeOf36 1 rfl rfl rfl <| .ld gt36 2 rfl rfl rfl <| .mv rfl <| .z) fun a w S => Zi (Zp S underlying82 inf3 rfl rfl rfl (.t rfl) rfl rfl rfl fun g2 a w S => ?_)))))))
     (refine Zi (Zq S call68 (.cons (.t rfl) (.cons (.t rfl) .nil)) (c68 _ _ _ _ _ _ _ _ (by exact .old S.wd (by assumption)) (by assumption) (by assumption) (by exact sl_i1 S.wd (k := 0) rfl) (by (simp; done))) rfl ?_); clear S a w; rintro _ _ ⟨B1, c2, rfl, rfl⟩ a w S)
     rw [rw_k1] at S
     rw [rw_k2] at S
     refine run S (.mv rfl <| .ex rfl rfl <| .ex rfl rfl <| .as rfl <| .as rfl <| .z) fun a w S => Zb (Za (hK4 _ _ (wp_seq_k fun _ hK4 => wp_region_lit (run S (.mv rfl <| .mv rfl <| .yy (Yj (ps := [(0, Go.Operand.tmp 51)]) (us := [_, _, _]) bld77 (.cons (.t rfl) .nil) rfl) rfl <| .z) fun a w S => Zi (Zp S underlying22 inf77 rfl rfl rfl (.t rfl) rfl rfl rfl fun g3 a w S => Zi (Yc S underlying22 inf77 rfl (k := 3) (j := 0) rfl (.t rfl) (.t rfl) rfl Go.Fw.Sm.mkEnc rfl rfl (by first | omega | (simp only [List.length_append, List.length_cons, List.length_nil]; omega)) rfl rfl rfl fun A1 cap1 a w S => run S (.as rfl <| .z) fun a w S => Zb (Za (hK4 _ _ (wp_region_lit (run S (.mv rfl <| .mv rfl <| .z) fun a w S => Zi (Xi _ S underlying22 underlying22 (.inr ⟨_, rfl⟩) inf77 rfl (k := 3) rfl (.t rfl) (.t rfl) (Src.row S.wd (k := 1) rfl (Go.Fw.flat_one Go.Fw.Sm.enc_one _)) (by first | omega | (simp only [List.length_append, List.length_cons, List.length_nil]; omega) | (simp; omega)) rfl rfl rfl fun A2 cap2 a w S => run S (.as rfl <| .z) fun a w S => Zb (Zj (Za (hK3 _ _ (wp_region_lit (run S (.ad (by unfold I64; omega) rfl <| .mv rfl <| .z) fun a w S => Zb (Za ?_)))))))))))))))))
     exact ⟨(q + 1, A2, cap2), by dsimp only; omega, by dsimp only; omega, by dsimp only; rw [hst]; exact S.pk⟩
   obtain rfl : q = u.length := by omega
   rw [List.take_length] at S
   generalize leavesT T u = G at *
   refine sg S (.ge (by omega) rfl rfl <| .z) fun a w S => wp_seq_k fun _ hK3 => Zf S (.t rfl) (wp_exit (Zc (Zc (Zs (Za (hK2 _ _ (wp_seq_k fun _ hK2 => wp_region_lit (run S (.la gt91 2 rfl rfl rfl <| .mv rfl <| .xx (Zg call69 (.cons (.t rfl) (.cons Ev.c (.cons (.t rfl) .nil))) (fun hp w W => c69 _ _ _ _ _ _ _ _)) rfl <| .z) fun a w S => Zi (Zp S underlying46 inf35 rfl rfl rfl (.t rfl) rfl rfl rfl fun g2 a w S => run S (.as rfl <| .z) fun a w S => Zb (Za (hK2 _ _ (wp_ret (Zh (Zk S (results1 S results39 (Rv.tmp rfl)) ?_))))))))))))))
   have W2 := (S.wd.picks (L' := [.blk g2 (.cells (MV.enc (treeV self m 5 ⟨B, G.length, cB⟩)).toArray 35), rowOf 77 3 Sm.enc B cB G]) (by repeat (first | exact Picks.nil | (refine Picks.rest ?_; (repeat (first | exact List.Sublist.refl _ | refine List.Sublist.cons_cons _ ?_ | refine List.Sublist.cons _ ?_)); done) | refine Picks.take 0 rfl ?_ | refine Picks.take 1 rfl ?_ | refine Picks.take 2 rfl ?_ | refine Picks.take 3 rfl ?_ | refine Picks.take 4 rfl ?_ | refine Picks.take 5 rfl ?_ | refine Picks.take 6 rfl ?_ | refine Picks.take 7 rfl ?_ | refine Picks.take 8 rfl ?_ | refine Picks.take 9 rfl ?_ | refine Picks.take 10 rfl ?_ | refine Picks.take 11 rfl ?_))).close_row (k := 0) rfl (size := 17) 1 1 ([treeV self m 5 ⟨B, G.length, cB⟩].flatMap MV.enc) (by decide) rfl (Nat.le_refl 1) (by decide) rfl
   exact ⟨_, _, rfl, W2, _, 1, B, cB, rfl, rfl⟩
 · obtain ⟨hb1, hb2⟩ := okP_below hou h4
   have hd : downT T m.nn sums = some (m.nn + 1, sumsT T (m.nn + 1) (belowT u)) := by
     unfold downT
     rw [if_pos ⟨hok, by rw [hu0]; exact hne⟩, if_neg h4, hu0]
   have rw_4 := decide_eq_false h4
   have rw_5 : (belowA m.nn u).1 = belowT u := by unfold belowA; rw [if_pos hb1]
   have rw_6 : (belowA m.nn u).2 = 0 := by unfold belowA; rw [if_pos hb1]
   have hbl := below_len u
   generalize hbt : belowT u = bt at *
   have rw_7 : (sumsA T (m.nn + 1) bt).1 = sumsT T (m.nn + 1) bt := by unfold sumsA; rw [if_pos hb2]
   have rw_8 : (sumsA T (m.nn + 1) bt).2 = 0 := by unfold sumsA; rw [if_pos hb2]
   have hlv := (We.1 hou).1
   generalize sumsT T (m.nn + 1) bt = st at *
   rw [hd]
   unfold Go.Fw.Rets
   refine enter1 func39 rfl ntmps39 rfl fun a S => wp_seq_k fun _ hK1 => wp_region_lit (Zi (Ym S (.t rfl) rfl fun g1 a w S => run S (.ac rfl <| .z) fun a w S => Zb (Za (hK1 _ _ (wp_seq_k fun _ hK1 => wp_region_lit (run S (.fa underlying91 sizeOf36 1 rfl rfl rfl <| .ld gt36 0 rfl rfl rfl <| .fa underlying91 sizeOf35 2 rfl rfl rfl <| .fa underlying35 sizeOf3 12 rfl rfl rfl <| .ld gt3 0 rfl rfl rfl <| .fa underlying91 sizeOf35 2 rfl rfl rfl <| .fa underlying35 sizeOf22 18 rfl rfl rfl <| .ld gt22 0 rfl rfl rfl <| .z) fun a w S => ?_))))))
   (refine Zi (Zq S call67 (.cons (.t rfl) (.cons (.t rfl) (.cons (.t rfl) .nil))) (c67 _ _ _ _ _ _ _ _ _ (by exact .old S.wd (by assumption)) (by assumption) (by omega) (by exact .old S.wd (by assumption)) (by assumption)) rfl ?_); clear S a w; rintro _ _ ⟨B1, c1, rfl, rfl⟩ a w S)
   rw [rw_1] at S
   rw [rw_2] at S
   refine run S (.mv rfl <| .ex rfl rfl <| .ex rfl rfl <| .as rfl <| .as rfl <| .z) fun a w S => Zb (Za (hK1 _ _ (wp_seq_k fun _ hK1 => sg S (.mv rfl <| .yy (Yf (by omega) (Zu (.t rfl) Ev.c)) rfl <| .mv rfl <| .gy rfl rfl (Ze (.t rfl)) <| .gy rfl rfl (Xc underlying82 (.t rfl)) <| .gy rfl rfl (Yf (by omega) (Yi (.t rfl) Ev.c)) <| .yy (Zn (.t rfl) (.t rfl)) rfl <| .z) fun a w S => Zf S (.t rfl) (wp_skip (Za (hK1 _ _ (wp_seq_k fun _ hK1 => sg S (.fa underlying91 sizeOf35 2 rfl rfl rfl <| .fa underlying35 sizeOf3 12 rfl rfl rfl <| .ld gt3 1 rfl rfl rfl <| .yy (Yf (by omega) (Yi (.t rfl) Ev.c)) rfl <| .z) fun a w S => Zf S (.t rfl) (wp_skip (Za (hK1 _ _ (wp_seq_k fun _ hK1 => wp_region_lit (run S (.fa underlying91 sizeOf35 2 rfl rfl rfl <| .fa underlying35 sizeOf3 12 rfl rfl rfl <| .ld gt3 1 rfl rfl rfl <| .mv rfl <| .z) fun a w S => ?_))))))))))))
   (refine Zi (Zq S call70 (.cons (.t rfl) (.cons (.t rfl) .nil)) (c70 _ _ _ _ (by exact Sl.of_own S.wd (k := 0) rfl (fun _ => rfl)) (by omega)) rfl ?_); clear S a w; rintro _ _ ⟨B2, c2, rfl, rfl⟩ a w S)
   rw [rw_6] at S
   rw [rw_5] at S
   refine run S (.mv rfl <| .ex rfl rfl <| .ex rfl rfl <| .as rfl <| .as rfl <| .z) fun a w S => Zb (Za (hK1 _ _ (wp_seq_k fun _ hK1 => wp_region_lit (run S (.fa underlying91 sizeOf36 1 rfl rfl rfl <| .ld gt36 2 rfl rfl rfl <| .fa underlying91 sizeOf35 2 rfl rfl rfl <| .fa underlying35 sizeOf3 12 rfl rfl rfl <| .ld gt3 2 rfl rfl rfl <| .ad (by unfold I64; omega) rfl <| .mv rfl <| .z) fun a w S => ?_))))
   (refine Zi (Zq S call30 (.cons (.t rfl) (.cons (.t rfl) (.cons (.t rfl) .nil))) (c30 _ _ _ _ _ _ _ _ _ (by exact .old S.wd (by assumption)) (by assumption) (by omega) (by exact Sl.of_own S.wd (k := 0) rfl (fun _ => rfl)) (by omega)) rfl ?_); clear S a w; rintro _ _ ⟨B3, c3, rfl, rfl⟩ a w S)
   rw [rw_8] at S
   rw [rw_7] at S
   refine run S (.mv rfl <| .ex rfl rfl <| .ex rfl rfl <| .as rfl <| .as rfl <| .z) fun a w S => Zb (Za (hK1 _ _ (wp_seq_k fun _ hK1 => sg S (.mv rfl <| .yy (Yf (by omega) (Zu (.t rfl) Ev.c)) rfl <| .z) fun a w S => Zf S (.t rfl) (wp_skip (Za (hK1 _ _ (wp_seq_k fun _ hK1 => wp_region_lit (run S (.la gt91 3 rfl rfl rfl <| .fa underlying91 sizeOf35 2 rfl rfl rfl <| .fa underlying35 sizeOf3 12 rfl rfl rfl <| .ld gt3 3 rfl rfl rfl <| .ad (by unfold I64; omega) rfl <| .mv rfl <| .xx (Zg call69 (.cons (.t rfl) (.cons (.t rfl) (.cons (.t rfl) .nil))) (fun hp w W => c69 _ _ _ _ _ _ _ _)) rfl <| .z) fun a w S => Zi (Zp S underlying46 inf35 rfl rfl rfl (.t rfl) rfl rfl rfl fun g2 a w S => run S (.as rfl <| .z) fun a w S => Zb (Za (hK1 _ _ (wp_ret (Zk S (results1 S results39 (Rv.tmp rfl)) ?_)))))))))))))
   have W2 := (S.wd.picks (L' := [.blk g2 (.cells (MV.enc (treeV self m (m.nn + 1) ⟨B3, st.length, c3⟩)).toArray 35), rowOf 77 3 Sm.enc B3 c3 st]) (by repeat (first | exact Picks.nil | (refine Picks.rest ?_; (repeat (first | exact List.Sublist.refl _ | refine List.Sublist.cons_cons _ ?_ | refine List.Sublist.cons _ ?_)); done) | refine Picks.take 0 rfl ?_ | refine Picks.take 1 rfl ?_ | refine Picks.take 2 rfl ?_ | refine Picks.take 3 rfl ?_ | refine Picks.take 4 rfl ?_ | refine Picks.take 5 rfl ?_ | refine Picks.take 6 rfl ?_ | refine Picks.take 7 rfl ?_ | refine Picks.take 8 rfl ?_ | refine Picks.take 9 rfl ?_ | refine Picks.take 10 rfl ?_ | refine Picks.take 11 rfl ?_))).close_row (k := 0) rfl (size := 17) 1 1 ([treeV self m (m.nn + 1) ⟨B3, st.length, c3⟩].flatMap MV.enc) (by decide) rfl (Nat.le_refl 1) (by decide) rfl
   exact ⟨_, _, rfl, W2, _, 1, B3, c3, rfl, rfl⟩
end Go.Proofs.YtbijdmfilmecbaaGreat
namespace Go.Fw
open Go.RowKit
theorem keys_mem {T : List KH} {p : Int} {s : Sm} (h : s ∈ keysT T [p]) : hasT T s.key = true := by
 unfold keysT at h
 rw [List.flatMap_cons, List.flatMap_nil, List.append_nil] at h
 obtain ⟨x, hx, rfl⟩ := List.mem_map.1 h
 unfold hasT
 exact List.any_eq_true.2 ⟨x, (Yz.1 hx).1, decide_eq_true rfl⟩
theorem has_no {T : List KH} (hT : KhOk T) {k : List UInt8} (hk : placeK k < 16) (h : ∀ p : Nat, p < 16 → ∀ s ∈ keysT T [(p : Int)], s.key ≠ k) : hasT T k = false := by
 cases e : hasT T k with
 | false => rfl
 | true =>
   have h1 := part_key hT k (placeK k : Int) (by omega)
   rw [e, if_pos rfl] at h1
   obtain ⟨s, hs⟩ := List.exists_mem_of_length_pos (by rw [h1]; decide)
   rw [List.mem_filter, decide_eq_true_eq] at hs
   exact absurd hs.2 (h _ hk s hs.1)
end Go.Fw
namespace Go.Proofs.YtbijdmfilmecbaaGreat
open Go.Fw Go.Proofs Go.RowKit Go.Proofs.Tryz
theorem c44 (w0 : World) (g cap : Nat) (A : Option Addr) (T : List KH) (v2 : Value) (u : List Int) (h : DocAt w0 g A cap T) (hT : KhOk T) (hl : T.length ≤ 1048576) (h2 : Sl encI 1 w0 w0.heap.size v2 u) (hul : u.length ≤ 1048576) (hou4 : okP 4 4 u = true) :
   Rets Tryz.prog 44 #[.pointer (some ⟨g, 0, none⟩), v2] w0 fun v L => ∃ B c, v = .slice B (leavesT T u).length c ∧ L = [rowOf 77 3 Sm.enc B c (leavesT T u)] := by
 obtain ⟨A', cap', rfl, hl', hcap', hA⟩ := h2
 unfold Go.Fw.Rets
 refine enter2 func44 rfl ntmps44 rfl fun a S => sg S (.ac rfl <| .z) fun a w S => sg S (.ac rfl <| .z) fun a w S => wp_seq_k fun _ hK1 => sg S (.mv rfl <| .ln underlying82 rfl <| .mc rfl <| .z) fun a w S => wp_block ?_
 replace S := S.nil_ 77 3 Sm.enc none
 refine Yg S [5, 12] (X := Nat × Option Addr × Nat) (fun q => [(5, true, .slice q.2.1 (leavesT T (u.take q.1)).length q.2.2), (12, true, .int .i64 (q.1 : Int))])
   (fun q => [rowOf 77 3 Sm.enc q.2.1 q.2.2 (leavesT T (u.take q.1))]) (fun q => q.1 ≤ u.length) (fun q => u.length - q.1) (0, none, 0) (Nat.zero_le _) ?_
 clear S
 rintro ⟨q, B, cB⟩ a w hq S
 dsimp only at hq S
 by_cases hlt : q < u.length
 · obtain ⟨gq, oq, p, rfl, hp, hd, hc⟩ := Zv hA hlt
   have hst := leaves_snoc (T := T) hp
   have hll := leaves_len T (u.take q)
   rw [List.length_take, Nat.min_eq_left (Nat.le_of_lt hlt)] at hll
   have hl2 : (leavesT T (u.take q)).length ≤ 1048576 * 1048577 := Nat.le_trans hll (Nat.mul_le_mul (by omega) (by omega))
   have hka : keysA T [p] = (keysT T [p], 0) := if_pos (okP_one hou4 (List.mem_of_getElem? hp))
   have hkn := Wf T p
   generalize leavesT T (u.take q) = G at *
   generalize hks : keysT T [p] = ks at *
   have rw_k1 : (keysA T [p]).1 = ks := by rw [hka]
   have rw_k2 : (keysA T [p]).2 = 0 := by rw [hka]
   have rw_s : #[Value.int .i64 p, .string (bs []), .int .u64 0] = (Sm.enc ⟨p, [], 0⟩).toArray := rfl
   refine sg S (.lt (by omega) rfl rfl <| .z) fun a w S => wp_seq_k fun _ hK2 => Zd S (.t rfl) (wp_skip (Za (hK2 _ _ (wp_seq_k fun _ hK2 => wp_block (sg S (.ix underlying82 sizeOf3 (by omega) rfl rfl <| .yy (Zw ⟨isAgg3, sizeOf3⟩ (.t rfl) (fun _ => hc 0 _ rfl)) rfl <| .as rfl <| .z) fun a w S => wp_seq_k fun _ hK3 => wp_region_lit (run S (.mv rfl <| .mv rfl <| .yy (Yj (ps := [(0, Go.Operand.tmp 17)]) (us := [_, _, _]) bld77 (.cons (.t rfl) .nil) rfl) rfl <| .z) fun a w S => ?_))))))
   rw [rw_s] at S
   refine Zi (Zp S underlying22 inf77 rfl rfl rfl (.t rfl) rfl rfl rfl fun g1 a w S => ?_)
   rw [rw_s] at S
   refine Zi (Yc S underlying22 inf77 rfl (k := 1) (j := 0) rfl (.t rfl) (.t rfl) rfl rfl rfl rfl (by first | omega | (simp only [List.length_append, List.length_cons, List.length_nil]; omega)) rfl rfl rfl fun A1 cap1 a w S => ?_)
   rw [rw_s] at S
   refine run S (.as rfl <| .z) fun a w S => ?_
   rw [rw_s] at S
   refine Zb ?_
   rw [rw_s] at S
   refine Za (hK3 _ _ ?_)
   rw [rw_s] at S
   refine wp_seq_k fun _ hK3 => ?_
   rw [rw_s] at S
   refine wp_region_lit ?_
   rw [rw_s] at S
   refine run S (.mv rfl <| .z) fun a w S => ?_
   rw [rw_s] at S
   refine run S (.mv rfl <| .z) fun a w S => ?_
   rw [rw_s] at S
   refine Zi (Zp S underlying82 inf3 rfl rfl rfl (.t rfl) rfl rfl rfl fun g2 a w S => ?_)
   rw [rw_s] at S
   (refine Zi (Zq S call73 (.cons (.t rfl) (.cons (.t rfl) .nil)) (c73 _ _ _ _ _ _ _ (by exact .old S.wd (by assumption)) (by assumption) (by assumption) (by exact sl_i1 S.wd (k := 0) rfl) (by (simp; done))) rfl ?_); clear S a w; rintro _ _ ⟨B1, c1, rfl, rfl⟩ a w S)
   rw [rw_k1] at S
   rw [rw_k2] at S
   rw [rw_s] at S
   refine run S (.mv rfl <| .z) fun a w S => ?_
   rw [rw_s] at S
   refine run S (.ex rfl rfl <| .z) fun a w S => ?_
   rw [rw_s] at S
   refine run S (.ex rfl rfl <| .z) fun a w S => ?_
   rw [rw_s] at S
   refine run S (.as rfl <| .z) fun a w S => ?_
   rw [rw_s] at S
   refine run S (.as rfl <| .z) fun a w S => ?_
   rw [rw_s] at S
   refine Zb ?_
   rw [rw_s] at S
   refine Za (hK3 _ _ ?_)
   rw [rw_s] at S
   refine wp_region_lit ?_
   rw [rw_s] at S
   refine run S (.mv rfl <| .z) fun a w S => ?_
   rw [rw_s] at S
   refine run S (.mv rfl <| .z) fun a w S => ?_
   rw [rw_s] at S
   refine Zi (Xi _ S underlying22 underlying22 (.inr ⟨_, rfl⟩) inf77 rfl (k := 3) rfl (.t rfl) (.t rfl) (Src.row S.wd (k := 0) rfl (Go.Fw.flat_one Go.Fw.Sm.enc_one _)) (by first | omega | (simp only [List.length_append, List.length_cons, List.length_nil]; omega) | (simp; omega)) rfl rfl rfl fun A2 cap2 a w S => ?_)
   rw [rw_s] at S
   refine run S (.as rfl <| .z) fun a w S => ?_
   rw [rw_s] at S
   refine Zb ?_
   rw [rw_s] at S
   refine Zj (Za (hK2 _ _ ?_))
   rw [rw_s] at S
   refine wp_region_lit ?_
   rw [rw_s] at S
   refine run S (.ad (by unfold I64; omega) rfl <| .z) fun a w S => ?_
   rw [rw_s] at S
   refine run S (.mv rfl <| .z) fun a w S => ?_
   rw [rw_s] at S
   refine Zb ?_
   rw [rw_s] at S
   refine Za ?_
   rw [rw_s] at S
   exact ⟨(q + 1, A2, cap2), by dsimp only; omega, by dsimp only; omega, by dsimp only; rw [hst]; exact S.pk⟩
 obtain rfl : q = u.length := by omega
 rw [List.take_length] at S
 refine sg S (.ge (by omega) rfl rfl <| .z) fun a w S => wp_seq_k fun _ hK2 => Zf S (.t rfl) (wp_exit (Zc (Zc (Zs (Za (hK1 _ _ (sg S (.mv rfl <| .as rfl <| .z) fun a w S => wp_ret (Zk S (results1 S results44 (Rv.tmp rfl)) ?_))))))))
 exact ⟨_, _, rfl, S.wd.picks (L' := [rowOf 77 3 Sm.enc B cB (leavesT T u)]) (by repeat (first | exact Picks.nil | (refine Picks.rest ?_; (repeat (first | exact List.Sublist.refl _ | refine List.Sublist.cons_cons _ ?_ | refine List.Sublist.cons _ ?_)); done) | refine Picks.take 0 rfl ?_ | refine Picks.take 1 rfl ?_ | refine Picks.take 2 rfl ?_ | refine Picks.take 3 rfl ?_ | refine Picks.take 4 rfl ?_ | refine Picks.take 5 rfl ?_ | refine Picks.take 6 rfl ?_ | refine Picks.take 7 rfl ?_ | refine Picks.take 8 rfl ?_ | refine Picks.take 9 rfl ?_ | refine Picks.take 10 rfl ?_ | refine Picks.take 11 rfl ?_)), B, cB, rfl, rfl⟩
theorem c47 (w0 : World) (g cap : Nat) (A : Option Addr) (T : List KH) (k : List UInt8) (h : DocAt w0 g A cap T) (hT : KhOk T) (hl : T.length ≤ 1048576) :
   Calls Tryz.prog 47 #[.pointer (some ⟨g, 0, none⟩), .string (bs k)] w0 fun e w' => e = .returned (.bool (hasT T k)) ∧ Bel w0.heap.size w0 w' := by
 refine enter2 func47 rfl ntmps47 rfl fun a S => sg S (.ac rfl <| .z) fun a w S => wp_seq_k fun _ hK1 => sg S (.mc rfl <| .z) fun a w S => wp_block ?_
 refine Yg S [10] (X := Nat) (fun q => [(10, true, .int .i64 (q : Int))]) (fun _ => [])
   (fun q => q ≤ 16 ∧ ∀ p : Nat, p < q → ∀ s ∈ keysT T [(p : Int)], s.key ≠ k) (fun q => 16 - q) 0 ⟨Nat.zero_le _, fun p hp => absurd hp (Nat.not_lt_zero _)⟩ ?_
 clear S
 rintro q a w ⟨hq, hno⟩ S
 by_cases hlt : q < 16
 · have hok : okP 4 4 [(q : Int)] = true := by
     rw [We]
     refine ⟨by omega, fun x hx => ?_⟩
     rw [List.mem_singleton.1 hx]
     have : (2 : Int) ^ (4 : Int).toNat = 16 := by decide
     omega
   have hka : keysA T [(q : Int)] = (keysT T [(q : Int)], 0) := if_pos hok
   have hkn := Wf T (q : Int)
   have hkm := fun s => keys_mem (T := T) (p := (q : Int)) (s := s)
   generalize hks : keysT T [(q : Int)] = ks at *
   have rw_k1 : (keysA T [(q : Int)]).1 = ks := by rw [hka]
   have rw_k2 : (keysA T [(q : Int)]).2 = 0 := by rw [hka]
   refine sg S (.yy (Yk (by omega) (Yh (.t rfl) Ev.c)) rfl <| .z) fun a w S => wp_seq_k fun _ hK2 => Zd S (.t rfl) (wp_skip (Za (hK2 _ _ (wp_seq_k fun _ hK2 => wp_block (sg S (.mv rfl <| .as rfl <| .z) fun a w S => wp_seq_k fun _ hK3 => wp_region_lit (run S (.mv rfl <| .mv rfl <| .z) fun a w S => Zi (Zp S underlying82 inf3 rfl rfl rfl (.t rfl) rfl rfl rfl fun g1 a w S => ?_)))))))
   (refine Zi (Zq S call73 (.cons (.t rfl) (.cons (.t rfl) .nil)) (c73 _ _ _ _ _ _ _ (by exact .old S.wd (by assumption)) (by assumption) (by assumption) (by exact sl_i1 S.wd (k := 0) rfl) (by (simp; done))) rfl ?_); clear S a w; rintro _ _ ⟨B1, c1, rfl, rfl⟩ a w S)
   rw [rw_k1] at S
   rw [rw_k2] at S
   refine run S (.mv rfl <| .ex rfl rfl <| .ex rfl rfl <| .as rfl <| .as rfl <| .z) fun a w S => Zb (Za (hK3 _ _ (sg S (.mv rfl <| .ln underlying22 rfl <| .mc rfl <| .z) fun a w S => wp_block ?_)))
   refine Yg S [4, 22] (X := Nat) (fun r => [(4, true, .bool false), (22, true, .int .i64 (r : Int))]) (fun _ => [rowOf 77 3 Sm.enc B1 c1 ks])
     (fun r => r ≤ ks.length ∧ ∀ s ∈ ks.take r, s.key ≠ k) (fun r => ks.length - r) 0 ⟨Nat.zero_le _, by simp⟩ ?_
   clear S
   rintro r a w ⟨hr, hn⟩ S
   by_cases hlt2 : r < ks.length
   · obtain ⟨gP, rfl⟩ := S.wd.row_at (k := 0) rfl (by have := (S.wd.room (k := 0) rfl).1; omega)
     obtain ⟨s, hs⟩ : ∃ s, ks[r]? = some s := ⟨_, List.getElem?_eq_getElem hlt2⟩
     by_cases hk : s.key = k
     · have rw_k := decide_eq_true hk
       have hy := hkm s (List.mem_of_getElem? hs)
       rw [hk] at hy
       refine sg S (.lt (by omega) rfl rfl <| .z) fun a w S => wp_seq_k fun _ hK3 => Zd S (.t rfl) (wp_skip (Za (hK3 _ _ (wp_seq_k fun _ hK3 => wp_block (wp_seq_k fun _ hK4 => wp_region_lit (run S (.ix underlying22 sizeOf77 (by omega) rfl rfl <| .yy (ys_ldWA ⟨isAgg77, sizeOf77⟩ (.t rfl) (k := 0) rfl hs (fun _ => rfl)) rfl <| .z) fun a w S => Zi (Zt S zeroValue77 (cs := _) rfl rfl fun g2 a w S => Zi (Ya S sizeOf77 (.t rfl) (.t rfl) (k := 0) rfl rfl rfl (by simp [Value.oneCell']) fun a w S => Zb (Za (hK4 _ _ (wp_seq_k fun _ hK4 => wp_region_lit (run S (.fa underlying77 sizeOf9 1 rfl rfl rfl <| .ld gt9 0 rfl rfl rfl <| .mv rfl <| .yy (Xq (.t rfl) (.t rfl)) rfl <| .z) fun a w S => ?_))))))))))))
       rw [rw_k] at S
       refine Zb (Za (hK4 _ _ (Zd S (.t rfl) (sg S (.ac rfl <| .z) fun a w S => wp_ret (Yq (Zh (Zh (Yq (Yq (Zh (Zh (Yq (Zh (Zk S (results1 S results47 (Rv.tmp rfl)) ?_))))))))))))))
       exact ⟨by rw [hy], S.wd.below⟩
     · have rw_k := decide_eq_false hk
       refine sg S (.lt (by omega) rfl rfl <| .z) fun a w S => wp_seq_k fun _ hK3 => Zd S (.t rfl) (wp_skip (Za (hK3 _ _ (wp_seq_k fun _ hK3 => wp_block (wp_seq_k fun _ hK4 => wp_region_lit (run S (.ix underlying22 sizeOf77 (by omega) rfl rfl <| .yy (ys_ldWA ⟨isAgg77, sizeOf77⟩ (.t rfl) (k := 0) rfl hs (fun _ => rfl)) rfl <| .z) fun a w S => Zi (Zt S zeroValue77 (cs := _) rfl rfl fun g2 a w S => Zi (Ya S sizeOf77 (.t rfl) (.t rfl) (k := 0) rfl rfl rfl (by simp [Value.oneCell']) fun a w S => Zb (Za (hK4 _ _ (wp_seq_k fun _ hK4 => wp_region_lit (run S (.fa underlying77 sizeOf9 1 rfl rfl rfl <| .ld gt9 0 rfl rfl rfl <| .mv rfl <| .yy (Xq (.t rfl) (.t rfl)) rfl <| .z) fun a w S => ?_))))))))))))
       rw [rw_k] at S
       refine Zb (Za (hK4 _ _ (Zf S (.t rfl) (wp_skip (Zj (Za (hK3 _ _ (wp_region_lit (run S (.ad (by unfold I64; omega) rfl <| .mv rfl <| .z) fun a w S => Zb (Za ?_))))))))))
       refine ⟨r + 1, ⟨by omega, fun t ht => ?_⟩, by omega, S.pk⟩
       rw [List.take_add_one, hs, Option.toList_some] at ht
       rcases List.mem_append.1 ht with ht | ht
       · exact hn t ht
       · rw [List.mem_singleton.1 ht]; exact hk
   obtain rfl : r = ks.length := by omega
   rw [List.take_length] at hn
   refine sg S (.ge (by omega) rfl rfl <| .z) fun a w S => wp_seq_k fun _ hK3 => Zf S (.t rfl) (wp_exit (Zc (Zc (Zs (Zj (Za (hK2 _ _ (wp_region_lit (run S (.ad (by unfold I64; omega) rfl <| .mv rfl <| .z) fun a w S => Zb (Za ?_))))))))))
   refine ⟨q + 1, ⟨by omega, fun p hp => ?_⟩, by omega, S.pk⟩
   by_cases h5 : p < q
   · exact hno p h5
   · obtain rfl : p = q := by omega
     rw [hks]; exact hn
 obtain rfl : q = 16 := by omega
 have hn := has_no hT (placeK_lt k) hno
 refine sg S (.yy (Yf (by omega) (Yh (.t rfl) Ev.c)) rfl <| .z) fun a w S => wp_seq_k fun _ hK2 => Zf S (.t rfl) (wp_exit (Zc (Zc (Zs (Za (hK1 _ _ (sg S (.ac rfl <| .z) fun a w S => wp_ret (Zk S (results1 S results47 (Rv.tmp rfl)) ?_))))))))
 exact ⟨by rw [hn], S.wd.below⟩
end Go.Proofs.YtbijdmfilmecbaaGreat
