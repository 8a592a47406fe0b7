/- Layer 15: bytes in letters, and the bytes of letters: the statement, walked. -/
import Derived.Test.YtjfeeiljinbmjaaTok2
set_option linter.unusedVariables false
set_option linter.unusedSimpArgs false
set_option maxRecDepth 100000
namespace Go.Proofs.Ytjfeeiljinbmjaa
open Go.Fw Go.Proofs Go.RowKit

theorem c13 (w0 : World) (v1 : Value) (l : List UInt8) (h : Sl encB 1 w0 w0.heap.size v1 l) (hn : l.length ≤ 4194304) :
    Rets Try.prog 13 #[v1] w0 fun v L => ∃ A c, v = .slice A l.length c ∧ L = [rowOf 5 1 encB A c l] := by
  have h0 := h
  obtain ⟨A, cap, rfl, hl, hcap, hA⟩ := h
  unfold Go.Fw.Rets
  refine enter1 Try.func13 rfl Try.ntmps13 rfl fun a S => ?_
  refine wp_seq_k fun _ hK1 => ?_
  refine wp_region_lit ?_
  (refine st_y S (Yr.ys (ys_assign Ev.c)) rfl ?_; clear S a; intro a w S)
  refine st_nil ?_
  (refine (then_normal (hK1 _ _ ?_)); clear hK1)
  refine wp_seq_k fun _ hK1 => ?_
  refine wp_seq_k fun _ hK2 => ?_
  refine wp_region_lit ?_
  (refine st_y S (Yr.ys (ys_move (Ev.t rfl))) rfl ?_; clear S a w; intro a w S)
  (refine st_y S (Yr.ys (ys_sNil Try.underlying22 (Ev.t rfl) Ev.c)) rfl ?_; clear S a w; intro a w S)
  refine st_nil ?_
  (refine (then_normal (hK2 _ _ ?_)); clear hK2)
  refine st_cond S (Ev.t rfl) (fun h1 => ?_) (fun h1 => ?_)
  refine wp_seq_k fun _ hK2 => ?_
  refine wp_region_lit ?_
  (refine st_y S (Yr.ys (ys_assign Ev.c)) rfl ?_; clear S a w; intro a w S)
  refine st_nil ?_
  (refine (then_normal (hK2 _ _ ?_)); clear hK2)
  refine wp_ret ?_
  refine (then_ret ?_)
  refine st_ret S (results1 S Try.results13 (Rv.tmp rfl)) ?_
  rotate_left
  refine wp_skip ?_
  (refine (then_normal (hK1 _ _ ?_)); clear hK1)
  refine wp_seq_k fun _ hK1 => ?_
  refine wp_region_lit ?_
  (refine st_m (op_bslice0 S Try.underlying22 Try.sizeOf5 rfl ?_); clear S a w; intro g1 a w S)
  (refine st_y S (Yr.ys (ys_move (Ev.t rfl))) rfl ?_; clear S a w; intro a w S)
  rotate_left
  · have hnil : l = [] := by
      refine List.eq_nil_of_length_eq_zero (Decidable.byContradiction fun hne => ?_)
      obtain ⟨g, o, rfl, _⟩ := hA (by omega)
      cases h1
    subst hnil
    exact ⟨_, _, rfl, (S.nil_ 5 1 encB none).wd.sub (by repeat (first | exact List.Sublist.refl _ | exact .slnil | refine .cons_cons _ ?_ | refine .cons _ ?_)), none, 0, rfl, rfl⟩
  · refine st_m (op_extend (l := []) l (S.nil_ 5 1 encB (some ⟨g1, 0, none⟩)) Try.underlying22 Try.underlying22 (.inr ⟨_, rfl⟩) inf5 rfl (k := 0) rfl (Ev.t rfl) (Ev.t rfl) (Src.sl (Sl.old S.wd h0) (by decide) encB_len (fun x u hu => by simp [encB] at hu; subst hu; rfl)) (by simp; omega) rfl rfl rfl ?_)
    clear S
    intro A1 cap1 a w S
    (refine st_y S (Yr.ys (ys_assign (Ev.t rfl))) rfl ?_; clear S a w; intro a w S)
    refine st_nil ?_
    (refine (then_normal (hK1 _ _ ?_)); clear hK1)
    refine wp_ret ?_
    refine st_ret S (results1 S Try.results13 (Rv.tmp rfl)) ?_
    simp only [List.nil_append] at S ⊢
    exact ⟨_, _, rfl, S.wd.sub (by repeat (first | exact List.Sublist.refl _ | exact .slnil | refine .cons_cons _ ?_ | refine .cons _ ?_)), A1, cap1, rfl, rfl⟩

theorem c3 (w0 : World) (v1 : Value) (l s : List UInt8) (h : Sl encB 1 w0 w0.heap.size v1 l) (hn : l.length ≤ 1048576) (hs : s.length ≤ 1048576) :
    Calls Try.prog 3 #[v1, .string (bs s)] w0 fun e w' => e = .returned (.bool true) ∧ Below w0.heap.size w0 w' := by
  have hl2 : (letters l).length ≤ 4194304 := by have := letters_len l; omega
  have e1 := lettersR_eq l
  have e2 := bytesR_eq s
  have e3 := bytes_letters l
  refine enter2 Try.func3 rfl Try.ntmps3 rfl fun a S => ?_
  refine wp_seq_k fun _ hK1 => ?_
  refine wp_region_lit ?_
  (refine st_y S (Yr.ys (ys_assign Ev.c)) rfl ?_; clear S a; intro a w S)
  refine st_nil ?_
  (refine (then_normal (hK1 _ _ ?_)); clear hK1)
  refine wp_seq_k fun _ hK1 => ?_
  refine wp_region_lit ?_
  (refine st_y S (Yr.ys (ys_move (Ev.t rfl))) rfl ?_; clear S a w; intro a w S)
  (refine st_m (op_calls S Try.call13 (EvL.cons (Ev.t rfl) EvL.nil) (c13 _ _ _ (by first | assumption | omega | exact .old S.wd (by assumption)) (by first | assumption | omega | exact .old S.wd (by assumption))) rfl ?_); clear S a w; rintro _ _ ⟨A1, c1, rfl, rfl⟩ a w S)
  (refine st_y S (Yr.ys (ys_assign (Ev.t rfl))) rfl ?_; clear S a w; intro a w S)
  refine st_nil ?_
  (refine (then_normal (hK1 _ _ ?_)); clear hK1)
  refine wp_seq_k fun _ hK1 => ?_
  refine wp_region_lit ?_
  (refine st_y S (Yr.ys (ys_move (Ev.t rfl))) rfl ?_; clear S a w; intro a w S)
  (refine st_m (op_calls S Try.call14 (EvL.cons (Ev.t rfl) EvL.nil) (c14 _ _ (by first | assumption | omega | exact .old S.wd (by assumption) | exact Sl.of_own S.wd (k := 0) rfl (fun _ => rfl))) rfl ?_); clear S a w; rintro _ _ ⟨A2, c2, rfl, rfl⟩ a w S)
  (refine st_y S (Yr.ys (ys_move (Ev.t rfl))) rfl ?_; clear S a w; intro a w S)
  (refine st_y S (Yr.ys (ys_ext (Ev.t rfl) rfl)) rfl ?_; clear S a w; intro a w S)
  (refine st_y S (Yr.ys (ys_ext (Ev.t rfl) rfl)) rfl ?_; clear S a w; intro a w S)
  (refine st_y S (Yr.ys (ys_assign (Ev.t rfl))) rfl ?_; clear S a w; intro a w S)
  (refine st_y S (Yr.ys (ys_assign (Ev.t rfl))) rfl ?_; clear S a w; intro a w S)
  refine st_nil ?_
  (refine (then_normal (hK1 _ _ ?_)); clear hK1)
  refine wp_seq_k fun _ hK1 => ?_
  refine wp_region_lit ?_
  (refine st_y S (Yr.ys (ys_move (Ev.t rfl))) rfl ?_; clear S a w; intro a w S)
  (refine st_m (op_calls S Try.call15 (EvL.cons (Ev.t rfl) EvL.nil) (c15 _ _ (by first | assumption | omega | exact .old S.wd (by assumption) | exact Sl.of_own S.wd (k := 0) rfl (fun _ => rfl) | exact Sl.of_own S.wd (k := 1) rfl (fun _ => rfl))) rfl ?_); clear S a w; rintro _ _ ⟨A3, c4, rfl, rfl⟩ a w S)
  (refine st_y S (Yr.ys (ys_move (Ev.t rfl))) rfl ?_; clear S a w; intro a w S)
  (refine st_y S (Yr.ys (ys_ext (Ev.t rfl) rfl)) rfl ?_; clear S a w; intro a w S)
  (refine st_y S (Yr.ys (ys_ext (Ev.t rfl) rfl)) rfl ?_; clear S a w; intro a w S)
  (refine st_y S (Yr.ys (ys_assign (Ev.t rfl))) rfl ?_; clear S a w; intro a w S)
  (refine st_y S (Yr.ys (ys_assign (Ev.t rfl))) rfl ?_; clear S a w; intro a w S)
  refine st_nil ?_
  (refine (then_normal (hK1 _ _ ?_)); clear hK1)
  refine wp_seq_k fun _ hK1 => ?_
  refine wp_seq_k fun _ hK2 => ?_
  refine wp_region_lit ?_
  (refine st_y S (Yr.ys (ys_move (Ev.t rfl))) rfl ?_; clear S a w; intro a w S)
  (refine st_y S (ys_call Try.call16 (EvL.cons (Ev.t rfl) EvL.nil) (fun hp w W => c16 _ _ _ (by first | assumption | omega | exact .old W (by assumption)  | exact Sl.of_own W (k := 0) rfl (fun _ => rfl) | exact Sl.of_own W (k := 1) rfl (fun _ => rfl) | exact Sl.of_own W (k := 2) rfl (fun _ => rfl) | (simp at hp; omega)) (by first | assumption | omega | exact .old W (by assumption)  | exact Sl.of_own W (k := 0) rfl (fun _ => rfl) | exact Sl.of_own W (k := 1) rfl (fun _ => rfl) | exact Sl.of_own W (k := 2) rfl (fun _ => rfl) | (simp at hp; omega)))) rfl ?_; clear S a w; intro a w S)
  (refine st_y S (Yr.ys (ys_move (Ev.t rfl))) rfl ?_; clear S a w; intro a w S)
  (refine st_y S (ys_call Try.call17 (EvL.cons (Ev.t rfl) EvL.nil) (fun hp w W => c17 _ _ _ (by first | assumption | omega | exact .old W (by assumption)  | exact Sl.of_own W (k := 0) rfl (fun _ => rfl) | exact Sl.of_own W (k := 1) rfl (fun _ => rfl) | exact Sl.of_own W (k := 2) rfl (fun _ => rfl) | (simp at hp; omega)) (by first | assumption | omega | exact .old W (by assumption)  | exact Sl.of_own W (k := 0) rfl (fun _ => rfl) | exact Sl.of_own W (k := 1) rfl (fun _ => rfl) | exact Sl.of_own W (k := 2) rfl (fun _ => rfl) | (simp at hp; omega)))) rfl ?_; clear S a w; intro a w S)
  (refine st_y S (Yr.ys (ys_neqStr (Ev.t rfl) (Ev.t rfl))) rfl ?_; clear S a w; intro a w S)
  (refine st_y S (Yr.ys (ys_move (Ev.t rfl))) rfl ?_; clear S a w; intro a w S)
  (refine st_yf S rfl rfl (Yr.ys (ys_move (Ev.t rfl))) rfl ?_; clear S a w; intro a w S)
  (refine st_yf S rfl rfl (Yr.ys (ys_move (Ev.t rfl))) rfl ?_; clear S a w; intro a w S)
  (refine st_yf S rfl rfl (ys_call Try.call18 (EvL.cons (Ev.g rfl) (EvL.cons (Ev.g rfl) EvL.nil)) (fun hp w W => c18 _ _ _ _ _ (by first | assumption | omega | exact .old W (by assumption)  | exact Sl.of_own W (k := 0) rfl (fun _ => rfl) | exact Sl.of_own W (k := 1) rfl (fun _ => rfl) | exact Sl.of_own W (k := 2) rfl (fun _ => rfl) | (simp at hp; omega)) (by first | assumption | omega | exact .old W (by assumption)  | exact Sl.of_own W (k := 0) rfl (fun _ => rfl) | exact Sl.of_own W (k := 1) rfl (fun _ => rfl) | exact Sl.of_own W (k := 2) rfl (fun _ => rfl) | (simp at hp; omega)))) rfl ?_; clear S a w; intro a w S)
  (refine st_yf S rfl rfl (Yr.ys (ys_not (Ev.g rfl))) rfl ?_; clear S a w; intro a w S)
  (refine st_y S (Yr.ys (ys_or (Ev.t rfl) Ev.c (Ev.g rfl))) rfl ?_; clear S a w; intro a w S)
  (refine st_y S (Yr.ys (ys_move (Ev.t rfl))) rfl ?_; clear S a w; intro a w S)
  (refine st_yf S rfl rfl (Yr.ys (ys_move (Ev.t rfl))) rfl ?_; clear S a w; intro a w S)
  (refine st_yf S rfl rfl (Yr.ys (ys_move (Ev.t rfl))) rfl ?_; clear S a w; intro a w S)
  (refine st_yf S rfl rfl (Yr.ys (ys_neqB Try.underlying4 (Ev.g rfl) (Ev.g rfl))) rfl ?_; clear S a w; intro a w S)
  (refine st_y S (Yr.ys (ys_or (Ev.t rfl) Ev.c (Ev.g rfl))) rfl ?_; clear S a w; intro a w S)
  (refine st_y S (Yr.ys (ys_move (Ev.t rfl))) rfl ?_; clear S a w; intro a w S)
  (refine st_yf S rfl rfl (Yr.ys (ys_move (Ev.t rfl))) rfl ?_; clear S a w; intro a w S)
  (refine st_yf S rfl rfl (Yr.ys (ys_move (Ev.t rfl))) rfl ?_; clear S a w; intro a w S)
  (refine st_yf S rfl rfl (ys_call Try.call18 (EvL.cons (Ev.g rfl) (EvL.cons (Ev.g rfl) EvL.nil)) (fun hp w W => c18 _ _ _ _ _ (by first | assumption | omega | exact .old W (by assumption)  | exact Sl.of_own W (k := 0) rfl (fun _ => rfl) | exact Sl.of_own W (k := 1) rfl (fun _ => rfl) | exact Sl.of_own W (k := 2) rfl (fun _ => rfl) | (simp at hp; omega)) (by first | assumption | omega | exact .old W (by assumption)  | exact Sl.of_own W (k := 0) rfl (fun _ => rfl) | exact Sl.of_own W (k := 1) rfl (fun _ => rfl) | exact Sl.of_own W (k := 2) rfl (fun _ => rfl) | (simp at hp; omega)))) rfl ?_; clear S a w; intro a w S)
  (refine st_yf S rfl rfl (Yr.ys (ys_not (Ev.g rfl))) rfl ?_; clear S a w; intro a w S)
  (refine st_y S (Yr.ys (ys_or (Ev.t rfl) Ev.c (Ev.g rfl))) rfl ?_; clear S a w; intro a w S)
  refine st_nil ?_
  (refine (then_normal (hK2 _ _ ?_)); clear hK2)
  refine st_cond S (Ev.t rfl) (fun h1 => ?_) (fun h1 => ?_)
  refine wp_seq_k fun _ hK2 => ?_
  refine wp_region_lit ?_
  (refine st_y S (Yr.ys (ys_assign Ev.c)) rfl ?_; clear S a w; intro a w S)
  refine st_nil ?_
  (refine (then_normal (hK2 _ _ ?_)); clear hK2)
  refine wp_ret ?_
  refine (then_ret ?_)
  refine st_ret S (results1 S Try.results3 (Rv.tmp rfl)) ?_
  rotate_left
  refine wp_skip ?_
  (refine (then_normal (hK1 _ _ ?_)); clear hK1)
  refine wp_seq_k fun _ hK1 => ?_
  refine wp_region_lit ?_
  (refine st_y S (Yr.ys (ys_move (Ev.t rfl))) rfl ?_; clear S a w; intro a w S)
  (refine st_y S (ys_call Try.call16 (EvL.cons (Ev.t rfl) EvL.nil) (fun hp w W => c16 _ _ _ (by first | assumption | omega | exact .old W (by assumption)  | exact Sl.of_own W (k := 0) rfl (fun _ => rfl) | exact Sl.of_own W (k := 1) rfl (fun _ => rfl) | exact Sl.of_own W (k := 2) rfl (fun _ => rfl) | (simp at hp; omega)) (by first | assumption | omega | exact .old W (by assumption)  | exact Sl.of_own W (k := 0) rfl (fun _ => rfl) | exact Sl.of_own W (k := 1) rfl (fun _ => rfl) | exact Sl.of_own W (k := 2) rfl (fun _ => rfl) | (simp at hp; omega)))) rfl ?_; clear S a w; intro a w S)
  (refine st_m (op_calls S Try.call14 (EvL.cons (Ev.t rfl) EvL.nil) (c14 _ _ (by first | assumption | omega | exact .old S.wd (by assumption) | exact Sl.of_own S.wd (k := 0) rfl (fun _ => rfl) | exact Sl.of_own S.wd (k := 1) rfl (fun _ => rfl) | exact Sl.of_own S.wd (k := 2) rfl (fun _ => rfl))) rfl ?_); clear S a w; rintro _ _ ⟨A4, c5, rfl, rfl⟩ a w S)
  (refine st_y S (Yr.ys (ys_move (Ev.t rfl))) rfl ?_; clear S a w; intro a w S)
  (refine st_y S (Yr.ys (ys_ext (Ev.t rfl) rfl)) rfl ?_; clear S a w; intro a w S)
  (refine st_y S (Yr.ys (ys_ext (Ev.t rfl) rfl)) rfl ?_; clear S a w; intro a w S)
  (refine st_y S (Yr.ys (ys_assign (Ev.t rfl))) rfl ?_; clear S a w; intro a w S)
  (refine st_y S (Yr.ys (ys_assign (Ev.t rfl))) rfl ?_; clear S a w; intro a w S)
  refine st_nil ?_
  (refine (then_normal (hK1 _ _ ?_)); clear hK1)
  refine wp_seq_k fun _ hK1 => ?_
  refine wp_region_lit ?_
  (refine st_y S (Yr.ys (ys_move (Ev.t rfl))) rfl ?_; clear S a w; intro a w S)
  (refine st_y S (Yr.ys (ys_move (Ev.t rfl))) rfl ?_; clear S a w; intro a w S)
  (refine st_yg S rfl rfl (Yr.ys (ys_move (Ev.t rfl))) rfl ?_; clear S a w; intro a w S)
  (refine st_yg S rfl rfl (Yr.ys (ys_move (Ev.t rfl))) rfl ?_; clear S a w; intro a w S)
  (refine st_yg S rfl rfl (ys_call Try.call18 (EvL.cons (Ev.g rfl) (EvL.cons (Ev.g rfl) EvL.nil)) (fun hp w W => c18 _ _ _ _ _ (by first | assumption | omega | exact .old W (by assumption)  | exact Sl.of_own W (k := 0) rfl (fun _ => rfl) | exact Sl.of_own W (k := 1) rfl (fun _ => rfl) | exact Sl.of_own W (k := 2) rfl (fun _ => rfl) | exact Sl.of_own W (k := 3) rfl (fun _ => rfl) | (simp at hp; omega)) (by first | assumption | omega | exact .old W (by assumption)  | exact Sl.of_own W (k := 0) rfl (fun _ => rfl) | exact Sl.of_own W (k := 1) rfl (fun _ => rfl) | exact Sl.of_own W (k := 2) rfl (fun _ => rfl) | exact Sl.of_own W (k := 3) rfl (fun _ => rfl) | (simp at hp; omega)))) rfl ?_; clear S a w; intro a w S)
  (refine st_y S (Yr.ys (ys_and (Ev.t rfl) (Ev.g rfl) Ev.c)) rfl ?_; clear S a w; intro a w S)
  (refine st_y S (Yr.ys (ys_assign (Ev.t rfl))) rfl ?_; clear S a w; intro a w S)
  refine st_nil ?_
  (refine (then_normal (hK1 _ _ ?_)); clear hK1)
  refine wp_ret ?_
  refine st_ret S (results1 S Try.results3 (Rv.tmp rfl)) ?_
  rotate_left
  · rw [e1, e2] at h1
    simp at h1
  · refine ⟨?_, S.wd.below⟩
    rw [e3]
    simp
end Go.Proofs.Ytjfeeiljinbmjaa
