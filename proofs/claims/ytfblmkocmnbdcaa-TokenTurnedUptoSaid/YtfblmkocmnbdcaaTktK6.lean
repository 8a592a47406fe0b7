/- Contracts and laws that the statement Tkt leans on, part 6. -/
import Derived.Test.YtfblmkocmnbdcaaTktK5
import Derived.Laws.IdiomStrings
set_option linter.unusedVariables false
set_option linter.unusedSimpArgs false
set_option maxRecDepth 100000
set_option maxHeartbeats 4000000
namespace Go.Fw
section
variable {P : Program} {n : Nat} {w0 : World} {K : KL} {L : List Chunk} {ty : TypeId} {pos : String} {aft : Array Edge} {gd : Option (Nat × Bool)} {a : Act} {w : World} {Z : Act → World → Prop} {Q : Exit → Act → World → Prop} {d : Nat}
def txtD (l : List UInt8) (m : Nat) : List Value := l.map (fun u => Value.int .u8 (u.toNat : Int)) ++ List.replicate m (.int .u8 0)
theorem op_bytesF {t s e : TypeId} {x : Operand} {l : List UInt8} (S : St n w0 K L a w) (hs : P.underlying s = some .string) (ht : P.underlying t = some (.slice e)) (he : P.underlying e = some (.int .u8)) (hx : Ev n true K x (.string (bs l))) (hl : l.length ≤ 4611686018427387904) (hd : Nat.blt d n = true)
    (next : ∀ g m, l.length + m ≤ 9223372036854775807 → ∀ a w, St n w0 ((d, true, .slice (some ⟨g, 0, none⟩) l.length (l.length + m)) :: K) (.blk g (.cells (txtD l m).toArray e ((txtD l m).length, (txtD l m).length + 1)) :: L) a w → Z a w) :
    Oper.wp P ⟨some d, .convert s t x, ty, pos, aft, gd⟩ a w Z Q := by
  have hge := grownCap_ge w l.length 0 e
  have hcm : grownCap w l.length 0 e ≤ maxLen := grownCap_le_maxLen w l.length 0 e (by simp only [maxLen]; omega)
  obtain ⟨m, hm⟩ : ∃ m, grownCap w l.length 0 e = l.length + m := ⟨grownCap w l.length 0 e - l.length, by omega⟩
  have hsize : (bs l).size = l.length := by simp [ByteArray.size]
  have hcs : bytesRow (bs l) (grownCap w (bs l).size 0 e) = (txtD l m).toArray := by
    rw [hsize, hm]
    simp [bytesRow, txtD, hsize, show l.length + m - l.length = m by omega]
  have hrun := run_bytes_of_string (P := P) w s t e (bs l) hs ht he
  rw [hcs, hsize, hm] at hrun
  refine run_wp ?_ (next w.heap.size m (by simp only [maxLen] at hcm; omega) _ _ ⟨S.kn.put hd _, S.wd.drew.alloc _⟩)
  simp only [execOp, hx a rfl S.kn, Sem.run_bind, hrun, Result.andThen_ok]
  rfl
theorem Sl.of_txd {l : List UInt8} {k g m : Nat} {e : TypeId} {fr : Nat × Nat} (W : Wd w0 L w) (hk : L[k]? = some (.blk g (.cells (txtD l m).toArray e fr))) (hm : l.length + m ≤ 9223372036854775807) : Sl encB 1 w w.heap.size (.slice (some ⟨g, 0, none⟩) l.length (l.length + m)) l := by
  have h := W.get hk
  refine ⟨_, _, rfl, by omega, hm, fun _ => ⟨g, 0, rfl, (Array.getElem?_eq_some_iff.1 h.2).1, fun i x hi j u hu => ?_⟩⟩
  have hj : j = 0 := by
    have := (List.getElem?_eq_some_iff.1 hu).1
    simp [encB] at this; exact this
  subst hj
  have hu' : u = .int .u8 (x.toNat : Int) := by simpa [encB] using hu.symm
  subst hu'
  rw [cell_of_row w g _ _ e fr h.2]
  have hlt := (List.getElem?_eq_some_iff.1 hi).1
  obtain ⟨_, rfl⟩ := List.getElem?_eq_some_iff.1 hi
  simp [txtD, List.getElem?_append, hlt]
theorem op_stF {t : TypeId} {x y : Operand} {g i k lo hi : Nat} {cs : List Value} {e : TypeId} {v : Value} (S : St n w0 K L a w) (h1 : Size P t 1) (hx : Ev n true K x (.pointer (some ⟨g, i, none⟩))) (hy : Ev n true K y v)
    (hk : L[k]? = some (.blk g (.cells cs.toArray e (lo, hi)))) (hv : v.oneCell' = true) (hlt : i < cs.length) (hil : i < lo)
    (next : ∀ a w, St n w0 K (L.set k (.blk g (.cells (cs.set i v).toArray e (lo, hi)))) a w → Z a w) : Oper.wp P ⟨none, .store t x y, ty, pos, aft, gd⟩ a w Z Q := by
  have hg := (S.wd.get hk).2
  have hc : w.cell? ⟨g, i, none⟩ = some cs[i] := by rw [cell_of_row w g i _ e (lo, hi) hg]; simp [hlt]
  have hfz : w.frozen? ⟨g, i, none⟩ = false := by simp [World.frozen?, hg]; omega
  have hvc : v.cells = #[v] := by cases v <;> simp_all [Value.cells, Value.oneCell']
  have hr : (storeCells ⟨g, i, none⟩ [v] 0).run P w = .ok () (w.setCell ⟨g, i, none⟩ v) := by
    have hs : (store ((⟨g, i, none⟩ : Addr).add 0) v).run P w = .ok () (w.setCell ⟨g, i, none⟩ v) := by
      rw [Addr.add_mid, run_store P w _ v _ hv]
      simp [hc, hfz]
    rw [storeCells]
    simp only [Sem.run_bind, hs, Result.andThen_ok]
    rfl
  have hh : (w.setCell ⟨g, i, none⟩ v).heap[g]? = some (.cells (cs.set i v).toArray e (lo, hi)) := by
    simp [World.setCell, Array.getElem?_modify, hg]
  have hb : Turned (fun x => x = g) w (w.setCell ⟨g, i, none⟩ v) := ⟨rfl, rfl, rfl, by simp [World.setCell], fun k hk hne => heap_setCell_other w _ k v hne, Nat.le_refl _⟩
  refine run_wp0 (w' := w.setCell ⟨g, i, none⟩ v) ?_ (next _ _ ⟨S.kn, S.wd.change hk hb ⟨(S.wd.get hk).1, hh⟩ (fun _ h => .inl h)⟩)
  simp [execOp, hx a rfl S.kn, hy a rfl S.kn, Instr.storeAt, Instr.sureAddr, storeVar, h1 w, hvc, hr]
end
theorem u8_wf {n : Int} (h : (Lit.int .u8 n).wf = true) : ∃ p : UInt8, n = (p.toNat : Int) := by
  simp only [Lit.wf, IntKind.min, IntKind.max, IntKind.signed, IntKind.bits, Bool.and_eq_true, decide_eq_true_eq, Bool.false_eq_true, if_false] at h
  have h2 : n.toNat < 256 := by omega
  refine ⟨UInt8.ofNat n.toNat, ?_⟩
  rw [UInt8.toNat_ofNat', Nat.mod_eq_of_lt h2]
  omega
theorem i64_wf {n : Int} (h : (Lit.int .i64 n).wf = true) : -9223372036854775808 ≤ n ∧ n ≤ 9223372036854775807 := by
  simp only [Lit.wf, IntKind.min, IntKind.max, IntKind.signed, IntKind.bits, Bool.and_eq_true, decide_eq_true_eq, if_true] at h
  omega
theorem txt_len (l : List UInt8) (m : Nat) : (txtD l m).length = l.length + m := by simp [txtD]
theorem txt_set {l : List UInt8} {m j : Nat} {x : UInt8} (h : j < l.length) : (txtD l m).set j (.int .u8 (x.toNat : Int)) = txtD (l.set j x) m := by
  unfold txtD
  rw [List.set_append_left _ _ (by simpa using h), List.map_set]
end Go.Fw
namespace Go.Proofs.Ytfblmkocmnbdcaa
open Go.Fw Go.Proofs Go.RowKit Go.Proofs.Try
theorem c4 (w0 : World) (v1 v2 v3 : Value) (X : Cart) (k : Int) (x : UInt8) (h : Sl Ent.enc 6 w0 w0.heap.size v1 X.ents) (hr : RdCtx w0 w0.heap.size v2 v3 X.ctx) (hl1 : X.ents.length ≤ 1048576) (hl2 : X.ctx.marks.length ≤ 1048576) (hl3 : X.ctx.cloud.length ≤ 1048576) (hk1 : -9223372036854775808 ≤ k) (hk2 : k ≤ 9223372036854775807) :
    Calls Try.prog 4 #[.agg #[v1, v2, v3], .int .i64 k, .int .u8 (x.toNat : Int)] w0 fun e w' => e = .returned (.bool true) ∧ Bel w0.heap.size w0 w' := by
  have hc := h
  have hrr := hr
  obtain ⟨A, cap, rfl, hl, hcap, hA⟩ := h
  obtain ⟨⟨A2, cap2, rfl, _⟩, ⟨A3, cap3, rfl, _⟩⟩ := hr
  have rw_n : ∀ i : Int, decide (i ≠ i) = false := fun i => decide_eq_false (by simp)
  by_cases h0 : canE X = 0
  · have ok := (canE_ok X).1 h0
    have ht := tokM_ok ok
    have hp := tok_pos (encK X)
    have hxl := encK_len ok
    have hfl := frame_le (l := encK X) (by omega)
    have hll := letters_len (frameL (encK X))
    have rw_t1 : (tokM X).1 = letters (frameL (encK X)) := by rw [ht]
    have rw_t2 : (tokM X).2 = 0 := by rw [ht]
    have htu := fun (j : Nat) (hj : j < (letters (frameL (encK X))).length) => turned (x := x) ok hj
    have hbe := fun (j : Nat) (hj : j < (letters (frameL (encK X))).length) => Go.Fw.begun ok hj
    generalize letters (frameL (encK X)) = t at *
    have htl : t.length ≤ 4194304 := by omega
    have rw_p : decide (t = []) = false := decide_eq_false hp
    have htp : 0 < t.length := List.length_pos_iff.2 hp
    obtain ⟨U, rw_U, hU⟩ : ∃ U : Nat, IntKind.u64.wrap k = (U : Int) ∧ U < 18446744073709551616 := by
      refine ⟨(IntKind.u64.wrap k).toNat, ?_, ?_⟩
      · have : 0 ≤ IntKind.u64.wrap k := by simp only [IntKind.wrap, IntKind.signed, IntKind.bits]; simp; omega
        omega
      · have : IntKind.u64.wrap k < 18446744073709551616 := by simp only [IntKind.wrap, IntKind.signed, IntKind.bits]; simp; omega
        omega
    obtain ⟨j, hj⟩ : ∃ j, U % t.length = j := ⟨_, rfl⟩
    have hjl : j < t.length := by rw [← hj]; exact Nat.mod_lt _ htp
    have rw_j : (U : Int) % (t.length : Int) = (j : Int) := by rw [← hj]; rfl
    obtain ⟨y, hy⟩ : ∃ y, t[j]? = some y := ⟨_, List.getElem?_eq_getElem hjl⟩
    have h1 := htu j hjl
    have h2 := hbe j hjl
    rw [hy] at h1
    refine enter3 func4 rfl ntmps4 rfl fun a S => wp_seq_k fun _ hK1 => wp_region_lit (st_m (op_box S (.t rfl) rfl fun g1 a w S => run S (.ac rfl <| .z) fun a w S => st_nil (then_normal (hK1 _ _ (wp_seq_k fun _ hK1 => wp_region_lit (run S (.la gt40 0 rfl rfl rfl <| .z) fun a w S => ?_))))))
    (refine st_m (op_calls S call16 (.cons (.t rfl) .nil) (c16 _ _ _ _ _ (by exact .old S.wd (by assumption)) (by exact .old S.wd (by assumption)) (by assumption) (by assumption) (by assumption)) rfl ?_); clear S a w; rintro _ _ ⟨A11, r11, A21, r21, A31, r31, rfl, rfl⟩ a w S)
    refine run S (.xx (ys_call call15 (.cons (.t rfl) .nil) (fun hp w W => c15 _ _ _ _ _ (by exact Sl.of_own W (k := 0) rfl (fun _ => rfl)) (by exact ⟨(by exact Sl.of_own W (k := 1) rfl (fun _ => rfl)), (by exact Sl.of_own W (k := 2) rfl (fun _ => rfl))⟩))) rfl <| .z) fun a w S => ?_
    rw [rw_t2] at S
    rw [rw_t1] at S
    refine run S (.mv rfl <| .ex rfl rfl <| .ex rfl rfl <| .as rfl <| .as rfl <| .z) fun a w S => st_nil (then_normal (hK1 _ _ (wp_seq_k fun _ hK1 => wp_region_lit (run S (.la gt40 3 rfl rfl rfl <| .xx (ys_call call17 (.cons (.t rfl) .nil) (fun hp w W => c17 _ _ _ _ _ (by exact .old W (by assumption)) (by exact .old W (by assumption)))) rfl <| .z) fun a w S => ?_))))
    rw [rw_t2] at S
    rw [rw_t1] at S
    refine run S (.mv rfl <| .ex rfl rfl <| .ex rfl rfl <| .as rfl <| .as rfl <| .z) fun a w S => st_nil (then_normal (hK1 _ _ (wp_seq_k fun _ hK1 => sg S (.mv rfl <| .mv rfl <| .yy (ys_F (by omega) (ys_neq (.t rfl) (.t rfl))) rfl <| .z) fun a w S => st_else S (.t rfl) (wp_skip (then_normal (hK1 _ _ (wp_seq_k fun _ hK1 => sg S (.mv rfl <| .yy (ys_F (by omega) (ys_neq (.t rfl) Ev.c)) rfl <| .z) fun a w S => st_else S (.t rfl) (wp_skip (then_normal (hK1 _ _ (wp_seq_k fun _ hK1 => wp_seq_k fun _ hK2 => wp_region_lit (run S (.mv rfl <| .yy (ys_eqlStr (.t rfl) Ev.c) rfl <| .z) fun a w S => ?_))))))))))))
    rw [rw_p] at S
    refine st_nil (then_normal (hK2 _ _ (st_else S (.t rfl) (wp_skip (then_normal (hK1 _ _ (wp_seq_k fun _ hK1 => wp_region_lit (run S (.mv rfl <| .yy (ys_cv underlying3 underlying56 (.t rfl)) rfl <| .z) fun a w S => ?_))))))))
    rw [rw_U] at S
    refine run S (.mv rfl <| .yy (ys_lenStr underlying9 (.t rfl)) rfl <| .yy (ys_cvU underlying3 underlying56 (.t rfl) (fun _ => by omega)) rfl <| .yy (ys_remE (.t rfl) (.t rfl) (fun _ => by omega)) rfl <| .z) fun a w S => ?_
    rw [rw_j] at S
    refine run S (.yy (ys_cvI underlying56 underlying3 (.t rfl) (fun _ => by unfold I64; omega)) rfl <| .as rfl <| .z) fun a w S => st_nil (then_normal (hK1 _ _ (wp_seq_k fun _ hK1 => wp_region_lit (run S (.mv rfl <| .z) fun a w S => st_m (op_bytesF S underlying9 underlying57 underlying5 (.t rfl) (by omega) rfl ?_)))))
    clear S
    intro g m hm a w S
    have htxl := txt_len t m
    have h0j : 0 + j * 1 = j := by omega
    refine run S (.as rfl <| .z) fun a w S => st_nil (then_normal (hK1 _ _ (wp_seq_k fun _ hK1 => wp_region_lit (run S (.mv rfl <| .mv rfl <| .mv rfl <| .ix underlying57 sizeOf5 (by omega) rfl rfl <| .z) fun a w S => st_m (op_stF (i := 0 + j * 1) (k := 0) S sizeOf5 (.t rfl) (.t rfl) rfl rfl (by omega) (by omega) ?_)))))
    clear S
    intro a w S
    rw [h0j, txt_set hjl] at S
    have ht' : (t.set j x).length = t.length := by rw [List.length_set]
    generalize t.set j x = t' at *
    have rw_len := ht'.symm
    have hxy : (readT t').2 = 0 ↔ (x.toNat : Int) = (y.toNat : Int) := by
      rw [h1, Option.some.injEq, Int.ofNat_inj]
      exact ⟨fun e => by rw [e], fun e => (UInt8.toNat_inj.1 e).symm⟩
    have rw_q : (decide ((readT t').2 = 0) != decide ((x.toNat : Int) = (y.toNat : Int))) = false := by
      simp only [hxy, bne_self_eq_false]
    have htk : (t.take j).length ≤ 4194304 := by rw [List.length_take]; omega
    refine st_nil ?_
    rw [rw_len] at S
    refine then_normal (hK1 _ _ (wp_seq_k fun _ hK1 => wp_region_lit (run S (.mv rfl <| .z) fun a w S => st_y S (Yr.ys (ys_str (l := t') underlying57 underlying5 underlying9 (.t rfl) (fun _ w W => Sl.of_txd (l := t') (m := m) W (k := 0) rfl (by omega)))) rfl ?_)))
    clear S
    intro a w S
    (refine st_m (op_calls S call18 (.cons (.t rfl) .nil) (c18 _ _ (by omega)) rfl ?_); clear S a w; rintro _ _ ⟨A12, r12, A22, r22, A32, r32, rfl, rfl⟩ a w S)
    refine run S (.mv rfl <| .ex rfl rfl <| .ex rfl rfl <| .as rfl <| .z) fun a w S => st_nil (then_normal (hK1 _ _ (wp_seq_k fun _ hK1 => wp_seq_k fun _ hK2 => wp_region_lit (run S (.mv rfl <| .yy (ys_eql (.t rfl) Ev.c) rfl <| .mv rfl <| .mv rfl <| .mv rfl <| .yy (ys_ixStr underlying9 (.t rfl) (.t rfl) (fun _ => by assumption)) rfl <| .yy (ys_eql (.t rfl) (.t rfl)) rfl <| .yy (ys_neqB underlying4 (.t rfl) (.t rfl)) rfl <| .z) fun a w S => ?_))))
    rw [rw_q] at S
    refine st_nil (then_normal (hK2 _ _ (st_else S (.t rfl) (wp_skip (then_normal (hK1 _ _ (wp_seq_k fun _ hK1 => wp_region_lit (run S (.mv rfl <| .mv rfl <| .yy (ys_slStrHi underlying9 (.t rfl) (.t rfl) (fun _ => by first | omega | (simp; done) | (simp; omega))) rfl <| .z) fun a w S => ?_))))))))
    (refine st_m (op_calls S call18 (.cons (.t rfl) .nil) (c18 _ _ (by assumption)) rfl ?_); clear S a w; rintro _ _ ⟨A13, r13, A23, r23, A33, r33, rfl, rfl⟩ a w S)
    refine run S (.mv rfl <| .ex rfl rfl <| .ex rfl rfl <| .as rfl <| .z) fun a w S => st_nil (then_normal (hK1 _ _ (sg S (.mv rfl <| .yy (ys_eql (.t rfl) Ev.c) rfl <| .mv rfl <| .yy (ys_eql (.t rfl) Ev.c) rfl <| .yy (ys_eqlB underlying4 (.t rfl) (.t rfl)) rfl <| .as rfl <| .z) fun a w S => wp_ret (st_ret S (results1 S results4 (Rv.tmp rfl)) ?_))))
    have hj0 : (readT (t.take j)).2 = 0 ↔ (j : Int) = 0 := by rw [h2]; omega
    exact ⟨by simp only [hj0, beq_self_eq_true], S.wd.below⟩
  · have ht : tokM X = ([], canE X) := if_neg h0
    have rw_t1 : (tokM X).1 = [] := by rw [ht]
    have rw_t2 : (tokM X).2 = canE X := by rw [ht]
    have rw_d : decide (canE X ≠ 0) = true := decide_eq_true h0
    refine enter3 func4 rfl ntmps4 rfl fun a S => wp_seq_k fun _ hK1 => wp_region_lit (st_m (op_box S (.t rfl) rfl fun g1 a w S => run S (.ac rfl <| .z) fun a w S => st_nil (then_normal (hK1 _ _ (wp_seq_k fun _ hK1 => wp_region_lit (run S (.la gt40 0 rfl rfl rfl <| .z) fun a w S => ?_))))))
    (refine st_m (op_calls S call16 (.cons (.t rfl) .nil) (c16 _ _ _ _ _ (by exact .old S.wd (by assumption)) (by exact .old S.wd (by assumption)) (by assumption) (by assumption) (by assumption)) rfl ?_); clear S a w; rintro _ _ ⟨A11, r11, A21, r21, A31, r31, rfl, rfl⟩ a w S)
    refine run S (.xx (ys_call call15 (.cons (.t rfl) .nil) (fun hp w W => c15 _ _ _ _ _ (by exact Sl.of_own W (k := 0) rfl (fun _ => rfl)) (by exact ⟨(by exact Sl.of_own W (k := 1) rfl (fun _ => rfl)), (by exact Sl.of_own W (k := 2) rfl (fun _ => rfl))⟩))) rfl <| .z) fun a w S => ?_
    rw [rw_t1] at S
    rw [rw_t2] at S
    refine run S (.mv rfl <| .ex rfl rfl <| .ex rfl rfl <| .as rfl <| .as rfl <| .z) fun a w S => st_nil (then_normal (hK1 _ _ (wp_seq_k fun _ hK1 => wp_region_lit (run S (.la gt40 3 rfl rfl rfl <| .xx (ys_call call17 (.cons (.t rfl) .nil) (fun hp w W => c17 _ _ _ _ _ (by exact .old W (by assumption)) (by exact .old W (by assumption)))) rfl <| .z) fun a w S => ?_))))
    rw [rw_t1] at S
    rw [rw_t2] at S
    refine run S (.mv rfl <| .ex rfl rfl <| .ex rfl rfl <| .as rfl <| .as rfl <| .z) fun a w S => st_nil (then_normal (hK1 _ _ (wp_seq_k fun _ hK1 => sg S (.mv rfl <| .mv rfl <| .yy (ys_F (by omega) (ys_neq (.t rfl) (.t rfl))) rfl <| .z) fun a w S => st_else S (.t rfl) (wp_skip (then_normal (hK1 _ _ (wp_seq_k fun _ hK1 => sg S (.mv rfl <| .yy (ys_T (by omega) (ys_neq (.t rfl) Ev.c)) rfl <| .z) fun a w S => st_then S (.t rfl) (sg S (.mv rfl <| .yy (ys_eqlStr (.t rfl) Ev.c) rfl <| .as rfl <| .z) fun a w S => wp_ret (then_ret (st_ret S (results1 S results4 (Rv.tmp rfl)) ?_))))))))))
    exact ⟨by rw [decide_eq_true rfl], S.wd.below⟩
end Go.Proofs.Ytfblmkocmnbdcaa
