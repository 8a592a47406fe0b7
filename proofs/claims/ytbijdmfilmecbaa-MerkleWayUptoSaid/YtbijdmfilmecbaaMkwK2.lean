/- Contracts and laws that the statement Mkw leans on, part 2. -/
import Derived.Test.YtbijdmfilmecbaaMkwK1
set_option linter.unusedVariables false
set_option linter.unusedSimpArgs false
set_option maxRecDepth 100000
set_option maxHeartbeats 4000000
namespace Go.Fw
open Go.RowKit
theorem place_cast (k : List UInt8) : hashL k % 16 = ((placeK k : Nat) : Int) := by
  unfold placeK
  have := (hash_range k).1
  omega
def encMp (b : Nat) : List Value := [.map (some b)]
theorem encMp_len (b : Nat) : (encMp b).length = 1 := rfl
theorem name_len {s : List UInt8} (h : nameB s = true) : s.length ≤ 32 := by
  unfold nameB at h
  simp only [Bool.and_eq_true, decide_eq_true_eq] at h
  exact h.1.2
structure TreeAt (w : World) (g : Nat) (A : Option Addr) (cap : Nat) (gs : List Nat) (T : List KH) : Prop where
  keys : w.cell? ⟨g, 0, none⟩ = some (.slice A 16 cap)
  row : Sl encMp 1 w w.heap.size (.slice A gs.length cap) gs
  len : gs.length = 16
  maps : ∀ (i b : Nat), gs[i]? = some b → ∃ o, w.heap[b]? = some o ∧ MapC o (partT T i)
theorem TreeAt.old {w0 w : World} {L : List Chunk} {g cap : Nat} {A : Option Addr} {gs : List Nat} {T : List KH} (W : Wd w0 L w) (h : TreeAt w0 g A cap gs T) : TreeAt w g A cap gs T :=
  ⟨Wd.cellOld W h.keys, .old W h.row, h.len, fun i b hb => by
    obtain ⟨o, h1, h2⟩ := h.maps i b hb
    exact ⟨o, (W.below.block b (Array.getElem?_eq_some_iff.1 h1).1).trans h1, h2⟩⟩
structure MapsIn (w1 : World) (bs : List Nat) (gs : List Nat) (T : List KH) : Prop where
  len : gs.length = 16
  nodup : gs.Nodup
  maps : ∀ (i b : Nat), gs[i]? = some b → b ∈ bs ∧ ∃ o, w1.heap[b]? = some o ∧ MapC o (partT T i)
end Go.Fw
namespace Go.Proofs.Ytbijdmfilmecbaa
open Go.Fw Go.Proofs Go.RowKit Go.Proofs.Try
theorem smT80 : SmT Try.prog 80 := ⟨⟨_, _, underlying80, underlying9, zeroValue23⟩⟩
abbrev treeP (g : Nat) (A : Option Addr) (cap : Nat) (gs : List Nat) (w1 : World) (bs : List Nat) (L : List Chunk) : List Chunk := .blk g (.cells #[.slice A 16 cap] 59) :: rowOf 80 1 encMp A cap gs :: .ice w1 bs :: L
theorem sl_m1 {w0 w w1 : World} {L : List Chunk} {k g cap : Nat} {A : Option Addr} {gs bs : List Nat} {T : List KH} (W : Wd w0 L w) (hk : L[k]? = some (.blk g (.cells #[.slice A 16 cap] 59)))
    (h2 : L[k + 1]? = some (rowOf 80 1 encMp A cap gs) := by rfl) (h3 : L[k + 2]? = some (.ice w1 bs) := by rfl) (M : MapsIn w1 bs gs T := by assumption) : TreeAt w g A cap gs T :=
  ⟨Wd.cell W hk rfl, Sl.of_own W h2 encMp_len, M.len, fun i b hb => by
    obtain ⟨h4, o, h5, h6⟩ := M.maps i b hb
    exact ⟨o, ((W.get h3 b h4).2.2).trans h5, h6⟩⟩
theorem c47 (w0 : World) (k : List UInt8) (hn : k.length ≤ 4194304) : Calls Try.prog 47 #[.string (bs k)] w0 fun e w' => e = .returned (.int .i64 (placeK k : Int)) ∧ Bel w0.heap.size w0 w' := by
  have rw_p := place_cast k
  have hh := hash_range k
  have hp := placeK_lt k
  refine enter1 func47 rfl ntmps47 rfl fun a S => sg S (.ac rfl <| .z) fun a w S => wp_seq_k fun _ hK1 => wp_region_lit (run S (.mv rfl <| .xx (ys_call call70 (.cons (.t rfl) .nil) (fun hp w W => c70 _ _ (by assumption))) rfl <| .yy (ys_remE (.t rfl) Ev.c (fun _ => by omega)) rfl <| .z) fun a w S => ?_)
  rw [rw_p] at S
  refine run S (.yy (ys_cvI underlying23 underlying3 (.t rfl) (fun _ => by unfold I64; omega)) rfl <| .as rfl <| .z) fun a w S => st_nil (then_normal (hK1 _ _ (wp_ret (st_ret S (results1 S results47 (Rv.tmp rfl)) ?_))))
  exact ⟨rfl, S.wd.below⟩
theorem c15 (w0 : World) (k : List UInt8) (hn : k.length ≤ 4194304) : Calls Try.prog 15 #[.string (bs k)] w0 fun e w' => e = .returned (.int .i64 (placeK k : Int)) ∧ Bel w0.heap.size w0 w' := by
  have rw_p := place_cast k
  have hh := hash_range k
  have hp := placeK_lt k
  refine enter1 func15 rfl ntmps15 rfl fun a S => sg S (.ac rfl <| .z) fun a w S => wp_seq_k fun _ hK1 => wp_region_lit (run S (.mv rfl <| .xx (ys_call call48 (.cons (.t rfl) .nil) (fun hp w W => c48 _ _ (by assumption))) rfl <| .yy (ys_remE (.t rfl) Ev.c (fun _ => by omega)) rfl <| .z) fun a w S => ?_)
  rw [rw_p] at S
  refine run S (.yy (ys_cvI underlying23 underlying3 (.t rfl) (fun _ => by unfold I64; omega)) rfl <| .as rfl <| .z) fun a w S => st_nil (then_normal (hK1 _ _ (wp_ret (st_ret S (results1 S results15 (Rv.tmp rfl)) ?_))))
  exact ⟨rfl, S.wd.below⟩
theorem c45 (w0 : World) (g n cap : Nat) (A : Option Addr) (h : w0.cell? ⟨g, 0, none⟩ = some (.slice A n cap)) : Calls Try.prog 45 #[.pointer (some ⟨g, 0, none⟩)] w0 fun e w' => e = .returned (.bool (decide (0 < n))) ∧ Bel w0.heap.size w0 w' := by
  refine enter1 func45 rfl ntmps45 rfl fun a S => sg S (.ac rfl <| .z) fun a w S => sg S (.mv rfl <| .yy (ys_pNotS underlying24 (.t rfl) Ev.c) rfl <| .mv rfl <| .gy rfl rfl (ys_move (.t rfl)) <| .gy rfl rfl (ys_nilc (.t rfl)) <| .gy rfl rfl (ys_fieldN (FieldT.mk underlying59 rfl sizeOf57 rfl) (.t rfl) (i' := 0) rfl) <| .gy rfl rfl (ys_fieldN (FieldT.mk underlying57 rfl sizeOf55 rfl) (.t rfl) (i' := 0) rfl) <| .gy rfl rfl (ys_ldO ⟨isAgg55, sizeOf55⟩ (.t rfl) (fun _ => h)) <| .gy rfl rfl (ys_lenS underlying55 (.t rfl)) <| .gy rfl rfl (ys_gtr (.t rfl) Ev.c) <| .yy (ys_pickT (.t rfl) (.t rfl)) rfl <| .as rfl <| .z) fun a w S => wp_ret (st_ret S (results1 S results45 (Rv.tmp rfl)) ?_)
  exact ⟨by simp, S.wd.below⟩
theorem c77 (w0 : World) (b : Option Nat) :
    Rets Try.prog 77 #[.map b] w0 fun u L => ∃ g, u = .func (.func 101) #[] #[.pointer (some ⟨g, 0, none⟩)] ∧ L = [.blk g (.cells #[.map b] 80)] := by
  unfold Go.Fw.Rets
  refine enter1 func77 rfl ntmps77 rfl fun a S => wp_seq_k fun _ hK1 => wp_region_lit (st_m (op_box1 S (.t rfl) rfl rfl fun g1 a w S => run S (.ac rfl <| .z) fun a w S => st_nil (then_normal (hK1 _ _ (sg S (.yy (ys_mkFunc (.cons (.t rfl) .nil)) rfl <| .as rfl <| .z) fun a w S => wp_ret (st_ret S (results1 S results77 (Rv.tmp rfl)) ?_))))))
  exact ⟨_, _, rfl, S.wd.pk, _, rfl, rfl⟩
theorem sortsS (m : Nat) : AnyZ.SortsIn Try.prog Try.sortedS_ren Fence.wide m :=
  ⟨fun blk off cap ss W hH hblk hsz => callsIn_wide.2 (AnyM.slices_Sort_string Try.sortS blk off cap ss W hH hblk hsz),
   fun p cap W => callsIn_wide.2 (AnyM.slices_Sort_string_none Try.sortS p cap W)⟩
theorem o60 {f : List KH} {o : Obj} {w0 w : World} {L : List Chunk} {g b : Nat} (W : Wd w0 (.blk g (.cells #[.map (some b)] 80) :: L) w) (hb : w.heap[b]? = some o) (hC : MapC o f) (hf : f.Pairwise ltK) (hs : ∀ x ∈ f, x.1.length ≤ 1048576) (hl : f.length ≤ 4194304) :
    RetsO Try.prog 60 #[.func (.func 101) #[] #[.pointer (some ⟨g, 0, none⟩)]] w0 w fun v L' => ∃ A cap, v = .slice A f.length cap ∧ L' = rowOf 9 1 encS' A cap (f.map (·.1)) :: .blk g (.cells #[.map (some b)] 80) :: L :=
  sorted_keysS (ρk := Try.keysS_ren) (ρs := Try.sortedS_ren) { Try.keysS with } Try.sortedS (sortsS _) (enters_of func43 (by kernel_rfl) rfl) (enters_of func101 (by kernel_rfl) rfl) W underlying9 hb hC hf hs hl
theorem c57 (w0 : World) (g cap : Nat) (A : Option Addr) (gs : List Nat) (T : List KH) (i : Nat) (h : TreeAt w0 g A cap gs T) (hi : i < 16) (hT : KhOk T) (hl : T.length ≤ 4194304) :
    Rets Try.prog 57 #[.pointer (some ⟨g, 0, none⟩), .int .i64 (i : Int)] w0 fun v L => ∃ B c, v = .slice B (partT T i).length c ∧ L = [rowOf 9 1 encS' B c ((partT T i).map (·.1))] := by
  have hk := h.keys
  have hgl := h.len
  obtain ⟨A', cap', e, hl1, hcap, hA⟩ := h.row
  cases e
  obtain ⟨gr, o_, b, rfl, hb, hd, hcx⟩ := row_at hA (show i < gs.length by omega)
  obtain ⟨o, ho, hC⟩ := h.maps i b hb
  have hpl := partT_len T i
  unfold Go.Fw.Rets
  refine enter2 func57 rfl ntmps57 rfl fun a S => sg S (.ac rfl <| .z) fun a w S => wp_seq_k fun _ hK1 => wp_region_lit (run S (.mv rfl <| .yy (ys_nilc (.t rfl)) rfl <| .fa underlying57 sizeOf55 0 rfl rfl rfl <| .yy (ys_ldO ⟨isAgg55, sizeOf55⟩ (.t rfl) (fun _ => hk)) rfl <| .mv rfl <| .ix underlying55 sizeOf80 (by omega) rfl rfl <| .yy (ys_ldO ⟨isAgg80, sizeOf80⟩ (.t rfl) (fun _ => hcx 0 _ rfl)) rfl <| .z) fun a w S => ?_)
  (refine st_m (op_calls S call77 (.cons (.t rfl) .nil) (c77 _ _) rfl ?_); clear S a w; rintro _ _ ⟨g1, rfl, rfl⟩ a w S)
  refine st_m (op_callO S call60 (.cons (.t rfl) .nil) (o60 S.wd ((S.wd.below.block b (Array.getElem?_eq_some_iff.1 ho).1).trans ho) hC (partT_sorted hT.sorted i) (fun x hx => by have := name_len (hT.name x (partT_mem.1 hx).1); omega) (by omega)) rfl ?_)
  clear S
  rintro _ _ ⟨B, c, rfl, rfl⟩ a w S
  refine run S (.as rfl <| .z) fun a w S => st_nil (then_normal (hK1 _ _ (wp_ret (st_ret S (results1 S results57 (Rv.tmp rfl)) ?_))))
  exact ⟨_, _, rfl, S.wd.pk, _, _, rfl, rfl⟩
theorem c74 (w0 : World) (g cap : Nat) (A : Option Addr) (gs : List Nat) (T : List KH) (i : Nat) (h : TreeAt w0 g A cap gs T) (hi : i < 16) (hT : KhOk T) (hl : T.length ≤ 4194304) :
    Calls Try.prog 74 #[.pointer (some ⟨g, 0, none⟩), .int .i64 (i : Int)] w0 fun e w' => e = .returned (.int .u64 (hashT T 0 i)) ∧ Bel w0.heap.size w0 w' := by
  have hk := h.keys
  have hgl := h.len
  obtain ⟨A', cap', e, hl1, hcap, hA⟩ := h.row
  cases e
  obtain ⟨gr, o_, b, rfl, hb, hd, hcx⟩ := row_at hA (show i < gs.length by omega)
  obtain ⟨o, ho, hC⟩ := h.maps i b hb
  have hpl := partT_len T i
  refine enter2 func74 rfl ntmps74 rfl fun a S => sg S (.ac rfl <| .z) fun a w S => sg S (.ac rfl <| .z) fun a w S => wp_seq_k fun _ hK1 => wp_seq_k fun _ hK2 => wp_region_lit (run S (.mv rfl <| .mv rfl <| .z) fun a w S => ?_)
  (refine st_m (op_calls S call57 (.cons (.t rfl) (.cons (.t rfl) .nil)) (c57 _ _ _ _ _ _ _ (by exact .old S.wd (by assumption)) (by assumption) (by assumption) (by assumption)) rfl ?_); clear S a w; rintro _ _ ⟨B1, c1, rfl, rfl⟩ a w S)
  refine run S (.ln underlying61 rfl <| .mc rfl <| .z) fun a w S => st_nil (then_normal (hK2 _ _ (wp_block ?_)))
  refine st_lpM S [5, 12] (X := Nat) (fun q => [(5, true, .int .u64 (leafH ((partT T i).take q))), (12, true, .int .i64 (q : Int))]) (fun _ => [rowOf 9 1 encS' B1 c1 ((partT T i).map (·.1))]) (fun q => q ≤ (partT T i).length) (fun q => (partT T i).length - q) 0 (Nat.zero_le _) ?_
  clear S
  rintro q a w hq S
  have hml : ((partT T i).map (·.1)).length = (partT T i).length := List.length_map ..
  by_cases hlt : q < (partT T i).length
  · obtain ⟨x, hx⟩ : ∃ x, (partT T i)[q]? = some x := ⟨_, List.getElem?_eq_getElem hlt⟩
    obtain ⟨ga, rfl⟩ := S.wd.row_at (k := 0) rfl (by have := (S.wd.room (k := 0) rfl).1; omega)
    have hx1 : ((partT T i).map (·.1))[q]? = some x.1 := by rw [List.getElem?_map, hx]; rfl
    have hmx : (x.1, x.2) ∈ partT T i := List.mem_of_getElem? hx
    have hxl := name_len (hT.name x (partT_mem.1 hmx).1)
    have hxr := hT.hash x (partT_mem.1 hmx).1
    have hst : leafH ((partT T i).take (q + 1)) = mixL (leafH ((partT T i).take q)) (mixL (hashL x.1) x.2) := by
      unfold leafH
      rw [List.take_add_one, hx, Option.toList_some, List.foldl_append]
      rfl
    have hrg := leaf_range ((partT T i).take q)
    have hrm := mix_range (hashL x.1) x.2
    have hrh := hash_range x.1
    obtain ⟨q0, hq0⟩ : ∃ y, leafH ((partT T i).take q) = y := ⟨_, rfl⟩
    obtain ⟨hh, rw_h⟩ : ∃ y, hashL x.1 = y := ⟨_, rfl⟩
    rw [rw_h] at hrm hrh hst
    obtain ⟨hm, rw_m⟩ : ∃ y, mixL hh x.2 = y := ⟨_, rfl⟩
    rw [rw_m] at hrm hst
    rw [hq0] at hrg hst S
    obtain ⟨hn, rw_n⟩ : ∃ y, mixL q0 hm = y := ⟨_, rfl⟩
    rw [rw_n] at hst
    refine sg S (.lt (by omega) rfl rfl <| .z) fun a w S => wp_seq_k fun _ hK2 => st_then S (.t rfl) (wp_skip (then_normal (hK2 _ _ (wp_seq_k fun _ hK2 => wp_block (sg S (.ix underlying61 sizeOf9 (by omega) rfl rfl <| .yy (ys_ldW0 ⟨isAgg9, sizeOf9⟩ (.t rfl) (k := 0) rfl hx1 (fun _ => rfl) rfl) rfl <| .as rfl <| .z) fun a w S => h_begin0 S (by kernel_rfl) fun a w S => hy 0 S rfl (ys_move (.t rfl)) rfl fun a w S => hy 1 S rfl (ys_move (.t rfl)) rfl fun a w S => hy 4 S rfl (ys_move (.t rfl)) rfl fun a w S => ?_)))))
    refine hy 5 S rfl (ys_nilc (.t rfl)) rfl fun a w S => hy 6 S rfl (ys_fieldN (FieldT.mk underlying57 rfl sizeOf55 rfl) (.t rfl) (i' := 0) rfl) rfl fun a w S => hy 7 S rfl (ys_ldO ⟨isAgg55, sizeOf55⟩ (.t rfl) (fun _ => hk)) rfl fun a w S => hy 8 S rfl (ys_move (.t rfl)) rfl fun a w S => hy 9 S rfl (ys_ixS underlying55 sizeOf80 (.t rfl) (.t rfl) (fun _ => by omega)) rfl fun a w S => ?_
    refine hy 10 S rfl (ys_ldO ⟨isAgg80, sizeOf80⟩ (.t rfl) (fun _ => hcx 0 _ rfl)) rfl fun a w S => hy 11 S rfl (ys_move (.t rfl)) rfl fun a w S => hy 12 S rfl (ys_lookSO smT80 (.t rfl) (.t rfl) (by assumption) (by assumption) (by assumption)) rfl fun a w S => ?_
    (refine h_m (i := 2) rfl (by kernel_rfl) (op_bytes S underlying9 underlying120 underlying5 (.t rfl) (by first | omega | (simp; omega)) rfl ?_); clear S a w; intro g1 m1 fr1 hm1 a w S; refine h_n2 S ?_)
    refine h_q (i := 3) S (by repeat (first | exact List.Sublist.refl _ | exact List.nil_sublist _ | refine .cons_cons _ ?_ | refine .cons _ ?_)) rfl (by kernel_rfl) (ys_call call97 (.cons (.t rfl) .nil) (fun hp w W => c97 _ _ _ (by exact Sl.of_txt W (k := 0) rfl (by assumption)) (by omega))) rfl fun a w S => ?_
    rw [rw_h] at S
    refine h_q (i := 13) S (by repeat (first | exact List.Sublist.refl _ | exact List.nil_sublist _ | refine .cons_cons _ ?_ | refine .cons _ ?_)) rfl (by kernel_rfl) (ys_call call75 (.cons (.t rfl) (.cons (.t rfl) .nil)) (fun hp w W => c75 _ _ _ (by assumption) (by assumption))) rfl fun a w S => ?_
    rw [rw_m] at S
    refine h_q (i := 14) S (by repeat (first | exact List.Sublist.refl _ | exact List.nil_sublist _ | refine .cons_cons _ ?_ | refine .cons _ ?_)) rfl (by kernel_rfl) (ys_call call75 (.cons (.t rfl) (.cons (.t rfl) .nil)) (fun hp w W => c75 _ _ _ (by assumption) (by assumption))) rfl fun a w S => ?_
    rw [rw_n] at S
    refine hy 15 S rfl (ys_assign (.t rfl)) rfl fun a w S => h_done (by kernel_rfl) (in_normal (then_normal (hK2 _ _ (wp_region_lit (run S (.ad (by unfold I64; omega) rfl <| .mv rfl <| .z) fun a w S => st_nil (then_normal ?_))))))
    exact ⟨q + 1, by omega, by omega, by rw [hst]; exact S.pk⟩
  obtain rfl : q = (partT T i).length := by omega
  rw [List.take_length] at S
  refine sg S (.ge (by omega) rfl rfl <| .z) fun a w S => wp_seq_k fun _ hK2 => st_else S (.t rfl) (wp_exit (then_exit (then_exit (in_here (then_normal (hK1 _ _ (sg S (.mv rfl <| .as rfl <| .z) fun a w S => wp_ret (st_ret S (results1 S results74 (Rv.tmp rfl)) ?_))))))))
  exact ⟨rfl, S.wd.below⟩
end Go.Proofs.Ytbijdmfilmecbaa
set_option linter.unusedVariables false
set_option linter.unusedSimpArgs false
set_option maxRecDepth 100000
set_option maxHeartbeats 4000000
namespace Go.Fw
open Go.RowKit
abbrev Kh.enc (x : KH) : List Value := [.int .i64 0, .string (bs x.1), .int .u64 x.2]
theorem Kh.enc_len (x : KH) : (Kh.enc x).length = 3 := rfl
theorem Kh.enc_one (x : KH) : ∀ u ∈ Kh.enc x, u.oneCell' = true := fun u hu => by simp [Kh.enc] at hu; rcases hu with rfl | rfl | rfl <;> rfl
structure DocAt (w : World) (g : Nat) (A : Option Addr) (cap : Nat) (T : List KH) : Prop where
  keys : w.cell? ⟨g, 0, none⟩ = some (.slice A T.length cap)
  row : Sl Kh.enc 3 w w.heap.size (.slice A T.length cap) T
theorem DocAt.old {w0 w : World} {L : List Chunk} {g cap : Nat} {A : Option Addr} {T : List KH} (W : Wd w0 L w) (h : DocAt w0 g A cap T) : DocAt w g A cap T := ⟨Wd.cellOld W h.keys, .old W h.row⟩
theorem half_left {d p : Nat} (h : (p + 1) * 2 ^ (d + 1) ≤ 16) : (2 * p + 1) * 2 ^ d ≤ 16 ∧ (2 * p + 1 + 1) * 2 ^ d ≤ 16 := by
  have e : (p + 1) * 2 ^ (d + 1) = (2 * p + 1 + 1) * 2 ^ d := by rw [Nat.pow_succ, Nat.mul_comm (2 ^ d) 2, ← Nat.mul_assoc]; congr 1; omega
  rw [e] at h
  exact ⟨Nat.le_trans (Nat.mul_le_mul_right _ (by omega)) h, h⟩
theorem half_lt {d p : Nat} (h : (p + 1) * 2 ^ d ≤ 16) : p < 16 := by
  have := Nat.le_mul_of_pos_right (p + 1) (Nat.two_pow_pos d)
  omega
theorem place_of {lv p : Int} (h1 : 0 ≤ lv ∧ lv ≤ 4) (h2 : 0 ≤ p ∧ p < 2 ^ lv.toNat) : (p.toNat + 1) * 2 ^ (4 - lv).toNat ≤ 16 := by
  have h3 : p.toNat + 1 ≤ 2 ^ lv.toNat := by
    have : ((p.toNat : Int)) < ((2 ^ lv.toNat : Nat) : Int) := by rw [Int.toNat_of_nonneg h2.1]; simpa using h2.2
    omega
  refine Nat.le_trans (Nat.mul_le_mul_right _ h3) ?_
  rw [← Nat.pow_add, show lv.toNat + (4 - lv).toNat = 4 by omega]
  decide
end Go.Fw
namespace Go.Proofs.Ytbijdmfilmecbaa
open Go.Fw Go.Proofs Go.RowKit Go.Proofs.Try
theorem hash_ind (T : List KH) (hT : KhOk T) (hl : T.length ≤ 4194304) : ∀ (d p : Nat) (lv : Int) (w0 : World) (g cap : Nat) (A : Option Addr) (gs : List Nat), TreeAt w0 g A cap gs T → 0 ≤ lv → lv = 4 - (d : Int) → (p + 1) * 2 ^ d ≤ 16 →
    Calls Try.prog 54 #[.pointer (some ⟨g, 0, none⟩), .int .i64 lv, .int .i64 (p : Int)] w0 fun e w' => e = .returned (.int .u64 (hashT T d p)) ∧ Bel w0.heap.size w0 w'
  | 0, p, lv, w0, g, cap, A, gs, h, h0, h4, hp => by
    obtain rfl : lv = 4 := by omega
    have hp16 := half_lt hp
    refine enter3 func54 rfl ntmps54 rfl fun a S => sg S (.ac rfl <| .z) fun a w S => wp_seq_k fun _ hK1 => sg S (.mv rfl <| .yy (ys_T (by omega) (ys_eql (.t rfl) Ev.c)) rfl <| .z) fun a w S => st_then S (.t rfl) (sg S (.mv rfl <| .yy (ys_nilc (.t rfl)) rfl <| .fa underlying59 sizeOf57 0 rfl rfl rfl <| .mv rfl <| .xx (ys_call call74 (.cons (.t rfl) (.cons (.t rfl) .nil)) (fun hp w W => c74 _ _ _ _ _ _ _ (by exact .old W (by assumption)) (by assumption) (by assumption) (by assumption))) rfl <| .as rfl <| .z) fun a w S => wp_ret (then_ret (st_ret S (results1 S results54 (Rv.tmp rfl)) ?_)))
    exact ⟨rfl, S.wd.below⟩
  | d + 1, p, lv, w0, g, cap, A, gs, h, h0, h4, hp => by
    have ih := hash_ind T hT hl d
    have hp16 := half_lt hp
    obtain ⟨hp1, hp2⟩ := half_left hp
    have rw_1 : (2 : Int) * (p : Int) = ((2 * p : Nat) : Int) := rfl
    have rw_2 : ((2 * p : Nat) : Int) + 1 = ((2 * p + 1 : Nat) : Int) := rfl
    have ha := hashT_range T d (2 * p)
    have hb := hashT_range T d (2 * p + 1)
    have e : hashT T (d + 1) p = if hashT T d (2 * p) = 0 ∧ hashT T d (2 * p + 1) = 0 then 0 else mixL (hashT T d (2 * p)) (hashT T d (2 * p + 1)) := by rw [hashT]
    generalize hx : hashT T d (2 * p) = x at *
    generalize hy : hashT T d (2 * p + 1) = y at *
    refine enter3 func54 rfl ntmps54 rfl fun a S => sg S (.ac rfl <| .z) fun a w S => wp_seq_k fun _ hK1 => sg S (.mv rfl <| .yy (ys_F (by omega) (ys_eql (.t rfl) Ev.c)) rfl <| .z) fun a w S => st_else S (.t rfl) (wp_skip (then_normal (hK1 _ _ (wp_seq_k fun _ hK1 => wp_region_lit (run S (.mv rfl <| .mv rfl <| .ad (by unfold I64; omega) rfl <| .mv rfl <| .yy (ys_mulI Ev.c (.t rfl) (fun _ => by unfold I64; omega)) rfl <| .z) fun a w S => ?_)))))
    rw [rw_1] at S
    refine st_y S (ys_call call54 (.cons (.t rfl) (.cons (.t rfl) (.cons (.t rfl) .nil))) (fun _ w' W' => ih (2 * p) (lv + 1) w' g cap A gs (TreeAt.old W' h) (by omega) (by omega) hp1)) rfl ?_
    clear S a w
    intro a w S
    rw [hx] at S
    refine run S (.mv rfl <| .mv rfl <| .ad (by unfold I64; omega) rfl <| .mv rfl <| .yy (ys_mulI Ev.c (.t rfl) (fun _ => by unfold I64; omega)) rfl <| .z) fun a w S => ?_
    rw [rw_1] at S
    refine run S (.ad (by unfold I64; omega) rfl <| .z) fun a w S => ?_
    rw [rw_2] at S
    refine st_y S (ys_call call54 (.cons (.t rfl) (.cons (.t rfl) (.cons (.t rfl) .nil))) (fun _ w' W' => ih (2 * p + 1) (lv + 1) w' g cap A gs (TreeAt.old W' h) (by omega) (by omega) hp2)) rfl ?_
    clear S a w
    intro a w S
    rw [hy] at S
    refine run S (.as rfl <| .as rfl <| .z) fun a w S => st_nil (then_normal (hK1 _ _ (wp_seq_k fun _ hK1 => wp_seq_k fun _ hK2 => wp_region_lit (run S (.mv rfl <| .yy (ys_eql (.t rfl) Ev.c) rfl <| .mv rfl <| .z) fun a w S => st_yg S rfl rfl (Yr.ys (ys_move (.t rfl))) rfl fun a w S => st_yg S rfl rfl (Yr.ys (ys_eql (Ev.g rfl) Ev.c)) rfl fun a w S => run S (.yy (ys_and (.t rfl) (Ev.g rfl) Ev.c) rfl <| .z) fun a w S => st_nil (then_normal (hK2 _ _ ?_))))))
    refine st_cond S (.t rfl) (fun h1 => ?_) (fun h1 => ?_)
    refine sg S (.ac rfl <| .z) fun a w S => wp_ret (then_ret (st_ret S (results1 S results54 (Rv.tmp rfl)) ?_))
    rotate_left
    refine wp_skip (then_normal (hK1 _ _ (sg S (.mv rfl <| .mv rfl <| .xx (ys_call call75 (.cons (.t rfl) (.cons (.t rfl) .nil)) (fun hp w W => c75 _ _ _ (by assumption) (by assumption))) rfl <| .as rfl <| .z) fun a w S => wp_ret (st_ret S (results1 S results54 (Rv.tmp rfl)) ?_))))
    rotate_left
    · exact ⟨by rw [e, if_pos (by simpa using h1)], S.wd.below⟩
    · exact ⟨by rw [e, if_neg (by simpa using h1)], S.wd.below⟩
theorem c54 (w0 : World) (g cap : Nat) (A : Option Addr) (gs : List Nat) (T : List KH) (lv p : Int) (h : TreeAt w0 g A cap gs T) (hT : KhOk T) (hl : T.length ≤ 4194304) (h1 : 0 ≤ lv ∧ lv ≤ 4) (h2 : 0 ≤ p ∧ p < 2 ^ lv.toNat) :
    Calls Try.prog 54 #[.pointer (some ⟨g, 0, none⟩), .int .i64 lv, .int .i64 p] w0 fun e w' => e = .returned (.int .u64 (hashT T (4 - lv).toNat p.toNat)) ∧ Bel w0.heap.size w0 w' := by
  have := hash_ind T hT hl (4 - lv).toNat p.toNat lv w0 g cap A gs h h1.1 (by omega) (place_of h1 h2)
  rwa [Int.toNat_of_nonneg h2.1] at this
end Go.Proofs.Ytbijdmfilmecbaa
set_option linter.unusedVariables false
set_option linter.unusedSimpArgs false
set_option maxRecDepth 100000
set_option maxHeartbeats 4000000
namespace Go.Fw
open Go.RowKit
section
variable {w0 w w1 : World} {L : List Chunk} {b : Nat} {o : Obj} {bs : List Nat}
theorem freeze_blk (W : Wd w0 (.blk b o :: .ice w1 bs :: L) w) : Wd w0 (.ice w (b :: bs) :: L) w ∧ b ∉ bs ∧ w.heap[b]? = some o ∧ ∀ x ∈ bs, w.heap[x]? = w1.heap[x]? := by
  have W1 := Wd.freeze (cs := [.blk b o, .ice w1 bs]) W
  have e : [Chunk.blk b o, .ice w1 bs].flatMap Chunk.blocks = b :: bs := by simp [Chunk.blocks]
  rw [e] at W1
  refine ⟨W1, fun hb => ?_, (W.get (k := 0) rfl).2, fun x hx => (W.get (k := 1) rfl x hx).2.2⟩
  have := W.apart
  rw [List.pairwise_cons] at this
  exact this.1 (.ice w1 bs) (by simp) b rfl hb
theorem thaw_blk (W : Wd w0 (.ice w1 bs :: L) w) (hb : b ∈ bs) (ho : w1.heap[b]? = some o) : Wd w0 (.blk b o :: .ice w1 (bs.filter fun x => decide (x ≠ b)) :: L) w := by
  obtain ⟨h1, h2, h3⟩ := W
  rw [List.pairwise_cons] at h3
  have hi := h2 (.ice w1 bs) (by simp)
  refine ⟨h1, fun c hc => ?_, List.Pairwise.cons (fun c hc x hx hxc => ?_) (List.Pairwise.cons (fun c hc x hx hxc => ?_) h3.2)⟩
  · rcases List.mem_cons.1 hc with rfl | hc
    · obtain ⟨k1, k2, k3⟩ := hi b hb
      exact ⟨k1, k3.trans ho⟩
    · rcases List.mem_cons.1 hc with rfl | hc
      · exact fun x hx => hi x (List.mem_filter.1 hx).1
      · exact h2 c (by simp [hc])
  · have hx' : x = b := hx
    subst hx'
    rcases List.mem_cons.1 hc with rfl | hc
    · have := (List.mem_filter.1 hxc).2
      simp at this
    · exact h3.1 c hc x hb hxc
  · exact h3.1 c hc x (List.mem_filter.1 hx).1 hxc
end
theorem maps_upd {w w1 : World} {bs bs2 gs : List Nat} {T T' : List KH} {i b : Nat} {o' : Obj} (M : MapsIn w1 bs gs T) (hi : gs[i]? = some b) (h1 : ∀ j, j ≠ i → partT T' j = partT T j) (hC : MapC o' (partT T' i)) (hw : w.heap[b]? = some o')
    (hold : ∀ x ∈ bs, x ≠ b → w.heap[x]? = w1.heap[x]?) (hbs : ∀ x ∈ bs, x ∈ bs2) : MapsIn w bs2 gs T' := by
  refine ⟨M.len, M.nodup, fun j c hc => ?_⟩
  obtain ⟨k1, o, k2, k3⟩ := M.maps j c hc
  refine ⟨hbs c k1, ?_⟩
  by_cases e : j = i
  · subst e
    rw [hi] at hc
    obtain rfl : b = c := by simpa using hc
    exact ⟨o', hw, hC⟩
  · have hne : c ≠ b := fun h => by
      subst h
      have hjl : j < gs.length := (List.getElem?_eq_some_iff.1 hc).1
      exact e ((List.getElem?_inj hjl M.nodup).1 (hc.trans hi.symm))
    exact ⟨o, (hold c k1 hne).trans k2, by rw [h1 j e]; exact k3⟩
def setE (k : List UInt8) : Int := if nameB k = true then 0 else 6
def setK (k : List UInt8) (h : Int) (T : List KH) : List KH := if nameB k = true then setT k h T else T
def dropE (T : List KH) (k : List UInt8) : Int := if nameB k = true then (if hasT T k = true then 0 else 91) else 6
theorem drop_none {T : List KH} {k : List UInt8} (h : ∀ x ∈ T, x.1 ≠ k) : dropT k T = T := by
  unfold dropT
  rw [List.filter_eq_self]
  intro x hx
  exact decide_eq_true (h x hx)
theorem setK_ok {k : List UInt8} {h : Int} {T : List KH} (hT : KhOk T) (hh : 0 ≤ h ∧ h ≤ 18446744073709551615) : KhOk (setK k h T) := by
  unfold setK
  split
  · rename_i hk; exact setT_ok hT hk hh
  · exact hT
theorem setK_len (k : List UInt8) (h : Int) (T : List KH) : (setK k h T).length ≤ T.length + 1 := by
  unfold setK
  split
  · exact setT_len _ _ _
  · omega
theorem part_set_mem {k : List UInt8} {h : Int} {T : List KH} (hT : T.Pairwise ltK) : ∀ x, x ∈ partT (setT k h T) (placeK k) ↔ x = (k, h) ∨ (x ∈ partT T (placeK k) ∧ x.1 ≠ k) := fun x => by
  rw [partT_mem, partT_mem, setT_mem hT]
  constructor
  · rintro ⟨rfl | ⟨h1, h2⟩, h3⟩
    · exact .inl rfl
    · exact .inr ⟨⟨h1, h3⟩, h2⟩
  · rintro (rfl | ⟨⟨h1, h3⟩, h2⟩)
    · exact ⟨.inl rfl, rfl⟩
    · exact ⟨.inr ⟨h1, h2⟩, h3⟩
theorem part_drop_mem {k : List UInt8} {T : List KH} : ∀ x, x ∈ partT (dropT k T) (placeK k) ↔ x ∈ partT T (placeK k) ∧ x.1 ≠ k := fun x => by
  rw [partT_mem, partT_mem, dropT_mem]
  constructor
  · rintro ⟨⟨h1, h2⟩, h3⟩; exact ⟨⟨h1, h3⟩, h2⟩
  · rintro ⟨⟨h1, h3⟩, h2⟩; exact ⟨⟨h1, h2⟩, h3⟩
end Go.Fw
namespace Go.Proofs.Ytbijdmfilmecbaa
open Go.Fw Go.Proofs Go.RowKit Go.Proofs.Try
theorem inf80 : InfoT Try.prog 80 (.map none) 1 8 := by unfold InfoT; kernel_rfl
abbrev kv80 (x : List UInt8) : Value := .string (bs x)
abbrev vv80 (x : Int) : Value := .int .u64 x
theorem c44 (w0 : World) : Rets Try.prog 44 #[] w0 fun u L => ∃ g A cap gs w1 bs, u = .pointer (some ⟨g, 0, none⟩) ∧ L = treeP g A cap gs w1 bs [] ∧ MapsIn w1 bs gs [] := by
  unfold Go.Fw.Rets
  refine enter0 func44 rfl ntmps44 rfl fun a S => sg S (.ac rfl <| .z) fun a w S => wp_seq_k fun _ hK1 => wp_region_lit (run S (.yy (ys_bld (ps := []) (us := [_]) bld59 .nil rfl) rfl <| .z) fun a w S => st_m (op_box S (.t rfl) rfl fun g1 a w S => run S (.as rfl <| .z) fun a w S => st_nil (then_normal (hK1 _ _ (wp_seq_k fun _ hK1 => sg S (.mc rfl <| .z) fun a w S => wp_block ?_)))))
  replace S := S.nil_ 80 1 encMp none
  replace S : St _ _ _ (.ice w0 [] :: _) _ _ := ⟨S.kn, S.wd.bare (fun b hb => by cases hb) (fun b hb => by cases hb)⟩
  refine st_lpM S [4] (X := Nat × Option Addr × Nat × List Nat × World × List Nat) (fun q => [(4, true, .int .i64 (q.1 : Int))]) (fun q => [.blk g1 (.cells #[.slice q.2.1 q.2.2.2.1.length q.2.2.1] 59), rowOf 80 1 encMp q.2.1 q.2.2.1 q.2.2.2.1, .ice q.2.2.2.2.1 q.2.2.2.2.2])
    (fun q => q.1 ≤ 16 ∧ q.2.2.2.1.length = q.1 ∧ q.2.2.2.1.Nodup ∧ ∀ b ∈ q.2.2.2.1, b ∈ q.2.2.2.2.2 ∧ q.2.2.2.2.1.heap[b]? = some (.map #[] 0)) (fun q => 16 - q.1) (0, none, 0, [], w0, []) ⟨by simp, rfl, List.nodup_nil, by simp⟩ ?_
  clear S
  rintro ⟨i, A, cap, gs, w1, bs⟩ a w ⟨hi, hgl, hgn, hgm⟩ S
  dsimp only at hi hgl hgn hgm S
  by_cases hlt : i < 16
  · refine sg S (.yy (ys_T (by omega) (ys_lss (.t rfl) Ev.c)) rfl <| .z) fun a w S => wp_seq_k fun _ hK2 => st_then S (.t rfl) (wp_skip (then_normal (hK2 _ _ (wp_seq_k fun _ hK2 => wp_block (wp_region_lit (run S (.mv rfl <| .mv rfl <| .yy (ys_nilc (.t rfl)) rfl <| .fa underlying59 sizeOf57 0 rfl rfl rfl <| .fa underlying57 sizeOf55 0 rfl rfl rfl <| .ld gt55 0 rfl rfl rfl <| .z) fun a w S => st_m (op_makeMap kv80 vv80 S rfl fun g2 a w S => st_m (op_bslice1 S underlying55 inf80 rfl rfl rfl (.t rfl) rfl rfl rfl fun g3 a w S => st_m (op_push S underlying55 inf80 rfl (k := 3) (j := 0) rfl (.t rfl) (.t rfl) rfl rfl rfl rfl (by first | omega | (simp only [List.length_append, List.length_cons, List.length_nil]; omega)) rfl rfl rfl fun A1 cap1 a w S => run S (.yy (ys_nilc (.t rfl)) rfl <| .fa underlying59 sizeOf57 0 rfl rfl rfl <| .fa underlying57 sizeOf55 0 rfl rfl rfl <| .z) fun a w S => st_m (op_st S sizeOf55 (.t rfl) (.t rfl) (k := 2) rfl rfl (by simp) fun a w S => st_nil (in_normal (then_normal (hK2 _ _ (wp_region_lit (run S (.ad (by unfold I64; omega) rfl <| .mv rfl <| .z) fun a w S => st_nil (then_normal ?_))))))))))))))))
    obtain ⟨W1, hnb, hg2, hold⟩ := freeze_blk (S.wd.picks (L' := [.blk g2 (mapK kv80 vv80 []), .ice w1 bs, .blk g1 (.cells #[.slice A1 (gs ++ [g2]).length cap1] 59), rowOf 80 1 encMp A1 cap1 (gs ++ [g2])]) (by repeat (first | exact Picks.nil | (refine Picks.rest ?_; (repeat (first | exact List.Sublist.refl _ | refine List.Sublist.cons_cons _ ?_ | refine List.Sublist.cons _ ?_)); done) | refine Picks.take 0 rfl ?_ | refine Picks.take 1 rfl ?_ | refine Picks.take 2 rfl ?_ | refine Picks.take 3 rfl ?_ | refine Picks.take 4 rfl ?_ | refine Picks.take 5 rfl ?_ | refine Picks.take 6 rfl ?_ | refine Picks.take 7 rfl ?_ | refine Picks.take 8 rfl ?_ | refine Picks.take 9 rfl ?_ | refine Picks.take 10 rfl ?_ | refine Picks.take 11 rfl ?_)))
    replace S := St.mk S.kn W1
    refine ⟨(i + 1, A1, cap1, gs ++ [g2], w, g2 :: bs), ⟨by dsimp only; omega, by dsimp only; rw [List.length_append, hgl]; rfl, ?_, fun b hb => ?_⟩, by dsimp only; omega, S.pk⟩
    · dsimp only
      rw [List.nodup_append]
      refine ⟨hgn, by simp, fun x hx y hy e => ?_⟩
      rw [List.mem_singleton] at hy
      rw [e, hy] at hx
      exact hnb (hgm g2 hx).1
    · dsimp only at hb ⊢
      rcases List.mem_append.1 hb with hb | hb
      · obtain ⟨h1, h2⟩ := hgm b hb
        exact ⟨List.mem_cons_of_mem _ h1, (hold b h1).trans h2⟩
      · rw [List.mem_singleton] at hb
        subst hb
        exact ⟨List.mem_cons_self .., hg2⟩
  obtain rfl : i = 16 := by omega
  refine sg S (.yy (ys_F (by omega) (ys_lss (.t rfl) Ev.c)) rfl <| .z) fun a w S => wp_seq_k fun _ hK2 => st_else S (.t rfl) (wp_exit (then_exit (then_exit (in_here (then_normal (hK1 _ _ (sg S (.mv rfl <| .as rfl <| .z) fun a w S => wp_ret (st_ret S (results1 S results44 (Rv.tmp rfl)) ?_))))))))
  rw [hgl] at S
  refine ⟨_, _, rfl, S.wd.pk, g1, A, cap, gs, w1, bs, rfl, rfl, hgl, hgn, fun j b hb => ?_⟩
  obtain ⟨h1, h2⟩ := hgm b (List.mem_of_getElem? hb)
  exact ⟨h1, _, h2, mapC_nil⟩
theorem c11 {w0 w w1 : World} {L : List Chunk} {g cap : Nat} {A : Option Addr} {gs bs : List Nat} {T : List KH} {k : List UInt8} {h : Int} (W : Wd w0 (treeP g A cap gs w1 bs L) w) (M : MapsIn w1 bs gs T) (hT : KhOk T) (hk : k.length ≤ 1048576) :
    RetsO Try.prog 11 #[.pointer (some ⟨g, 0, none⟩), .string (Fw.bs k), .int .u64 h] w0 w fun u L' => ∃ w2 bs2, u = .int .i64 (setE k) ∧ L' = treeP g A cap gs w2 bs2 L ∧ MapsIn w2 bs2 gs (setK k h T) := by
  have hgl := M.len
  cases hn : nameB k with
  | false =>
    have rw_n := hn
    have e1 : setE k = 6 := by unfold setE; rw [if_neg (by rw [hn]; simp)]
    have e2 : setK k h T = T := by unfold setK; rw [if_neg (by rw [hn]; simp)]
    unfold Go.Fw.RetsO
    refine enterW3 W func11 rfl ntmps11 rfl fun a S => sg S (.ac rfl <| .z) fun a w S => wp_seq_k fun _ hK1 => sg S (.mv rfl <| .xx (ys_call call45 (.cons (.t rfl) .nil) (fun hp w W => c45 _ _ _ _ _ (by exact Wd.cell W (k := 0) rfl rfl))) rfl <| .nt rfl <| .z) fun a w S => st_else S (.t rfl) (wp_skip (then_normal (hK1 _ _ (wp_seq_k fun _ hK1 => wp_seq_k fun _ hK2 => wp_region_lit (run S (.mv rfl <| .xx (ys_call call46 (.cons (.t rfl) .nil) (fun hp w W => c46 _ _ (by assumption))) rfl <| .z) fun a w S => ?_)))))
    rw [rw_n] at S
    refine run S (.nt rfl <| .z) fun a w S => st_nil (then_normal (hK2 _ _ (st_then S (.t rfl) (sg S (.ac rfl <| .z) fun a w S => wp_ret (then_ret (st_ret S (results1 S results11 (Rv.tmp rfl)) ?_))))))
    rw [e1, e2]
    exact ⟨_, _, rfl, S.wd.pk, w1, bs, rfl, rfl, M⟩
  | true =>
    have rw_n := hn
    have hp := placeK_lt k
    have e1 : setE k = 0 := by unfold setE; rw [if_pos hn]
    have e2 : setK k h T = setT k h T := by unfold setK; rw [if_pos hn]
    obtain ⟨b, hb⟩ : ∃ b, gs[placeK k]? = some b := ⟨_, List.getElem?_eq_getElem (by omega)⟩
    obtain ⟨hbb, o, ho, hC⟩ := M.maps _ b hb
    obtain ⟨gr, rfl⟩ := W.row_at (k := 1) rfl (by have := (W.room (k := 1) rfl).1; omega)
    have halt_d := trivial
    unfold Go.Fw.RetsO
    refine enterW3 W func11 rfl ntmps11 rfl fun a S => sg S (.ac rfl <| .z) fun a w S => wp_seq_k fun _ hK1 => sg S (.mv rfl <| .xx (ys_call call45 (.cons (.t rfl) .nil) (fun hp w W => c45 _ _ _ _ _ (by exact Wd.cell W (k := 0) rfl rfl))) rfl <| .nt rfl <| .z) fun a w S => st_else S (.t rfl) (wp_skip (then_normal (hK1 _ _ (wp_seq_k fun _ hK1 => wp_seq_k fun _ hK2 => wp_region_lit (run S (.mv rfl <| .xx (ys_call call46 (.cons (.t rfl) .nil) (fun hp w W => c46 _ _ (by assumption))) rfl <| .z) fun a w S => ?_)))))
    rw [rw_n] at S
    refine run S (.nt rfl <| .z) fun a w S => st_nil (then_normal (hK2 _ _ (st_else S (.t rfl) (wp_skip (then_normal (hK1 _ _ (wp_seq_k fun _ hK1 => ?_)))))))
    clear halt_d
    replace S := S.pull 2 rfl
    simp only [List.eraseIdx_cons_succ, List.eraseIdx_cons_zero] at S
    replace S := St.mk S.kn (thaw_blk S.wd hbb ho)
    have hold_r := trivial
    refine h_begin S (by kernel_rfl) [.blk g (.cells #[.slice (some ⟨gr, 0, none⟩) 16 cap] 59), rowOf 80 1 encMp (some ⟨gr, 0, none⟩) cap gs] ?_
    clear S
    intro a w S
    refine hy 0 S rfl (ys_move (.t rfl)) rfl fun a w S => hy 1 S rfl (ys_nilc (.t rfl)) rfl fun a w S => hy 2 S rfl (ys_fieldN (FieldT.mk underlying59 rfl sizeOf57 rfl) (.t rfl) (i' := 0) rfl) rfl fun a w S => hy 3 S rfl (ys_fieldN (FieldT.mk underlying57 rfl sizeOf55 rfl) (.t rfl) (i' := 0) rfl) rfl fun a w S => hy 4 S rfl (ys_ld ⟨isAgg55, sizeOf55⟩ (.t rfl) (k := 0) rfl rfl) rfl fun a w S => ?_
    refine hy 5 S rfl (ys_move (.t rfl)) rfl fun a w S => hy 9 S rfl (ys_move (.t rfl)) rfl fun a w S => hy 10 S rfl (ys_move (.t rfl)) rfl fun a w S => h_q (i := 6) S (by repeat (first | exact List.Sublist.refl _ | exact List.nil_sublist _ | refine .cons_cons _ ?_ | refine .cons _ ?_)) rfl (by kernel_rfl) (ys_call call47 (.cons (.t rfl) .nil) (fun hp w W => c47 _ _ (by omega))) rfl fun a w S => hy 7 S rfl (ys_ixS underlying55 sizeOf80 (.t rfl) (.t rfl) (fun _ => by omega)) rfl fun a w S => ?_
    refine hy 8 S rfl (ys_ldW0 ⟨isAgg80, sizeOf80⟩ (.t rfl) (k := 1) rfl hb (fun _ => rfl) rfl) rfl fun a w S => h_m0 (i := 11) rfl (by kernel_rfl) (op_updS (partT (setT k h T) (placeK k)) S smT80 (.t rfl) (.t rfl) (.t rfl) (j := 0) rfl hC (part_set_mem hT.sorted) ?_)
    clear S
    rintro o' hC' a w S
    refine h_n1 S ?_
    refine h_done (by kernel_rfl) (then_normal (hK1 _ _ (sg S (.ac rfl <| .z) fun a w S => wp_ret (st_ret S (results1 S results11 (Rv.tmp rfl)) ?_))))
    obtain ⟨W1, hnb, hg2, hold⟩ := freeze_blk (S.wd.picks (L' := .blk b o' :: .ice w1 (bs.filter fun x => decide (x ≠ b)) :: .blk g (.cells #[.slice (some ⟨gr, 0, none⟩) 16 cap] 59) :: rowOf 80 1 encMp (some ⟨gr, 0, none⟩) cap gs :: L) (by repeat (first | exact Picks.nil | (refine Picks.rest ?_; (repeat (first | exact List.Sublist.refl _ | refine List.Sublist.cons_cons _ ?_ | refine List.Sublist.cons _ ?_)); done) | refine Picks.take 0 rfl ?_ | refine Picks.take 1 rfl ?_ | refine Picks.take 2 rfl ?_ | refine Picks.take 3 rfl ?_ | refine Picks.take 4 rfl ?_ | refine Picks.take 5 rfl ?_ | refine Picks.take 6 rfl ?_ | refine Picks.take 7 rfl ?_ | refine Picks.take 8 rfl ?_ | refine Picks.take 9 rfl ?_ | refine Picks.take 10 rfl ?_ | refine Picks.take 11 rfl ?_)))
    rw [e1, e2]
    refine ⟨_, treeP g (some ⟨gr, 0, none⟩) cap gs w (b :: bs.filter fun x => decide (x ≠ b)) L, rfl, W1.pk, w, _, rfl, rfl, maps_upd M hb (fun j hj => part_set hT.sorted hj) hC' hg2 (fun x hx hne => hold x (List.mem_filter.2 ⟨hx, by simpa using hne⟩)) (fun x hx => ?_)⟩
    by_cases e : x = b
    · subst e; exact List.mem_cons_self ..
    · exact List.mem_cons_of_mem _ (List.mem_filter.2 ⟨hx, by simpa using e⟩)
theorem c12 {w0 w w1 : World} {L : List Chunk} {g cap : Nat} {A : Option Addr} {gs bs : List Nat} {T : List KH} {k : List UInt8} (W : Wd w0 (treeP g A cap gs w1 bs L) w) (M : MapsIn w1 bs gs T) (hT : KhOk T) (hk : k.length ≤ 1048576) :
    RetsO Try.prog 12 #[.pointer (some ⟨g, 0, none⟩), .string (Fw.bs k)] w0 w fun u L' => ∃ w2 bs2, u = .int .i64 (dropE T k) ∧ L' = treeP g A cap gs w2 bs2 L ∧ MapsIn w2 bs2 gs (dropT k T) := by
  have hgl := M.len
  cases hn : nameB k with
  | false =>
    have rw_n := hn
    have e1 : dropE T k = 6 := by unfold dropE; rw [if_neg (by rw [hn]; simp)]
    have e2 : dropT k T = T := drop_none fun x hx e => by have := hT.name x hx; rw [e, hn] at this; cases this
    unfold Go.Fw.RetsO
    refine enterW2 W func12 rfl ntmps12 rfl fun a S => sg S (.ac rfl <| .z) fun a w S => wp_seq_k fun _ hK1 => sg S (.mv rfl <| .xx (ys_call call45 (.cons (.t rfl) .nil) (fun hp w W => c45 _ _ _ _ _ (by exact Wd.cell W (k := 0) rfl rfl))) rfl <| .nt rfl <| .z) fun a w S => st_else S (.t rfl) (wp_skip (then_normal (hK1 _ _ (wp_seq_k fun _ hK1 => wp_seq_k fun _ hK2 => wp_region_lit (run S (.mv rfl <| .xx (ys_call call46 (.cons (.t rfl) .nil) (fun hp w W => c46 _ _ (by assumption))) rfl <| .z) fun a w S => ?_)))))
    rw [rw_n] at S
    refine run S (.nt rfl <| .z) fun a w S => st_nil (then_normal (hK2 _ _ (st_then S (.t rfl) (sg S (.ac rfl <| .z) fun a w S => wp_ret (then_ret (st_ret S (results1 S results12 (Rv.tmp rfl)) ?_))))))
    rw [e1, e2]
    exact ⟨_, _, rfl, S.wd.pk, w1, bs, rfl, rfl, M⟩
  | true =>
    have rw_n := hn
    have hp := placeK_lt k
    obtain ⟨b, hb⟩ : ∃ b, gs[placeK k]? = some b := ⟨_, List.getElem?_eq_getElem (by omega)⟩
    obtain ⟨hbb, o, ho, hC⟩ := M.maps _ b hb
    obtain ⟨gr, rfl⟩ := W.row_at (k := 1) rfl (by have := (W.room (k := 1) rfl).1; omega)
    unfold Go.Fw.RetsO
    refine enterW2 W func12 rfl ntmps12 rfl fun a S => sg S (.ac rfl <| .z) fun a w S => wp_seq_k fun _ hK1 => sg S (.mv rfl <| .xx (ys_call call45 (.cons (.t rfl) .nil) (fun hp w W => c45 _ _ _ _ _ (by exact Wd.cell W (k := 0) rfl rfl))) rfl <| .nt rfl <| .z) fun a w S => st_else S (.t rfl) (wp_skip (then_normal (hK1 _ _ (wp_seq_k fun _ hK1 => wp_seq_k fun _ hK2 => wp_region_lit (run S (.mv rfl <| .xx (ys_call call46 (.cons (.t rfl) .nil) (fun hp w W => c46 _ _ (by assumption))) rfl <| .z) fun a w S => ?_)))))
    rw [rw_n] at S
    refine run S (.nt rfl <| .z) fun a w S => st_nil (then_normal (hK2 _ _ (st_else S (.t rfl) (wp_skip (then_normal (hK1 _ _ (wp_seq_k fun _ hK1 => st_quiet S (by kernel_rfl) (by kernel_rfl) fun a S => qrun S (.mv rfl <| .yy (ys_nilc (.t rfl)) rfl <| .fa underlying59 sizeOf57 0 rfl rfl rfl <| .fa underlying57 sizeOf55 0 rfl rfl rfl <| .ld gt55 0 rfl rfl rfl <| .mv rfl <| .xx (ys_call call47 (.cons (.t rfl) .nil) (fun hp w W => c47 _ _ (by omega))) rfl <| .ix underlying55 sizeOf80 (by omega) rfl rfl <| .yy (ys_ldW0 ⟨isAgg80, sizeOf80⟩ (.t rfl) (k := 1) rfl hb (fun _ => rfl) rfl) rfl <| .as rfl <| .z) fun a S => ?_)))))))
    (refine q_nil ?_; intro w W; replace S := St.mk S W; clear W)
    refine then_normal (hK1 _ _ (wp_seq_k fun _ hK1 => wp_seq_k fun _ hK2 => wp_region_lit (run S (.mv rfl <| .mv rfl <| .z) fun a w S => ?_)))
    replace S := S.pull 2 rfl
    simp only [List.eraseIdx_cons_succ, List.eraseIdx_cons_zero] at S
    replace S := St.mk S.kn (thaw_blk S.wd hbb ho)
    cases hh : hasT T k with
    | false =>
      have e1 : dropE T k = 91 := by unfold dropE; rw [if_pos hn, hh]; rfl
      have hne : ∀ x ∈ T, x.1 ≠ k := fun x hx e => by
        unfold hasT at hh
        rw [List.any_eq_false] at hh
        exact hh x hx (decide_eq_true e)
      have e2 : dropT k T = T := drop_none hne
      refine st_y S (Yr.ys (ys_lookS (r := none) smT80 (.t rfl) (.t rfl) (j := 0) rfl hC (fun x hx => hne x (partT_mem.1 hx).1))) rfl ?_
      clear S a w
      intro a w S
      refine run S (.mv rfl <| .ex rfl rfl <| .ex rfl rfl <| .as rfl <| .as rfl <| .z) fun a w S => st_nil (then_normal (hK2 _ _ (sg S (.mv rfl <| .nt rfl <| .z) fun a w S => st_then S (.t rfl) (sg S (.ac rfl <| .z) fun a w S => wp_ret (then_ret (st_ret S (results1 S results12 (Rv.tmp rfl)) ?_))))))
      obtain ⟨W1, hnb, hg2, hold⟩ := freeze_blk (S.wd.picks (L' := .blk b o :: .ice w1 (bs.filter fun x => decide (x ≠ b)) :: .blk g (.cells #[.slice (some ⟨gr, 0, none⟩) 16 cap] 59) :: rowOf 80 1 encMp (some ⟨gr, 0, none⟩) cap gs :: L) (by repeat (first | exact Picks.nil | (refine Picks.rest ?_; (repeat (first | exact List.Sublist.refl _ | refine List.Sublist.cons_cons _ ?_ | refine List.Sublist.cons _ ?_)); done) | refine Picks.take 0 rfl ?_ | refine Picks.take 1 rfl ?_ | refine Picks.take 2 rfl ?_ | refine Picks.take 3 rfl ?_ | refine Picks.take 4 rfl ?_ | refine Picks.take 5 rfl ?_ | refine Picks.take 6 rfl ?_ | refine Picks.take 7 rfl ?_ | refine Picks.take 8 rfl ?_ | refine Picks.take 9 rfl ?_ | refine Picks.take 10 rfl ?_ | refine Picks.take 11 rfl ?_)))
      rw [e1, e2]
      refine ⟨_, treeP g (some ⟨gr, 0, none⟩) cap gs w (b :: bs.filter fun x => decide (x ≠ b)) L, rfl, W1.pk, w, _, rfl, rfl, maps_upd M hb (fun j hj => rfl) hC hg2 (fun x hx hne => hold x (List.mem_filter.2 ⟨hx, by simpa using hne⟩)) (fun x hx => ?_)⟩
      by_cases e : x = b
      · subst e; exact List.mem_cons_self ..
      · exact List.mem_cons_of_mem _ (List.mem_filter.2 ⟨hx, by simpa using e⟩)
    | true =>
      have e1 : dropE T k = 0 := by unfold dropE; rw [if_pos hn, hh]; rfl
      obtain ⟨y, hy, hyk⟩ : ∃ y, (k, y) ∈ T ∧ True := by
        unfold hasT at hh
        obtain ⟨x, hx, e⟩ := List.any_eq_true.1 hh
        have e := of_decide_eq_true e
        exact ⟨x.2, by rw [← e]; exact hx, trivial⟩
      refine st_y S (Yr.ys (ys_lookS (r := some y) smT80 (.t rfl) (.t rfl) (j := 0) rfl hC (partT_mem.2 ⟨hy, rfl⟩))) rfl ?_
      clear S a w
      intro a w S
      simp only [Option.isSome_some, Option.getD_some] at S
      refine run S (.mv rfl <| .ex rfl rfl <| .ex rfl rfl <| .as rfl <| .as rfl <| .z) fun a w S => st_nil (then_normal (hK2 _ _ (sg S (.mv rfl <| .nt rfl <| .z) fun a w S => st_else S (.t rfl) (wp_skip (then_normal (hK1 _ _ (wp_seq_k fun _ hK1 => wp_region_lit (run S (.mv rfl <| .mv rfl <| .z) fun a w S => st_m (op_delS (partT (dropT k T) (placeK k)) S smT80 (.t rfl) (.t rfl) (j := 0) rfl hC part_drop_mem ?_)))))))))
      clear S
      rintro o' hC' a w S
      refine st_nil (then_normal (hK1 _ _ (sg S (.ac rfl <| .z) fun a w S => wp_ret (st_ret S (results1 S results12 (Rv.tmp rfl)) ?_))))
      obtain ⟨W1, hnb, hg2, hold⟩ := freeze_blk (S.wd.picks (L' := .blk b o' :: .ice w1 (bs.filter fun x => decide (x ≠ b)) :: .blk g (.cells #[.slice (some ⟨gr, 0, none⟩) 16 cap] 59) :: rowOf 80 1 encMp (some ⟨gr, 0, none⟩) cap gs :: L) (by repeat (first | exact Picks.nil | (refine Picks.rest ?_; (repeat (first | exact List.Sublist.refl _ | refine List.Sublist.cons_cons _ ?_ | refine List.Sublist.cons _ ?_)); done) | refine Picks.take 0 rfl ?_ | refine Picks.take 1 rfl ?_ | refine Picks.take 2 rfl ?_ | refine Picks.take 3 rfl ?_ | refine Picks.take 4 rfl ?_ | refine Picks.take 5 rfl ?_ | refine Picks.take 6 rfl ?_ | refine Picks.take 7 rfl ?_ | refine Picks.take 8 rfl ?_ | refine Picks.take 9 rfl ?_ | refine Picks.take 10 rfl ?_ | refine Picks.take 11 rfl ?_)))
      rw [e1]
      refine ⟨_, treeP g (some ⟨gr, 0, none⟩) cap gs w (b :: bs.filter fun x => decide (x ≠ b)) L, rfl, W1.pk, w, _, rfl, rfl, maps_upd M hb (fun j hj => part_drop hT.sorted hj) hC' hg2 (fun x hx hne => hold x (List.mem_filter.2 ⟨hx, by simpa using hne⟩)) (fun x hx => ?_)⟩
      by_cases e : x = b
      · subst e; exact List.mem_cons_self ..
      · exact List.mem_cons_of_mem _ (List.mem_filter.2 ⟨hx, by simpa using e⟩)
end Go.Proofs.Ytbijdmfilmecbaa
set_option linter.unusedVariables false
set_option linter.unusedSimpArgs false
set_option maxRecDepth 100000
set_option maxHeartbeats 4000000
namespace Go.Fw
def idxW {α : Type} (p : α → Bool) : Nat → List α → Int
  | _, [] => -1
  | k, y :: r => if p y then (k : Int) else idxW p (k + 1) r
theorem idxW_any {α : Type} (p : α → Bool) : ∀ (l : List α) (k : Nat), decide (0 ≤ idxW p k l) = l.any p
  | [], k => rfl
  | y :: r, k => by
    unfold idxW
    by_cases h : p y = true
    · rw [if_pos h, List.any_cons, h, Bool.true_or]
      exact decide_eq_true (by omega)
    · rw [if_neg h, idxW_any p r (k + 1), List.any_cons, Bool.eq_false_iff.2 h, Bool.false_or]
section
variable {α : Type} [DecidableEq α]
end
end Go.Fw
namespace Go.Proofs.Ytbijdmfilmecbaa
open Go.Fw Go.Proofs Go.RowKit Go.Proofs.Try
def ReadsI (w0 : World) (f : FuncId) (cs : List Value) (l : List Int) (p : Int → Bool) : Prop := ∀ w', Wd w0 [] w' → ∀ x ∈ l, Calls Try.prog f ([Value.int .i64 x] ++ cs).toArray w' fun e w'' => e = .returned (.bool (p x)) ∧ Bel w'.heap.size w' w''
theorem c10 (w0 : World) (v1 : Value) (l : List Sm) (h : Sl Sm.enc 3 w0 w0.heap.size v1 l) (hn : l.length ≤ 4194304) :
    Rets Try.prog 10 #[v1] w0 fun v L => ∃ A c, v = .slice A l.length c ∧ L = [rowOf 28 3 Sm.enc A c l] := by
  have h0 := h
  obtain ⟨A, cap, rfl, hl, hcap, hA⟩ := h
  unfold Go.Fw.Rets
  refine enter1 func10 rfl ntmps10 rfl fun a S => sg S (.ac rfl <| .z) fun a w S => wp_seq_k fun _ hK1 => sg S (.mv rfl <| .yy (ys_sNil underlying22 (.t rfl) Ev.c) rfl <| .z) fun a w S => ?_
  refine st_cond S (.t rfl) (fun h1 => ?_) (fun h1 => ?_)
  refine sg S (.ac rfl <| .z) fun a w S => wp_ret (then_ret (st_ret S (results1 S results10 (Rv.tmp rfl)) ?_))
  rotate_left
  refine wp_skip (then_normal (hK1 _ _ (wp_seq_k fun _ hK1 => wp_region_lit (st_m (op_bslice0 S underlying22 sizeOf28 rfl fun g1 a w S => run S (.mv rfl <| .z) fun a w S => st_m (op_extend _ (S.nil_ 28 _ Go.Fw.Sm.enc _) underlying22 underlying22 (.inr ⟨_, rfl⟩) inf28 rfl (k := 0) rfl (.t rfl) (.t rfl) (Src.sl (Sl.old S.wd h0) (by decide) Go.Fw.Sm.enc_len Go.Fw.Sm.enc_one) (by first | omega | (simp only [List.length_append, List.length_cons, List.length_nil]; omega) | (simp; omega)) rfl rfl rfl fun A1 cap1 a w S => ?_))))))
  simp only [List.nil_append] at S
  refine run S (.as rfl <| .z) fun a w S => st_nil (then_normal (hK1 _ _ (wp_ret (st_ret S (results1 S results10 (Rv.tmp rfl)) ?_))))
  rotate_left
  · have hnil : l = [] := by
      refine List.eq_nil_of_length_eq_zero (Decidable.byContradiction fun hne => ?_)
      obtain ⟨g, o, rfl, _⟩ := hA (by omega)
      cases h1
    subst hnil
    exact ⟨_, _, rfl, (S.nil_ 28 3 Sm.enc none).wd.sub (by repeat (first | exact List.Sublist.refl _ | exact List.nil_sublist _ | refine .cons_cons _ ?_ | refine .cons _ ?_)), none, 0, rfl, rfl⟩
  · try simp only [List.nil_append] at S ⊢
    exact ⟨_, _, rfl, S.wd.sub (by repeat (first | exact List.Sublist.refl _ | exact List.nil_sublist _ | refine .cons_cons _ ?_ | refine .cons _ ?_)), _, _, rfl, rfl⟩
theorem x98 (w0 : World) (v : Value) (l : List Int) (f : FuncId) (cs : List Value) (p : Int → Bool) (hf : ∀ args w, (callFunc f args).run Try.prog w = .ok (.enter f args) w) (hr : ReadsI w0 f cs l p) (h : Sl encI 1 w0 w0.heap.size v l) :
    Calls Try.prog 98 #[v, .func (.func f) #[] cs.toArray] w0 fun e w' => e = .returned (.int .i64 (idxW p 0 l)) ∧ Bel w0.heap.size w0 w' := by
  obtain ⟨A, cap, rfl, hl, hcap, hA⟩ := h
  refine enter2 func98 rfl ntmps98 rfl fun a S => sg S (.ac rfl <| .z) fun a w S => wp_seq_k fun _ hK1 => sg S (.mv rfl <| .ln underlying42 rfl <| .mc rfl <| .z) fun a w S => wp_block ?_
  refine st_lpM S [4, 5, 8] (X := Nat) (fun k => [(8, true, .int .i64 (k : Int))]) (fun _ => []) (fun k => k ≤ l.length ∧ idxW p k (l.drop k) = idxW p 0 l) (fun k => l.length - k) 0 ⟨Nat.zero_le _, rfl⟩ ?_
  clear S
  intro k a w ⟨hk, hno⟩ S
  by_cases hlt : k < l.length
  · obtain ⟨gq, oq, x, rfl, hx, hd, hcc⟩ := row_at hA hlt
    rw [hd] at hno
    have hrx := fun w' W' => hr w' W' x (List.mem_of_getElem? hx)
    refine sg S (.lt (by omega) rfl rfl <| .z) fun a w S => wp_seq_k fun _ hK2 => st_then S (.t rfl) (wp_skip (then_normal (hK2 _ _ (wp_seq_k fun _ hK2 => wp_block (sg S (.mv rfl <| .as rfl <| .z) fun a w S => wp_seq_k fun _ hK3 => wp_region_lit (run S (.mv rfl <| .mv rfl <| .mv rfl <| .ix underlying42 sizeOf3 (by omega) rfl rfl <| .yy (ys_ldO ⟨isAgg3, sizeOf3⟩ (.t rfl) (fun _ => hcc 0 _ rfl)) rfl <| .z) fun a w S => st_y S (ys_callVC (cs := cs) (vs := [.int .i64 x]) (v := .bool (p x)) (.t rfl) hf (.cons (.t rfl) .nil) (fun _ w' W' => hrx w' (W'.sub (List.nil_sublist _)))) rfl ?_))))))
    clear S a w
    intro a w S
    cases hp : p x with
    | true =>
      rw [hp] at S
      refine st_nil (then_normal (hK3 _ _ (st_then S (.t rfl) (sg S (.mv rfl <| .as rfl <| .z) fun a w S => wp_ret (in_ret (then_ret (then_ret (in_ret (then_ret (st_ret S (results1 S results98 (Rv.tmp rfl)) ?_))))))))))
      refine ⟨?_, S.wd.below⟩
      rw [← hno, idxW, if_pos hp]
    | false =>
      rw [hp] at S
      refine st_nil (then_normal (hK3 _ _ (st_else S (.t rfl) (wp_skip (in_normal (then_normal (hK2 _ _ (wp_region_lit (run S (.ad (by unfold I64; omega) rfl <| .mv rfl <| .z) fun a w S => st_nil (then_normal ?_))))))))))
      rw [idxW, if_neg (by rw [hp]; decide)] at hno
      exact ⟨k + 1, ⟨by omega, hno⟩, by omega, S.pk⟩
  · obtain rfl : k = l.length := by omega
    rw [List.drop_length] at hno
    refine sg S (.ge (by omega) rfl rfl <| .z) fun a w S => wp_seq_k fun _ hK2 => st_else S (.t rfl) (wp_exit (then_exit (then_exit (in_here (then_normal (hK1 _ _ (sg S (.ac rfl <| .z) fun a w S => wp_ret (st_ret S (results1 S results98 (Rv.tmp rfl)) ?_))))))))
    exact ⟨by rw [← hno]; rfl, S.wd.below⟩
theorem x72 (w0 : World) (v : Value) (l : List Int) (f : FuncId) (cs : List Value) (p : Int → Bool) (hf : ∀ args w, (callFunc f args).run Try.prog w = .ok (.enter f args) w) (hr : ReadsI w0 f cs l p) (h : Sl encI 1 w0 w0.heap.size v l) :
    Calls Try.prog 72 #[v, .func (.func f) #[] cs.toArray] w0 fun e w' => e = .returned (.bool (l.any p)) ∧ Bel w0.heap.size w0 w' := by
  have hs := h
  obtain ⟨A, cap, rfl, hl, hcap, hA⟩ := h
  refine enter2 func72 rfl ntmps72 rfl fun a S => sg S (.ac rfl <| .z) fun a w S => wp_seq_k fun _ hK1 => wp_region_lit (run S (.mv rfl <| .mv rfl <| .z) fun a w S => st_y S (ys_call call98 (.cons (.t rfl) (.cons (.t rfl) .nil)) (fun _ w' W' => x98 w' _ l f cs p hf (fun w'' W'' => hr w'' ((W'.sub (List.nil_sublist _)).step W''.below)) (Sl.old W' hs))) rfl ?_)
  clear S a w
  intro a w S
  refine run S (.yy (ys_geq (.t rfl) Ev.c) rfl <| .as rfl <| .z) fun a w S => st_nil (then_normal (hK1 _ _ (wp_ret (st_ret S (results1 S results72 (Rv.tmp rfl)) ?_))))
  exact ⟨by rw [← idxW_any p l 0], S.wd.below⟩
end Go.Proofs.Ytbijdmfilmecbaa
set_option linter.unusedVariables false
set_option linter.unusedSimpArgs false
set_option maxRecDepth 100000
set_option maxHeartbeats 4000000
namespace Go.Fw
open Go.RowKit
def inP (level p : Int) : Bool := decide (0 ≤ p ∧ p < 2 ^ level.toNat)
theorem inP_not (level p : Int) : (decide (p < 0) || decide (2 ^ level.toNat ≤ p)) = !inP level p := by
  unfold inP
  generalize (2 : Int) ^ level.toNat = b
  by_cases h1 : p < 0
  · simp [h1]
    try omega
  · by_cases h2 : b ≤ p
    · simp [h2]
    · simp [h1, h2]
      try omega
theorem okP_eq (level deep : Int) (l : List Int) : okP level deep l = (decide (0 ≤ level) && decide (level ≤ deep) && l.all (inP level)) := rfl
theorem any_not {α : Type} (p : α → Bool) : ∀ l : List α, (!(l.any fun x => !p x)) = l.all p
  | [] => rfl
  | x :: r => by rw [List.any_cons, List.all_cons, Bool.not_or, Bool.not_not, any_not p r]
theorem pow_shl {m : Nat} (h : m ≤ 4) : IntKind.i64.wrap (1 * 2 ^ m) = 2 ^ m := by
  obtain rfl | rfl | rfl | rfl | rfl : m = 0 ∨ m = 1 ∨ m = 2 ∨ m = 3 ∨ m = 4 := by omega
  all_goals rfl
structure Sums (l : List Sm) : Prop where
  hash : hashOk l
  key : ∀ x ∈ l, x.key.length ≤ 1048576
  len : l.length ≤ 1048576
theorem sets_step {T : List KH} {l : List Sm} {i : Nat} {x : Sm} (h : l[i]? = some x) : setsT T (l.take (i + 1)) = setK x.key x.hash (setsT T (l.take i)) := sets_snoc h
theorem sets_take {l : List Sm} (h : Sums l) (q : Nat) : KhOk (setsT [] (l.take q)) := sets_ok _ (fun x hx => h.hash x (List.mem_of_mem_take hx)) kh_nil
theorem Sums.ok {l : List Sm} (h : Sums l) : KhOk (setsT [] l) := sets_ok _ h.hash kh_nil
theorem Sums.room {l : List Sm} (h : Sums l) : (setsT [] l).length ≤ 1048576 := by
  have h1 := sets_len l []
  have h2 := h.len
  rw [List.length_nil] at h1
  omega
end Go.Fw
namespace Go.Proofs.Ytbijdmfilmecbaa
open Go.Fw Go.Proofs Go.RowKit Go.Proofs.Try
theorem c73 (w0 : World) (p lv : Int) (b : Nat) (h : w0.cell? ⟨b, 0, none⟩ = some (.int .i64 lv)) (hlv : 0 ≤ lv ∧ lv ≤ 4) :
    Calls Try.prog 73 #[.int .i64 p, .pointer (some ⟨b, 0, none⟩)] w0 fun e w' => e = .returned (.bool (!inP lv p)) ∧ Bel w0.heap.size w0 w' := by
  obtain ⟨m, rfl⟩ : ∃ m : Nat, lv = (m : Int) := ⟨lv.toNat, by omega⟩
  have e := inP_not m p
  rw [Int.toNat_natCast] at e
  have hm : m ≤ 4 := by omega
  have rw_s := pow_shl hm
  by_cases hp : p < 0
  · have rw_p := decide_eq_true hp
    refine enter2 func73 rfl ntmps73 rfl fun a S => sg S (.ac rfl <| .z) fun a w S => sg S (.mv rfl <| .yy (ys_T (by omega) (ys_lss (.t rfl) Ev.c)) rfl <| .mv rfl <| .sk rfl rfl rfl <| .sk rfl rfl rfl <| .sk rfl rfl rfl <| .sk rfl rfl rfl <| .yy (ys_pickT (.t rfl) Ev.c) rfl <| .as rfl <| .z) fun a w S => wp_ret (st_ret S (results1 S results73 (Rv.tmp rfl)) ?_)
    exact ⟨by rw [← e, rw_p]; rfl, S.wd.below⟩
  · have rw_p := decide_eq_false hp
    refine enter2 func73 rfl ntmps73 rfl fun a S => sg S (.ac rfl <| .z) fun a w S => wp_seq_k fun _ hK1 => wp_region_lit (run S (.mv rfl <| .yy (ys_F (by omega) (ys_lss (.t rfl) Ev.c)) rfl <| .mv rfl <| .gy rfl rfl (ys_move (.t rfl)) <| .gy rfl rfl (ys_ldO ⟨isAgg3, sizeOf3⟩ (.t rfl) (fun _ => h)) <| .gy rfl rfl (ys_shl Ev.c (.t rfl) (Nat.ble_eq_true_of_le (by show _ ≤ 64; omega))) <| .z) fun a w S => ?_)
    rw [rw_s] at S
    refine run S (.gy rfl rfl (ys_geq (.t rfl) (.t rfl)) <| .yy (ys_pickF (.t rfl) (.t rfl)) rfl <| .as rfl <| .z) fun a w S => st_nil (then_normal (hK1 _ _ (wp_ret (st_ret S (results1 S results73 (Rv.tmp rfl)) ?_))))
    exact ⟨by rw [← e, rw_p]; rfl, S.wd.below⟩
theorem c53 (w0 : World) (level : Int) (v1 : Value) (l : List Int) (h : Sl encI 1 w0 w0.heap.size v1 l) :
    Calls Try.prog 53 #[.int .i64 level, v1] w0 fun e w' => e = .returned (.bool (okP level 4 l)) ∧ Bel w0.heap.size w0 w' := by
  rw [okP_eq]
  by_cases h1 : 0 ≤ level
  · have rw_1 := decide_eq_true h1
    by_cases h2 : level ≤ 4
    · have rw_2 := decide_eq_true h2
      have hs := h
      obtain ⟨A, cap, rfl, hl, hcap, hA⟩ := h
      refine enter2 func53 rfl ntmps53 rfl fun a S => wp_seq_k fun _ hK1 => wp_region_lit (st_m (op_box1 S (.t rfl) rfl rfl fun g1 a w S => run S (.ac rfl <| .z) fun a w S => st_nil (then_normal (hK1 _ _ (wp_seq_k fun _ hK1 => wp_region_lit (run S (.ld gt3 0 rfl rfl rfl <| .yy (ys_T (by omega) (ys_geq (.t rfl) Ev.c)) rfl <| .mv rfl <| .gy rfl rfl (ys_ld ⟨isAgg3, sizeOf3⟩ (.t rfl) (k := 0) rfl rfl) <| .gy rfl rfl (ys_T (by omega) (ys_leq (.t rfl) Ev.c)) <| .yy (ys_pickT (.t rfl) (.t rfl)) rfl <| .mv rfl <| .gy rfl rfl (ys_move (.t rfl)) <| .gy rfl rfl (ys_mkFunc (.cons (.t rfl) .nil)) <| .z) fun a w S => st_yt S rfl rfl (ys_call call72 (.cons (.t rfl) (.cons (.t rfl) .nil)) (fun _ w' W' => x72 w' _ l 73 [.pointer (some ⟨g1, 0, none⟩)] (fun x => !inP level x) (enters_of func73 (by kernel_rfl) rfl) (fun w'' W'' x hx => c73 w'' x level g1 (Wd.cellOld W'' (Wd.cell W' (k := 0) rfl rfl)) ⟨h1, h2⟩) (Sl.old W' hs))) rfl ?_))))))
      clear S a w
      intro a w S
      refine run S (.gy rfl rfl (ys_not (.t rfl)) <| .yy (ys_pickT (.t rfl) (.t rfl)) rfl <| .as rfl <| .z) fun a w S => st_nil (then_normal (hK1 _ _ (wp_ret (st_ret S (results1 S results53 (Rv.tmp rfl)) ?_))))
      exact ⟨by rw [any_not, rw_1, rw_2]; rfl, S.wd.below⟩
    · have rw_2 := decide_eq_false h2
      refine enter2 func53 rfl ntmps53 rfl fun a S => wp_seq_k fun _ hK1 => wp_region_lit (st_m (op_box1 S (.t rfl) rfl rfl fun g1 a w S => run S (.ac rfl <| .z) fun a w S => st_nil (then_normal (hK1 _ _ (sg S (.ld gt3 0 rfl rfl rfl <| .yy (ys_T (by omega) (ys_geq (.t rfl) Ev.c)) rfl <| .mv rfl <| .gy rfl rfl (ys_ld ⟨isAgg3, sizeOf3⟩ (.t rfl) (k := 0) rfl rfl) <| .gy rfl rfl (ys_F (by omega) (ys_leq (.t rfl) Ev.c)) <| .yy (ys_pickT (.t rfl) (.t rfl)) rfl <| .mv rfl <| .sk rfl rfl rfl <| .sk rfl rfl rfl <| .sk rfl rfl rfl <| .sk rfl rfl rfl <| .yy (ys_pickF (.t rfl) Ev.c) rfl <| .as rfl <| .z) fun a w S => wp_ret (st_ret S (results1 S results53 (Rv.tmp rfl)) ?_))))))
      exact ⟨by rw [rw_1, rw_2]; rfl, S.wd.below⟩
  · have rw_1 := decide_eq_false h1
    refine enter2 func53 rfl ntmps53 rfl fun a S => wp_seq_k fun _ hK1 => wp_region_lit (st_m (op_box1 S (.t rfl) rfl rfl fun g1 a w S => run S (.ac rfl <| .z) fun a w S => st_nil (then_normal (hK1 _ _ (sg S (.ld gt3 0 rfl rfl rfl <| .yy (ys_F (by omega) (ys_geq (.t rfl) Ev.c)) rfl <| .mv rfl <| .sk rfl rfl rfl <| .sk rfl rfl rfl <| .yy (ys_pickF (.t rfl) Ev.c) rfl <| .mv rfl <| .sk rfl rfl rfl <| .sk rfl rfl rfl <| .sk rfl rfl rfl <| .sk rfl rfl rfl <| .yy (ys_pickF (.t rfl) Ev.c) rfl <| .as rfl <| .z) fun a w S => wp_ret (st_ret S (results1 S results53 (Rv.tmp rfl)) ?_))))))
    exact ⟨by rw [rw_1]; rfl, S.wd.below⟩
theorem c9 (w0 : World) (v1 : Value) (l : List Sm) (h : Sl Sm.enc 3 w0 w0.heap.size v1 l) (hs : Sums l) :
    Rets Try.prog 9 #[v1] w0 fun u L => ∃ g A cap gs w1 bs, u = .pointer (some ⟨g, 0, none⟩) ∧ L = treeP g A cap gs w1 bs [] ∧ MapsIn w1 bs gs (setsT [] l) := by
  obtain ⟨A, cap, rfl, hl, hcap, hA⟩ := h
  unfold Go.Fw.Rets
  refine enter1 func9 rfl ntmps9 rfl fun a S => sg S (.ac rfl <| .z) fun a w S => wp_seq_k fun _ hK1 => wp_region_lit ?_
  (refine st_m (op_calls S call44 .nil (c44 _) rfl ?_); clear S a w; rintro _ _ ⟨g1, A1, cap1, gs1, w11, bs1, rfl, rfl, hr11⟩ a w S)
  refine run S (.as rfl <| .z) fun a w S => st_nil (then_normal (hK1 _ _ (wp_seq_k fun _ hK1 => sg S (.mv rfl <| .ln underlying22 rfl <| .mc rfl <| .z) fun a w S => wp_block ?_)))
  refine st_lpM S [9] (X := Nat × World × List Nat) (fun q => [(9, true, .int .i64 (q.1 : Int))]) (fun q => treeP g1 A1 cap1 gs1 q.2.1 q.2.2 []) (fun q => q.1 ≤ l.length ∧ MapsIn q.2.1 q.2.2 gs1 (setsT [] (l.take q.1))) (fun q => l.length - q.1) (0, w11, bs1) ⟨Nat.zero_le _, hr11⟩ ?_
  clear S hr11
  rintro ⟨q, w1, bs⟩ a w ⟨hq, M⟩ S
  dsimp only at hq M S
  have hT := sets_take hs q
  by_cases hlt : q < l.length
  · obtain ⟨g, o, x, rfl, hx, hd, hc⟩ := row_at hA hlt
    have hk := hs.key x (List.mem_of_getElem? hx)
    have hst := sets_step (T := []) hx
    generalize setsT [] (l.take q) = T at *
    refine sg S (.lt (by omega) rfl rfl <| .z) fun a w S => wp_seq_k fun _ hK2 => st_then S (.t rfl) (wp_skip (then_normal (hK2 _ _ (wp_seq_k fun _ hK2 => wp_block (wp_seq_k fun _ hK3 => wp_region_lit (run S (.ix underlying22 sizeOf28 (by omega) rfl rfl <| .yy (ys_ldOA ⟨isAgg28, sizeOf28⟩ (.t rfl) (vs := [_, _, _]) rfl (fun _ => hc)) rfl <| .z) fun a w S => st_m (op_alloc S zeroValue28 (cs := _) rfl rfl fun g2 a w S => st_m (op_stW S sizeOf28 (.t rfl) (.t rfl) (k := 0) rfl rfl rfl (by simp [Value.oneCell']) fun a w S => st_nil (then_normal (hK3 _ _ (wp_region_lit (run S (.mv rfl <| .fa underlying28 sizeOf9 1 rfl rfl rfl <| .ld gt9 0 rfl rfl rfl <| .fa underlying28 sizeOf23 2 rfl rfl rfl <| .ld gt23 0 rfl rfl rfl <| .z) fun a w S => ?_))))))))))))
    (replace S := S.pull 3 rfl; try simp only [List.set_cons_zero, List.set_cons_succ, List.eraseIdx_cons_succ, List.eraseIdx_cons_zero] at S; replace S := S.pull 3 rfl; try simp only [List.set_cons_zero, List.set_cons_succ, List.eraseIdx_cons_succ, List.eraseIdx_cons_zero] at S; replace S := S.pull 3 rfl; try simp only [List.set_cons_zero, List.set_cons_succ, List.eraseIdx_cons_succ, List.eraseIdx_cons_zero] at S; refine st_m (op_callO S call11 (.cons (.t rfl) (.cons (.t rfl) (.cons (.t rfl) .nil))) (c11 S.wd (by first | assumption | omega | (dsimp only; omega) | exact Sl.nil_ | exact .old S.wd (by assumption) | exact Sl.of_own S.wd (k := 0) rfl (fun _ => rfl) | exact Sl.of_own S.wd (k := 1) rfl (fun _ => rfl) | exact Sl.of_own S.wd (k := 2) rfl (fun _ => rfl) | exact Sl.of_own S.wd (k := 3) rfl (fun _ => rfl) | (simp; done) | (simp at *; omega)) (by first | assumption | omega | (dsimp only; omega) | exact Sl.nil_ | exact .old S.wd (by assumption) | exact Sl.of_own S.wd (k := 0) rfl (fun _ => rfl) | exact Sl.of_own S.wd (k := 1) rfl (fun _ => rfl) | exact Sl.of_own S.wd (k := 2) rfl (fun _ => rfl) | exact Sl.of_own S.wd (k := 3) rfl (fun _ => rfl) | (simp; done) | (simp at *; omega)) (by first | assumption | omega | (dsimp only; omega) | exact Sl.nil_ | exact .old S.wd (by assumption) | exact Sl.of_own S.wd (k := 0) rfl (fun _ => rfl) | exact Sl.of_own S.wd (k := 1) rfl (fun _ => rfl) | exact Sl.of_own S.wd (k := 2) rfl (fun _ => rfl) | exact Sl.of_own S.wd (k := 3) rfl (fun _ => rfl) | (simp; done) | (simp at *; omega))) rfl ?_) <;> clear S a w)
    rintro _ _ ⟨w21, bs21, rfl, rfl, hr1⟩ a w S
    refine st_nil (in_normal (then_normal (hK2 _ _ (wp_region_lit (run S (.ad (by unfold I64; omega) rfl <| .mv rfl <| .z) fun a w S => st_nil (then_normal ?_))))))
    exact ⟨(q + 1, w21, bs21), ⟨by dsimp only; omega, by dsimp only; rw [hst]; assumption⟩, by dsimp only; omega, S.pk⟩
  obtain rfl : q = l.length := by omega
  rw [List.take_length] at M
  refine sg S (.ge (by omega) rfl rfl <| .z) fun a w S => wp_seq_k fun _ hK2 => st_else S (.t rfl) (wp_exit (then_exit (then_exit (in_here (then_normal (hK1 _ _ (sg S (.mv rfl <| .as rfl <| .z) fun a w S => wp_ret (st_ret S (results1 S results9 (Rv.tmp rfl)) ?_))))))))
  exact ⟨_, _, rfl, S.wd.pk, g1, A1, cap1, gs1, w1, bs, rfl, rfl, M⟩
end Go.Proofs.Ytbijdmfilmecbaa
set_option linter.unusedVariables false
set_option linter.unusedSimpArgs false
set_option maxRecDepth 100000
set_option maxHeartbeats 4000000
namespace Go.Fw
open Go.RowKit
def sumsA (T : List KH) (level : Int) (l : List Int) : List Sm × Int := if okP level 4 l = true then (sumsT T level l, 0) else ([], 80)
def keysA (T : List KH) (l : List Int) : List Sm × Int := if okP 4 4 l = true then (keysT T l, 0) else ([], 80)
theorem okP_mem {level deep x : Int} {l : List Int} (h : okP level deep l = true) (hx : x ∈ l) : 0 ≤ x ∧ x < 2 ^ level.toNat := by
  unfold okP at h
  simp only [Bool.and_eq_true, List.all_eq_true] at h
  exact of_decide_eq_true (h.2 x hx)
theorem okP_lv {level deep : Int} {l : List Int} (h : okP level deep l = true) : 0 ≤ level ∧ level ≤ deep := by
  unfold okP at h
  simp only [Bool.and_eq_true] at h
  exact ⟨of_decide_eq_true h.1.1, of_decide_eq_true h.1.2⟩
theorem sums_step {T : List KH} {level : Int} {l : List Int} {q : Nat} {x : Int} (h : l[q]? = some x) : sumsT T level (l.take (q + 1)) = sumsT T level (l.take q) ++ [⟨x, [], hashT T (4 - level).toNat x.toNat⟩] := by
  unfold sumsT
  rw [List.take_add_one, h, Option.toList_some, List.map_append]
  rfl
theorem sums_len' (T : List KH) (level : Int) (l : List Int) : (sumsT T level l).length = l.length := List.length_map ..
theorem keys_step {T : List KH} {l : List Int} {q : Nat} {x : Int} (h : l[q]? = some x) : keysT T (l.take (q + 1)) = keysT T (l.take q) ++ (partT T x.toNat).map (smP x) := by
  unfold keysT
  rw [List.take_add_one, h, Option.toList_some, List.flatMap_append]
  simp
end Go.Fw
namespace Go.Proofs.Ytbijdmfilmecbaa
open Go.Fw Go.Proofs Go.RowKit Go.Proofs.Try
theorem c22 (w0 : World) (g cap : Nat) (A : Option Addr) (gs : List Nat) (T : List KH) (level : Int) (v2 : Value) (l : List Int) (h : TreeAt w0 g A cap gs T) (hT : KhOk T) (hl : T.length ≤ 4194304) (h2 : Sl encI 1 w0 w0.heap.size v2 l) (hn : l.length ≤ 4194304) :
    Rets Try.prog 22 #[.pointer (some ⟨g, 0, none⟩), .int .i64 level, v2] w0 fun u L => ∃ B c, u = .tuple #[.slice B (sumsA T level l).1.length c, .int .i64 (sumsA T level l).2] ∧ L = [rowOf 28 3 Sm.enc B c (sumsA T level l).1] := by
  have hkeys := h.keys
  cases hok : okP level 4 l with
  | false =>
    have rw_4 := hok
    have e : sumsA T level l = ([], 80) := by unfold sumsA; rw [hok]; rfl
    rw [e]
    unfold Go.Fw.Rets
    refine enter3 func22 rfl ntmps22 rfl fun a S => sg S (.ac rfl <| .ac rfl <| .z) fun a w S => wp_seq_k fun _ hK1 => sg S (.mv rfl <| .xx (ys_call call45 (.cons (.t rfl) .nil) (fun hp w W => c45 _ _ _ _ _ (by exact Wd.cellOld W (by assumption)))) rfl <| .nt rfl <| .z) fun a w S => st_else S (.t rfl) (wp_skip (then_normal (hK1 _ _ (wp_seq_k fun _ hK1 => wp_seq_k fun _ hK2 => wp_region_lit (run S (.mv rfl <| .mv rfl <| .xx (ys_call call53 (.cons (.t rfl) (.cons (.t rfl) .nil)) (fun hp w W => c53 _ _ _ _ (by exact .old W (by assumption)))) rfl <| .z) fun a w S => ?_)))))
    rw [rw_4] at S
    refine run S (.nt rfl <| .z) fun a w S => st_nil (then_normal (hK2 _ _ (st_then S (.t rfl) (sg S (.ac rfl <| .ac rfl <| .z) fun a w S => wp_ret (then_ret (st_ret S (results2 S results22 (Rv.tmp rfl) (Rv.tmp rfl)) ?_))))))
    exact ⟨_, _, rfl, (S.nil_ 28 3 Sm.enc none).wd.pk, none, 0, rfl, rfl⟩
  | true =>
    have rw_4 := hok
    have e : sumsA T level l = (sumsT T level l, 0) := by unfold sumsA; rw [if_pos hok]
    rw [e]
    have hlv := okP_lv hok
    have hmem := fun x hx => okP_mem (x := x) hok hx
    have h0 := h2
    obtain ⟨A', cap', rfl, hl', hcap', hA⟩ := h2
    unfold Go.Fw.Rets
    refine enter3 func22 rfl ntmps22 rfl fun a S => sg S (.ac rfl <| .ac rfl <| .z) fun a w S => wp_seq_k fun _ hK1 => sg S (.mv rfl <| .xx (ys_call call45 (.cons (.t rfl) .nil) (fun hp w W => c45 _ _ _ _ _ (by exact Wd.cellOld W (by assumption)))) rfl <| .nt rfl <| .z) fun a w S => st_else S (.t rfl) (wp_skip (then_normal (hK1 _ _ (wp_seq_k fun _ hK1 => wp_seq_k fun _ hK2 => wp_region_lit (run S (.mv rfl <| .mv rfl <| .xx (ys_call call53 (.cons (.t rfl) (.cons (.t rfl) .nil)) (fun hp w W => c53 _ _ _ _ (by exact .old W (by assumption)))) rfl <| .z) fun a w S => ?_)))))
    rw [rw_4] at S
    refine run S (.nt rfl <| .z) fun a w S => st_nil (then_normal (hK2 _ _ (st_else S (.t rfl) (wp_skip (then_normal (hK1 _ _ (sg S (.ac rfl <| .z) fun a w S => wp_seq_k fun _ hK1 => sg S (.mv rfl <| .ln underlying42 rfl <| .mc rfl <| .z) fun a w S => wp_block ?_)))))))
    replace S := S.nil_ 28 3 Sm.enc none
    refine st_lpM S [8, 20] (X := Nat × Option Addr × Nat) (fun q => [(8, true, .slice q.2.1 (sumsT T level (l.take q.1)).length q.2.2), (20, true, .int .i64 (q.1 : Int))]) (fun q => [rowOf 28 3 Sm.enc q.2.1 q.2.2 (sumsT T level (l.take q.1))]) (fun q => q.1 ≤ l.length) (fun q => l.length - q.1) (0, none, 0) (Nat.zero_le _) ?_
    clear S
    rintro ⟨q, B, cB⟩ a w hq S
    dsimp only at hq S
    have hbt := sums_len' T level (l.take q)
    rw [List.length_take] at hbt
    by_cases hlt : q < l.length
    · obtain ⟨g, o, x, rfl, hx, hd, hc⟩ := row_at hA hlt
      have hxb := hmem x (List.mem_of_getElem? hx)
      have hst := sums_step (T := T) (level := level) hx
      obtain ⟨y, rw_y⟩ : ∃ y, hashT T (4 - level).toNat x.toNat = y := ⟨_, rfl⟩
      rw [rw_y] at hst
      generalize sumsT T level (l.take q) = M at *
      refine sg S (.lt (by omega) rfl rfl <| .z) fun a w S => wp_seq_k fun _ hK2 => st_then S (.t rfl) (wp_skip (then_normal (hK2 _ _ (wp_seq_k fun _ hK2 => wp_block (sg S (.ix underlying42 sizeOf3 (by omega) rfl rfl <| .yy (ys_ldO ⟨isAgg3, sizeOf3⟩ (.t rfl) (fun _ => hc 0 _ rfl)) rfl <| .as rfl <| .z) fun a w S => wp_region_lit (run S (.mv rfl <| .mv rfl <| .mv rfl <| .mv rfl <| .mv rfl <| .xx (ys_call call54 (.cons (.t rfl) (.cons (.t rfl) (.cons (.t rfl) .nil))) (fun hp w W => c54 _ _ _ _ _ _ _ _ (by exact .old W (by assumption)) (by assumption) (by assumption) (by assumption) (by assumption))) rfl <| .z) fun a w S => ?_))))))
      rw [rw_y] at S
      refine run S (.yy (ys_bld (ps := [(0, Go.Operand.tmp 25), (2, Go.Operand.tmp 29)]) (us := [_, _, _]) bld28 (.cons (.t rfl) (.cons (.t rfl) .nil)) rfl) rfl <| .z) fun a w S => st_m (op_bslice1 S underlying22 inf28 rfl rfl rfl (.t rfl) rfl rfl rfl fun g1 a w S => st_m (op_push S underlying22 inf28 rfl (k := 1) (j := 0) rfl (.t rfl) (.t rfl) rfl Go.Fw.Sm.mkEnc rfl rfl (by first | omega | (simp only [List.length_append, List.length_cons, List.length_nil]; omega)) rfl rfl rfl fun A1 cap1 a w S => run S (.as rfl <| .z) fun a w S => st_nil (in_normal (then_normal (hK2 _ _ (wp_region_lit (run S (.ad (by unfold I64; omega) rfl <| .mv rfl <| .z) fun a w S => st_nil (then_normal ?_))))))))
      exact ⟨(q + 1, A1, cap1), by dsimp only; omega, by dsimp only; omega, by dsimp only; rw [hst]; exact S.pk⟩
    obtain rfl : q = l.length := by omega
    rw [List.take_length] at S
    refine sg S (.ge (by omega) rfl rfl <| .z) fun a w S => wp_seq_k fun _ hK2 => st_else S (.t rfl) (wp_exit (then_exit (then_exit (in_here (then_normal (hK1 _ _ (sg S (.mv rfl <| .as rfl <| .ac rfl <| .z) fun a w S => wp_ret (st_ret S (results2 S results22 (Rv.tmp rfl) (Rv.tmp rfl)) ?_))))))))
    exact ⟨_, _, rfl, S.wd.pk, _, _, rfl, rfl⟩
end Go.Proofs.Ytbijdmfilmecbaa
set_option linter.unusedVariables false
set_option linter.unusedSimpArgs false
set_option maxRecDepth 100000
set_option maxHeartbeats 4000000
namespace Go.Fw
open Go.RowKit
theorem keys_len (T : List KH) : ∀ l : List Int, (keysT T l).length ≤ l.length * T.length
  | [] => by simp [keysT]
  | x :: r => by
    have ih := keys_len T r
    have h1 := partT_len T x.toNat
    unfold keysT at ih ⊢
    rw [List.flatMap_cons, List.length_append, List.length_map, List.length_cons, Nat.succ_mul]
    omega
end Go.Fw
namespace Go.Proofs.Ytbijdmfilmecbaa
open Go.Fw Go.Proofs Go.RowKit Go.Proofs.Try
end Go.Proofs.Ytbijdmfilmecbaa
set_option linter.unusedVariables false
set_option linter.unusedSimpArgs false
set_option maxRecDepth 100000
set_option maxHeartbeats 4000000
namespace Go.Fw
open Go.RowKit
theorem keys_room (T : List KH) (l : List Int) (hT : T.length ≤ 1048576) (hl : l.length ≤ 1048576) : (keysT T l).length ≤ 1099511627776 :=
  Nat.le_trans (keys_len T l) (Nat.mul_le_mul hl hT)
end Go.Fw
namespace Go.Proofs.Ytbijdmfilmecbaa
open Go.Fw Go.Proofs Go.RowKit Go.Proofs.Try
theorem c33 (w0 : World) (g cap : Nat) (A : Option Addr) (gs : List Nat) (T : List KH) (h : TreeAt w0 g A cap gs T) (hT : KhOk T) (hl : T.length ≤ 4194304) :
    Calls Try.prog 33 #[.pointer (some ⟨g, 0, none⟩)] w0 fun e w' => e = .returned (.int .u64 (hashT T 4 0)) ∧ Bel w0.heap.size w0 w' := by
  have hkeys := h.keys
  have h1 : (0 : Int) ≤ 0 ∧ (0 : Int) ≤ 4 := by omega
  have h2 : (0 : Int) ≤ 0 ∧ (0 : Int) < 2 ^ (0 : Int).toNat := ⟨by omega, by decide⟩
  have rw_h : hashT T (4 - (0 : Int)).toNat (0 : Int).toNat = hashT T 4 0 := rfl
  refine enter1 func33 rfl ntmps33 rfl fun a S => sg S (.ac rfl <| .z) fun a w S => wp_seq_k fun _ hK1 => sg S (.mv rfl <| .xx (ys_call call45 (.cons (.t rfl) .nil) (fun hp w W => c45 _ _ _ _ _ (by exact Wd.cellOld W (by assumption)))) rfl <| .nt rfl <| .z) fun a w S => st_else S (.t rfl) (wp_skip (then_normal (hK1 _ _ (wp_seq_k fun _ hK1 => wp_region_lit (run S (.mv rfl <| .xx (ys_call call54 (.cons (.t rfl) (.cons Ev.c (.cons Ev.c .nil))) (fun hp w W => c54 _ _ _ _ _ _ _ _ (by exact .old W (by assumption)) (by assumption) (by assumption) (by assumption) (by assumption))) rfl <| .z) fun a w S => ?_)))))
  rw [rw_h] at S
  refine run S (.as rfl <| .z) fun a w S => st_nil (then_normal (hK1 _ _ (wp_ret (st_ret S (results1 S results33 (Rv.tmp rfl)) ?_))))
  exact ⟨rfl, S.wd.below⟩
theorem c25 (w0 : World) (g cap : Nat) (A : Option Addr) (gs : List Nat) (T : List KH) (v2 : Value) (l : List Int) (h : TreeAt w0 g A cap gs T) (hT : KhOk T) (hl : T.length ≤ 1048576) (h2 : Sl encI 1 w0 w0.heap.size v2 l) (hn : l.length ≤ 1048576) :
    Rets Try.prog 25 #[.pointer (some ⟨g, 0, none⟩), v2] w0 fun u L => ∃ B c, u = .tuple #[.slice B (keysA T l).1.length c, .int .i64 (keysA T l).2] ∧ L = [rowOf 28 3 Sm.enc B c (keysA T l).1] := by
  have hkeys := h.keys
  have hgl := h.len
  cases hok : okP 4 4 l with
  | false =>
    have rw_4 := hok
    have e : keysA T l = ([], 80) := by unfold keysA; rw [hok]; rfl
    rw [e]
    unfold Go.Fw.Rets
    refine enter2 func25 rfl ntmps25 rfl fun a S => sg S (.ac rfl <| .ac rfl <| .z) fun a w S => wp_seq_k fun _ hK1 => sg S (.mv rfl <| .xx (ys_call call45 (.cons (.t rfl) .nil) (fun hp w W => c45 _ _ _ _ _ (by exact Wd.cellOld W (by assumption)))) rfl <| .nt rfl <| .z) fun a w S => st_else S (.t rfl) (wp_skip (then_normal (hK1 _ _ (wp_seq_k fun _ hK1 => wp_seq_k fun _ hK2 => wp_region_lit (run S (.mv rfl <| .xx (ys_call call53 (.cons Ev.c (.cons (.t rfl) .nil)) (fun hp w W => c53 _ _ _ _ (by exact .old W (by assumption)))) rfl <| .z) fun a w S => ?_)))))
    rw [rw_4] at S
    refine run S (.nt rfl <| .z) fun a w S => st_nil (then_normal (hK2 _ _ (st_then S (.t rfl) (sg S (.ac rfl <| .ac rfl <| .z) fun a w S => wp_ret (then_ret (st_ret S (results2 S results25 (Rv.tmp rfl) (Rv.tmp rfl)) ?_))))))
    exact ⟨_, _, rfl, (S.nil_ 28 3 Sm.enc none).wd.pk, none, 0, rfl, rfl⟩
  | true =>
    have rw_4 := hok
    have e : keysA T l = (keysT T l, 0) := by unfold keysA; rw [if_pos hok]
    rw [e]
    have hmem := fun x hx => okP_mem (x := x) hok hx
    have h0 := h2
    obtain ⟨A', cap', rfl, hl', hcap', hA⟩ := h2
    unfold Go.Fw.Rets
    refine enter2 func25 rfl ntmps25 rfl fun a S => sg S (.ac rfl <| .ac rfl <| .z) fun a w S => wp_seq_k fun _ hK1 => sg S (.mv rfl <| .xx (ys_call call45 (.cons (.t rfl) .nil) (fun hp w W => c45 _ _ _ _ _ (by exact Wd.cellOld W (by assumption)))) rfl <| .nt rfl <| .z) fun a w S => st_else S (.t rfl) (wp_skip (then_normal (hK1 _ _ (wp_seq_k fun _ hK1 => wp_seq_k fun _ hK2 => wp_region_lit (run S (.mv rfl <| .xx (ys_call call53 (.cons Ev.c (.cons (.t rfl) .nil)) (fun hp w W => c53 _ _ _ _ (by exact .old W (by assumption)))) rfl <| .z) fun a w S => ?_)))))
    rw [rw_4] at S
    refine run S (.nt rfl <| .z) fun a w S => st_nil (then_normal (hK2 _ _ (st_else S (.t rfl) (wp_skip (then_normal (hK1 _ _ (sg S (.ac rfl <| .z) fun a w S => wp_seq_k fun _ hK1 => sg S (.mv rfl <| .ln underlying42 rfl <| .mc rfl <| .z) fun a w S => wp_block ?_)))))))
    replace S := S.nil_ 28 3 Sm.enc none
    refine st_lpM S [6, 19] (X := Nat × Option Addr × Nat) (fun q => [(6, true, .slice q.2.1 (keysT T (l.take q.1)).length q.2.2), (19, true, .int .i64 (q.1 : Int))]) (fun q => [rowOf 28 3 Sm.enc q.2.1 q.2.2 (keysT T (l.take q.1))]) (fun q => q.1 ≤ l.length) (fun q => l.length - q.1) (0, none, 0) (Nat.zero_le _) ?_
    clear S
    rintro ⟨q, B, cB⟩ a w hq S
    dsimp only at hq S
    have hbt := keys_room T (l.take q) hl (by rw [List.length_take]; omega)
    by_cases hlt : q < l.length
    · obtain ⟨g3, o3, x, rfl, hx, hd, hc⟩ := row_at hA hlt
      have hxb := hmem x (List.mem_of_getElem? hx)
      obtain ⟨i, rfl⟩ : ∃ i : Nat, x = (i : Int) := ⟨x.toNat, by omega⟩
      have hi : i < 16 := by have h5 := hxb.2; have h6 : (2 : Int) ^ (4 : Int).toNat = 16 := by decide
                             rw [h6] at h5; omega
      have hst := keys_step (T := T) hx
      rw [Int.toNat_natCast] at hst
      generalize keysT T (l.take q) = M at *
      obtain ⟨A2, cap2, e2, hl2, hcap2, hA2⟩ := h.row
      cases e2
      obtain ⟨gr, o_, b, rfl, hb, hd2, hcx⟩ := row_at hA2 (show i < gs.length by omega)
      obtain ⟨o, ho, hC⟩ := h.maps i b hb
      have hpl := partT_len T i
      refine sg S (.lt (by omega) rfl rfl <| .z) fun a w S => wp_seq_k fun _ hK2 => st_then S (.t rfl) (wp_skip (then_normal (hK2 _ _ (wp_seq_k fun _ hK2 => wp_block (sg S (.ix underlying42 sizeOf3 (by omega) rfl rfl <| .yy (ys_ldO ⟨isAgg3, sizeOf3⟩ (.t rfl) (fun _ => hc 0 _ rfl)) rfl <| .as rfl <| .z) fun a w S => wp_seq_k fun _ hK3 => wp_region_lit (run S (.mv rfl <| .yy (ys_nilc (.t rfl)) rfl <| .fa underlying59 sizeOf57 0 rfl rfl rfl <| .mv rfl <| .z) fun a w S => ?_))))))
      (refine st_m (op_calls S call57 (.cons (.t rfl) (.cons (.t rfl) .nil)) (c57 _ _ _ _ _ _ _ (by exact .old S.wd (by assumption)) (by assumption) (by assumption) (by omega)) rfl ?_); clear S a w; rintro _ _ ⟨B1, c1, rfl, rfl⟩ a w S)
      refine run S (.ln underlying61 rfl <| .mc rfl <| .z) fun a w S => st_nil (then_normal (hK3 _ _ (wp_block ?_)))
      rw [show M = M ++ ((partT T i).take 0).map (smP i) by simp] at S
      refine st_lpM S [6, 29] (X := Nat × Option Addr × Nat) (fun j => [(6, true, .slice j.2.1 (M ++ ((partT T i).take j.1).map (smP i)).length j.2.2), (29, true, .int .i64 (j.1 : Int))]) (fun j => [rowOf 28 3 Sm.enc j.2.1 j.2.2 (M ++ ((partT T i).take j.1).map (smP i)), rowOf 9 1 encS' B1 c1 ((partT T i).map (·.1))]) (fun j => j.1 ≤ (partT T i).length) (fun j => (partT T i).length - j.1) (0, B, cB) (Nat.zero_le _) ?_
      clear S
      rintro ⟨j, B2, cB2⟩ a w hj S
      dsimp only at hj S
      have hml : ((partT T i).map (·.1)).length = (partT T i).length := List.length_map ..
      have hjl : (M ++ ((partT T i).take j).map (smP i)).length = M.length + min j (partT T i).length := by rw [List.length_append, List.length_map, List.length_take]
      by_cases hjt : j < (partT T i).length
      · obtain ⟨y, hy⟩ : ∃ y, (partT T i)[j]? = some y := ⟨_, List.getElem?_eq_getElem hjt⟩
        obtain ⟨ga, rfl⟩ := S.wd.row_at (k := 1) rfl (by have := (S.wd.room (k := 1) rfl).1; omega)
        have hy1 : ((partT T i).map (·.1))[j]? = some y.1 := by rw [List.getElem?_map, hy]; rfl
        have hmx : (y.1, y.2) ∈ partT T i := List.mem_of_getElem? hy
        have hyl := name_len (hT.name y (partT_mem.1 hmx).1)
        have hst2 : M ++ ((partT T i).take (j + 1)).map (smP i) = (M ++ ((partT T i).take j).map (smP i)) ++ [⟨i, y.1, y.2⟩] := by rw [List.take_add_one, hy, Option.toList_some, List.map_append, List.append_assoc]; rfl
        generalize M ++ ((partT T i).take j).map (smP i) = M2 at *
        refine sg S (.lt (by omega) rfl rfl <| .z) fun a w S => wp_seq_k fun _ hK3 => st_then S (.t rfl) (wp_skip (then_normal (hK3 _ _ (wp_seq_k fun _ hK3 => wp_block (sg S (.ix underlying61 sizeOf9 (by omega) rfl rfl <| .yy (ys_ldW0 ⟨isAgg9, sizeOf9⟩ (.t rfl) (k := 1) rfl hy1 (fun _ => rfl) rfl) rfl <| .as rfl <| .z) fun a w S => wp_region_lit (run S (.mv rfl <| .mv rfl <| .mv rfl <| .mv rfl <| .yy (ys_nilc (.t rfl)) rfl <| .fa underlying59 sizeOf57 0 rfl rfl rfl <| .fa underlying57 sizeOf55 0 rfl rfl rfl <| .yy (ys_ldO ⟨isAgg55, sizeOf55⟩ (.t rfl) (fun _ => hkeys)) rfl <| .mv rfl <| .ix underlying55 sizeOf80 (by omega) rfl rfl <| .yy (ys_ldO ⟨isAgg80, sizeOf80⟩ (.t rfl) (fun _ => hcx 0 _ rfl)) rfl <| .mv rfl <| .yy (ys_lookSO smT80 (.t rfl) (.t rfl) (by assumption) (by assumption) (by assumption)) rfl <| .yy (ys_bld (ps := [(0, Go.Operand.tmp 34), (1, Go.Operand.tmp 35), (2, Go.Operand.tmp 45)]) (us := [_, _, _]) bld28 (.cons (.t rfl) (.cons (.t rfl) (.cons (.t rfl) .nil))) rfl) rfl <| .z) fun a w S => st_m (op_bslice1 S underlying22 inf28 rfl rfl rfl (.t rfl) rfl rfl rfl fun g1 a w S => ?_)))))))
        refine st_m (op_push S underlying22 inf28 rfl (k := 1) (j := 0) rfl (.t rfl) (.t rfl) rfl Go.Fw.Sm.mkEnc rfl rfl (by first | omega | (simp only [List.length_append, List.length_cons, List.length_nil]; omega)) rfl rfl rfl fun A1 cap1 a w S => run S (.as rfl <| .z) fun a w S => st_nil (in_normal (then_normal (hK3 _ _ (wp_region_lit (run S (.ad (by unfold I64; omega) rfl <| .mv rfl <| .z) fun a w S => st_nil (then_normal ?_)))))))
        exact ⟨(j + 1, A1, cap1), by dsimp only; omega, by dsimp only; omega, by dsimp only; rw [hst2]; exact S.pk⟩
      obtain rfl : j = (partT T i).length := by omega
      rw [List.take_length, ← hst] at S
      refine sg S (.ge (by omega) rfl rfl <| .z) fun a w S => wp_seq_k fun _ hK3 => st_else S (.t rfl) (wp_exit (then_exit (then_exit (in_here (in_normal (then_normal (hK2 _ _ (wp_region_lit (run S (.ad (by unfold I64; omega) rfl <| .mv rfl <| .z) fun a w S => st_nil (then_normal ?_))))))))))
      exact ⟨(q + 1, B2, cB2), by dsimp only; omega, by dsimp only; omega, S.pk⟩
    obtain rfl : q = l.length := by omega
    rw [List.take_length] at S
    refine sg S (.ge (by omega) rfl rfl <| .z) fun a w S => wp_seq_k fun _ hK2 => st_else S (.t rfl) (wp_exit (then_exit (then_exit (in_here (then_normal (hK1 _ _ (sg S (.mv rfl <| .as rfl <| .ac rfl <| .z) fun a w S => wp_ret (st_ret S (results2 S results25 (Rv.tmp rfl) (Rv.tmp rfl)) ?_))))))))
    exact ⟨_, _, rfl, S.wd.pk, _, _, rfl, rfl⟩
end Go.Proofs.Ytbijdmfilmecbaa
set_option linter.unusedVariables false
set_option linter.unusedSimpArgs false
set_option maxRecDepth 100000
set_option maxHeartbeats 4000000
namespace Go.Fw
open Go.RowKit
def upTo (n : Nat) : List Int := (List.range n).map (fun i : Nat => (i : Int))
theorem upTo_len (n : Nat) : (upTo n).length = n := by unfold upTo; rw [List.length_map, List.length_range]
theorem upTo_succ (n : Nat) : upTo (n + 1) = upTo n ++ [(n : Int)] := by unfold upTo; rw [List.range_succ, List.map_append]; rfl
theorem aw_set : setE [97] = 0 := by decide +kernel
theorem aw_kept : setK [97] 5 [] = [([97], 5)] := by decide +kernel
theorem aw_root : hashT (setK [97] 5 []) 4 0 ≠ 0 := by rw [aw_kept]; decide +kernel
theorem aw_keys : keysA (setK [97] 5 []) (upTo 16) = ([⟨placeK [97], [97], 5⟩], 0) := by rw [aw_kept]; decide +kernel
theorem aw_ok : KhOk (setK [97] 5 []) := setK_ok kh_nil (by omega)
theorem aw_len : (setK [97] 5 []).length ≤ 1048576 := by rw [aw_kept]; simp
end Go.Fw
namespace Go.Proofs.Ytbijdmfilmecbaa
open Go.Fw Go.Proofs Go.RowKit Go.Proofs.Try
theorem c36 (w0 : World) : Rets Try.prog 36 #[] w0 fun u L => ∃ B c, u = .slice B (upTo 16).length c ∧ L = [rowOf 3 1 encI B c (upTo 16)] := by
  unfold Go.Fw.Rets
  refine enter0 func36 rfl ntmps36 rfl fun a S => sg S (.ac rfl <| .z) fun a w S => sg S (.ac rfl <| .z) fun a w S => wp_seq_k fun _ hK1 => sg S (.mc rfl <| .z) fun a w S => wp_block ?_
  replace S := S.nil_ 3 1 encI none
  refine st_lpM S [1, 3] (X := Nat × Option Addr × Nat) (fun q => [(1, true, .slice q.2.1 (upTo q.1).length q.2.2), (3, true, .int .i64 (q.1 : Int))]) (fun q => [rowOf 3 1 encI q.2.1 q.2.2 (upTo q.1)]) (fun q => q.1 ≤ 16) (fun q => 16 - q.1) (0, none, 0) (by simp) ?_
  clear S
  rintro ⟨q, B, cB⟩ a w hq S
  dsimp only at hq S
  have hul := upTo_len q
  by_cases hlt : q < 16
  · have hst := upTo_succ q
    generalize upTo q = M at *
    refine sg S (.yy (ys_T (by omega) (ys_lss (.t rfl) Ev.c)) rfl <| .z) fun a w S => wp_seq_k fun _ hK2 => st_then S (.t rfl) (wp_skip (then_normal (hK2 _ _ (wp_seq_k fun _ hK2 => wp_block (sg S (.mv rfl <| .as rfl <| .z) fun a w S => wp_region_lit (run S (.mv rfl <| .mv rfl <| .z) fun a w S => st_m (op_bslice1 S underlying42 inf3 rfl rfl rfl (.t rfl) rfl rfl rfl fun g1 a w S => st_m (op_push S underlying42 inf3 rfl (k := 1) (j := 0) rfl (.t rfl) (.t rfl) rfl rfl rfl rfl (by first | omega | (simp only [List.length_append, List.length_cons, List.length_nil]; omega)) rfl rfl rfl fun A1 cap1 a w S => run S (.as rfl <| .z) fun a w S => st_nil (in_normal (then_normal (hK2 _ _ (wp_region_lit (run S (.ad (by unfold I64; omega) rfl <| .mv rfl <| .z) fun a w S => st_nil (then_normal ?_))))))))))))))
    exact ⟨(q + 1, A1, cap1), by dsimp only; omega, by dsimp only; omega, by dsimp only; rw [hst]; exact S.pk⟩
  obtain rfl : q = 16 := by omega
  refine sg S (.yy (ys_F (by omega) (ys_lss (.t rfl) Ev.c)) rfl <| .z) fun a w S => wp_seq_k fun _ hK2 => st_else S (.t rfl) (wp_exit (then_exit (then_exit (in_here (then_normal (hK1 _ _ (sg S (.mv rfl <| .as rfl <| .z) fun a w S => wp_ret (st_ret S (results1 S results36 (Rv.tmp rfl)) ?_))))))))
  exact ⟨_, _, rfl, S.wd.pk, _, _, rfl, rfl⟩
theorem c14 (w0 : World) : Calls Try.prog 14 #[] w0 fun e w' => e = .returned (.bool true) ∧ Bel w0.heap.size w0 w' := by
  have h0 := kh_nil
  have h1 := aw_ok
  have rw_1 := aw_set
  have h2 := aw_len
  have h3 := aw_root
  have rw_k1 : (keysA (setK [97] 5 []) (upTo 16)).1 = [⟨placeK [97], [97], 5⟩] := by rw [aw_keys]
  have rw_k2 : (keysA (setK [97] 5 []) (upTo 16)).2 = 0 := by rw [aw_keys]
  have rw_l : [(⟨placeK [97], [97], 5⟩ : Sm)].length = 1 := rfl
  have rw_d : decide (((1 : Nat) : Int) = 1) = true := rfl
  have hul := upTo_len 16
  obtain ⟨y, rw_y⟩ : ∃ y, hashT (setK [97] 5 []) 4 0 = y := ⟨_, rfl⟩
  rw [rw_y] at h3
  have rw_z := decide_eq_false h3
  refine enter0 func14 rfl ntmps14 rfl fun a S => sg S (.ac rfl <| .z) fun a w S => wp_seq_k fun _ hK1 => wp_region_lit ?_
  (refine st_m (op_calls S call44 .nil (c44 _) rfl ?_); clear S a w; rintro _ _ ⟨g1, A1, cap1, gs1, w11, bs1, rfl, rfl, hr11⟩ a w S)
  refine run S (.as rfl <| .z) fun a w S => st_nil (then_normal (hK1 _ _ (wp_seq_k fun _ hK1 => wp_seq_k fun _ hK2 => wp_region_lit (run S (.mv rfl <| .z) fun a w S => ?_))))
  (refine st_m (op_callO S call11 (.cons (.t rfl) (.cons Ev.c (.cons Ev.c .nil))) (c11 S.wd (by first | assumption | omega | (dsimp only; omega) | exact Sl.nil_ | exact .old S.wd (by assumption) | exact Sl.of_own S.wd (k := 0) rfl (fun _ => rfl) | exact Sl.of_own S.wd (k := 1) rfl (fun _ => rfl) | exact Sl.of_own S.wd (k := 2) rfl (fun _ => rfl) | (simp; done) | (simp at *; omega)) (by first | assumption | omega | (dsimp only; omega) | exact Sl.nil_ | exact .old S.wd (by assumption) | exact Sl.of_own S.wd (k := 0) rfl (fun _ => rfl) | exact Sl.of_own S.wd (k := 1) rfl (fun _ => rfl) | exact Sl.of_own S.wd (k := 2) rfl (fun _ => rfl) | (simp; done) | (simp at *; omega)) (by first | assumption | omega | (dsimp only; omega) | exact Sl.nil_ | exact .old S.wd (by assumption) | exact Sl.of_own S.wd (k := 0) rfl (fun _ => rfl) | exact Sl.of_own S.wd (k := 1) rfl (fun _ => rfl) | exact Sl.of_own S.wd (k := 2) rfl (fun _ => rfl) | (simp; done) | (simp at *; omega))) rfl ?_) <;> clear S a w)
  rintro _ _ ⟨w21, bs21, rfl, rfl, hr1⟩ a w S
  rw [rw_1] at S
  refine run S (.yy (ys_F (by omega) (ys_neq (.t rfl) Ev.c)) rfl <| .mv rfl <| .gy rfl rfl (ys_move (.t rfl)) <| .gx rfl rfl (ys_call call33 (.cons (.t rfl) .nil) (fun hp w W => c33 _ _ _ _ _ _ (by exact sl_m1 W (k := 0) rfl) (by assumption) (by omega))) <| .z) fun a w S => ?_
  rw [rw_y] at S
  refine run S (.gy rfl rfl (ys_F (by omega) (ys_eql (.t rfl) Ev.c)) <| .yy (ys_pickF (.t rfl) (.t rfl)) rfl <| .z) fun a w S => st_nil (then_normal (hK2 _ _ (st_else S (.t rfl) (wp_skip (then_normal (hK1 _ _ (wp_seq_k fun _ hK1 => wp_region_lit (run S (.mv rfl <| .z) fun a w S => ?_))))))))
  (refine st_m (op_calls S call36 .nil (c36 _) rfl ?_); clear S a w; rintro _ _ ⟨B1, c1, rfl, rfl⟩ a w S)
  (refine st_m (op_calls S call25 (.cons (.t rfl) (.cons (.t rfl) .nil)) (c25 _ _ _ _ _ _ _ _ (by exact sl_m1 S.wd (k := 1) rfl) (by assumption) (by assumption) (by exact Sl.of_own S.wd (k := 0) rfl (fun _ => rfl)) (by omega)) rfl ?_); clear S a w; rintro _ _ ⟨B2, c2, rfl, rfl⟩ a w S)
  rw [rw_k1] at S
  rw [rw_k2] at S
  rw [rw_l] at S
  refine run S (.mv rfl <| .ex rfl rfl <| .ex rfl rfl <| .as rfl <| .as rfl <| .z) fun a w S => st_nil (then_normal (hK1 _ _ (wp_seq_k fun _ hK1 => wp_region_lit (run S (.mv rfl <| .yy (ys_T (by omega) (ys_eql (.t rfl) Ev.c)) rfl <| .mv rfl <| .gy rfl rfl (ys_move (.t rfl)) <| .gy rfl rfl (ys_lenS underlying22 (.t rfl)) <| .gy rfl rfl (ys_T (by omega) (ys_eql (.t rfl) Ev.c)) <| .yy (ys_pickT (.t rfl) (.t rfl)) rfl <| .mv rfl <| .gy rfl rfl (ys_move (.t rfl)) <| .z) fun a w S => ?_))))
  obtain ⟨ga, rfl⟩ := S.wd.row_at (k := 0) rfl (by have := (S.wd.room (k := 0) rfl).1; rw [rw_l] at this; omega)
  have hx : [(⟨placeK [97], [97], 5⟩ : Sm)][0]? = some ⟨placeK [97], [97], 5⟩ := rfl
  refine run S (.gy rfl rfl (ys_ixS (j := 0) underlying22 sizeOf28 (.t rfl) Ev.c (fun _ => by omega)) <| .gy rfl rfl (ys_field (FieldT.mk underlying28 rfl sizeOf9 rfl) (.t rfl)) <| .gy rfl rfl (ys_ldW ⟨isAgg9, sizeOf9⟩ (.t rfl) (k := 0) rfl hx (fun _ => rfl) rfl) <| .gy rfl rfl (ys_eqlStr (.t rfl) Ev.c) <| .yy (ys_pickT (.t rfl) (.t rfl)) rfl <| .mv rfl <| .gy rfl rfl (ys_move (.t rfl)) <| .gy rfl rfl (ys_ixS (j := 0) underlying22 sizeOf28 (.t rfl) Ev.c (fun _ => by omega)) <| .gy rfl rfl (ys_field (FieldT.mk underlying28 rfl sizeOf23 rfl) (.t rfl)) <| .gy rfl rfl (ys_ldW ⟨isAgg23, sizeOf23⟩ (.t rfl) (k := 0) rfl hx (fun _ => rfl) rfl) <| .gy rfl rfl (ys_eql (.t rfl) Ev.c) <| .yy (ys_pickT (.t rfl) (.t rfl)) rfl <| .as rfl <| .z) fun a w S => st_nil (then_normal (hK1 _ _ (wp_ret (st_ret S (results1 S results14 (Rv.tmp rfl)) ?_))))
  exact ⟨by simp, S.wd.below⟩
end Go.Proofs.Ytbijdmfilmecbaa
set_option linter.unusedVariables false
set_option linter.unusedSimpArgs false
set_option maxRecDepth 100000
namespace Go.Proofs.Ytbijdmfilmecbaa
open Go.Fw Go.Proofs Go.RowKit Go.ChangeShapes Go.WideShapes Go.ChangeAt Go.Deep Go.Joins Go.Proofs.Try
section
variable {H : Type} {enc : TypeId × Value → H} {w : World}
theorem wf_u64 {n : Int} (h : (Lit.int .u64 n).wf = true) : 0 ≤ n ∧ n ≤ 18446744073709551615 := by
  simp only [Lit.wf, IntKind.min, IntKind.max, IntKind.signed, IntKind.bits, Bool.and_eq_true, decide_eq_true_eq, Bool.false_eq_true, if_false] at h
  omega
theorem rdSum : Rdr enc Try.prog w 28 fun cs b => ∃ x : Sm, cs = Sm.enc x ∧ (0 ≤ x.hash ∧ x.hash ≤ 18446744073709551615) ∧ x.key.length + 1 ≤ b := by
  refine (Rdr.struct underlying28 (by kernel_rfl) (.cons (Rdr.int underlying3) (.cons (Rdr.str underlying9) (.cons (Rdr.int underlying23) .nil)))).mono ?_
  rintro cs b ⟨_, _, rfl, ⟨_, _, x, rfl, _⟩, _, _, rfl, ⟨_, hb, s, rfl, hs⟩, _, _, rfl, ⟨_, _, h, rfl, hw⟩, rfl⟩
  exact ⟨⟨x, s, h⟩, rfl, wf_u64 hw, by dsimp only; omega⟩
theorem read_sums {v : Value} {d : DataW H} {p : List MemPlace} (hv : ∃ A len cap, v = .slice A len cap) (h : DataW.Trod enc Try.prog w 0 (fun _ => true) true 22 v d p) (hb : Rows.uptoBulk d ≤ 1048576) :
    ∃ l, Sl Sm.enc 3 w w.heap.size v l ∧ Sums l := by
  obtain ⟨v', l, hc, hs, hl, hf⟩ := Rdr.top (Rdr.slice (k := 3) underlying22 (by kernel_rfl) rfl (fun _ => rfl) rdSum) h
  obtain ⟨A, n, c, rfl⟩ := hv
  simp only [Value.cells, List.cons.injEq, and_true] at hc
  subst hc
  exact ⟨l, hs, ⟨fun x hx => by obtain ⟨b', h1, h2, h3⟩ := hf x hx; exact h2, fun x hx => by obtain ⟨b', h1, h2, h3⟩ := hf x hx; omega, by omega⟩⟩
end
end Go.Proofs.Ytbijdmfilmecbaa
set_option linter.unusedVariables false
set_option linter.unusedSimpArgs false
set_option maxRecDepth 100000
set_option maxHeartbeats 4000000
namespace Go.Fw
open Go.RowKit
theorem Sl.take_m {α : Type} {enc : α → List Value} {size B : Nat} {w : World} {A : Option Addr} {l : List α} {cap m : Nat} (h : Sl enc size w B (.slice A l.length cap) l) (hm : m ≤ l.length) : Sl enc size w B (.slice A m cap) (l.take m) := by
  obtain ⟨A', cap', hv, h2, h3, h4⟩ := h
  simp only [Value.slice.injEq, true_and] at hv
  obtain ⟨rfl, rfl⟩ := hv
  have hl : (l.take m).length = m := by rw [List.length_take]; omega
  refine ⟨A, cap, by rw [hl], by rw [hl]; omega, h3, fun hp => ?_⟩
  obtain ⟨g, o, rfl, hg, hc⟩ := h4 (by omega)
  exact ⟨g, o, rfl, hg, fun k x hx => hc k x (by rw [List.getElem?_take] at hx; split at hx; exact hx; cases hx)⟩
structure SSl where
  a : Option Addr
  c : Nat
  l : List Sm
abbrev SSl.enc (x : SSl) : List Value := [.slice x.a x.l.length x.c]
theorem SSl.enc_len (x : SSl) : (SSl.enc x).length = 1 := rfl
theorem SSl.enc_one (x : SSl) : ∀ u ∈ SSl.enc x, u.oneCell' = true := fun u hu => by simp [SSl.enc] at hu; subst hu; rfl
theorem SSl.mkEnc {a : Option Addr} {c : Nat} {l : List Sm} : [Value.slice a l.length c] = SSl.enc ⟨a, c, l⟩ := rfl
def SslRd (w : World) (xs : List SSl) : Prop := ∀ x ∈ xs, Sl Sm.enc 3 w w.heap.size (.slice x.a x.l.length x.c) x.l
theorem SslRd.old {w0 w : World} {L : List Chunk} {xs : List SSl} (W : Wd w0 L w) (h : SslRd w0 xs) : SslRd w xs := fun x hx => Sl.old W (h x hx)
structure SslIn (w1 : World) (bs : List Nat) (v : Value) (xs : List SSl) : Prop where
  row : SlIn SSl.enc 1 w1 bs v xs
  rows : ∀ x ∈ xs, SlIn Sm.enc 3 w1 bs (.slice x.a x.l.length x.c) x.l
theorem SslIn.sl {w0 w w1 : World} {L : List Chunk} {k : Nat} {bs : List Nat} {v : Value} {xs : List SSl} (h : SslIn w1 bs v xs) (W : Wd w0 L w) (hk : L[k]? = some (.ice w1 bs)) : Sl SSl.enc 1 w w.heap.size v xs ∧ SslRd w xs :=
  ⟨h.row.sl W hk, fun x hx => (h.rows x hx).sl W hk⟩
def allT (T : List KH) (n : Nat) : List (List Sm) := (List.range n).map fun (i : Nat) => sumsT T (i : Int) (upTo (2 ^ i))
theorem allT_succ (T : List KH) (n : Nat) : allT T (n + 1) = allT T n ++ [sumsT T (n : Int) (upTo (2 ^ n))] := by unfold allT; rw [List.range_succ, List.map_append]; rfl
theorem allT_len (T : List KH) (n : Nat) : (allT T n).length = n := by unfold allT; rw [List.length_map, List.length_range]
theorem pow_le16 {n : Nat} (h : n < 5) : 2 ^ n ≤ 16 := by
  obtain rfl | rfl | rfl | rfl | rfl : n = 0 ∨ n = 1 ∨ n = 2 ∨ n = 3 ∨ n = 4 := by omega
  all_goals decide
theorem upTo_take {m n : Nat} (h : m ≤ n) : (upTo n).take m = upTo m := by
  unfold upTo
  rw [← List.map_take, List.take_range, Nat.min_eq_left h]
theorem upTo_okP {n : Nat} (h : n < 5) : okP (n : Int) 4 (upTo (2 ^ n)) = true := by
  obtain rfl | rfl | rfl | rfl | rfl : n = 0 ∨ n = 1 ∨ n = 2 ∨ n = 3 ∨ n = 4 := by omega
  all_goals decide +kernel
end Go.Fw
namespace Go.Proofs.Ytbijdmfilmecbaa
open Go.Fw Go.Proofs Go.RowKit Go.Proofs.Try
theorem c13 (w0 : World) (g cap : Nat) (A : Option Addr) (gs : List Nat) (T : List KH) (h : TreeAt w0 g A cap gs T) (hT : KhOk T) (hl : T.length ≤ 4194304) :
    Rets Try.prog 13 #[.pointer (some ⟨g, 0, none⟩)] w0 fun u L => ∃ B c w1 bs xs, u = .slice B 5 c ∧ L = [.ice w1 bs] ∧ SlIn SSl.enc 1 w1 bs (.slice B 5 c) xs ∧ SslIn w1 bs (.slice B 5 c) xs ∧ xs.map (·.l) = allT T 5 := by
  unfold Go.Fw.Rets
  refine enter1 func13 rfl ntmps13 rfl fun a S => sg S (.ac rfl <| .z) fun a w S => sg S (.ac rfl <| .z) fun a w S => wp_seq_k fun _ hK1 => sg S (.mc rfl <| .z) fun a w S => wp_block ?_
  replace S := S.nil_ 22 1 SSl.enc none
  replace S : St _ _ _ (.ice w0 [] :: _) _ _ := ⟨S.kn, S.wd.bare (fun b hb => by cases hb) (fun b hb => by cases hb)⟩
  refine st_lpM S [3, 7] (X := Nat × Option Addr × Nat × List SSl × World × List Nat) (fun q => [(3, true, .slice q.2.1 q.2.2.2.1.length q.2.2.1), (7, true, .int .i64 (q.1 : Int))]) (fun q => [rowOf 22 1 SSl.enc q.2.1 q.2.2.1 q.2.2.2.1, .ice q.2.2.2.2.1 q.2.2.2.2.2])
    (fun q => q.1 ≤ 5 ∧ q.2.2.2.1.map (·.l) = allT T q.1 ∧ ∀ x ∈ q.2.2.2.1, SlIn Sm.enc 3 q.2.2.2.2.1 q.2.2.2.2.2 (.slice x.a x.l.length x.c) x.l) (fun q => 5 - q.1) (0, none, 0, [], w0, []) ⟨by simp, rfl, by simp⟩ ?_
  clear S
  rintro ⟨i, B, cB, xs, w1, bs⟩ a w ⟨hi, hxs, hin⟩ S
  dsimp only at hi hxs hin S
  have hxl : xs.length = i := by have := congrArg List.length hxs; rwa [List.length_map, allT_len] at this
  by_cases hlt : i < 5
  · obtain ⟨m, hm⟩ : ∃ m, 2 ^ i = m := ⟨_, rfl⟩
    have hm16 : m ≤ 16 := by rw [← hm]; exact pow_le16 hlt
    have hul := upTo_len 16
    have hup := upTo_take hm16
    have hok := upTo_okP hlt
    have rw_s : IntKind.i64.wrap (1 * 2 ^ i) = (m : Int) := by rw [pow_shl (by omega), ← hm]; simp
    have hum := upTo_len m
    obtain ⟨N, hN⟩ : ∃ N, sumsT T (i : Int) (upTo m) = N := ⟨_, rfl⟩
    have hNl : N.length = m := by rw [← hN, sums_len', hum]
    have hst : allT T (i + 1) = allT T i ++ [N] := by rw [allT_succ, hm, hN]
    rw [hm] at hok
    have rw_a : sumsA T (i : Int) (upTo m) = (N, 0) := by unfold sumsA; rw [if_pos hok, hN]
    have rw_n : decide ((N.length : Int) ≠ (m : Int)) = false := decide_eq_false (by omega)
    have rw_0 : decide ((0 : Int) ≠ 0) = false := rfl
    refine sg S (.yy (ys_T (by omega) (ys_lss (.t rfl) Ev.c)) rfl <| .z) fun a w S => wp_seq_k fun _ hK2 => st_then S (.t rfl) (wp_skip (then_normal (hK2 _ _ (wp_seq_k fun _ hK2 => wp_block (sg S (.mv rfl <| .as rfl <| .z) fun a w S => wp_seq_k fun _ hK3 => h_begin0 S (by kernel_rfl) fun a w S => hy 0 S rfl (ys_move (.t rfl)) rfl fun a w S => hy 1 S rfl (ys_move (.t rfl)) rfl fun a w S => hy 3 S rfl (ys_move (.t rfl)) rfl fun a w S => hy 4 S rfl (ys_shl Ev.c (.t rfl) (Nat.ble_eq_true_of_le (by show _ ≤ 64; omega))) rfl fun a w S => ?_)))))
    rw [rw_s] at S
    (refine h_m (i := 2) rfl (by kernel_rfl) (op_calls S call36 .nil (c36 _) rfl ?_); clear S a w; rintro _ _ ⟨B1, c1, rfl, rfl⟩ a w S; refine h_n2 S ?_)
    have hrm := (S.wd.room (k := 0) rfl).1
    refine hy 5 S rfl (ys_slHi underlying42 sizeOf3 (.t rfl) (.t rfl) (fun _ => by first | omega | (simp; done) | (simp; omega))) rfl fun a w S => ?_
    have hsl : Sl encI 1 w w.heap.size (.slice B1 m c1) (upTo m) := by
      have h5 := (Sl.of_own S.wd (k := 0) rfl encI_len).take_m (m := m) (by omega)
      rwa [hup] at h5
    (refine h_m (i := 6) rfl (by kernel_rfl) (op_calls S call22 (.cons (.t rfl) (.cons (.t rfl) (.cons (.t rfl) .nil))) (c22 _ _ _ _ _ _ _ _ _ (by exact .old S.wd (by assumption)) (by assumption) (by assumption) (by assumption) (by omega)) rfl ?_); clear S a; rintro _ _ ⟨B2, c2, rfl, rfl⟩ a w S; refine h_n2 S ?_)
    rw [rw_a] at S ⊢
    refine hy 7 S rfl (ys_move (.t rfl)) rfl fun a w S => hy 8 S rfl (ys_ext (.t rfl) rfl) rfl fun a w S => hy 9 S rfl (ys_ext (.t rfl) rfl) rfl fun a w S => hy 10 S rfl (ys_assign (.t rfl)) rfl fun a w S => hy 11 S rfl (ys_assign (.t rfl)) rfl fun a w S => h_done (by kernel_rfl) (then_normal (hK3 _ _ (wp_seq_k fun _ hK3 => wp_seq_k fun _ hK4 => wp_region_lit ?_)))
    refine run S (.mv rfl <| .yy (ys_F (by omega) (ys_neq (.t rfl) Ev.c)) rfl <| .mv rfl <| .gy rfl rfl (ys_move (.t rfl)) <| .gy rfl rfl (ys_lenS underlying22 (.t rfl)) <| .gy rfl rfl (ys_move (.t rfl)) <| .gy rfl rfl (ys_shl Ev.c (.t rfl) (Nat.ble_eq_true_of_le (by show _ ≤ 64; omega))) <| .z) fun a w S => ?_
    rw [rw_s] at S
    refine run S (.gy rfl rfl (ys_neq (.t rfl) (.t rfl)) <| .z) fun a w S => ?_
    rw [rw_n] at S
    refine run S (.yy (ys_pickF (.t rfl) (.t rfl)) rfl <| .z) fun a w S => st_nil (then_normal (hK4 _ _ (st_else S (.t rfl) (wp_skip (then_normal (hK3 _ _ (wp_region_lit (run S (.mv rfl <| .mv rfl <| .z) fun a w S => st_m (op_bslice1 S underlying32 inf22 rfl rfl rfl (.t rfl) rfl rfl rfl fun g1 a w S => st_m (op_push S underlying32 inf22 rfl (k := 3) (j := 0) rfl (.t rfl) (.t rfl) rfl Go.Fw.SSl.mkEnc rfl rfl (by first | omega | (simp only [List.length_append, List.length_cons, List.length_nil]; omega)) rfl rfl rfl fun A1 cap1 a w S => run S (.as rfl <| .z) fun a w S => st_nil (in_normal (then_normal (hK2 _ _ (wp_region_lit (run S (.ad (by unfold I64; omega) rfl <| .mv rfl <| .z) fun a w S => st_nil (then_normal ?_))))))))))))))))
    have W0 := S.wd.picks (L' := [rowOf 28 3 Sm.enc B2 c2 N, .ice w1 bs, rowOf 22 1 SSl.enc A1 cap1 (xs ++ [⟨B2, c2, N⟩])]) (by repeat (first | exact Picks.nil | (refine Picks.rest ?_; (repeat (first | exact List.Sublist.refl _ | refine List.Sublist.cons_cons _ ?_ | refine List.Sublist.cons _ ?_)); done) | refine Picks.take 0 rfl ?_ | refine Picks.take 1 rfl ?_ | refine Picks.take 2 rfl ?_ | refine Picks.take 3 rfl ?_ | refine Picks.take 4 rfl ?_ | refine Picks.take 5 rfl ?_ | refine Picks.take 6 rfl ?_ | refine Picks.take 7 rfl ?_ | refine Picks.take 8 rfl ?_ | refine Picks.take 9 rfl ?_ | refine Picks.take 10 rfl ?_ | refine Picks.take 11 rfl ?_))
    have W1 := Wd.freeze (cs := [rowOf 28 3 Sm.enc B2 c2 N, .ice w1 bs]) (L := [rowOf 22 1 SSl.enc A1 cap1 (xs ++ [⟨B2, c2, N⟩])]) W0
    have hb : ∀ b ∈ bs, b ∈ [rowOf 28 3 Sm.enc B2 c2 N, .ice w1 bs].flatMap Chunk.blocks := fun b hb => List.mem_flatMap.2 ⟨.ice w1 bs, by simp, hb⟩
    have hb2 : ∀ b ∈ Chunk.blocks (rowOf 28 3 Sm.enc B2 c2 N), b ∈ [rowOf 28 3 Sm.enc B2 c2 N, .ice w1 bs].flatMap Chunk.blocks := fun b hb => List.mem_flatMap.2 ⟨_, by simp, hb⟩
    generalize [rowOf 28 3 Sm.enc B2 c2 N, .ice w1 bs].flatMap Chunk.blocks = bs' at *
    refine ⟨(i + 1, A1, cap1, xs ++ [⟨B2, c2, N⟩], w, bs'), ⟨by dsimp only; omega, ?_, ?_⟩, by dsimp only; omega, (St.mk S.kn W1).pk⟩
    · dsimp only
      rw [List.map_append, hxs, hst]; rfl
    · intro x hx
      dsimp only at hx ⊢
      rcases List.mem_append.1 hx with hx | hx
      · exact (hin x hx).anew W0 (k := 1) rfl hb
      · rw [List.mem_singleton] at hx
        subst hx
        exact SlIn.row W0 (k := 0) rfl Sm.enc_len hb2
  obtain rfl : i = 5 := by omega
  refine sg S (.yy (ys_F (by omega) (ys_lss (.t rfl) Ev.c)) rfl <| .z) fun a w S => wp_seq_k fun _ hK2 => st_else S (.t rfl) (wp_exit (then_exit (then_exit (in_here (then_normal (hK1 _ _ (sg S (.mv rfl <| .as rfl <| .z) fun a w S => wp_ret (st_ret S (results1 S results13 (Rv.tmp rfl)) ?_))))))))
  have W0 := S.wd.picks (L' := [rowOf 22 1 SSl.enc B cB xs, .ice w1 bs]) (by repeat (first | exact Picks.nil | (refine Picks.rest ?_; (repeat (first | exact List.Sublist.refl _ | refine List.Sublist.cons_cons _ ?_ | refine List.Sublist.cons _ ?_)); done) | refine Picks.take 0 rfl ?_ | refine Picks.take 1 rfl ?_ | refine Picks.take 2 rfl ?_ | refine Picks.take 3 rfl ?_ | refine Picks.take 4 rfl ?_ | refine Picks.take 5 rfl ?_ | refine Picks.take 6 rfl ?_ | refine Picks.take 7 rfl ?_ | refine Picks.take 8 rfl ?_ | refine Picks.take 9 rfl ?_ | refine Picks.take 10 rfl ?_ | refine Picks.take 11 rfl ?_))
  have W1 := Wd.freeze (cs := [rowOf 22 1 SSl.enc B cB xs, .ice w1 bs]) (L := []) W0
  have hb : ∀ b ∈ bs, b ∈ [rowOf 22 1 SSl.enc B cB xs, .ice w1 bs].flatMap Chunk.blocks := fun b hb => List.mem_flatMap.2 ⟨.ice w1 bs, by simp, hb⟩
  have hb2 : ∀ b ∈ Chunk.blocks (rowOf 22 1 SSl.enc B cB xs), b ∈ [rowOf 22 1 SSl.enc B cB xs, .ice w1 bs].flatMap Chunk.blocks := fun b hb => List.mem_flatMap.2 ⟨_, by simp, hb⟩
  generalize [rowOf 22 1 SSl.enc B cB xs, .ice w1 bs].flatMap Chunk.blocks = bs' at *
  have hrow := SlIn.row W0 (k := 0) rfl SSl.enc_len hb2
  rw [hxl] at hrow
  exact ⟨_, _, rfl, W1, B, cB, w, bs', xs, by rw [hxl], rfl, hrow, ⟨hrow, fun x hx => (hin x hx).anew W0 (k := 1) rfl hb⟩, hxs⟩
end Go.Proofs.Ytbijdmfilmecbaa
set_option linter.unusedVariables false
set_option linter.unusedSimpArgs false
namespace Go.Fw
open Go.RowKit
section
variable {P : Program} {n : Nat} {w0 w1 : World} {K : KL} {L : List Chunk} {b : Bool} {dst : Option Tmp} {ty : TypeId} {pos : String} {aft : Array Edge} {gd : Option (Nat × Bool)} {bs : List Nat}
theorem ys_ldI {t : TypeId} {x : Operand} {g o k : Nat} {v : Value} (h1 : One P t) (hx : Ev n b K x (.pointer (some ⟨g, o, none⟩))) (hk : L[k]? = some (.ice w1 bs)) (hg : g ∈ bs) (hc : w1.cell? ⟨g, o, none⟩ = some v) : Yr P ⟨dst, .load t x, ty, pos, aft, gd⟩ n K w0 L b v := fun a w hb hkn hw => by
  have h := (ice_cell hw hk (o := o) hg).trans hc
  simp [execOp, hx a hb hkn, Instr.loadAt, Instr.sureAddr, run_load_one h1 h]
theorem ys_ldIA {t : TypeId} {m : Nat} {x : Operand} {g o k : Nat} {vs : List Value} (h1 : Many P t m) (hx : Ev n b K x (.pointer (some ⟨g, o, none⟩))) (hk : L[k]? = some (.ice w1 bs)) (hg : g ∈ bs) (hl : vs.length = m)
    (hc : ∀ j u, vs[j]? = some u → w1.cell? ⟨g, o + j, none⟩ = some u) : Yr P ⟨dst, .load t x, ty, pos, aft, gd⟩ n K w0 L b (.agg vs.toArray) := fun a w hb hkn hw => by
  have h := run_load_many (P := P) (ad := ⟨g, o, none⟩) h1 hl (w := w) (fun j u hj => by
    rw [Addr.add_mid]
    exact (ice_cell hw hk (o := o + j) hg).trans (hc j u hj))
  simp [execOp, hx a hb hkn, Instr.loadAt, Instr.sureAddr, h]
end
theorem ice_at {α : Type} {enc : α → List Value} {size n c : Nat} {w1 : World} {bs : List Nat} {A : Option Addr} {l : List α} {i : Nat} (h : SlIn enc size w1 bs (.slice A n c) l) (hi : i < l.length) :
    n = l.length ∧ n ≤ c ∧ ∃ g o x, A = some ⟨g, o, none⟩ ∧ l[i]? = some x ∧ g ∈ bs ∧ ∀ j u, (enc x)[j]? = some u → w1.cell? ⟨g, o + i * size + j, none⟩ = some u := by
  obtain ⟨A', cap, e, h1, h2, h3⟩ := h
  simp only [Value.slice.injEq] at e
  obtain ⟨rfl, rfl, rfl⟩ := e
  obtain ⟨g, o, rfl, hg, hc⟩ := h3 (by omega)
  exact ⟨rfl, h1, g, o, l[i], rfl, List.getElem?_eq_getElem hi, hg, hc i _ (List.getElem?_eq_getElem hi)⟩
end Go.Fw
set_option linter.unusedVariables false
set_option linter.unusedSimpArgs false
set_option maxRecDepth 100000
set_option maxHeartbeats 4000000
namespace Go.Fw
open Go.RowKit
def wayT (T : List KH) (k : List UInt8) (h : Int) (drop : Bool) : List KH := if drop = true then dropT k T else setK k h T
def wayE (T : List KH) (k : List UInt8) (drop : Bool) : Int := if drop = true then dropE T k else setE k
theorem way_same {T : List KH} {k : List UInt8} {h : Int} {drop : Bool} (hT : KhOk T) (he : wayE T k drop ≠ 0) : wayT T k h drop = T := by
  unfold wayE at he
  unfold wayT
  cases drop with
  | false =>
    simp only [Bool.false_eq_true, if_false] at he ⊢
    unfold setE at he
    unfold setK
    split
    · rename_i hn; rw [if_pos hn] at he; exact absurd rfl he
    · rfl
  | true =>
    simp only [if_true] at he ⊢
    unfold dropE at he
    refine drop_none fun x hx e => ?_
    have hn := hT.name x hx
    rw [e] at hn
    rw [if_pos hn, if_pos] at he
    · exact absurd rfl he
    · unfold hasT
      exact List.any_eq_true.2 ⟨x, hx, decide_eq_true e⟩
theorem way_part {T : List KH} {k : List UInt8} {h : Int} {drop : Bool} (hT : KhOk T) {i : Nat} (hi : i ≠ placeK k) : partT (wayT T k h drop) i = partT T i := by
  unfold wayT
  cases drop with
  | false =>
    simp only [Bool.false_eq_true, if_false]
    unfold setK
    split
    · exact part_set hT.sorted hi
    · rfl
  | true => exact part_drop hT.sorted hi
theorem way_hash {T : List KH} {k : List UInt8} {h : Int} {drop : Bool} (hT : KhOk T) {d p : Nat} (hp : p ≠ placeK k / 2 ^ d) : hashT (wayT T k h drop) d p = hashT T d p :=
  hashT_congr fun i hi => way_part hT fun e => hp (by rw [← hi, e])
theorem allT_at {T : List KH} {i n : Nat} (h : i < n) : (allT T n)[i]? = some (sumsT T (i : Int) (upTo (2 ^ i))) := by
  unfold allT
  rw [List.getElem?_map, List.getElem?_range h]; rfl
theorem upTo_at {p n : Nat} (h : p < n) : (upTo n)[p]? = some (p : Int) := by
  unfold upTo
  rw [List.getElem?_map, List.getElem?_range h]; rfl
theorem sumsT_at {T : List KH} {i p : Nat} (hi : i ≤ 4) (h : p < 2 ^ i) : (sumsT T (i : Int) (upTo (2 ^ i)))[p]? = some ⟨(p : Int), [], hashT T (4 - i) p⟩ := by
  unfold sumsT
  rw [List.getElem?_map, upTo_at h, show (4 - (i : Int)).toNat = 4 - i by omega]
  rfl
theorem way_key {T : List KH} {k : List UInt8} {h : Int} {drop : Bool} (hT : KhOk T) {d p : Nat} (hne : hashT T d p ≠ hashT (wayT T k h drop) d p) : p = placeK k / 2 ^ d ∧ wayE T k drop = 0 :=
  ⟨Decidable.byContradiction fun hp => hne (way_hash hT hp).symm, Decidable.byContradiction fun he => hne (by rw [way_same hT he])⟩
end Go.Fw
namespace Go.Proofs.Ytbijdmfilmecbaa
open Go.Fw Go.Proofs Go.RowKit Go.Proofs.Try
theorem c3 (w0 : World) (v1 : Value) (l : List Sm) (k : List UInt8) (hsh : Int) (drop : Bool) (h1 : Sl Sm.enc 3 w0 w0.heap.size v1 l) (s1 : Sums l) (hk : k.length ≤ 1048576) (hh : 0 ≤ hsh ∧ hsh ≤ 18446744073709551615) :
    Calls Try.prog 3 #[v1, .string (Fw.bs k), .int .u64 hsh, .bool drop] w0 fun e w' => e = .returned (.bool true) ∧ Bel w0.heap.size w0 w' := by
  have hT := s1.ok
  have hTl := s1.room
  have hl1 := s1.len
  have rw_0 : decide (((5 : Nat) : Int) ≠ 5) = false := rfl
  have rw_5 : decide ((5 : Int) ≠ 5) = false := rfl
  have hT2 : KhOk (setK k hsh (setsT [] l)) := setK_ok hT hh
  have hl2 := setK_len k hsh (setsT [] l)
  have hT3 : KhOk (dropT k (setsT [] l)) := dropT_ok hT
  have hl3 : (dropT k (setsT [] l)).length ≤ 1048576 := Nat.le_trans (List.length_filter_le _ _) hTl
  cases drop with
  | false =>
    refine enter4 func3 rfl ntmps3 rfl fun a S => sg S (.ac rfl <| .z) fun a w S => wp_seq_k fun _ hK1 => wp_region_lit (run S (.mv rfl <| .z) fun a w S => ?_)
    (refine st_m (op_calls S call10 (.cons (.t rfl) .nil) (c10 _ _ _ (by exact .old S.wd (by assumption)) (by omega)) rfl ?_); clear S a w; rintro _ _ ⟨A1, c1, rfl, rfl⟩ a w S)
    (refine st_m (op_calls S call9 (.cons (.t rfl) .nil) (c9 _ _ _ (by exact Sl.of_own S.wd (k := 0) rfl (fun _ => rfl)) (by assumption)) rfl ?_); clear S a w; rintro _ _ ⟨g1, A2, cap1, gs1, w11, bs1, rfl, rfl, hr11⟩ a w S)
    refine run S (.mv rfl <| .z) fun a w S => ?_
    (refine st_m (op_calls S call10 (.cons (.t rfl) .nil) (c10 _ _ _ (by exact .old S.wd (by assumption)) (by omega)) rfl ?_); clear S a w; rintro _ _ ⟨A3, c2, rfl, rfl⟩ a w S)
    (refine st_m (op_calls S call9 (.cons (.t rfl) .nil) (c9 _ _ _ (by exact Sl.of_own S.wd (k := 0) rfl (fun _ => rfl)) (by assumption)) rfl ?_); clear S a w; rintro _ _ ⟨g2, A4, cap2, gs2, w12, bs2, rfl, rfl, hr12⟩ a w S)
    refine run S (.as rfl <| .as rfl <| .z) fun a w S => st_nil (then_normal (hK1 _ _ (wp_seq_k fun _ hK1 => wp_region_lit (run S (.mv rfl <| .mv rfl <| .mv rfl <| .z) fun a w S => ?_))))
    (refine st_m (op_callO S call11 (.cons (.t rfl) (.cons (.t rfl) (.cons (.t rfl) .nil))) (c11 S.wd (by first | assumption | omega | (dsimp only; omega) | exact Sl.nil_ | exact .old S.wd (by assumption) | exact Sl.of_own S.wd (k := 0) rfl (fun _ => rfl) | exact Sl.of_own S.wd (k := 1) rfl (fun _ => rfl) | exact Sl.of_own S.wd (k := 2) rfl (fun _ => rfl) | exact Sl.of_own S.wd (k := 3) rfl (fun _ => rfl) | exact Sl.of_own S.wd (k := 4) rfl (fun _ => rfl) | exact Sl.of_own S.wd (k := 5) rfl (fun _ => rfl) | exact Sl.of_own S.wd (k := 6) rfl (fun _ => rfl) | exact Sl.of_own S.wd (k := 7) rfl (fun _ => rfl) | (simp; done) | (simp at *; omega)) (by first | assumption | omega | (dsimp only; omega) | exact Sl.nil_ | exact .old S.wd (by assumption) | exact Sl.of_own S.wd (k := 0) rfl (fun _ => rfl) | exact Sl.of_own S.wd (k := 1) rfl (fun _ => rfl) | exact Sl.of_own S.wd (k := 2) rfl (fun _ => rfl) | exact Sl.of_own S.wd (k := 3) rfl (fun _ => rfl) | exact Sl.of_own S.wd (k := 4) rfl (fun _ => rfl) | exact Sl.of_own S.wd (k := 5) rfl (fun _ => rfl) | exact Sl.of_own S.wd (k := 6) rfl (fun _ => rfl) | exact Sl.of_own S.wd (k := 7) rfl (fun _ => rfl) | (simp; done) | (simp at *; omega)) (by first | assumption | omega | (dsimp only; omega) | exact Sl.nil_ | exact .old S.wd (by assumption) | exact Sl.of_own S.wd (k := 0) rfl (fun _ => rfl) | exact Sl.of_own S.wd (k := 1) rfl (fun _ => rfl) | exact Sl.of_own S.wd (k := 2) rfl (fun _ => rfl) | exact Sl.of_own S.wd (k := 3) rfl (fun _ => rfl) | exact Sl.of_own S.wd (k := 4) rfl (fun _ => rfl) | exact Sl.of_own S.wd (k := 5) rfl (fun _ => rfl) | exact Sl.of_own S.wd (k := 6) rfl (fun _ => rfl) | exact Sl.of_own S.wd (k := 7) rfl (fun _ => rfl) | (simp; done) | (simp at *; omega))) rfl ?_) <;> clear S a w)
    rintro _ _ ⟨w21, bs21, rfl, rfl, hr1⟩ a w S
    refine run S (.as rfl <| .z) fun a w S => st_nil (then_normal (hK1 _ _ (wp_seq_k fun _ hK1 => sg S (.mv rfl <| .z) fun a w S => st_else S (.t rfl) (wp_skip (then_normal (hK1 _ _ (wp_seq_k fun _ hK1 => wp_region_lit (run S (.mv rfl <| .z) fun a w S => ?_))))))))
    (refine st_m (op_calls S call13 (.cons (.t rfl) .nil) (c13 _ _ _ _ _ _ (by exact sl_m1 S.wd (k := 4) rfl) (by assumption) (by omega)) rfl ?_); clear S a w; rintro _ _ ⟨B1, c6, w13, bs3, xs1, rfl, rfl, hr13, hr21, hr31⟩ a w S)
    refine run S (.mv rfl <| .z) fun a w S => ?_
    (refine st_m (op_calls S call13 (.cons (.t rfl) .nil) (c13 _ _ _ _ _ _ (by exact sl_m1 S.wd (k := 1) rfl) (by assumption) (by omega)) rfl ?_); clear S a w; rintro _ _ ⟨B2, c7, w14, bs4, xs2, rfl, rfl, hr14, hr22, hr32⟩ a w S)
    refine run S (.as rfl <| .as rfl <| .z) fun a w S => st_nil (then_normal (hK1 _ _ (wp_seq_k fun _ hK1 => sg S (.mv rfl <| .ln underlying32 rfl <| .yy (ys_F (by omega) (ys_neq (.t rfl) Ev.c)) rfl <| .mv rfl <| .gy rfl rfl (ys_move (.t rfl)) <| .gy rfl rfl (ys_lenS underlying32 (.t rfl)) <| .gy rfl rfl (ys_F (by omega) (ys_neq (.t rfl) Ev.c)) <| .yy (ys_pickF (.t rfl) (.t rfl)) rfl <| .mv rfl <| .gx rfl rfl (ys_call call14 .nil (fun hp w W => c14 _)) <| .gy rfl rfl (ys_not (.t rfl)) <| .yy (ys_pickF (.t rfl) (.t rfl)) rfl <| .z) fun a w S => st_else S (.t rfl) (wp_skip (then_normal (hK1 _ _ (sg S (.mv rfl <| .xx (ys_call call15 (.cons (.t rfl) .nil) (fun hp w W => c15 _ _ (by omega))) rfl <| .as rfl <| .z) fun a w S => wp_seq_k fun _ hK1 => sg S (.mc rfl <| .z) fun a w S => wp_block ?_)))))))
    have q1 : SslIn w13 bs3 (.slice B1 5 c6) xs1 := by assumption
    have q2 : SslIn w14 bs4 (.slice B2 5 c7) xs2 := by assumption
    have hm1 : xs1.map (·.l) = allT (setsT [] l) 5 := by assumption
    have hm2 : xs2.map (·.l) = allT (setK k hsh (setsT [] l)) 5 := by assumption
    have hw : setK k hsh (setsT [] l) = wayT (setsT [] l) k hsh false := by simp [wayT]
    have he : setE k = wayE (setsT [] l) k false := by simp [wayE]
    rw [hw] at hm2
    rw [he] at S
    generalize setsT [] l = T at *
    have n1 : xs1.length = 5 := by have := congrArg List.length hm1; rwa [List.length_map, allT_len] at this
    have n2 : xs2.length = 5 := by have := congrArg List.length hm2; rwa [List.length_map, allT_len] at this
    have hpl := placeK_lt k
    refine st_lpM S [8, 53] (X := Nat) (fun q => [(8, true, .bool false), (53, true, .int .i64 (q : Int))]) (fun _ => [.ice w14 bs4, .ice w13 bs3]) (fun q => q ≤ 5) (fun q => 5 - q) 0 (Nat.zero_le _) ?_
    clear S
    rintro i a w hi S
    by_cases hlt : i < 5
    · obtain ⟨m, hm⟩ : ∃ m, 2 ^ i = m := ⟨_, rfl⟩
      have hm16 : m ≤ 16 := by rw [← hm]; exact pow_le16 hlt
      have rw_s : IntKind.i64.wrap (1 * 2 ^ i) = (m : Int) := by rw [pow_shl (by omega), ← hm]; simp
      obtain ⟨_, k5, g7, o7, ⟨xa, xc, xl⟩, rfl, hx, hg7, hcx⟩ := ice_at (i := i) q1.row (by omega)
      obtain ⟨_, k6, g8, o8, ⟨ya, yc, yl⟩, rfl, hy, hg8, hcy⟩ := ice_at (i := i) q2.row (by omega)
      have r1 := q1.rows _ (List.mem_of_getElem? hx)
      have r2 := q2.rows _ (List.mem_of_getElem? hy)
      dsimp only at r1 r2
      have exl : xl = sumsT T (i : Int) (upTo (2 ^ i)) := by
        have h5 := congrArg (·[i]?) hm1
        simp only [List.getElem?_map, hx, allT_at hlt, Option.map_some, Option.some.injEq] at h5
        exact h5
      have eyl : yl = sumsT (wayT T k hsh false) (i : Int) (upTo (2 ^ i)) := by
        have h5 := congrArg (·[i]?) hm2
        simp only [List.getElem?_map, hy, allT_at hlt, Option.map_some, Option.some.injEq] at h5
        exact h5
      have xll : xl.length = m := by rw [exl, sums_len', upTo_len, hm]
      have yll : yl.length = m := by rw [eyl, sums_len', upTo_len, hm]
      have hcx' : w13.cell? ⟨g7, o7 + i * 1, none⟩ = some (.slice xa m xc) := by rw [← xll]; exact hcx 0 _ rfl
      have hcy' : w14.cell? ⟨g8, o8 + i * 1, none⟩ = some (.slice ya m yc) := by rw [← yll]; exact hcy 0 _ rfl
      clear hcx hcy
      refine sg S (.yy (ys_T (by omega) (ys_lss (.t rfl) Ev.c)) rfl <| .z) fun a w S => wp_seq_k fun _ hK2 => st_then S (.t rfl) (wp_skip (then_normal (hK2 _ _ (wp_seq_k fun _ hK2 => wp_block (sg S (.mv rfl <| .as rfl <| .z) fun a w S => wp_seq_k fun _ hK3 => wp_region_lit (run S (.mv rfl <| .yy (ys_shl Ev.c (.t rfl) (Nat.ble_eq_true_of_le (by show _ ≤ 64; omega))) rfl <| .z) fun a w S => ?_))))))
      rw [rw_s] at S
      refine run S (.mc rfl <| .z) fun a w S => st_nil (then_normal (hK3 _ _ (wp_block ?_)))
      refine st_lpM S [8, 58] (X := Nat) (fun p => [(8, true, .bool false), (58, true, .int .i64 (p : Int))]) (fun _ => [.ice w14 bs4, .ice w13 bs3]) (fun p => p ≤ m) (fun p => m - p) 0 (Nat.zero_le _) ?_
      clear S
      rintro p a w hp S
      by_cases hpm : p < m
      · obtain ⟨_, k7, g5, o5, X, rfl, hX, hg5, hcX⟩ := ice_at (i := p) r1 (by omega)
        obtain ⟨_, k8, g6, o6, Y, rfl, hY, hg6, hcY⟩ := ice_at (i := p) r2 (by omega)
        rw [exl, sumsT_at (by omega) (by rw [hm]; exact hpm)] at hX
        rw [eyl, sumsT_at (by omega) (by rw [hm]; exact hpm)] at hY
        have hkey := way_key (T := T) (k := k) (h := hsh) (drop := false) hT (d := 4 - i) (p := p)
        obtain ⟨d, hd⟩ : ∃ d, 4 - i = d := ⟨_, rfl⟩
        rw [hd] at hX hY hkey
        have rw_4 : (4 : Int) - (i : Int) = (d : Int) := by omega
        have rw_5 : IntKind.i64.wrap ((4 : Int) - (i : Int)) = (d : Int) := by rw [IntKind.wrap_i64]; omega
        have rw_q : Int.fdiv ((placeK k : Nat) : Int) (2 ^ d) = ((placeK k / 2 ^ d : Nat) : Int) := by rw [Int.fdiv_eq_ediv_of_nonneg _ (by have := Int.pow_pos (n := 2) (m := d) (by omega); omega)]; simp
        generalize placeK k / 2 ^ d = z at *
        generalize hashT T d p = a1 at *
        generalize hashT (wayT T k hsh false) d p = a2 at *
        generalize wayE T k false = e5 at *
        obtain rfl : (⟨(p : Int), [], a1⟩ : Sm) = X := by simpa using hX
        obtain rfl : (⟨(p : Int), [], a2⟩ : Sm) = Y := by simpa using hY
        by_cases hne : a1 = a2
        · have rw_e : decide ((⟨(p : Int), [], a1⟩ : Sm).place = (⟨(p : Int), [], a2⟩ : Sm).place ∧ Fw.bs (⟨(p : Int), [], a1⟩ : Sm).key = Fw.bs (⟨(p : Int), [], a2⟩ : Sm).key ∧ (⟨(p : Int), [], a1⟩ : Sm).hash = (⟨(p : Int), [], a2⟩ : Sm).hash) = true := decide_eq_true ⟨rfl, rfl, hne⟩
          refine sg S (.lt (by omega) rfl rfl <| .z) fun a w S => wp_seq_k fun _ hK3 => st_then S (.t rfl) (wp_skip (then_normal (hK3 _ _ (wp_seq_k fun _ hK3 => wp_block (sg S (.mv rfl <| .as rfl <| .z) fun a w S => wp_seq_k fun _ hK4 => wp_region_lit (run S (.mv rfl <| .mv rfl <| .mv rfl <| .yy (ys_subI Ev.c (.t rfl) (fun _ => by unfold I64; omega)) rfl <| .z) fun a w S => ?_))))))
          rw [rw_4] at S
          refine run S (.yy (ys_shr (.t rfl) (.t rfl) (Nat.ble_eq_true_of_le (by show _ ≤ 64; omega))) rfl <| .z) fun a w S => ?_
          rw [rw_q] at S
          refine run S (.yy (ys_eql (.t rfl) (.t rfl)) rfl <| .as rfl <| .z) fun a w S => st_nil (then_normal (hK4 _ _ (wp_seq_k fun _ hK4 => st_quiet S (by kernel_rfl) (by kernel_rfl) fun a S => qrun S (.mv rfl <| .mv rfl <| .ix underlying32 sizeOf22 (by omega) rfl rfl <| .yy (ys_ldI ⟨isAgg22, sizeOf22⟩ (.t rfl) (k := 1) rfl (by assumption) hcx') rfl <| .mv rfl <| .ix underlying22 sizeOf28 (by omega) rfl rfl <| .yy (ys_ldIA ⟨isAgg28, sizeOf28⟩ (.t rfl) (k := 1) (vs := [_, _, _]) rfl (by assumption) rfl hcX) rfl <| .mv rfl <| .mv rfl <| .ix underlying32 sizeOf22 (by omega) rfl rfl <| .yy (ys_ldI ⟨isAgg22, sizeOf22⟩ (.t rfl) (k := 0) rfl (by assumption) hcy') rfl <| .mv rfl <| .ix underlying22 sizeOf28 (by omega) rfl rfl <| .yy (ys_ldIA ⟨isAgg28, sizeOf28⟩ (.t rfl) (k := 0) (vs := [_, _, _]) rfl (by assumption) rfl hcY) rfl <| .yy (ys_neA (.t rfl) (.t rfl) eq28) rfl <| .z) fun a S => ?_)))
          rw [rw_e] at S
          refine qrun S (.mv rfl <| .sk rfl rfl rfl <| .sk rfl rfl rfl <| .sk rfl rfl rfl <| .s0 rfl rfl <| .s0 rfl rfl <| .sk rfl rfl rfl <| .yy (ys_pickF (.t rfl) Ev.c) rfl <| .z) fun a S => ?_
          (refine q_nil ?_; intro w W; replace S := St.mk S W; clear W)
          refine then_normal (hK4 _ _ (st_else S (.t rfl) (wp_skip (in_normal (then_normal (hK3 _ _ (wp_region_lit (run S (.ad (by unfold I64; omega) rfl <| .mv rfl <| .z) fun a w S => st_nil (then_normal ?_)))))))))
          exact ⟨p + 1, by omega, by omega, S.pk⟩
        · have rw_e : decide ((⟨(p : Int), [], a1⟩ : Sm).place = (⟨(p : Int), [], a2⟩ : Sm).place ∧ Fw.bs (⟨(p : Int), [], a1⟩ : Sm).key = Fw.bs (⟨(p : Int), [], a2⟩ : Sm).key ∧ (⟨(p : Int), [], a1⟩ : Sm).hash = (⟨(p : Int), [], a2⟩ : Sm).hash) = false := decide_eq_false fun h => hne h.2.2
          obtain ⟨hz, rfl⟩ := hkey hne
          have rw_z : decide ((p : Int) = (z : Int)) = true := decide_eq_true (by rw [hz])
          have rw_f : decide ((0 : Int) ≠ 0) = false := rfl
          refine sg S (.lt (by omega) rfl rfl <| .z) fun a w S => wp_seq_k fun _ hK3 => st_then S (.t rfl) (wp_skip (then_normal (hK3 _ _ (wp_seq_k fun _ hK3 => wp_block (sg S (.mv rfl <| .as rfl <| .z) fun a w S => wp_seq_k fun _ hK4 => wp_region_lit (run S (.mv rfl <| .mv rfl <| .mv rfl <| .yy (ys_subI Ev.c (.t rfl) (fun _ => by unfold I64; omega)) rfl <| .z) fun a w S => ?_))))))
          rw [rw_4] at S
          refine run S (.yy (ys_shr (.t rfl) (.t rfl) (Nat.ble_eq_true_of_le (by show _ ≤ 64; omega))) rfl <| .z) fun a w S => ?_
          rw [rw_q] at S
          refine run S (.yy (ys_T (by omega) (ys_eql (.t rfl) (.t rfl))) rfl <| .as rfl <| .z) fun a w S => st_nil (then_normal (hK4 _ _ (wp_seq_k fun _ hK4 => st_quiet S (by kernel_rfl) (by kernel_rfl) fun a S => qrun S (.mv rfl <| .mv rfl <| .ix underlying32 sizeOf22 (by omega) rfl rfl <| .yy (ys_ldI ⟨isAgg22, sizeOf22⟩ (.t rfl) (k := 1) rfl (by assumption) hcx') rfl <| .mv rfl <| .ix underlying22 sizeOf28 (by omega) rfl rfl <| .yy (ys_ldIA ⟨isAgg28, sizeOf28⟩ (.t rfl) (k := 1) (vs := [_, _, _]) rfl (by assumption) rfl hcX) rfl <| .mv rfl <| .mv rfl <| .ix underlying32 sizeOf22 (by omega) rfl rfl <| .yy (ys_ldI ⟨isAgg22, sizeOf22⟩ (.t rfl) (k := 0) rfl (by assumption) hcy') rfl <| .mv rfl <| .ix underlying22 sizeOf28 (by omega) rfl rfl <| .yy (ys_ldIA ⟨isAgg28, sizeOf28⟩ (.t rfl) (k := 0) (vs := [_, _, _]) rfl (by assumption) rfl hcY) rfl <| .yy (ys_neA (.t rfl) (.t rfl) eq28) rfl <| .z) fun a S => ?_)))
          rw [rw_e] at S
          refine qrun S (.mv rfl <| .gy rfl rfl (ys_move (.t rfl)) <| .gy rfl rfl (ys_not (.t rfl)) <| .gy rfl rfl (ys_move (.t rfl)) <| .gy rfl rfl (ys_move (.t rfl)) <| .gy rfl rfl (ys_F (by omega) (ys_neq (.t rfl) Ev.c)) <| .gy rfl rfl (ys_pickF (.t rfl) (.t rfl)) <| .yy (ys_pickT (.t rfl) (.t rfl)) rfl <| .z) fun a S => ?_
          (refine q_nil ?_; intro w W; replace S := St.mk S W; clear W)
          refine then_normal (hK4 _ _ (st_else S (.t rfl) (wp_skip (in_normal (then_normal (hK3 _ _ (wp_region_lit (run S (.ad (by unfold I64; omega) rfl <| .mv rfl <| .z) fun a w S => st_nil (then_normal ?_)))))))))
          exact ⟨p + 1, by omega, by omega, S.pk⟩
      obtain rfl : p = m := by omega
      refine sg S (.ge (by omega) rfl rfl <| .z) fun a w S => wp_seq_k fun _ hK3 => st_else S (.t rfl) (wp_exit (then_exit (then_exit (in_here (in_normal (then_normal (hK2 _ _ (wp_region_lit (run S (.ad (by unfold I64; omega) rfl <| .mv rfl <| .z) fun a w S => st_nil (then_normal ?_))))))))))
      exact ⟨i + 1, by omega, by omega, S.pk⟩
    obtain rfl : i = 5 := by omega
    refine sg S (.yy (ys_F (by omega) (ys_lss (.t rfl) Ev.c)) rfl <| .z) fun a w S => wp_seq_k fun _ hK2 => st_else S (.t rfl) (wp_exit (then_exit (then_exit (in_here (then_normal (hK1 _ _ (sg S (.ac rfl <| .z) fun a w S => wp_ret (st_ret S (results1 S results3 (Rv.tmp rfl)) ?_))))))))
    exact ⟨rfl, S.wd.below⟩
  | true =>
    refine enter4 func3 rfl ntmps3 rfl fun a S => sg S (.ac rfl <| .z) fun a w S => wp_seq_k fun _ hK1 => wp_region_lit (run S (.mv rfl <| .z) fun a w S => ?_)
    (refine st_m (op_calls S call10 (.cons (.t rfl) .nil) (c10 _ _ _ (by exact .old S.wd (by assumption)) (by omega)) rfl ?_); clear S a w; rintro _ _ ⟨A1, c1, rfl, rfl⟩ a w S)
    (refine st_m (op_calls S call9 (.cons (.t rfl) .nil) (c9 _ _ _ (by exact Sl.of_own S.wd (k := 0) rfl (fun _ => rfl)) (by assumption)) rfl ?_); clear S a w; rintro _ _ ⟨g1, A2, cap1, gs1, w11, bs1, rfl, rfl, hr11⟩ a w S)
    refine run S (.mv rfl <| .z) fun a w S => ?_
    (refine st_m (op_calls S call10 (.cons (.t rfl) .nil) (c10 _ _ _ (by exact .old S.wd (by assumption)) (by omega)) rfl ?_); clear S a w; rintro _ _ ⟨A3, c2, rfl, rfl⟩ a w S)
    (refine st_m (op_calls S call9 (.cons (.t rfl) .nil) (c9 _ _ _ (by exact Sl.of_own S.wd (k := 0) rfl (fun _ => rfl)) (by assumption)) rfl ?_); clear S a w; rintro _ _ ⟨g2, A4, cap2, gs2, w12, bs2, rfl, rfl, hr12⟩ a w S)
    refine run S (.as rfl <| .as rfl <| .z) fun a w S => st_nil (then_normal (hK1 _ _ (wp_seq_k fun _ hK1 => wp_region_lit (run S (.mv rfl <| .mv rfl <| .mv rfl <| .z) fun a w S => ?_))))
    (refine st_m (op_callO S call11 (.cons (.t rfl) (.cons (.t rfl) (.cons (.t rfl) .nil))) (c11 S.wd (by first | assumption | omega | (dsimp only; omega) | exact Sl.nil_ | exact .old S.wd (by assumption) | exact Sl.of_own S.wd (k := 0) rfl (fun _ => rfl) | exact Sl.of_own S.wd (k := 1) rfl (fun _ => rfl) | exact Sl.of_own S.wd (k := 2) rfl (fun _ => rfl) | exact Sl.of_own S.wd (k := 3) rfl (fun _ => rfl) | exact Sl.of_own S.wd (k := 4) rfl (fun _ => rfl) | exact Sl.of_own S.wd (k := 5) rfl (fun _ => rfl) | exact Sl.of_own S.wd (k := 6) rfl (fun _ => rfl) | exact Sl.of_own S.wd (k := 7) rfl (fun _ => rfl) | (simp; done) | (simp at *; omega)) (by first | assumption | omega | (dsimp only; omega) | exact Sl.nil_ | exact .old S.wd (by assumption) | exact Sl.of_own S.wd (k := 0) rfl (fun _ => rfl) | exact Sl.of_own S.wd (k := 1) rfl (fun _ => rfl) | exact Sl.of_own S.wd (k := 2) rfl (fun _ => rfl) | exact Sl.of_own S.wd (k := 3) rfl (fun _ => rfl) | exact Sl.of_own S.wd (k := 4) rfl (fun _ => rfl) | exact Sl.of_own S.wd (k := 5) rfl (fun _ => rfl) | exact Sl.of_own S.wd (k := 6) rfl (fun _ => rfl) | exact Sl.of_own S.wd (k := 7) rfl (fun _ => rfl) | (simp; done) | (simp at *; omega)) (by first | assumption | omega | (dsimp only; omega) | exact Sl.nil_ | exact .old S.wd (by assumption) | exact Sl.of_own S.wd (k := 0) rfl (fun _ => rfl) | exact Sl.of_own S.wd (k := 1) rfl (fun _ => rfl) | exact Sl.of_own S.wd (k := 2) rfl (fun _ => rfl) | exact Sl.of_own S.wd (k := 3) rfl (fun _ => rfl) | exact Sl.of_own S.wd (k := 4) rfl (fun _ => rfl) | exact Sl.of_own S.wd (k := 5) rfl (fun _ => rfl) | exact Sl.of_own S.wd (k := 6) rfl (fun _ => rfl) | exact Sl.of_own S.wd (k := 7) rfl (fun _ => rfl) | (simp; done) | (simp at *; omega))) rfl ?_) <;> clear S a w)
    rintro _ _ ⟨w21, bs21, rfl, rfl, hr1⟩ a w S
    refine run S (.as rfl <| .z) fun a w S => st_nil (then_normal (hK1 _ _ (wp_seq_k fun _ hK1 => sg S (.mv rfl <| .z) fun a w S => st_then S (.t rfl) (wp_seq_k fun _ hK2 => wp_region_lit (run S (.mv rfl <| .z) fun a w S => ?_)))))
    (refine st_m (op_calls S call10 (.cons (.t rfl) .nil) (c10 _ _ _ (by exact .old S.wd (by assumption)) (by omega)) rfl ?_); clear S a w; rintro _ _ ⟨A5, c6, rfl, rfl⟩ a w S)
    (refine st_m (op_calls S call9 (.cons (.t rfl) .nil) (c9 _ _ _ (by exact Sl.of_own S.wd (k := 0) rfl (fun _ => rfl)) (by assumption)) rfl ?_); clear S a w; rintro _ _ ⟨g3, A6, cap3, gs3, w13, bs3, rfl, rfl, hr13⟩ a w S)
    refine run S (.as rfl <| .z) fun a w S => st_nil (then_normal (hK2 _ _ (wp_region_lit (run S (.mv rfl <| .mv rfl <| .z) fun a w S => ?_))))
    (refine st_m (op_callO S call12 (.cons (.t rfl) (.cons (.t rfl) .nil)) (c12 S.wd (by first | assumption | omega | (dsimp only; omega) | exact Sl.nil_ | exact .old S.wd (by assumption) | exact Sl.of_own S.wd (k := 0) rfl (fun _ => rfl) | exact Sl.of_own S.wd (k := 1) rfl (fun _ => rfl) | exact Sl.of_own S.wd (k := 2) rfl (fun _ => rfl) | exact Sl.of_own S.wd (k := 3) rfl (fun _ => rfl) | exact Sl.of_own S.wd (k := 4) rfl (fun _ => rfl) | exact Sl.of_own S.wd (k := 5) rfl (fun _ => rfl) | exact Sl.of_own S.wd (k := 6) rfl (fun _ => rfl) | exact Sl.of_own S.wd (k := 7) rfl (fun _ => rfl) | exact Sl.of_own S.wd (k := 8) rfl (fun _ => rfl) | exact Sl.of_own S.wd (k := 9) rfl (fun _ => rfl) | exact Sl.of_own S.wd (k := 10) rfl (fun _ => rfl) | exact Sl.of_own S.wd (k := 11) rfl (fun _ => rfl) | (simp; done) | (simp at *; omega)) (by first | assumption | omega | (dsimp only; omega) | exact Sl.nil_ | exact .old S.wd (by assumption) | exact Sl.of_own S.wd (k := 0) rfl (fun _ => rfl) | exact Sl.of_own S.wd (k := 1) rfl (fun _ => rfl) | exact Sl.of_own S.wd (k := 2) rfl (fun _ => rfl) | exact Sl.of_own S.wd (k := 3) rfl (fun _ => rfl) | exact Sl.of_own S.wd (k := 4) rfl (fun _ => rfl) | exact Sl.of_own S.wd (k := 5) rfl (fun _ => rfl) | exact Sl.of_own S.wd (k := 6) rfl (fun _ => rfl) | exact Sl.of_own S.wd (k := 7) rfl (fun _ => rfl) | exact Sl.of_own S.wd (k := 8) rfl (fun _ => rfl) | exact Sl.of_own S.wd (k := 9) rfl (fun _ => rfl) | exact Sl.of_own S.wd (k := 10) rfl (fun _ => rfl) | exact Sl.of_own S.wd (k := 11) rfl (fun _ => rfl) | (simp; done) | (simp at *; omega)) (by first | assumption | omega | (dsimp only; omega) | exact Sl.nil_ | exact .old S.wd (by assumption) | exact Sl.of_own S.wd (k := 0) rfl (fun _ => rfl) | exact Sl.of_own S.wd (k := 1) rfl (fun _ => rfl) | exact Sl.of_own S.wd (k := 2) rfl (fun _ => rfl) | exact Sl.of_own S.wd (k := 3) rfl (fun _ => rfl) | exact Sl.of_own S.wd (k := 4) rfl (fun _ => rfl) | exact Sl.of_own S.wd (k := 5) rfl (fun _ => rfl) | exact Sl.of_own S.wd (k := 6) rfl (fun _ => rfl) | exact Sl.of_own S.wd (k := 7) rfl (fun _ => rfl) | exact Sl.of_own S.wd (k := 8) rfl (fun _ => rfl) | exact Sl.of_own S.wd (k := 9) rfl (fun _ => rfl) | exact Sl.of_own S.wd (k := 10) rfl (fun _ => rfl) | exact Sl.of_own S.wd (k := 11) rfl (fun _ => rfl) | (simp; done) | (simp at *; omega))) rfl ?_) <;> clear S a w)
    rintro _ _ ⟨w22, bs22, rfl, rfl, hr2⟩ a w S
    refine run S (.as rfl <| .z) fun a w S => st_nil (then_normal (hK1 _ _ (wp_seq_k fun _ hK1 => wp_region_lit (run S (.mv rfl <| .z) fun a w S => ?_))))
    (refine st_m (op_calls S call13 (.cons (.t rfl) .nil) (c13 _ _ _ _ _ _ (by exact sl_m1 S.wd (k := 8) rfl) (by assumption) (by omega)) rfl ?_); clear S a w; rintro _ _ ⟨B1, c7, w14, bs4, xs1, rfl, rfl, hr14, hr21, hr31⟩ a w S)
    refine run S (.mv rfl <| .z) fun a w S => ?_
    (refine st_m (op_calls S call13 (.cons (.t rfl) .nil) (c13 _ _ _ _ _ _ (by exact sl_m1 S.wd (k := 1) rfl) (by assumption) (by omega)) rfl ?_); clear S a w; rintro _ _ ⟨B2, c8, w15, bs5, xs2, rfl, rfl, hr15, hr22, hr32⟩ a w S)
    refine run S (.as rfl <| .as rfl <| .z) fun a w S => st_nil (then_normal (hK1 _ _ (wp_seq_k fun _ hK1 => sg S (.mv rfl <| .ln underlying32 rfl <| .yy (ys_F (by omega) (ys_neq (.t rfl) Ev.c)) rfl <| .mv rfl <| .gy rfl rfl (ys_move (.t rfl)) <| .gy rfl rfl (ys_lenS underlying32 (.t rfl)) <| .gy rfl rfl (ys_F (by omega) (ys_neq (.t rfl) Ev.c)) <| .yy (ys_pickF (.t rfl) (.t rfl)) rfl <| .mv rfl <| .gx rfl rfl (ys_call call14 .nil (fun hp w W => c14 _)) <| .gy rfl rfl (ys_not (.t rfl)) <| .yy (ys_pickF (.t rfl) (.t rfl)) rfl <| .z) fun a w S => st_else S (.t rfl) (wp_skip (then_normal (hK1 _ _ (sg S (.mv rfl <| .xx (ys_call call15 (.cons (.t rfl) .nil) (fun hp w W => c15 _ _ (by omega))) rfl <| .as rfl <| .z) fun a w S => wp_seq_k fun _ hK1 => sg S (.mc rfl <| .z) fun a w S => wp_block ?_)))))))
    have q1 : SslIn w14 bs4 (.slice B1 5 c7) xs1 := by assumption
    have q2 : SslIn w15 bs5 (.slice B2 5 c8) xs2 := by assumption
    have hm1 : xs1.map (·.l) = allT (setsT [] l) 5 := by assumption
    have hm2 : xs2.map (·.l) = allT (dropT k (setsT [] l)) 5 := by assumption
    have hw : dropT k (setsT [] l) = wayT (setsT [] l) k hsh true := by simp [wayT]
    have he : dropE (setsT [] l) k = wayE (setsT [] l) k true := by simp [wayE]
    rw [hw] at hm2
    rw [he] at S
    generalize setsT [] l = T at *
    have n1 : xs1.length = 5 := by have := congrArg List.length hm1; rwa [List.length_map, allT_len] at this
    have n2 : xs2.length = 5 := by have := congrArg List.length hm2; rwa [List.length_map, allT_len] at this
    have hpl := placeK_lt k
    refine st_lpM S [8, 53] (X := Nat) (fun q => [(8, true, .bool false), (53, true, .int .i64 (q : Int))]) (fun _ => [.ice w15 bs5, .ice w14 bs4]) (fun q => q ≤ 5) (fun q => 5 - q) 0 (Nat.zero_le _) ?_
    clear S
    rintro i a w hi S
    by_cases hlt : i < 5
    · obtain ⟨m, hm⟩ : ∃ m, 2 ^ i = m := ⟨_, rfl⟩
      have hm16 : m ≤ 16 := by rw [← hm]; exact pow_le16 hlt
      have rw_s : IntKind.i64.wrap (1 * 2 ^ i) = (m : Int) := by rw [pow_shl (by omega), ← hm]; simp
      obtain ⟨_, k5, g7, o7, ⟨xa, xc, xl⟩, rfl, hx, hg7, hcx⟩ := ice_at (i := i) q1.row (by omega)
      obtain ⟨_, k6, g8, o8, ⟨ya, yc, yl⟩, rfl, hy, hg8, hcy⟩ := ice_at (i := i) q2.row (by omega)
      have r1 := q1.rows _ (List.mem_of_getElem? hx)
      have r2 := q2.rows _ (List.mem_of_getElem? hy)
      dsimp only at r1 r2
      have exl : xl = sumsT T (i : Int) (upTo (2 ^ i)) := by
        have h5 := congrArg (·[i]?) hm1
        simp only [List.getElem?_map, hx, allT_at hlt, Option.map_some, Option.some.injEq] at h5
        exact h5
      have eyl : yl = sumsT (wayT T k hsh true) (i : Int) (upTo (2 ^ i)) := by
        have h5 := congrArg (·[i]?) hm2
        simp only [List.getElem?_map, hy, allT_at hlt, Option.map_some, Option.some.injEq] at h5
        exact h5
      have xll : xl.length = m := by rw [exl, sums_len', upTo_len, hm]
      have yll : yl.length = m := by rw [eyl, sums_len', upTo_len, hm]
      have hcx' : w14.cell? ⟨g7, o7 + i * 1, none⟩ = some (.slice xa m xc) := by rw [← xll]; exact hcx 0 _ rfl
      have hcy' : w15.cell? ⟨g8, o8 + i * 1, none⟩ = some (.slice ya m yc) := by rw [← yll]; exact hcy 0 _ rfl
      clear hcx hcy
      refine sg S (.yy (ys_T (by omega) (ys_lss (.t rfl) Ev.c)) rfl <| .z) fun a w S => wp_seq_k fun _ hK2 => st_then S (.t rfl) (wp_skip (then_normal (hK2 _ _ (wp_seq_k fun _ hK2 => wp_block (sg S (.mv rfl <| .as rfl <| .z) fun a w S => wp_seq_k fun _ hK3 => wp_region_lit (run S (.mv rfl <| .yy (ys_shl Ev.c (.t rfl) (Nat.ble_eq_true_of_le (by show _ ≤ 64; omega))) rfl <| .z) fun a w S => ?_))))))
      rw [rw_s] at S
      refine run S (.mc rfl <| .z) fun a w S => st_nil (then_normal (hK3 _ _ (wp_block ?_)))
      refine st_lpM S [8, 58] (X := Nat) (fun p => [(8, true, .bool false), (58, true, .int .i64 (p : Int))]) (fun _ => [.ice w15 bs5, .ice w14 bs4]) (fun p => p ≤ m) (fun p => m - p) 0 (Nat.zero_le _) ?_
      clear S
      rintro p a w hp S
      by_cases hpm : p < m
      · obtain ⟨_, k7, g5, o5, X, rfl, hX, hg5, hcX⟩ := ice_at (i := p) r1 (by omega)
        obtain ⟨_, k8, g6, o6, Y, rfl, hY, hg6, hcY⟩ := ice_at (i := p) r2 (by omega)
        rw [exl, sumsT_at (by omega) (by rw [hm]; exact hpm)] at hX
        rw [eyl, sumsT_at (by omega) (by rw [hm]; exact hpm)] at hY
        have hkey := way_key (T := T) (k := k) (h := hsh) (drop := true) hT (d := 4 - i) (p := p)
        obtain ⟨d, hd⟩ : ∃ d, 4 - i = d := ⟨_, rfl⟩
        rw [hd] at hX hY hkey
        have rw_4 : (4 : Int) - (i : Int) = (d : Int) := by omega
        have rw_5 : IntKind.i64.wrap ((4 : Int) - (i : Int)) = (d : Int) := by rw [IntKind.wrap_i64]; omega
        have rw_q : Int.fdiv ((placeK k : Nat) : Int) (2 ^ d) = ((placeK k / 2 ^ d : Nat) : Int) := by rw [Int.fdiv_eq_ediv_of_nonneg _ (by have := Int.pow_pos (n := 2) (m := d) (by omega); omega)]; simp
        generalize placeK k / 2 ^ d = z at *
        generalize hashT T d p = a1 at *
        generalize hashT (wayT T k hsh true) d p = a2 at *
        generalize wayE T k true = e5 at *
        obtain rfl : (⟨(p : Int), [], a1⟩ : Sm) = X := by simpa using hX
        obtain rfl : (⟨(p : Int), [], a2⟩ : Sm) = Y := by simpa using hY
        by_cases hne : a1 = a2
        · have rw_e : decide ((⟨(p : Int), [], a1⟩ : Sm).place = (⟨(p : Int), [], a2⟩ : Sm).place ∧ Fw.bs (⟨(p : Int), [], a1⟩ : Sm).key = Fw.bs (⟨(p : Int), [], a2⟩ : Sm).key ∧ (⟨(p : Int), [], a1⟩ : Sm).hash = (⟨(p : Int), [], a2⟩ : Sm).hash) = true := decide_eq_true ⟨rfl, rfl, hne⟩
          refine sg S (.lt (by omega) rfl rfl <| .z) fun a w S => wp_seq_k fun _ hK3 => st_then S (.t rfl) (wp_skip (then_normal (hK3 _ _ (wp_seq_k fun _ hK3 => wp_block (sg S (.mv rfl <| .as rfl <| .z) fun a w S => wp_seq_k fun _ hK4 => wp_region_lit (run S (.mv rfl <| .mv rfl <| .mv rfl <| .yy (ys_subI Ev.c (.t rfl) (fun _ => by unfold I64; omega)) rfl <| .z) fun a w S => ?_))))))
          rw [rw_4] at S
          refine run S (.yy (ys_shr (.t rfl) (.t rfl) (Nat.ble_eq_true_of_le (by show _ ≤ 64; omega))) rfl <| .z) fun a w S => ?_
          rw [rw_q] at S
          refine run S (.yy (ys_eql (.t rfl) (.t rfl)) rfl <| .as rfl <| .z) fun a w S => st_nil (then_normal (hK4 _ _ (wp_seq_k fun _ hK4 => st_quiet S (by kernel_rfl) (by kernel_rfl) fun a S => qrun S (.mv rfl <| .mv rfl <| .ix underlying32 sizeOf22 (by omega) rfl rfl <| .yy (ys_ldI ⟨isAgg22, sizeOf22⟩ (.t rfl) (k := 1) rfl (by assumption) hcx') rfl <| .mv rfl <| .ix underlying22 sizeOf28 (by omega) rfl rfl <| .yy (ys_ldIA ⟨isAgg28, sizeOf28⟩ (.t rfl) (k := 1) (vs := [_, _, _]) rfl (by assumption) rfl hcX) rfl <| .mv rfl <| .mv rfl <| .ix underlying32 sizeOf22 (by omega) rfl rfl <| .yy (ys_ldI ⟨isAgg22, sizeOf22⟩ (.t rfl) (k := 0) rfl (by assumption) hcy') rfl <| .mv rfl <| .ix underlying22 sizeOf28 (by omega) rfl rfl <| .yy (ys_ldIA ⟨isAgg28, sizeOf28⟩ (.t rfl) (k := 0) (vs := [_, _, _]) rfl (by assumption) rfl hcY) rfl <| .yy (ys_neA (.t rfl) (.t rfl) eq28) rfl <| .z) fun a S => ?_)))
          rw [rw_e] at S
          refine qrun S (.mv rfl <| .sk rfl rfl rfl <| .sk rfl rfl rfl <| .sk rfl rfl rfl <| .s0 rfl rfl <| .s0 rfl rfl <| .sk rfl rfl rfl <| .yy (ys_pickF (.t rfl) Ev.c) rfl <| .z) fun a S => ?_
          (refine q_nil ?_; intro w W; replace S := St.mk S W; clear W)
          refine then_normal (hK4 _ _ (st_else S (.t rfl) (wp_skip (in_normal (then_normal (hK3 _ _ (wp_region_lit (run S (.ad (by unfold I64; omega) rfl <| .mv rfl <| .z) fun a w S => st_nil (then_normal ?_)))))))))
          exact ⟨p + 1, by omega, by omega, S.pk⟩
        · have rw_e : decide ((⟨(p : Int), [], a1⟩ : Sm).place = (⟨(p : Int), [], a2⟩ : Sm).place ∧ Fw.bs (⟨(p : Int), [], a1⟩ : Sm).key = Fw.bs (⟨(p : Int), [], a2⟩ : Sm).key ∧ (⟨(p : Int), [], a1⟩ : Sm).hash = (⟨(p : Int), [], a2⟩ : Sm).hash) = false := decide_eq_false fun h => hne h.2.2
          obtain ⟨hz, rfl⟩ := hkey hne
          have rw_z : decide ((p : Int) = (z : Int)) = true := decide_eq_true (by rw [hz])
          have rw_f : decide ((0 : Int) ≠ 0) = false := rfl
          refine sg S (.lt (by omega) rfl rfl <| .z) fun a w S => wp_seq_k fun _ hK3 => st_then S (.t rfl) (wp_skip (then_normal (hK3 _ _ (wp_seq_k fun _ hK3 => wp_block (sg S (.mv rfl <| .as rfl <| .z) fun a w S => wp_seq_k fun _ hK4 => wp_region_lit (run S (.mv rfl <| .mv rfl <| .mv rfl <| .yy (ys_subI Ev.c (.t rfl) (fun _ => by unfold I64; omega)) rfl <| .z) fun a w S => ?_))))))
          rw [rw_4] at S
          refine run S (.yy (ys_shr (.t rfl) (.t rfl) (Nat.ble_eq_true_of_le (by show _ ≤ 64; omega))) rfl <| .z) fun a w S => ?_
          rw [rw_q] at S
          refine run S (.yy (ys_T (by omega) (ys_eql (.t rfl) (.t rfl))) rfl <| .as rfl <| .z) fun a w S => st_nil (then_normal (hK4 _ _ (wp_seq_k fun _ hK4 => st_quiet S (by kernel_rfl) (by kernel_rfl) fun a S => qrun S (.mv rfl <| .mv rfl <| .ix underlying32 sizeOf22 (by omega) rfl rfl <| .yy (ys_ldI ⟨isAgg22, sizeOf22⟩ (.t rfl) (k := 1) rfl (by assumption) hcx') rfl <| .mv rfl <| .ix underlying22 sizeOf28 (by omega) rfl rfl <| .yy (ys_ldIA ⟨isAgg28, sizeOf28⟩ (.t rfl) (k := 1) (vs := [_, _, _]) rfl (by assumption) rfl hcX) rfl <| .mv rfl <| .mv rfl <| .ix underlying32 sizeOf22 (by omega) rfl rfl <| .yy (ys_ldI ⟨isAgg22, sizeOf22⟩ (.t rfl) (k := 0) rfl (by assumption) hcy') rfl <| .mv rfl <| .ix underlying22 sizeOf28 (by omega) rfl rfl <| .yy (ys_ldIA ⟨isAgg28, sizeOf28⟩ (.t rfl) (k := 0) (vs := [_, _, _]) rfl (by assumption) rfl hcY) rfl <| .yy (ys_neA (.t rfl) (.t rfl) eq28) rfl <| .z) fun a S => ?_)))
          rw [rw_e] at S
          refine qrun S (.mv rfl <| .gy rfl rfl (ys_move (.t rfl)) <| .gy rfl rfl (ys_not (.t rfl)) <| .gy rfl rfl (ys_move (.t rfl)) <| .gy rfl rfl (ys_move (.t rfl)) <| .gy rfl rfl (ys_F (by omega) (ys_neq (.t rfl) Ev.c)) <| .gy rfl rfl (ys_pickF (.t rfl) (.t rfl)) <| .yy (ys_pickT (.t rfl) (.t rfl)) rfl <| .z) fun a S => ?_
          (refine q_nil ?_; intro w W; replace S := St.mk S W; clear W)
          refine then_normal (hK4 _ _ (st_else S (.t rfl) (wp_skip (in_normal (then_normal (hK3 _ _ (wp_region_lit (run S (.ad (by unfold I64; omega) rfl <| .mv rfl <| .z) fun a w S => st_nil (then_normal ?_)))))))))
          exact ⟨p + 1, by omega, by omega, S.pk⟩
      obtain rfl : p = m := by omega
      refine sg S (.ge (by omega) rfl rfl <| .z) fun a w S => wp_seq_k fun _ hK3 => st_else S (.t rfl) (wp_exit (then_exit (then_exit (in_here (in_normal (then_normal (hK2 _ _ (wp_region_lit (run S (.ad (by unfold I64; omega) rfl <| .mv rfl <| .z) fun a w S => st_nil (then_normal ?_))))))))))
      exact ⟨i + 1, by omega, by omega, S.pk⟩
    obtain rfl : i = 5 := by omega
    refine sg S (.yy (ys_F (by omega) (ys_lss (.t rfl) Ev.c)) rfl <| .z) fun a w S => wp_seq_k fun _ hK2 => st_else S (.t rfl) (wp_exit (then_exit (then_exit (in_here (then_normal (hK1 _ _ (sg S (.ac rfl <| .z) fun a w S => wp_ret (st_ret S (results1 S results3 (Rv.tmp rfl)) ?_))))))))
    exact ⟨rfl, S.wd.below⟩
end Go.Proofs.Ytbijdmfilmecbaa
