/- Contracts and laws that the statement Rpf leans on, part 2. -/
import Derived.Test.YtbijdmfilmecbaaRpfK1
import Derived.Lib.OthersKept
import Derived.Shelf.SlGeneric
import Derived.Shelf.SlIter.Nil
import Derived.Ground.GgzProg
import Derived.Test.YtbijdmfilmecbaaProg
set_option linter.unusedVariables false
set_option linter.unusedSimpArgs false
set_option maxRecDepth 100000
set_option maxHeartbeats 4000000
namespace Go.Proofs.Ytbijdmfilmecbaa
open Go.Fw Go.Proofs Go.RowKit Go.Proofs.Try
theorem c75 (w0 : World) (p q : Int) (hp : 0 ≤ p ∧ p ≤ 18446744073709551615) (hq : 0 ≤ q ∧ q ≤ 18446744073709551615) :
   Calls Try.prog 75 #[.int .u64 p, .int .u64 q] w0 fun e w' => e = .returned (.int .u64 (mixL p q)) ∧ Bel w0.heap.size w0 w' := by
 have h8p : (eightL p).length = 8 := rfl
 have h8q : (eightL q).length = 8 := rfl
 have h16 : (eightL p ++ eightL q).length ≤ 4194304 := by simp [h8p, h8q]
 refine enter2 func75 rfl ntmps75 rfl fun a S => sg S (.ac rfl <| .z) fun a w S => wp_seq_k fun _ hK1 => wp_region_lit (run S (.mv rfl <| .xx (Zi call99 (.cons (.t rfl) .nil) (fun hp w W => c99 _ _ (by omega) (by omega))) rfl <| .mv rfl <| .xx (Zi call99 (.cons (.t rfl) .nil) (fun hp w W => c99 _ _ (by omega) (by omega))) rfl <| .z) fun a w S => Zh (Zr S zeroValue148 (cs := _) rfl rfl fun g1 a w S => Zh (Zr S zeroValue148 (cs := _) rfl rfl fun g2 a w S => Zh (Yb S sizeOf148 (.t rfl) (.t rfl) (k := 1) rfl rfl rfl (by simp [Value.oneCell']) fun a w S => Zh (Yb S sizeOf148 (.t rfl) (.t rfl) (k := 0) rfl rfl rfl (by simp [Value.oneCell']) fun a w S => Zb (Za (hK1 _ _ (wp_seq_k fun _ hK1 => h_begin0 S (by kernel_rfl) fun a w S => hy 0 S rfl (ys_arr (t1 := 0) underlying148 sizeOf5 (.t rfl)) rfl fun a w S => hy 1 S rfl (ys_arr (t1 := 0) underlying148 sizeOf5 (.t rfl)) rfl fun a w S => ?_))))))))
 (refine h_m (i := 2) rfl (by kernel_rfl) (op_appFull (enc := encB) S underlying120 underlying120 (.inr ⟨_, rfl⟩) inf5 rfl (.t rfl) (.t rfl) (Src.blk S.wd (k := 1) rfl rfl (txt_one _)) (Src.blk S.wd (k := 0) rfl rfl (txt_one _)) (by decide) rfl (appB _ _) (by decide) rfl rfl rfl ?_); clear S a w; intro A1 cap1 a w S; refine h_n2 S ?_)
 refine h_q (i := 3) S (by repeat (first | exact List.Sublist.refl _ | exact List.nil_sublist _ | refine .cons_cons _ ?_ | refine .cons _ ?_)) rfl (by kernel_rfl) (Zi call97 (.cons (.t rfl) .nil) (fun hp w W => c97 _ _ _ (by exact Sl.of_own W (k := 0) rfl (fun _ => rfl)) (by assumption))) rfl fun a w S => hy 4 S rfl (Yp (.t rfl)) rfl fun a w S => Xe (by kernel_rfl) (Za (hK1 _ _ (wp_ret (Zk S (results1 S results75 (Rv.tmp rfl)) ?_))))
 exact ⟨rfl, S.wd.below⟩
theorem c76 (w0 : World) (p q : Int) (hp : 0 ≤ p ∧ p ≤ 18446744073709551615) (hq : 0 ≤ q ∧ q ≤ 18446744073709551615) :
   Calls Try.prog 76 #[.int .u64 p, .int .u64 q] w0 fun e w' => e = .returned (.int .u64 (mixL p q)) ∧ Bel w0.heap.size w0 w' := by
 have h8p : (eightL p).length = 8 := rfl
 have h8q : (eightL q).length = 8 := rfl
 have h16 : (eightL p ++ eightL q).length ≤ 4194304 := by simp [h8p, h8q]
 refine enter2 func76 rfl ntmps76 rfl fun a S => sg S (.ac rfl <| .z) fun a w S => wp_seq_k fun _ hK1 => wp_region_lit (run S (.mv rfl <| .z) fun a w S => ?_)
 (refine Zh (Zq S call100 (.cons (.t rfl) .nil) (c100 _ _ (by omega) (by omega)) rfl ?_); clear S a w; rintro _ _ ⟨A1, c1, rfl, rfl⟩ a w S)
 refine run S (.mv rfl <| .z) fun a w S => ?_
 (refine Zh (Zq S call100 (.cons (.t rfl) .nil) (c100 _ _ (by omega) (by omega)) rfl ?_); clear S a w; rintro _ _ ⟨A2, c2, rfl, rfl⟩ a w S)
 refine Zh (op_extend _ S underlying120 underlying120 (.inr ⟨_, rfl⟩) inf5 rfl (k := 1) rfl (.t rfl) (.t rfl) (Src.row S.wd (k := 0) rfl (Go.Fw.flat_one Go.Fw.encB_one _)) (by first | omega | (simp only [List.length_append, List.length_cons, List.length_nil]; omega) | (simp; omega)) rfl rfl rfl fun A3 cap1 a w S => run S (.xx (Zi call71 (.cons (.t rfl) .nil) (fun hp w W => c71 _ _ _ (by exact Sl.of_own W (k := 1) rfl (fun _ => rfl)) (by assumption))) rfl <| .as rfl <| .z) fun a w S => Zb (Za (hK1 _ _ (wp_ret (Zk S (results1 S results76 (Rv.tmp rfl)) ?_)))))
 exact ⟨rfl, S.wd.below⟩
theorem c70 (w0 : World) (l : List UInt8) (hn : l.length ≤ 4194304) :
   Calls Try.prog 70 #[.string (bs l)] w0 fun e w' => e = .returned (.int .u64 (hashL l)) ∧ Bel w0.heap.size w0 w' := by
 refine enter1 func70 rfl ntmps70 rfl fun a S => sg S (.ac rfl <| .z) fun a w S => wp_seq_k fun _ hK1 => wp_region_lit (run S (.mv rfl <| .z) fun a w S => Zh (op_bytes S underlying9 underlying120 underlying5 (.t rfl) (by first | omega | (simp; omega)) rfl fun g1 m1 fr1 hm1 a w S => run S (.xx (Zi call97 (.cons (.t rfl) .nil) (fun hp w W => c97 _ _ _ (by exact Sl.of_txt W (k := 0) rfl (by assumption)) (by assumption))) rfl <| .as rfl <| .z) fun a w S => Zb (Za (hK1 _ _ (wp_ret (Zk S (results1 S results70 (Rv.tmp rfl)) ?_))))))
 exact ⟨rfl, S.wd.below⟩
theorem c48 (w0 : World) (l : List UInt8) (hn : l.length ≤ 4194304) :
   Calls Try.prog 48 #[.string (bs l)] w0 fun e w' => e = .returned (.int .u64 (hashL l)) ∧ Bel w0.heap.size w0 w' := by
 refine enter1 func48 rfl ntmps48 rfl fun a S => sg S (.ac rfl <| .z) fun a w S => wp_seq_k fun _ hK1 => wp_region_lit (run S (.mv rfl <| .z) fun a w S => Zh (op_bytes S underlying9 underlying120 underlying5 (.t rfl) (by first | omega | (simp; omega)) rfl fun g1 m1 fr1 hm1 a w S => run S (.xx (Zi call71 (.cons (.t rfl) .nil) (fun hp w W => c71 _ _ _ (by exact Sl.of_txt W (k := 0) rfl (by assumption)) (by assumption))) rfl <| .as rfl <| .z) fun a w S => Zb (Za (hK1 _ _ (wp_ret (Zk S (results1 S results48 (Rv.tmp rfl)) ?_))))))
 exact ⟨rfl, S.wd.below⟩
end Go.Proofs.Ytbijdmfilmecbaa
namespace Go.Fw
theorem txt_get {s : List UInt8} {k m : Nat} {x : UInt8} (h : s[k]? = some x) : (txtC s m)[0 + k * 1]? = some (.int .u8 (x.toNat : Int)) := by
 obtain ⟨hlt, rfl⟩ := List.getElem?_eq_some_iff.1 h
 rw [Nat.zero_add, Nat.mul_one]
 simp [txtC, List.getElem?_append, hlt]
theorem char_more {s : List UInt8} {k : Nat} {x : UInt8} (h : s[k]? = some x) (hn : (s.take k).all charB = true) (hp : charB x = true) : (s.take (k + 1)).all charB = true := by
 rw [List.take_add_one, h, Option.toList_some, List.all_append, hn]
 simp [hp]
theorem char_not {s : List UInt8} {k : Nat} {x : UInt8} (h : s[k]? = some x) (hp : charB x = false) : s.all charB = false := by
 rw [← Bool.not_eq_true, List.all_eq_true]
 intro hn
 rw [hn x (List.mem_of_getElem? h)] at hp
 cases hp
theorem name_not {s : List UInt8} (h : s.all charB = false) : nameB s = false := by
 unfold nameB
 rw [h, Bool.and_false]
theorem key_char1 (x : UInt8) : ((decide ((x.toNat : Int) ≠ 46) && decide ((x.toNat : Int) ≠ 45) && decide ((x.toNat : Int) ≠ 95) && (decide ((x.toNat : Int) < 48) || decide (57 < (x.toNat : Int))) && (decide ((x.toNat : Int) < 97) || decide (122 < (x.toNat : Int))) && (decide ((x.toNat : Int) < 65) || decide (90 < (x.toNat : Int)))) = true → charB x = false) ∧ ((decide ((x.toNat : Int) ≠ 46) && decide ((x.toNat : Int) ≠ 45) && decide ((x.toNat : Int) ≠ 95) && (decide ((x.toNat : Int) < 48) || decide (57 < (x.toNat : Int))) && (decide ((x.toNat : Int) < 97) || decide (122 < (x.toNat : Int))) && (decide ((x.toNat : Int) < 65) || decide (90 < (x.toNat : Int)))) = false → charB x = true) := by
 have e : (decide ((x.toNat : Int) ≠ 46) && decide ((x.toNat : Int) ≠ 45) && decide ((x.toNat : Int) ≠ 95) && (decide ((x.toNat : Int) < 48) || decide (57 < (x.toNat : Int))) && (decide ((x.toNat : Int) < 97) || decide (122 < (x.toNat : Int))) && (decide ((x.toNat : Int) < 65) || decide (90 < (x.toNat : Int)))) = !charB x := by
   rw [Bool.eq_iff_iff]
   unfold charB
   simp
   omega
 rw [e]
 cases charB x <;> simp
theorem key_char2 (x : UInt8) : ((!(decide (97 ≤ (x.toNat : Int)) && decide ((x.toNat : Int) ≤ 122) || decide (65 ≤ (x.toNat : Int)) && decide ((x.toNat : Int) ≤ 90) || decide (48 ≤ (x.toNat : Int)) && decide ((x.toNat : Int) ≤ 57)) && decide ((x.toNat : Int) ≠ 46) && decide ((x.toNat : Int) ≠ 45) && decide ((x.toNat : Int) ≠ 95)) = true → charB x = false) ∧ ((!(decide (97 ≤ (x.toNat : Int)) && decide ((x.toNat : Int) ≤ 122) || decide (65 ≤ (x.toNat : Int)) && decide ((x.toNat : Int) ≤ 90) || decide (48 ≤ (x.toNat : Int)) && decide ((x.toNat : Int) ≤ 57)) && decide ((x.toNat : Int) ≠ 46) && decide ((x.toNat : Int) ≠ 45) && decide ((x.toNat : Int) ≠ 95)) = false → charB x = true) := by
 have e : (!(decide (97 ≤ (x.toNat : Int)) && decide ((x.toNat : Int) ≤ 122) || decide (65 ≤ (x.toNat : Int)) && decide ((x.toNat : Int) ≤ 90) || decide (48 ≤ (x.toNat : Int)) && decide ((x.toNat : Int) ≤ 57)) && decide ((x.toNat : Int) ≠ 46) && decide ((x.toNat : Int) ≠ 45) && decide ((x.toNat : Int) ≠ 95)) = !charB x := by
   rw [Bool.eq_iff_iff]
   unfold charB
   simp
   omega
 rw [e]
 cases charB x <;> simp
theorem name_len1 {s : List UInt8} (h : s.all charB = true) : (decide (s ≠ []) && decide ((s.length : Int) ≤ 32)) = nameB s := by
 unfold nameB
 rw [h, Bool.and_true]
 congr 1
 exact decide_eq_decide.2 (by omega)
theorem name_len2 {s : List UInt8} (h : s.all charB = true) : (decide (1 ≤ (s.length : Int)) && decide ((s.length : Int) ≤ 32)) = nameB s := by
 rw [← name_len1 h]
 congr 1
 refine decide_eq_decide.2 ?_
 cases s with
 | nil => simp
 | cons x r => simp; omega
end Go.Fw
namespace Go.Proofs.Ytbijdmfilmecbaa
open Go.Fw Go.Proofs Go.RowKit Go.Proofs.Try
theorem c46 (w0 : World) (s : List UInt8) (hs : s.length ≤ 1048576) : Calls Try.prog 46 #[.string (bs s)] w0 fun e w' => e = .returned (.bool (nameB s)) ∧ Bel w0.heap.size w0 w' := by
 refine enter1 func46 rfl ntmps46 rfl fun a S => sg S (.ac rfl <| .z) fun a w S => wp_seq_k fun _ hK1 => wp_seq_k fun _ hK2 => wp_region_lit (run S (.mv rfl <| .z) fun a w S => Zh (op_bytes S underlying9 underlying120 underlying5 (.t rfl) (by first | omega | (simp; omega)) rfl fun g1 m1 fr1 hm1 a w S => run S (.ln underlying120 rfl <| .mc rfl <| .z) fun a w S => Zb (Za (hK2 _ _ (wp_block ?_)))))
 refine Ye S [2, 8] (X := Nat) (fun k => [(2, true, .bool false), (8, true, .int .i64 (k : Int))]) (fun _ => [.blk g1 (.cells (txtC s m1).toArray 5 fr1)]) (fun k => k ≤ s.length ∧ (s.take k).all charB = true) (fun k => s.length - k) 0 ⟨Nat.zero_le _, by simp⟩ ?_
 clear S
 rintro k a w ⟨hk, hall⟩ S
 by_cases hlt : k < s.length
 · obtain ⟨x, hx⟩ : ∃ x, s[k]? = some x := ⟨s[k], List.getElem?_eq_getElem hlt⟩
   have hcx := txt_get (m := m1) hx
   have hch := key_char1 x
   refine sg S (.lt (by omega) rfl rfl <| .z) fun a w S => wp_seq_k fun _ hK2 => Ze S (.t rfl) (wp_skip (Za (hK2 _ _ (wp_seq_k fun _ hK2 => wp_block (sg S (.ix underlying120 sizeOf5 (by omega) rfl rfl <| .yy (ys_ldN ⟨isAgg5, sizeOf5⟩ (.t rfl) (k := 0) rfl (fun _ => by assumption)) rfl <| .as rfl <| .z) fun a w S => wp_seq_k fun _ hK3 => wp_region_lit (run S (.mv rfl <| .yy (Yn (.t rfl) Ev.c) rfl <| .mv rfl <| .z) fun a w S => Yq S rfl rfl (Yr.ys (Zd (.t rfl))) rfl fun a w S => Yq S rfl rfl (Yr.ys (Yn (Ev.g rfl) Ev.c)) rfl fun a w S => run S (.yy (Xs (.t rfl) (Ev.g rfl) Ev.c) rfl <| .mv rfl <| .z) fun a w S => Yq S rfl rfl (Yr.ys (Zd (.t rfl))) rfl fun a w S => Yq S rfl rfl (Yr.ys (Yn (Ev.g rfl) Ev.c)) rfl fun a w S => run S (.yy (Xs (.t rfl) (Ev.g rfl) Ev.c) rfl <| .mv rfl <| .z) fun a w S => Yq S rfl rfl (Yr.ys (Zd (.t rfl))) rfl fun a w S => Yq S rfl rfl (Yr.ys (Zy (Ev.g rfl) Ev.c)) rfl fun a w S => Yq S rfl rfl (Yr.ys (Zd (Ev.g rfl))) rfl fun a w S => st_yf2 S rfl rfl (Yr.ys (Zd (.t rfl))) rfl fun a w S => st_yf2 S rfl rfl (Yr.ys (Xf (Ev.g rfl) Ev.c)) rfl fun a w S => Yq S rfl rfl (Yr.ys (ys_or2 (Ev.g rfl) Ev.c (Ev.g rfl))) rfl fun a w S => ?_))))))
   refine run S (.yy (Xs (.t rfl) (Ev.g rfl) Ev.c) rfl <| .mv rfl <| .z) fun a w S => Yq S rfl rfl (Yr.ys (Zd (.t rfl))) rfl fun a w S => Yq S rfl rfl (Yr.ys (Zy (Ev.g rfl) Ev.c)) rfl fun a w S => Yq S rfl rfl (Yr.ys (Zd (Ev.g rfl))) rfl fun a w S => st_yf2 S rfl rfl (Yr.ys (Zd (.t rfl))) rfl fun a w S => st_yf2 S rfl rfl (Yr.ys (Xf (Ev.g rfl) Ev.c)) rfl fun a w S => Yq S rfl rfl (Yr.ys (ys_or2 (Ev.g rfl) Ev.c (Ev.g rfl))) rfl fun a w S => run S (.yy (Xs (.t rfl) (Ev.g rfl) Ev.c) rfl <| .mv rfl <| .z) fun a w S => Yq S rfl rfl (Yr.ys (Zd (.t rfl))) rfl fun a w S => Yq S rfl rfl (Yr.ys (Zy (Ev.g rfl) Ev.c)) rfl fun a w S => Yq S rfl rfl (Yr.ys (Zd (Ev.g rfl))) rfl fun a w S => st_yf2 S rfl rfl (Yr.ys (Zd (.t rfl))) rfl fun a w S => st_yf2 S rfl rfl (Yr.ys (Xf (Ev.g rfl) Ev.c)) rfl fun a w S => Yq S rfl rfl (Yr.ys (ys_or2 (Ev.g rfl) Ev.c (Ev.g rfl))) rfl fun a w S => run S (.yy (Xs (.t rfl) (Ev.g rfl) Ev.c) rfl <| .z) fun a w S => Zb (Za (hK3 _ _ ?_))
   refine st_cond S (.t rfl) (fun h1 => ?_) (fun h1 => ?_)
   refine sg S (.ac rfl <| .z) fun a w S => wp_ret (Yk (Zj (Zj (Yk (Zj (Zk S (results1 S results46 (Rv.tmp rfl)) ?_))))))
   rotate_left
   refine wp_skip (Zg (Za (hK2 _ _ (wp_region_lit (run S (.ad (by unfold I64; omega) rfl <| .mv rfl <| .z) fun a w S => Zb (Za ?_))))))
   rotate_left
   · refine ⟨?_, S.wd.below⟩
     rw [name_not (char_not hx (hch.1 h1))]
   · exact ⟨k + 1, ⟨by omega, char_more hx hall (hch.2 h1)⟩, by omega, S.pk⟩
 obtain rfl : k = s.length := by omega
 rw [List.take_length] at hall
 refine sg S (.ge (by omega) rfl rfl <| .z) fun a w S => wp_seq_k fun _ hK2 => Zf S (.t rfl) (wp_exit (Zc (Zc (Zn (Za (hK1 _ _ (wp_seq_k fun _ hK1 => wp_region_lit (run S (.mv rfl <| .yy (ys_neqStr (.t rfl) Ev.c) rfl <| .mv rfl <| .z) fun a w S => Yq S rfl rfl (Yr.ys (Zd (.t rfl))) rfl fun a w S => Yq S rfl rfl (Yr.ys (ys_lenStr underlying9 (Ev.g rfl))) rfl fun a w S => Yq S rfl rfl (Yr.ys (Xq (Ev.g rfl) Ev.c)) rfl fun a w S => run S (.yy (Xs (.t rfl) (Ev.g rfl) Ev.c) rfl <| .as rfl <| .z) fun a w S => Zb (Za (hK1 _ _ (wp_ret (Zk S (results1 S results46 (Rv.tmp rfl)) ?_))))))))))))
 exact ⟨by rw [name_len1 hall], S.wd.below⟩
theorem c18 (w0 : World) (s : List UInt8) (hs : s.length ≤ 1048576) : Calls Try.prog 18 #[.string (bs s)] w0 fun e w' => e = .returned (.bool (nameB s)) ∧ Bel w0.heap.size w0 w' := by
 refine enter1 func18 rfl ntmps18 rfl fun a S => sg S (.ac rfl <| .z) fun a w S => wp_seq_k fun _ hK1 => sg S (.ac rfl <| .z) fun a w S => wp_block ?_
 refine Ye S [2, 3] (X := Nat) (fun k => [(2, true, .bool false), (3, true, .int .i64 (k : Int))]) (fun _ => []) (fun k => k ≤ s.length ∧ (s.take k).all charB = true) (fun k => s.length - k) 0 ⟨Nat.zero_le _, by simp⟩ ?_
 clear S
 rintro k a w ⟨hk, hall⟩ S
 by_cases hlt : k < s.length
 · obtain ⟨x, hx⟩ : ∃ x, s[k]? = some x := ⟨s[k], List.getElem?_eq_getElem hlt⟩
   have rw_k : IntKind.i64.wrap ((k : Int) + 1) = ((k + 1 : Nat) : Int) := by rw [IntKind.wrap_i64]; omega
   have hch := key_char2 x
   refine wp_seq_k fun _ hK2 => sg S (.mv rfl <| .mv rfl <| .yy (ys_lenStr underlying9 (.t rfl)) rfl <| .lt (by omega) rfl rfl <| .z) fun a w S => Ze S (.t rfl) (wp_skip (Za (hK2 _ _ (wp_seq_k fun _ hK2 => wp_block (sg S (.mv rfl <| .mv rfl <| .yy (ys_ixStr underlying9 (.t rfl) (.t rfl) (fun _ => by assumption)) rfl <| .as rfl <| .z) fun a w S => wp_seq_k fun _ hK3 => wp_region_lit (run S (.mv rfl <| .yy (Yd (.t rfl) Ev.c) rfl <| .mv rfl <| .z) fun a w S => Yq S rfl rfl (Yr.ys (Zd (.t rfl))) rfl fun a w S => Yq S rfl rfl (Yr.ys (Xq (Ev.g rfl) Ev.c)) rfl fun a w S => run S (.yy (Xs (.t rfl) (Ev.g rfl) Ev.c) rfl <| .mv rfl <| .z) fun a w S => st_yf S rfl rfl (Yr.ys (Zd (.t rfl))) rfl fun a w S => st_yf S rfl rfl (Yr.ys (Yd (Ev.g rfl) Ev.c)) rfl fun a w S => st_yf S rfl rfl (Yr.ys (Zd (Ev.g rfl))) rfl fun a w S => st_yg2 S rfl rfl (Yr.ys (Zd (.t rfl))) rfl fun a w S => st_yg2 S rfl rfl (Yr.ys (Xq (Ev.g rfl) Ev.c)) rfl fun a w S => st_yf S rfl rfl (Yr.ys (ys_and2 (Ev.g rfl) (Ev.g rfl) Ev.c)) rfl fun a w S => run S (.yy (ys_or (.t rfl) Ev.c (Ev.g rfl)) rfl <| .mv rfl <| .z) fun a w S => st_yf S rfl rfl (Yr.ys (Zd (.t rfl))) rfl fun a w S => st_yf S rfl rfl (Yr.ys (Yd (Ev.g rfl) Ev.c)) rfl fun a w S => ?_))))))
   refine st_yf S rfl rfl (Yr.ys (Zd (Ev.g rfl))) rfl fun a w S => st_yg2 S rfl rfl (Yr.ys (Zd (.t rfl))) rfl fun a w S => st_yg2 S rfl rfl (Yr.ys (Xq (Ev.g rfl) Ev.c)) rfl fun a w S => st_yf S rfl rfl (Yr.ys (ys_and2 (Ev.g rfl) (Ev.g rfl) Ev.c)) rfl fun a w S => run S (.yy (ys_or (.t rfl) Ev.c (Ev.g rfl)) rfl <| .as rfl <| .z) fun a w S => Zb (Za (hK3 _ _ (wp_seq_k fun _ hK3 => wp_region_lit (run S (.mv rfl <| .nt rfl <| .mv rfl <| .z) fun a w S => Yq S rfl rfl (Yr.ys (Zd (.t rfl))) rfl fun a w S => Yq S rfl rfl (Yr.ys (Yn (Ev.g rfl) Ev.c)) rfl fun a w S => run S (.yy (Xs (.t rfl) (Ev.g rfl) Ev.c) rfl <| .mv rfl <| .z) fun a w S => Yq S rfl rfl (Yr.ys (Zd (.t rfl))) rfl fun a w S => Yq S rfl rfl (Yr.ys (Yn (Ev.g rfl) Ev.c)) rfl fun a w S => run S (.yy (Xs (.t rfl) (Ev.g rfl) Ev.c) rfl <| .mv rfl <| .z) fun a w S => Yq S rfl rfl (Yr.ys (Zd (.t rfl))) rfl fun a w S => Yq S rfl rfl (Yr.ys (Yn (Ev.g rfl) Ev.c)) rfl fun a w S => run S (.yy (Xs (.t rfl) (Ev.g rfl) Ev.c) rfl <| .z) fun a w S => Zb (Za (hK3 _ _ ?_))))))
   refine st_cond S (.t rfl) (fun h1 => ?_) (fun h1 => ?_)
   refine sg S (.ac rfl <| .z) fun a w S => wp_ret (Yk (Zj (Zj (Yk (Zj (Zk S (results1 S results18 (Rv.tmp rfl)) ?_))))))
   rotate_left
   refine wp_skip (Zg (Za (hK2 _ _ (wp_region_lit (run S (.mv rfl <| .ad (by unfold I64; omega) rfl <| .as rfl <| .z) fun a w S => Zb (Za ?_))))))
   rotate_left
   · exact ⟨by rw [name_not (char_not hx (hch.1 h1))], S.wd.below⟩
   · exact ⟨k + 1, ⟨by omega, char_more hx hall (hch.2 h1)⟩, by omega, S.pk⟩
 obtain rfl : k = s.length := by omega
 rw [List.take_length] at hall
 refine wp_seq_k fun _ hK2 => sg S (.mv rfl <| .mv rfl <| .yy (ys_lenStr underlying9 (.t rfl)) rfl <| .ge (by omega) rfl rfl <| .z) fun a w S => Zf S (.t rfl) (wp_exit (Zc (Zc (Zn (Za (hK1 _ _ (wp_seq_k fun _ hK1 => wp_region_lit (run S (.mv rfl <| .yy (ys_lenStr underlying9 (.t rfl)) rfl <| .yy (Yd (.t rfl) Ev.c) rfl <| .mv rfl <| .z) fun a w S => Yq S rfl rfl (Yr.ys (Zd (.t rfl))) rfl fun a w S => Yq S rfl rfl (Yr.ys (ys_lenStr underlying9 (Ev.g rfl))) rfl fun a w S => Yq S rfl rfl (Yr.ys (Xq (Ev.g rfl) Ev.c)) rfl fun a w S => run S (.yy (Xs (.t rfl) (Ev.g rfl) Ev.c) rfl <| .as rfl <| .z) fun a w S => Zb (Za (hK1 _ _ (wp_ret (Zk S (results1 S results18 (Rv.tmp rfl)) ?_))))))))))))
 exact ⟨by rw [name_len2 hall], S.wd.below⟩
end Go.Proofs.Ytbijdmfilmecbaa
namespace Go.Fw
open Go.RowKit
def SlIn {α : Type} (enc : α → List Value) (size : Nat) (w1 : World) (bs : List Nat) (v : Value) (l : List α) : Prop :=
 ∃ A cap, v = .slice A l.length cap ∧ l.length ≤ cap ∧ cap ≤ 9223372036854775807 ∧ (0 < l.length → ∃ g o, A = some ⟨g, o, none⟩ ∧ g ∈ bs ∧ ∀ k x, l[k]? = some x → ∀ j u, (enc x)[j]? = some u → w1.cell? ⟨g, o + k * size + j, none⟩ = some u)
def Chunk.blocks : Chunk → List Nat
 | .blk b _ => [b]
 | .row _ _ A _ cap _ => if cap = 0 then [] else (A.map (·.block)).toList
 | .ice _ bs => bs
theorem Chunk.mem_blocks {c : Chunk} {b : Nat} : b ∈ c.blocks ↔ c.own b := by
 cases c with
 | blk b' o => simp [Chunk.blocks, Chunk.own]
 | row e size A n cap xs =>
   unfold Chunk.blocks Chunk.own
   by_cases h : cap = 0
   · simp [h]
   · simp [h]
 | ice w1 bs => rfl
section
variable {w0 w w1 : World} {L cs : List Chunk} {k e size : Nat} {bs bs' : List Nat}
theorem Wd.freeze (h : Wd w0 (cs ++ L) w) : Wd w0 (.ice w (cs.flatMap Chunk.blocks) :: L) w := by
 obtain ⟨h1, h2, h3⟩ := h
 rw [List.pairwise_append] at h3
 have key : ∀ b ∈ cs.flatMap Chunk.blocks, ∃ c ∈ cs, c.own b := fun b hb => by
   obtain ⟨c, hc, hb⟩ := List.mem_flatMap.1 hb
   exact ⟨c, hc, Chunk.mem_blocks.1 hb⟩
 refine ⟨h1, fun x hx => ?_, List.Pairwise.cons (fun x hx b hb hxb => ?_) h3.2.1⟩
 · rcases List.mem_cons.1 hx with rfl | hx
   · intro b hb
     obtain ⟨c, hc, hb⟩ := key b hb
     have := (h2 c (List.mem_append_left _ hc)).lt hb
     exact ⟨this.1, this.2, rfl⟩
   · exact h2 x (List.mem_append_right _ hx)
 · obtain ⟨c, hc, hb⟩ := key b hb
   exact h3.2.2 c hc x hx b hb hxb
variable {α : Type} {enc : α → List Value} {v : Value} {l : List α}
theorem ice_cell (W : Wd w0 L w) (hk : L[k]? = some (.ice w1 bs)) {g o : Nat} (hg : g ∈ bs) : w.cell? ⟨g, o, none⟩ = w1.cell? ⟨g, o, none⟩ := by
 have h := (W.get hk g hg).2.2
 simp only [World.cell?, h]
theorem SlIn.sl (h : SlIn enc size w1 bs v l) (W : Wd w0 L w) (hk : L[k]? = some (.ice w1 bs)) : Sl enc size w w.heap.size v l := by
 obtain ⟨A, cap, rfl, h1, h2, h3⟩ := h
 refine ⟨A, cap, rfl, h1, h2, fun hp => ?_⟩
 obtain ⟨g, o, rfl, hg, hc⟩ := h3 hp
 exact ⟨g, o, rfl, (W.get hk g hg).2.1, fun k x hx j u hu => (ice_cell W hk hg).trans (hc k x hx j u hu)⟩
theorem SlIn.row {A : Option Addr} {cap : Nat} (W : Wd w0 L w) (hk : L[k]? = some (rowOf e size enc A cap l)) (he : ∀ x, (enc x).length = size) (hb : ∀ b ∈ Chunk.blocks (rowOf e size enc A cap l), b ∈ bs') : SlIn enc size w bs' (.slice A l.length cap) l := by
 obtain ⟨A', cap', hv, h1, h2, h3⟩ := Sl.of_own W hk he
 cases hv
 refine ⟨A, cap, rfl, h1, h2, fun hp => ?_⟩
 obtain ⟨g, o, rfl, hg, hc⟩ := h3 hp
 exact ⟨g, o, rfl, hb g (by simp [Chunk.blocks, rowOf, show cap ≠ 0 by omega]), hc⟩
theorem SlIn.nil_ {c : Nat} : SlIn enc size w1 bs (.slice none 0 0) [] := ⟨none, 0, rfl, by simp, by simp, fun h => by simp at h⟩
end
end Go.Fw
namespace Go.Fw
open Go.RowKit
theorem place_cast (k : List UInt8) : hashL k % 16 = ((placeK k : Nat) : Int) := by
 unfold placeK
 have := (hash_range k).1
 omega
def encMp (b : Nat) : List Value := [.map (some b)]
theorem encMp_len (b : Nat) : (encMp b).length = 1 := rfl
theorem name_len {s : List UInt8} (h : nameB s = true) : s.length ≤ 32 := by
 unfold nameB at h
 simp only [Bool.and_eq_true, decide_eq_true_eq] at h
 exact h.1.2
structure TreeAt (w : World) (g : Nat) (A : Option Addr) (cap : Nat) (gs : List Nat) (T : List KH) : Prop where
 keys : w.cell? ⟨g, 0, none⟩ = some (.slice A 16 cap)
 row : Sl encMp 1 w w.heap.size (.slice A gs.length cap) gs
 len : gs.length = 16
 maps : ∀ (i b : Nat), gs[i]? = some b → ∃ o, w.heap[b]? = some o ∧ MapC o (partT T i)
theorem TreeAt.old {w0 w : World} {L : List Chunk} {g cap : Nat} {A : Option Addr} {gs : List Nat} {T : List KH} (W : Wd w0 L w) (h : TreeAt w0 g A cap gs T) : TreeAt w g A cap gs T :=
 ⟨Wd.cellOld W h.keys, .old W h.row, h.len, fun i b hb => by
   obtain ⟨o, h1, h2⟩ := h.maps i b hb
   exact ⟨o, (W.below.block b (Array.getElem?_eq_some_iff.1 h1).1).trans h1, h2⟩⟩
structure MapsIn (w1 : World) (bs : List Nat) (gs : List Nat) (T : List KH) : Prop where
 len : gs.length = 16
 nodup : gs.Nodup
 maps : ∀ (i b : Nat), gs[i]? = some b → b ∈ bs ∧ ∃ o, w1.heap[b]? = some o ∧ MapC o (partT T i)
end Go.Fw
namespace Go.Proofs.Ytbijdmfilmecbaa
open Go.Fw Go.Proofs Go.RowKit Go.Proofs.Try
theorem smT80 : SmT Try.prog 80 := ⟨⟨_, _, underlying80, underlying9, zeroValue23⟩⟩
abbrev treeP (g : Nat) (A : Option Addr) (cap : Nat) (gs : List Nat) (w1 : World) (bs : List Nat) (L : List Chunk) : List Chunk := .blk g (.cells #[.slice A 16 cap] 59) :: rowOf 80 1 encMp A cap gs :: .ice w1 bs :: L
theorem sl_m1 {w0 w w1 : World} {L : List Chunk} {k g cap : Nat} {A : Option Addr} {gs bs : List Nat} {T : List KH} (W : Wd w0 L w) (hk : L[k]? = some (.blk g (.cells #[.slice A 16 cap] 59)))
   (h2 : L[k + 1]? = some (rowOf 80 1 encMp A cap gs) := by rfl) (h3 : L[k + 2]? = some (.ice w1 bs) := by rfl) (M : MapsIn w1 bs gs T := by assumption) : TreeAt w g A cap gs T :=
 ⟨Wd.cell W hk rfl, Sl.of_own W h2 encMp_len, M.len, fun i b hb => by
   obtain ⟨h4, o, h5, h6⟩ := M.maps i b hb
   exact ⟨o, ((W.get h3 b h4).2.2).trans h5, h6⟩⟩
theorem c47 (w0 : World) (k : List UInt8) (hn : k.length ≤ 4194304) : Calls Try.prog 47 #[.string (bs k)] w0 fun e w' => e = .returned (.int .i64 (placeK k : Int)) ∧ Bel w0.heap.size w0 w' := by
 have rw_p := place_cast k
 have hh := hash_range k
 have hp := Xg k
 refine enter1 func47 rfl ntmps47 rfl fun a S => sg S (.ac rfl <| .z) fun a w S => wp_seq_k fun _ hK1 => wp_region_lit (run S (.mv rfl <| .xx (Zi call70 (.cons (.t rfl) .nil) (fun hp w W => c70 _ _ (by assumption))) rfl <| .yy (ys_remE (.t rfl) Ev.c (fun _ => by omega)) rfl <| .z) fun a w S => ?_)
 rw [rw_p] at S
 refine run S (.yy (ys_cvI underlying23 underlying3 (.t rfl) (fun _ => by unfold I64; omega)) rfl <| .as rfl <| .z) fun a w S => Zb (Za (hK1 _ _ (wp_ret (Zk S (results1 S results47 (Rv.tmp rfl)) ?_))))
 exact ⟨rfl, S.wd.below⟩
theorem c15 (w0 : World) (k : List UInt8) (hn : k.length ≤ 4194304) : Calls Try.prog 15 #[.string (bs k)] w0 fun e w' => e = .returned (.int .i64 (placeK k : Int)) ∧ Bel w0.heap.size w0 w' := by
 have rw_p := place_cast k
 have hh := hash_range k
 have hp := Xg k
 refine enter1 func15 rfl ntmps15 rfl fun a S => sg S (.ac rfl <| .z) fun a w S => wp_seq_k fun _ hK1 => wp_region_lit (run S (.mv rfl <| .xx (Zi call48 (.cons (.t rfl) .nil) (fun hp w W => c48 _ _ (by assumption))) rfl <| .yy (ys_remE (.t rfl) Ev.c (fun _ => by omega)) rfl <| .z) fun a w S => ?_)
 rw [rw_p] at S
 refine run S (.yy (ys_cvI underlying23 underlying3 (.t rfl) (fun _ => by unfold I64; omega)) rfl <| .as rfl <| .z) fun a w S => Zb (Za (hK1 _ _ (wp_ret (Zk S (results1 S results15 (Rv.tmp rfl)) ?_))))
 exact ⟨rfl, S.wd.below⟩
theorem c45 (w0 : World) (g n cap : Nat) (A : Option Addr) (h : w0.cell? ⟨g, 0, none⟩ = some (.slice A n cap)) : Calls Try.prog 45 #[.pointer (some ⟨g, 0, none⟩)] w0 fun e w' => e = .returned (.bool (decide (0 < n))) ∧ Bel w0.heap.size w0 w' := by
 refine enter1 func45 rfl ntmps45 rfl fun a S => sg S (.ac rfl <| .z) fun a w S => sg S (.mv rfl <| .yy (ys_pNotS underlying24 (.t rfl) Ev.c) rfl <| .mv rfl <| .gy rfl rfl (Zd (.t rfl)) <| .gy rfl rfl (Zz (.t rfl)) <| .gy rfl rfl (Zp (FieldT.mk underlying59 rfl sizeOf57 rfl) (.t rfl) (i' := 0) rfl) <| .gy rfl rfl (Zp (FieldT.mk underlying57 rfl sizeOf55 rfl) (.t rfl) (i' := 0) rfl) <| .gy rfl rfl (Ya ⟨isAgg55, sizeOf55⟩ (.t rfl) (fun _ => h)) <| .gy rfl rfl (ys_lenS underlying55 (.t rfl)) <| .gy rfl rfl (Xf (.t rfl) Ev.c) <| .yy (Zu (.t rfl) (.t rfl)) rfl <| .as rfl <| .z) fun a w S => wp_ret (Zk S (results1 S results45 (Rv.tmp rfl)) ?_)
 exact ⟨by simp, S.wd.below⟩
theorem c77 (w0 : World) (b : Option Nat) :
   Rets Try.prog 77 #[.map b] w0 fun u L => ∃ g, u = .func (.func 101) #[] #[.pointer (some ⟨g, 0, none⟩)] ∧ L = [.blk g (.cells #[.map b] 80)] := by
 unfold Go.Fw.Rets
 refine enter1 func77 rfl ntmps77 rfl fun a S => wp_seq_k fun _ hK1 => wp_region_lit (Zh (op_box1 S (.t rfl) rfl rfl fun g1 a w S => run S (.ac rfl <| .z) fun a w S => Zb (Za (hK1 _ _ (sg S (.yy (ys_mkFunc (.cons (.t rfl) .nil)) rfl <| .as rfl <| .z) fun a w S => wp_ret (Zk S (results1 S results77 (Rv.tmp rfl)) ?_))))))
 exact ⟨_, _, rfl, S.wd.pk, _, rfl, rfl⟩
theorem sortsS (m : Nat) : AnyZ.SortsIn Try.prog Try.sortedS_ren Fence.wide m :=
 ⟨fun blk off cap ss W hH hblk hsz => callsIn_wide.2 (AnyM.slices_Sort_string Try.sortS blk off cap ss W hH hblk hsz),
  fun p cap W => callsIn_wide.2 (AnyM.slices_Sort_string_none Try.sortS p cap W)⟩
theorem o60 {f : List KH} {o : Obj} {w0 w : World} {L : List Chunk} {g b : Nat} (W : Wd w0 (.blk g (.cells #[.map (some b)] 80) :: L) w) (hb : w.heap[b]? = some o) (hC : MapC o f) (hf : f.Pairwise ltK) (hs : ∀ x ∈ f, x.1.length ≤ 1048576) (hl : f.length ≤ 4194304) :
   RetsO Try.prog 60 #[.func (.func 101) #[] #[.pointer (some ⟨g, 0, none⟩)]] w0 w fun v L' => ∃ A cap, v = .slice A f.length cap ∧ L' = rowOf 9 1 encS' A cap (f.map (·.1)) :: .blk g (.cells #[.map (some b)] 80) :: L :=
 sorted_keysS (ρk := Try.keysS_ren) (ρs := Try.sortedS_ren) { Try.keysS with } Try.sortedS (sortsS _) (enters_of func43 (by kernel_rfl) rfl) (enters_of func101 (by kernel_rfl) rfl) W underlying9 hb hC hf hs hl
theorem c57 (w0 : World) (g cap : Nat) (A : Option Addr) (gs : List Nat) (T : List KH) (i : Nat) (h : TreeAt w0 g A cap gs T) (hi : i < 16) (hT : KhOk T) (hl : T.length ≤ 4194304) :
   Rets Try.prog 57 #[.pointer (some ⟨g, 0, none⟩), .int .i64 (i : Int)] w0 fun v L => ∃ B c, v = .slice B (partT T i).length c ∧ L = [rowOf 9 1 encS' B c ((partT T i).map (·.1))] := by
 have hk := h.keys
 have hgl := h.len
 obtain ⟨A', cap', e, hl1, hcap, hA⟩ := h.row
 cases e
 obtain ⟨gr, o_, b, rfl, hb, hd, hcx⟩ := Yc hA (show i < gs.length by omega)
 obtain ⟨o, ho, hC⟩ := h.maps i b hb
 have hpl := partT_len T i
 unfold Go.Fw.Rets
 refine enter2 func57 rfl ntmps57 rfl fun a S => sg S (.ac rfl <| .z) fun a w S => wp_seq_k fun _ hK1 => wp_region_lit (run S (.mv rfl <| .yy (Zz (.t rfl)) rfl <| .fa underlying57 sizeOf55 0 rfl rfl rfl <| .yy (Ya ⟨isAgg55, sizeOf55⟩ (.t rfl) (fun _ => hk)) rfl <| .mv rfl <| .ix underlying55 sizeOf80 (by omega) rfl rfl <| .yy (Ya ⟨isAgg80, sizeOf80⟩ (.t rfl) (fun _ => hcx 0 _ rfl)) rfl <| .z) fun a w S => ?_)
 (refine Zh (Zq S call77 (.cons (.t rfl) .nil) (c77 _ _) rfl ?_); clear S a w; rintro _ _ ⟨g1, rfl, rfl⟩ a w S)
 refine Zh (op_callO S call60 (.cons (.t rfl) .nil) (o60 S.wd ((S.wd.below.block b (Array.getElem?_eq_some_iff.1 ho).1).trans ho) hC (partT_sorted hT.sorted i) (fun x hx => by have := name_len (hT.name x (Zv.1 hx).1); omega) (by omega)) rfl ?_)
 clear S
 rintro _ _ ⟨B, c, rfl, rfl⟩ a w S
 refine run S (.as rfl <| .z) fun a w S => Zb (Za (hK1 _ _ (wp_ret (Zk S (results1 S results57 (Rv.tmp rfl)) ?_))))
 exact ⟨_, _, rfl, S.wd.pk, _, _, rfl, rfl⟩
theorem c74 (w0 : World) (g cap : Nat) (A : Option Addr) (gs : List Nat) (T : List KH) (i : Nat) (h : TreeAt w0 g A cap gs T) (hi : i < 16) (hT : KhOk T) (hl : T.length ≤ 4194304) :
   Calls Try.prog 74 #[.pointer (some ⟨g, 0, none⟩), .int .i64 (i : Int)] w0 fun e w' => e = .returned (.int .u64 (hashT T 0 i)) ∧ Bel w0.heap.size w0 w' := by
 have hk := h.keys
 have hgl := h.len
 obtain ⟨A', cap', e, hl1, hcap, hA⟩ := h.row
 cases e
 obtain ⟨gr, o_, b, rfl, hb, hd, hcx⟩ := Yc hA (show i < gs.length by omega)
 obtain ⟨o, ho, hC⟩ := h.maps i b hb
 have hpl := partT_len T i
 refine enter2 func74 rfl ntmps74 rfl fun a S => sg S (.ac rfl <| .z) fun a w S => sg S (.ac rfl <| .z) fun a w S => wp_seq_k fun _ hK1 => wp_seq_k fun _ hK2 => wp_region_lit (run S (.mv rfl <| .mv rfl <| .z) fun a w S => ?_)
 (refine Zh (Zq S call57 (.cons (.t rfl) (.cons (.t rfl) .nil)) (c57 _ _ _ _ _ _ _ (by exact .old S.wd (by assumption)) (by assumption) (by assumption) (by assumption)) rfl ?_); clear S a w; rintro _ _ ⟨B1, c1, rfl, rfl⟩ a w S)
 refine run S (.ln underlying61 rfl <| .mc rfl <| .z) fun a w S => Zb (Za (hK2 _ _ (wp_block ?_)))
 refine Ye S [5, 12] (X := Nat) (fun q => [(5, true, .int .u64 (leafH ((partT T i).take q))), (12, true, .int .i64 (q : Int))]) (fun _ => [rowOf 9 1 encS' B1 c1 ((partT T i).map (·.1))]) (fun q => q ≤ (partT T i).length) (fun q => (partT T i).length - q) 0 (Nat.zero_le _) ?_
 clear S
 rintro q a w hq S
 have hml : ((partT T i).map (·.1)).length = (partT T i).length := List.length_map ..
 by_cases hlt : q < (partT T i).length
 · obtain ⟨x, hx⟩ : ∃ x, (partT T i)[q]? = some x := ⟨_, List.getElem?_eq_getElem hlt⟩
   obtain ⟨ga, rfl⟩ := S.wd.row_at (k := 0) rfl (by have := (S.wd.room (k := 0) rfl).1; omega)
   have hx1 : ((partT T i).map (·.1))[q]? = some x.1 := by rw [List.getElem?_map, hx]; rfl
   have hmx : (x.1, x.2) ∈ partT T i := List.mem_of_getElem? hx
   have hxl := name_len (hT.name x (Zv.1 hmx).1)
   have hxr := hT.hash x (Zv.1 hmx).1
   have hst : leafH ((partT T i).take (q + 1)) = mixL (leafH ((partT T i).take q)) (mixL (hashL x.1) x.2) := by
     unfold leafH
     rw [List.take_add_one, hx, Option.toList_some, List.foldl_append]
     rfl
   have hrg := leaf_range ((partT T i).take q)
   have hrm := mix_range (hashL x.1) x.2
   have hrh := hash_range x.1
   obtain ⟨q0, hq0⟩ : ∃ y, leafH ((partT T i).take q) = y := ⟨_, rfl⟩
   obtain ⟨hh, rw_h⟩ : ∃ y, hashL x.1 = y := ⟨_, rfl⟩
   rw [rw_h] at hrm hrh hst
   obtain ⟨hm, rw_m⟩ : ∃ y, mixL hh x.2 = y := ⟨_, rfl⟩
   rw [rw_m] at hrm hst
   rw [hq0] at hrg hst S
   obtain ⟨hn, rw_n⟩ : ∃ y, mixL q0 hm = y := ⟨_, rfl⟩
   rw [rw_n] at hst
   refine sg S (.lt (by omega) rfl rfl <| .z) fun a w S => wp_seq_k fun _ hK2 => Ze S (.t rfl) (wp_skip (Za (hK2 _ _ (wp_seq_k fun _ hK2 => wp_block (sg S (.ix underlying61 sizeOf9 (by omega) rfl rfl <| .yy (ys_ldW0 ⟨isAgg9, sizeOf9⟩ (.t rfl) (k := 0) rfl hx1 (fun _ => rfl) rfl) rfl <| .as rfl <| .z) fun a w S => h_begin0 S (by kernel_rfl) fun a w S => hy 0 S rfl (Zd (.t rfl)) rfl fun a w S => hy 1 S rfl (Zd (.t rfl)) rfl fun a w S => hy 4 S rfl (Zd (.t rfl)) rfl fun a w S => ?_)))))
   refine hy 5 S rfl (Zz (.t rfl)) rfl fun a w S => hy 6 S rfl (Zp (FieldT.mk underlying57 rfl sizeOf55 rfl) (.t rfl) (i' := 0) rfl) rfl fun a w S => hy 7 S rfl (Ya ⟨isAgg55, sizeOf55⟩ (.t rfl) (fun _ => hk)) rfl fun a w S => hy 8 S rfl (Zd (.t rfl)) rfl fun a w S => hy 9 S rfl (Yi underlying55 sizeOf80 (.t rfl) (.t rfl) (fun _ => by omega)) rfl fun a w S => ?_
   refine hy 10 S rfl (Ya ⟨isAgg80, sizeOf80⟩ (.t rfl) (fun _ => hcx 0 _ rfl)) rfl fun a w S => hy 11 S rfl (Zd (.t rfl)) rfl fun a w S => hy 12 S rfl (ys_lookSO smT80 (.t rfl) (.t rfl) (by assumption) (by assumption) (by assumption)) rfl fun a w S => ?_
   (refine h_m (i := 2) rfl (by kernel_rfl) (op_bytes S underlying9 underlying120 underlying5 (.t rfl) (by first | omega | (simp; omega)) rfl ?_); clear S a w; intro g1 m1 fr1 hm1 a w S; refine h_n2 S ?_)
   refine h_q (i := 3) S (by repeat (first | exact List.Sublist.refl _ | exact List.nil_sublist _ | refine .cons_cons _ ?_ | refine .cons _ ?_)) rfl (by kernel_rfl) (Zi call97 (.cons (.t rfl) .nil) (fun hp w W => c97 _ _ _ (by exact Sl.of_txt W (k := 0) rfl (by assumption)) (by omega))) rfl fun a w S => ?_
   rw [rw_h] at S
   refine h_q (i := 13) S (by repeat (first | exact List.Sublist.refl _ | exact List.nil_sublist _ | refine .cons_cons _ ?_ | refine .cons _ ?_)) rfl (by kernel_rfl) (Zi call75 (.cons (.t rfl) (.cons (.t rfl) .nil)) (fun hp w W => c75 _ _ _ (by assumption) (by assumption))) rfl fun a w S => ?_
   rw [rw_m] at S
   refine h_q (i := 14) S (by repeat (first | exact List.Sublist.refl _ | exact List.nil_sublist _ | refine .cons_cons _ ?_ | refine .cons _ ?_)) rfl (by kernel_rfl) (Zi call75 (.cons (.t rfl) (.cons (.t rfl) .nil)) (fun hp w W => c75 _ _ _ (by assumption) (by assumption))) rfl fun a w S => ?_
   rw [rw_n] at S
   refine hy 15 S rfl (Yp (.t rfl)) rfl fun a w S => Xe (by kernel_rfl) (Zg (Za (hK2 _ _ (wp_region_lit (run S (.ad (by unfold I64; omega) rfl <| .mv rfl <| .z) fun a w S => Zb (Za ?_))))))
   exact ⟨q + 1, by omega, by omega, by rw [hst]; exact S.pk⟩
 obtain rfl : q = (partT T i).length := by omega
 rw [List.take_length] at S
 refine sg S (.ge (by omega) rfl rfl <| .z) fun a w S => wp_seq_k fun _ hK2 => Zf S (.t rfl) (wp_exit (Zc (Zc (Zn (Za (hK1 _ _ (sg S (.mv rfl <| .as rfl <| .z) fun a w S => wp_ret (Zk S (results1 S results74 (Rv.tmp rfl)) ?_))))))))
 exact ⟨rfl, S.wd.below⟩
end Go.Proofs.Ytbijdmfilmecbaa
namespace Go.Fw
open Go.RowKit
abbrev Kh.enc (x : KH) : List Value := [.int .i64 0, .string (bs x.1), .int .u64 x.2]
theorem Kh.enc_len (x : KH) : (Kh.enc x).length = 3 := rfl
theorem Kh.enc_one (x : KH) : ∀ u ∈ Kh.enc x, u.oneCell' = true := fun u hu => by simp [Kh.enc] at hu; rcases hu with rfl | rfl | rfl <;> rfl
structure DocAt (w : World) (g : Nat) (A : Option Addr) (cap : Nat) (T : List KH) : Prop where
 keys : w.cell? ⟨g, 0, none⟩ = some (.slice A T.length cap)
 row : Sl Kh.enc 3 w w.heap.size (.slice A T.length cap) T
theorem DocAt.old {w0 w : World} {L : List Chunk} {g cap : Nat} {A : Option Addr} {T : List KH} (W : Wd w0 L w) (h : DocAt w0 g A cap T) : DocAt w g A cap T := ⟨Wd.cellOld W h.keys, .old W h.row⟩
theorem half_left {d p : Nat} (h : (p + 1) * 2 ^ (d + 1) ≤ 16) : (2 * p + 1) * 2 ^ d ≤ 16 ∧ (2 * p + 1 + 1) * 2 ^ d ≤ 16 := by
 have e : (p + 1) * 2 ^ (d + 1) = (2 * p + 1 + 1) * 2 ^ d := by rw [Nat.pow_succ, Nat.mul_comm (2 ^ d) 2, ← Nat.mul_assoc]; congr 1; omega
 rw [e] at h
 exact ⟨Nat.le_trans (Nat.mul_le_mul_right _ (by omega)) h, h⟩
theorem half_lt {d p : Nat} (h : (p + 1) * 2 ^ d ≤ 16) : p < 16 := by
 have := Nat.le_mul_of_pos_right (p + 1) (Nat.two_pow_pos d)
 omega
theorem place_of {lv p : Int} (h1 : 0 ≤ lv ∧ lv ≤ 4) (h2 : 0 ≤ p ∧ p < 2 ^ lv.toNat) : (p.toNat + 1) * 2 ^ (4 - lv).toNat ≤ 16 := by
 have h3 : p.toNat + 1 ≤ 2 ^ lv.toNat := by
   have : ((p.toNat : Int)) < ((2 ^ lv.toNat : Nat) : Int) := by rw [Int.toNat_of_nonneg h2.1]; simpa using h2.2
   omega
 refine Nat.le_trans (Nat.mul_le_mul_right _ h3) ?_
 rw [← Nat.pow_add, show lv.toNat + (4 - lv).toNat = 4 by omega]
 decide
theorem below_snoc_yes {T : List KH} {i q : Nat} {x : KH} {p : Int} (h : T[q]? = some x) (hx : placeK x.1 = i) : (partT (T.take (q + 1)) i).map (smP p) = (partT (T.take q) i).map (smP p) ++ [smP p x] := by
 unfold partT
 rw [List.take_add_one, h, Option.toList_some, List.filter_append, List.map_append]
 simp [hx]
theorem below_snoc_no {T : List KH} {i q : Nat} {x : KH} {p : Int} (h : T[q]? = some x) (hx : ¬ placeK x.1 = i) : (partT (T.take (q + 1)) i).map (smP p) = (partT (T.take q) i).map (smP p) := by
 unfold partT
 rw [List.take_add_one, h, Option.toList_some, List.filter_append, List.map_append]
 simp [hx]
end Go.Fw
namespace Go.Proofs.Ytbijdmfilmecbaa
open Go.Fw Go.Proofs Go.RowKit Go.Proofs.Try
theorem hash_ind (T : List KH) (hT : KhOk T) (hl : T.length ≤ 4194304) : ∀ (d p : Nat) (lv : Int) (w0 : World) (g cap : Nat) (A : Option Addr) (gs : List Nat), TreeAt w0 g A cap gs T → 0 ≤ lv → lv = 4 - (d : Int) → (p + 1) * 2 ^ d ≤ 16 →
   Calls Try.prog 54 #[.pointer (some ⟨g, 0, none⟩), .int .i64 lv, .int .i64 (p : Int)] w0 fun e w' => e = .returned (.int .u64 (hashT T d p)) ∧ Bel w0.heap.size w0 w'
 | 0, p, lv, w0, g, cap, A, gs, h, h0, h4, hp => by
   obtain rfl : lv = 4 := by omega
   have hp16 := half_lt hp
   refine enter3 func54 rfl ntmps54 rfl fun a S => sg S (.ac rfl <| .z) fun a w S => wp_seq_k fun _ hK1 => sg S (.mv rfl <| .yy (Ym (by omega) (Yt (.t rfl) Ev.c)) rfl <| .z) fun a w S => Ze S (.t rfl) (sg S (.mv rfl <| .yy (Zz (.t rfl)) rfl <| .fa underlying59 sizeOf57 0 rfl rfl rfl <| .mv rfl <| .xx (Zi call74 (.cons (.t rfl) (.cons (.t rfl) .nil)) (fun hp w W => c74 _ _ _ _ _ _ _ (by exact .old W (by assumption)) (by assumption) (by assumption) (by assumption))) rfl <| .as rfl <| .z) fun a w S => wp_ret (Zj (Zk S (results1 S results54 (Rv.tmp rfl)) ?_)))
   exact ⟨rfl, S.wd.below⟩
 | d + 1, p, lv, w0, g, cap, A, gs, h, h0, h4, hp => by
   have ih := hash_ind T hT hl d
   have hp16 := half_lt hp
   obtain ⟨hp1, hp2⟩ := half_left hp
   have rw_1 : (2 : Int) * (p : Int) = ((2 * p : Nat) : Int) := rfl
   have rw_2 : ((2 * p : Nat) : Int) + 1 = ((2 * p + 1 : Nat) : Int) := rfl
   have ha := hashT_range T d (2 * p)
   have hb := hashT_range T d (2 * p + 1)
   have e : hashT T (d + 1) p = if hashT T d (2 * p) = 0 ∧ hashT T d (2 * p + 1) = 0 then 0 else mixL (hashT T d (2 * p)) (hashT T d (2 * p + 1)) := by rw [hashT]
   generalize hx : hashT T d (2 * p) = x at *
   generalize hy : hashT T d (2 * p + 1) = y at *
   refine enter3 func54 rfl ntmps54 rfl fun a S => sg S (.ac rfl <| .z) fun a w S => wp_seq_k fun _ hK1 => sg S (.mv rfl <| .yy (Yf (by omega) (Yt (.t rfl) Ev.c)) rfl <| .z) fun a w S => Zf S (.t rfl) (wp_skip (Za (hK1 _ _ (wp_seq_k fun _ hK1 => wp_region_lit (run S (.mv rfl <| .mv rfl <| .ad (by unfold I64; omega) rfl <| .mv rfl <| .yy (Yu Ev.c (.t rfl) (fun _ => by unfold I64; omega)) rfl <| .z) fun a w S => ?_)))))
   rw [rw_1] at S
   refine st_y S (Zi call54 (.cons (.t rfl) (.cons (.t rfl) (.cons (.t rfl) .nil))) (fun _ w' W' => ih (2 * p) (lv + 1) w' g cap A gs (TreeAt.old W' h) (by omega) (by omega) hp1)) rfl ?_
   clear S a w
   intro a w S
   rw [hx] at S
   refine run S (.mv rfl <| .mv rfl <| .ad (by unfold I64; omega) rfl <| .mv rfl <| .yy (Yu Ev.c (.t rfl) (fun _ => by unfold I64; omega)) rfl <| .z) fun a w S => ?_
   rw [rw_1] at S
   refine run S (.ad (by unfold I64; omega) rfl <| .z) fun a w S => ?_
   rw [rw_2] at S
   refine st_y S (Zi call54 (.cons (.t rfl) (.cons (.t rfl) (.cons (.t rfl) .nil))) (fun _ w' W' => ih (2 * p + 1) (lv + 1) w' g cap A gs (TreeAt.old W' h) (by omega) (by omega) hp2)) rfl ?_
   clear S a w
   intro a w S
   rw [hy] at S
   refine run S (.as rfl <| .as rfl <| .z) fun a w S => Zb (Za (hK1 _ _ (wp_seq_k fun _ hK1 => wp_seq_k fun _ hK2 => wp_region_lit (run S (.mv rfl <| .yy (Yt (.t rfl) Ev.c) rfl <| .mv rfl <| .z) fun a w S => Yq S rfl rfl (Yr.ys (Zd (.t rfl))) rfl fun a w S => Yq S rfl rfl (Yr.ys (Yt (Ev.g rfl) Ev.c)) rfl fun a w S => run S (.yy (Xs (.t rfl) (Ev.g rfl) Ev.c) rfl <| .z) fun a w S => Zb (Za (hK2 _ _ ?_))))))
   refine st_cond S (.t rfl) (fun h1 => ?_) (fun h1 => ?_)
   refine sg S (.ac rfl <| .z) fun a w S => wp_ret (Zj (Zk S (results1 S results54 (Rv.tmp rfl)) ?_))
   rotate_left
   refine wp_skip (Za (hK1 _ _ (sg S (.mv rfl <| .mv rfl <| .xx (Zi call75 (.cons (.t rfl) (.cons (.t rfl) .nil)) (fun hp w W => c75 _ _ _ (by assumption) (by assumption))) rfl <| .as rfl <| .z) fun a w S => wp_ret (Zk S (results1 S results54 (Rv.tmp rfl)) ?_))))
   rotate_left
   · exact ⟨by rw [e, if_pos (by simpa using h1)], S.wd.below⟩
   · exact ⟨by rw [e, if_neg (by simpa using h1)], S.wd.below⟩
theorem c58 (w0 : World) (g cap : Nat) (A : Option Addr) (T : List KH) (i : Nat) (h : DocAt w0 g A cap T) (hT : KhOk T) (hl : T.length ≤ 4194304) (hi : i < 16) :
   Rets Try.prog 58 #[.pointer (some ⟨g, 0, none⟩), .int .i64 (i : Int)] w0 fun v L => ∃ B c, v = .slice B ((partT T i).map (smP i)).length c ∧ L = [rowOf 28 3 Sm.enc B c ((partT T i).map (smP i))] := by
 have hk := h.keys
 obtain ⟨A', cap', e, hl1, hcap, hA⟩ := h.row
 cases e
 unfold Go.Fw.Rets
 refine enter2 func58 rfl ntmps58 rfl fun a S => sg S (.ac rfl <| .z) fun a w S => sg S (.ac rfl <| .z) fun a w S => wp_seq_k fun _ hK1 => sg S (.ac rfl <| .z) fun a w S => wp_block ?_
 refine Ye (S.nil_ 28 3 Sm.enc none) [5, 6] (X := Nat × Option Addr × Nat) (fun q => [(5, true, .slice q.2.1 ((partT (T.take q.1) i).map (smP i)).length q.2.2), (6, true, .int .i64 (q.1 : Int))]) (fun q => [rowOf 28 3 Sm.enc q.2.1 q.2.2 ((partT (T.take q.1) i).map (smP i))]) (fun q => q.1 ≤ T.length) (fun q => T.length - q.1) (0, none, 0) (Nat.zero_le _) ?_
 clear S
 rintro ⟨q, B, cB⟩ a w hq S
 dsimp only at hq S
 have hpl : ((partT (T.take q) i).map (smP i)).length ≤ T.length := by
   rw [List.length_map]
   exact Nat.le_trans (partT_len _ _) (by rw [List.length_take]; omega)
 by_cases hlt : q < T.length
 · obtain ⟨gr, o_, x, rfl, hx, hd, hcx⟩ := Yc hA hlt
   have hxl := name_len (hT.name x (List.mem_of_getElem? hx))
   have rw_i : IntKind.i64.wrap ((q : Int) + 1) = ((q + 1 : Nat) : Int) := by rw [IntKind.wrap_i64]; omega
   by_cases hpx : placeK x.1 = i
   · have rw_p : decide (((placeK x.1 : Nat) : Int) = (i : Int)) = true := decide_eq_true (by omega)
     have hst := below_snoc_yes (p := i) hx hpx
     generalize (partT (T.take q) i).map (smP i) = M at *
     have hold_r := trivial
     have lr_nil := trivial
     refine wp_seq_k fun _ hK2 => sg S (.mv rfl <| .mv rfl <| .yy (Zz (.t rfl)) rfl <| .fa underlying69 sizeOf22 0 rfl rfl rfl <| .yy (Ya ⟨isAgg22, sizeOf22⟩ (.t rfl) (fun _ => hk)) rfl <| .ln underlying22 rfl <| .lt (by omega) rfl rfl <| .z) fun a w S => Ze S (.t rfl) (wp_skip (Za (hK2 _ _ (wp_seq_k fun _ hK2 => wp_block (sg S (.mv rfl <| .yy (Zz (.t rfl)) rfl <| .fa underlying69 sizeOf22 0 rfl rfl rfl <| .yy (Ya ⟨isAgg22, sizeOf22⟩ (.t rfl) (fun _ => hk)) rfl <| .mv rfl <| .ix underlying22 sizeOf28 (by omega) rfl rfl <| .yy (Yz (FieldT.mk underlying28 rfl sizeOf9 rfl) (.t rfl)) rfl <| .yy (Ya ⟨isAgg9, sizeOf9⟩ (.t rfl) (fun _ => hcx _ _ rfl)) rfl <| .xx (Zi call15 (.cons (.t rfl) .nil) (fun hp w W => c15 _ _ (by omega))) rfl <| .mv rfl <| .yy (Ym (by omega) (Yt (.t rfl) (.t rfl))) rfl <| .z) fun a w S => Ze S (.t rfl) (h_begin S (by kernel_rfl) [] fun a w S => hy 0 S rfl (Zd (.t rfl)) rfl fun a w S => ?_))))))
     refine hy 1 S rfl (Zd (.t rfl)) rfl fun a w S => hy 2 S rfl (Zd (.t rfl)) rfl fun a w S => hy 3 S rfl (Zz (.t rfl)) rfl fun a w S => hy 4 S rfl (Zp (FieldT.mk underlying69 rfl sizeOf22 rfl) (.t rfl) (i' := 0) rfl) rfl fun a w S => hy 5 S rfl (Ya ⟨isAgg22, sizeOf22⟩ (.t rfl) (fun _ => hk)) rfl fun a w S => ?_
     refine hy 6 S rfl (Zd (.t rfl)) rfl fun a w S => hy 7 S rfl (Yi underlying22 sizeOf28 (.t rfl) (.t rfl) (fun _ => by omega)) rfl fun a w S => hy 8 S rfl (Yz (FieldT.mk underlying28 rfl sizeOf9 rfl) (.t rfl)) rfl fun a w S => hy 9 S rfl (Ya ⟨isAgg9, sizeOf9⟩ (.t rfl) (fun _ => hcx _ _ rfl)) rfl fun a w S => hy 10 S rfl (Zd (.t rfl)) rfl fun a w S => ?_
     refine hy 11 S rfl (Zz (.t rfl)) rfl fun a w S => hy 12 S rfl (Zp (FieldT.mk underlying69 rfl sizeOf22 rfl) (.t rfl) (i' := 0) rfl) rfl fun a w S => hy 13 S rfl (Ya ⟨isAgg22, sizeOf22⟩ (.t rfl) (fun _ => hk)) rfl fun a w S => hy 14 S rfl (Zd (.t rfl)) rfl fun a w S => hy 15 S rfl (Yi underlying22 sizeOf28 (.t rfl) (.t rfl) (fun _ => by omega)) rfl fun a w S => ?_
     refine hy 16 S rfl (Yz (FieldT.mk underlying28 rfl sizeOf23 rfl) (.t rfl)) rfl fun a w S => hy 17 S rfl (Ya ⟨isAgg23, sizeOf23⟩ (.t rfl) (fun _ => hcx _ _ rfl)) rfl fun a w S => hy 18 S rfl (Xc (ps := [(0, Go.Operand.tmp 28), (1, Go.Operand.tmp 36), (2, Go.Operand.tmp 44)]) (us := [_, _, _]) bld28 (.cons (.t rfl) (.cons (.t rfl) (.cons (.t rfl) .nil))) rfl) rfl fun a w S => ?_
     (refine h_m (i := 19) rfl (by kernel_rfl) (Zm S underlying22 inf28 rfl rfl rfl (.t rfl) rfl rfl rfl ?_); clear S a w; intro g1 a w S; refine Yw S ?_)
     (refine h_m (i := 20) rfl (by kernel_rfl) (Zw S underlying22 inf28 rfl (k := 1) (j := 0) rfl (.t rfl) (.t rfl) rfl Go.Fw.Sm.mkEnc rfl rfl (by first | omega | (simp only [List.length_append, List.length_cons, List.length_nil]; omega)) rfl rfl rfl ?_); clear S a w; intro A1 cap1 a w S; refine Yw S ?_)
     refine hy 21 S rfl (Yp (.t rfl)) rfl fun a w S => Xe (by kernel_rfl) (Zg (Za (hK2 _ _ (wp_region_lit (run S (.mv rfl <| .ad (by unfold I64; omega) rfl <| .as rfl <| .z) fun a w S => Zb (Za ?_))))))
     exact ⟨(q + 1, A1, cap1), by dsimp only; omega, by dsimp only; omega, by dsimp only; rw [hst]; exact S.pk⟩
   · have rw_p : decide (((placeK x.1 : Nat) : Int) = (i : Int)) = false := decide_eq_false (by omega)
     have hst := below_snoc_no (p := i) hx hpx
     refine wp_seq_k fun _ hK2 => sg S (.mv rfl <| .mv rfl <| .yy (Zz (.t rfl)) rfl <| .fa underlying69 sizeOf22 0 rfl rfl rfl <| .yy (Ya ⟨isAgg22, sizeOf22⟩ (.t rfl) (fun _ => hk)) rfl <| .ln underlying22 rfl <| .lt (by omega) rfl rfl <| .z) fun a w S => Ze S (.t rfl) (wp_skip (Za (hK2 _ _ (wp_seq_k fun _ hK2 => wp_block (sg S (.mv rfl <| .yy (Zz (.t rfl)) rfl <| .fa underlying69 sizeOf22 0 rfl rfl rfl <| .yy (Ya ⟨isAgg22, sizeOf22⟩ (.t rfl) (fun _ => hk)) rfl <| .mv rfl <| .ix underlying22 sizeOf28 (by omega) rfl rfl <| .yy (Yz (FieldT.mk underlying28 rfl sizeOf9 rfl) (.t rfl)) rfl <| .yy (Ya ⟨isAgg9, sizeOf9⟩ (.t rfl) (fun _ => hcx _ _ rfl)) rfl <| .xx (Zi call15 (.cons (.t rfl) .nil) (fun hp w W => c15 _ _ (by omega))) rfl <| .mv rfl <| .yy (Yf (by omega) (Yt (.t rfl) (.t rfl))) rfl <| .z) fun a w S => Zf S (.t rfl) (wp_skip (Zg (Za (hK2 _ _ (wp_region_lit (run S (.mv rfl <| .ad (by unfold I64; omega) rfl <| .as rfl <| .z) fun a w S => Zb (Za ?_))))))))))))
     exact ⟨(q + 1, B, cB), by dsimp only; omega, by dsimp only; omega, by dsimp only; rw [hst]; exact S.pk⟩
 obtain rfl : q = T.length := by omega
 rw [List.take_length] at S
 refine wp_seq_k fun _ hK2 => sg S (.mv rfl <| .mv rfl <| .yy (Zz (.t rfl)) rfl <| .fa underlying69 sizeOf22 0 rfl rfl rfl <| .yy (Ya ⟨isAgg22, sizeOf22⟩ (.t rfl) (fun _ => hk)) rfl <| .ln underlying22 rfl <| .ge (by omega) rfl rfl <| .z) fun a w S => Zf S (.t rfl) (wp_exit (Zc (Zc (Zn (Za (hK1 _ _ (sg S (.mv rfl <| .as rfl <| .z) fun a w S => wp_ret (Zk S (results1 S results58 (Rv.tmp rfl)) ?_))))))))
 exact ⟨_, _, rfl, S.wd.pk, _, _, rfl, rfl⟩
theorem c54 (w0 : World) (g cap : Nat) (A : Option Addr) (gs : List Nat) (T : List KH) (lv p : Int) (h : TreeAt w0 g A cap gs T) (hT : KhOk T) (hl : T.length ≤ 4194304) (h1 : 0 ≤ lv ∧ lv ≤ 4) (h2 : 0 ≤ p ∧ p < 2 ^ lv.toNat) :
   Calls Try.prog 54 #[.pointer (some ⟨g, 0, none⟩), .int .i64 lv, .int .i64 p] w0 fun e w' => e = .returned (.int .u64 (hashT T (4 - lv).toNat p.toNat)) ∧ Bel w0.heap.size w0 w' := by
 have := hash_ind T hT hl (4 - lv).toNat p.toNat lv w0 g cap A gs h h1.1 (by omega) (place_of h1 h2)
 rwa [Int.toNat_of_nonneg h2.1] at this
theorem hash_indR (T : List KH) (hT : KhOk T) (hl : T.length ≤ 4194304) : ∀ (d p : Nat) (lv : Int) (w0 : World) (g cap : Nat) (A : Option Addr), DocAt w0 g A cap T → 0 ≤ lv → lv = 4 - (d : Int) → (p + 1) * 2 ^ d ≤ 16 →
   Calls Try.prog 56 #[.pointer (some ⟨g, 0, none⟩), .int .i64 lv, .int .i64 (p : Int)] w0 fun e w' => e = .returned (.int .u64 (hashT T d p)) ∧ Bel w0.heap.size w0 w'
 | 0, p, lv, w0, g, cap, A, h, h0, h4, hp => by
   obtain rfl : lv = 4 := by omega
   have hp16 := half_lt hp
   have hpl := partT_len T p
   have hml : ((partT T p).map (smP p)).length = (partT T p).length := List.length_map ..
   refine enter3 func56 rfl ntmps56 rfl fun a S => sg S (.ac rfl <| .z) fun a w S => wp_seq_k fun _ hK1 => sg S (.mv rfl <| .yy (Ym (by omega) (Yt (.t rfl) Ev.c)) rfl <| .z) fun a w S => Ze S (.t rfl) (sg S (.ac rfl <| .z) fun a w S => wp_seq_k fun _ hK2 => wp_region_lit (run S (.mv rfl <| .mv rfl <| .z) fun a w S => ?_))
   (refine Zh (Zq S call58 (.cons (.t rfl) (.cons (.t rfl) .nil)) (c58 _ _ _ _ _ _ (by exact .old S.wd (by assumption)) (by assumption) (by assumption) (by assumption)) rfl ?_); clear S a w; rintro _ _ ⟨B1, c1, rfl, rfl⟩ a w S)
   refine run S (.as rfl <| .z) fun a w S => Zb (Za (hK2 _ _ (wp_seq_k fun _ hK2 => sg S (.ac rfl <| .z) fun a w S => wp_block ?_)))
   refine Ye S [7, 9] (X := Nat) (fun q => [(7, true, .int .u64 (leafH ((partT T p).take q))), (9, true, .int .i64 (q : Int))]) (fun _ => [rowOf 28 3 Sm.enc B1 c1 ((partT T p).map (smP p))]) (fun q => q ≤ (partT T p).length) (fun q => (partT T p).length - q) 0 (Nat.zero_le _) ?_
   clear S
   rintro q a w hq S
   by_cases hlt : q < (partT T p).length
   · obtain ⟨x, hx⟩ : ∃ x, (partT T p)[q]? = some x := ⟨_, List.getElem?_eq_getElem hlt⟩
     obtain ⟨ga, rfl⟩ := S.wd.row_at (k := 0) rfl (by have := (S.wd.room (k := 0) rfl).1; omega)
     have hx1 : ((partT T p).map (smP p))[q]? = some (smP p x) := by rw [List.getElem?_map, hx]; rfl
     have hmx : x ∈ partT T p := List.mem_of_getElem? hx
     have rw_s1 : (smP p x).key = x.1 := rfl
     have rw_s2 : (smP p x).hash = x.2 := rfl
     have hxl := name_len (hT.name x (Zv.1 hmx).1)
     have hxr := hT.hash x (Zv.1 hmx).1
     have rw_i : IntKind.i64.wrap ((q : Int) + 1) = ((q + 1 : Nat) : Int) := by rw [IntKind.wrap_i64]; omega
     have hst : leafH ((partT T p).take (q + 1)) = mixL (leafH ((partT T p).take q)) (mixL (hashL x.1) x.2) := by
       unfold leafH
       rw [List.take_add_one, hx, Option.toList_some, List.foldl_append]
       rfl
     have hrg := leaf_range ((partT T p).take q)
     have hrm := mix_range (hashL x.1) x.2
     have hrh := hash_range x.1
     obtain ⟨q0, hq0⟩ : ∃ y, leafH ((partT T p).take q) = y := ⟨_, rfl⟩
     obtain ⟨hh, rw_h⟩ : ∃ y, hashL x.1 = y := ⟨_, rfl⟩
     rw [rw_h] at hrm hrh hst
     obtain ⟨hm, rw_m⟩ : ∃ y, mixL hh x.2 = y := ⟨_, rfl⟩
     rw [rw_m] at hrm hst
     rw [hq0] at hrg hst S
     obtain ⟨hn, rw_n⟩ : ∃ y, mixL q0 hm = y := ⟨_, rfl⟩
     rw [rw_n] at hst
     refine wp_seq_k fun _ hK3 => sg S (.mv rfl <| .mv rfl <| .ln underlying22 rfl <| .lt (by omega) rfl rfl <| .z) fun a w S => Ze S (.t rfl) (wp_skip (Za (hK3 _ _ (wp_seq_k fun _ hK3 => wp_block (h_begin0 S (by kernel_rfl) fun a w S => hy 0 S rfl (Zd (.t rfl)) rfl fun a w S => hy 1 S rfl (Zd (.t rfl)) rfl fun a w S => hy 2 S rfl (Zd (.t rfl)) rfl fun a w S => hy 3 S rfl (Yi underlying22 sizeOf28 (.t rfl) (.t rfl) (fun _ => by omega)) rfl fun a w S => ?_)))))
     refine hy 4 S rfl (Yz (FieldT.mk underlying28 rfl sizeOf9 rfl) (.t rfl)) rfl fun a w S => hy 5 S rfl (ys_ldW ⟨isAgg9, sizeOf9⟩ (.t rfl) (k := 0) rfl hx1 (fun _ => rfl) rfl) rfl fun a w S => ?_
     rw [rw_s1] at S
     refine hy 8 S rfl (Zd (.t rfl)) rfl fun a w S => hy 9 S rfl (Zd (.t rfl)) rfl fun a w S => hy 10 S rfl (Yi underlying22 sizeOf28 (.t rfl) (.t rfl) (fun _ => by omega)) rfl fun a w S => hy 11 S rfl (Yz (FieldT.mk underlying28 rfl sizeOf23 rfl) (.t rfl)) rfl fun a w S => hy 12 S rfl (ys_ldW ⟨isAgg23, sizeOf23⟩ (.t rfl) (k := 0) rfl hx1 (fun _ => rfl) rfl) rfl fun a w S => ?_
     rw [rw_s2] at S
     (refine h_m (i := 6) rfl (by kernel_rfl) (op_bytes S underlying9 underlying120 underlying5 (.t rfl) (by first | omega | (simp; omega)) rfl ?_); clear S a w; intro g1 m1 fr1 hm1 a w S; refine h_n2 S ?_)
     refine h_q (i := 7) S (by repeat (first | exact List.Sublist.refl _ | exact List.nil_sublist _ | refine .cons_cons _ ?_ | refine .cons _ ?_)) rfl (by kernel_rfl) (Zi call71 (.cons (.t rfl) .nil) (fun hp w W => c71 _ _ _ (by exact Sl.of_txt W (k := 0) rfl (by assumption)) (by omega))) rfl fun a w S => ?_
     rw [rw_h] at S
     refine h_q (i := 13) S (by repeat (first | exact List.Sublist.refl _ | exact List.nil_sublist _ | refine .cons_cons _ ?_ | refine .cons _ ?_)) rfl (by kernel_rfl) (Zi call76 (.cons (.t rfl) (.cons (.t rfl) .nil)) (fun hp w W => c76 _ _ _ (by assumption) (by assumption))) rfl fun a w S => ?_
     rw [rw_m] at S
     refine h_q (i := 14) S (by repeat (first | exact List.Sublist.refl _ | exact List.nil_sublist _ | refine .cons_cons _ ?_ | refine .cons _ ?_)) rfl (by kernel_rfl) (Zi call76 (.cons (.t rfl) (.cons (.t rfl) .nil)) (fun hp w W => c76 _ _ _ (by assumption) (by assumption))) rfl fun a w S => ?_
     rw [rw_n] at S
     refine hy 15 S rfl (Yp (.t rfl)) rfl fun a w S => Xe (by kernel_rfl) (Zg (Za (hK3 _ _ (wp_region_lit (run S (.mv rfl <| .ad (by unfold I64; omega) rfl <| .as rfl <| .z) fun a w S => Zb (Za ?_))))))
     exact ⟨q + 1, by omega, by omega, by rw [hst]; exact S.pk⟩
   obtain rfl : q = (partT T p).length := by omega
   rw [List.take_length] at S
   refine wp_seq_k fun _ hK3 => sg S (.mv rfl <| .mv rfl <| .ln underlying22 rfl <| .ge (by omega) rfl rfl <| .z) fun a w S => Zf S (.t rfl) (wp_exit (Zc (Zc (Zn (Za (hK2 _ _ (sg S (.mv rfl <| .as rfl <| .z) fun a w S => wp_ret (Zj (Zk S (results1 S results56 (Rv.tmp rfl)) ?_)))))))))
   exact ⟨rfl, S.wd.below⟩
 | d + 1, p, lv, w0, g, cap, A, h, h0, h4, hp => by
   have ih := hash_indR T hT hl d
   have hp16 := half_lt hp
   obtain ⟨hp1, hp2⟩ := half_left hp
   have rw_1 : (2 : Int) * (p : Int) = ((2 * p : Nat) : Int) := rfl
   have rw_2 : ((2 * p : Nat) : Int) + 1 = ((2 * p + 1 : Nat) : Int) := rfl
   have ha := hashT_range T d (2 * p)
   have hb := hashT_range T d (2 * p + 1)
   have e : hashT T (d + 1) p = if hashT T d (2 * p) = 0 ∧ hashT T d (2 * p + 1) = 0 then 0 else mixL (hashT T d (2 * p)) (hashT T d (2 * p + 1)) := by rw [hashT]
   generalize hx : hashT T d (2 * p) = x at *
   generalize hy : hashT T d (2 * p + 1) = y at *
   have rw_l : IntKind.i64.wrap (lv + 1) = lv + 1 := by rw [IntKind.wrap_i64]; omega
   have rw_3 : IntKind.i64.wrap (2 * (p : Int)) = ((2 * p : Nat) : Int) := by rw [IntKind.wrap_i64]; omega
   have rw_4 : IntKind.i64.wrap (((2 * p : Nat) : Int) + 1) = ((2 * p + 1 : Nat) : Int) := by rw [IntKind.wrap_i64]; omega
   refine enter3 func56 rfl ntmps56 rfl fun a S => sg S (.ac rfl <| .z) fun a w S => wp_seq_k fun _ hK1 => sg S (.mv rfl <| .yy (Yf (by omega) (Yt (.t rfl) Ev.c)) rfl <| .z) fun a w S => Zf S (.t rfl) (wp_skip (Za (hK1 _ _ (wp_seq_k fun _ hK1 => wp_region_lit (run S (.mv rfl <| .mv rfl <| .ad (by unfold I64; omega) rfl <| .mv rfl <| .yy (Yu Ev.c (.t rfl) (fun _ => by unfold I64; omega)) rfl <| .z) fun a w S => ?_)))))
   rw [rw_1] at S
   refine st_y S (Zi call56 (.cons (.t rfl) (.cons (.t rfl) (.cons (.t rfl) .nil))) (fun _ w' W' => ih (2 * p) (lv + 1) w' g cap A (DocAt.old W' h) (by omega) (by omega) hp1)) rfl ?_
   clear S a w
   intro a w S
   rw [hx] at S
   refine run S (.as rfl <| .z) fun a w S => Zb (Za (hK1 _ _ (wp_seq_k fun _ hK1 => wp_region_lit (run S (.mv rfl <| .mv rfl <| .ad (by unfold I64; omega) rfl <| .mv rfl <| .yy (Yu Ev.c (.t rfl) (fun _ => by unfold I64; omega)) rfl <| .z) fun a w S => ?_))))
   rw [rw_1] at S
   refine run S (.ad (by unfold I64; omega) rfl <| .z) fun a w S => ?_
   rw [rw_2] at S
   refine st_y S (Zi call56 (.cons (.t rfl) (.cons (.t rfl) (.cons (.t rfl) .nil))) (fun _ w' W' => ih (2 * p + 1) (lv + 1) w' g cap A (DocAt.old W' h) (by omega) (by omega) hp2)) rfl ?_
   clear S a w
   intro a w S
   rw [hy] at S
   refine run S (.as rfl <| .z) fun a w S => Zb (Za (hK1 _ _ (wp_seq_k fun _ hK1 => wp_seq_k fun _ hK2 => wp_region_lit (run S (.mv rfl <| .yy (Yt (.t rfl) Ev.c) rfl <| .mv rfl <| .z) fun a w S => Yq S rfl rfl (Yr.ys (Zd (.t rfl))) rfl fun a w S => Yq S rfl rfl (Yr.ys (Yt (Ev.g rfl) Ev.c)) rfl fun a w S => run S (.yy (Xs (.t rfl) (Ev.g rfl) Ev.c) rfl <| .z) fun a w S => Zb (Za (hK2 _ _ ?_))))))
   refine st_cond S (.t rfl) (fun h1 => ?_) (fun h1 => ?_)
   refine sg S (.ac rfl <| .z) fun a w S => wp_ret (Zj (Zk S (results1 S results56 (Rv.tmp rfl)) ?_))
   rotate_left
   refine wp_skip (Za (hK1 _ _ (sg S (.mv rfl <| .mv rfl <| .xx (Zi call76 (.cons (.t rfl) (.cons (.t rfl) .nil)) (fun hp w W => c76 _ _ _ (by assumption) (by assumption))) rfl <| .as rfl <| .z) fun a w S => wp_ret (Zk S (results1 S results56 (Rv.tmp rfl)) ?_))))
   rotate_left
   · exact ⟨by rw [e, if_pos (by simpa using h1)], S.wd.below⟩
   · exact ⟨by rw [e, if_neg (by simpa using h1)], S.wd.below⟩
theorem c56 (w0 : World) (g cap : Nat) (A : Option Addr) (T : List KH) (lv p : Int) (h : DocAt w0 g A cap T) (hT : KhOk T) (hl : T.length ≤ 4194304) (h1 : 0 ≤ lv ∧ lv ≤ 4) (h2 : 0 ≤ p ∧ p < 2 ^ lv.toNat) :
   Calls Try.prog 56 #[.pointer (some ⟨g, 0, none⟩), .int .i64 lv, .int .i64 p] w0 fun e w' => e = .returned (.int .u64 (hashT T (4 - lv).toNat p.toNat)) ∧ Bel w0.heap.size w0 w' := by
 have := hash_indR T hT hl (4 - lv).toNat p.toNat lv w0 g cap A h h1.1 (by omega) (place_of h1 h2)
 rwa [Int.toNat_of_nonneg h2.1] at this
end Go.Proofs.Ytbijdmfilmecbaa
namespace Go.Fw
open Go.RowKit
section
variable {w0 w w1 : World} {L : List Chunk} {b : Nat} {o : Obj} {bs : List Nat}
theorem freeze_blk (W : Wd w0 (.blk b o :: .ice w1 bs :: L) w) : Wd w0 (.ice w (b :: bs) :: L) w ∧ b ∉ bs ∧ w.heap[b]? = some o ∧ ∀ x ∈ bs, w.heap[x]? = w1.heap[x]? := by
 have W1 := Wd.freeze (cs := [.blk b o, .ice w1 bs]) W
 have e : [Chunk.blk b o, .ice w1 bs].flatMap Chunk.blocks = b :: bs := by simp [Chunk.blocks]
 rw [e] at W1
 refine ⟨W1, fun hb => ?_, (W.get (k := 0) rfl).2, fun x hx => (W.get (k := 1) rfl x hx).2.2⟩
 have := W.apart
 rw [List.pairwise_cons] at this
 exact this.1 (.ice w1 bs) (by simp) b rfl hb
theorem thaw_blk (W : Wd w0 (.ice w1 bs :: L) w) (hb : b ∈ bs) (ho : w1.heap[b]? = some o) : Wd w0 (.blk b o :: .ice w1 (bs.filter fun x => decide (x ≠ b)) :: L) w := by
 obtain ⟨h1, h2, h3⟩ := W
 rw [List.pairwise_cons] at h3
 have hi := h2 (.ice w1 bs) (by simp)
 refine ⟨h1, fun c hc => ?_, List.Pairwise.cons (fun c hc x hx hxc => ?_) (List.Pairwise.cons (fun c hc x hx hxc => ?_) h3.2)⟩
 · rcases List.mem_cons.1 hc with rfl | hc
   · obtain ⟨k1, k2, k3⟩ := hi b hb
     exact ⟨k1, k3.trans ho⟩
   · rcases List.mem_cons.1 hc with rfl | hc
     · exact fun x hx => hi x (List.mem_filter.1 hx).1
     · exact h2 c (by simp [hc])
 · have hx' : x = b := hx
   subst hx'
   rcases List.mem_cons.1 hc with rfl | hc
   · have := (List.mem_filter.1 hxc).2
     simp at this
   · exact h3.1 c hc x hb hxc
 · exact h3.1 c hc x (List.mem_filter.1 hx).1 hxc
end
theorem maps_upd {w w1 : World} {bs bs2 gs : List Nat} {T T' : List KH} {i b : Nat} {o' : Obj} (M : MapsIn w1 bs gs T) (hi : gs[i]? = some b) (h1 : ∀ j, j ≠ i → partT T' j = partT T j) (hC : MapC o' (partT T' i)) (hw : w.heap[b]? = some o')
   (hold : ∀ x ∈ bs, x ≠ b → w.heap[x]? = w1.heap[x]?) (hbs : ∀ x ∈ bs, x ∈ bs2) : MapsIn w bs2 gs T' := by
 refine ⟨M.len, M.nodup, fun j c hc => ?_⟩
 obtain ⟨k1, o, k2, k3⟩ := M.maps j c hc
 refine ⟨hbs c k1, ?_⟩
 by_cases e : j = i
 · subst e
   rw [hi] at hc
   obtain rfl : b = c := by simpa using hc
   exact ⟨o', hw, hC⟩
 · have hne : c ≠ b := fun h => by
     subst h
     have hjl : j < gs.length := (List.getElem?_eq_some_iff.1 hc).1
     exact e ((List.getElem?_inj hjl M.nodup).1 (hc.trans hi.symm))
   exact ⟨o, (hold c k1 hne).trans k2, by rw [h1 j e]; exact k3⟩
def setE (k : List UInt8) : Int := if nameB k = true then 0 else 6
def setK (k : List UInt8) (h : Int) (T : List KH) : List KH := if nameB k = true then setT k h T else T
theorem part_set_mem {k : List UInt8} {h : Int} {T : List KH} (hT : T.Pairwise ltK) : ∀ x, x ∈ partT (setT k h T) (placeK k) ↔ x = (k, h) ∨ (x ∈ partT T (placeK k) ∧ x.1 ≠ k) := fun x => by
 rw [Zv, Zv, Xb hT]
 constructor
 · rintro ⟨rfl | ⟨h1, h2⟩, h3⟩
   · exact .inl rfl
   · exact .inr ⟨⟨h1, h3⟩, h2⟩
 · rintro (rfl | ⟨⟨h1, h3⟩, h2⟩)
   · exact ⟨.inl rfl, rfl⟩
   · exact ⟨.inr ⟨h1, h2⟩, h3⟩
end Go.Fw
namespace Go.Proofs.Ytbijdmfilmecbaa
open Go.Fw Go.Proofs Go.RowKit Go.Proofs.Try
theorem inf80 : InfoT Try.prog 80 (.map none) 1 8 := by unfold InfoT; kernel_rfl
abbrev kv80 (x : List UInt8) : Value := .string (bs x)
abbrev vv80 (x : Int) : Value := .int .u64 x
theorem c44 (w0 : World) : Rets Try.prog 44 #[] w0 fun u L => ∃ g A cap gs w1 bs, u = .pointer (some ⟨g, 0, none⟩) ∧ L = treeP g A cap gs w1 bs [] ∧ MapsIn w1 bs gs [] := by
 unfold Go.Fw.Rets
 refine enter0 func44 rfl ntmps44 rfl fun a S => sg S (.ac rfl <| .z) fun a w S => wp_seq_k fun _ hK1 => wp_region_lit (run S (.yy (Xc (ps := []) (us := [_]) bld59 .nil rfl) rfl <| .z) fun a w S => Zh (Xw S (.t rfl) rfl fun g1 a w S => run S (.as rfl <| .z) fun a w S => Zb (Za (hK1 _ _ (wp_seq_k fun _ hK1 => sg S (.mc rfl <| .z) fun a w S => wp_block ?_)))))
 replace S := S.nil_ 80 1 encMp none
 replace S : St _ _ _ (.ice w0 [] :: _) _ _ := ⟨S.kn, S.wd.bare (fun b hb => by cases hb) (fun b hb => by cases hb)⟩
 refine Ye S [4] (X := Nat × Option Addr × Nat × List Nat × World × List Nat) (fun q => [(4, true, .int .i64 (q.1 : Int))]) (fun q => [.blk g1 (.cells #[.slice q.2.1 q.2.2.2.1.length q.2.2.1] 59), rowOf 80 1 encMp q.2.1 q.2.2.1 q.2.2.2.1, .ice q.2.2.2.2.1 q.2.2.2.2.2])
   (fun q => q.1 ≤ 16 ∧ q.2.2.2.1.length = q.1 ∧ q.2.2.2.1.Nodup ∧ ∀ b ∈ q.2.2.2.1, b ∈ q.2.2.2.2.2 ∧ q.2.2.2.2.1.heap[b]? = some (.map #[] 0)) (fun q => 16 - q.1) (0, none, 0, [], w0, []) ⟨by simp, rfl, List.nodup_nil, by simp⟩ ?_
 clear S
 rintro ⟨i, A, cap, gs, w1, bs⟩ a w ⟨hi, hgl, hgn, hgm⟩ S
 dsimp only at hi hgl hgn hgm S
 by_cases hlt : i < 16
 · refine sg S (.yy (Ym (by omega) (Zy (.t rfl) Ev.c)) rfl <| .z) fun a w S => wp_seq_k fun _ hK2 => Ze S (.t rfl) (wp_skip (Za (hK2 _ _ (wp_seq_k fun _ hK2 => wp_block (wp_region_lit (run S (.mv rfl <| .mv rfl <| .yy (Zz (.t rfl)) rfl <| .fa underlying59 sizeOf57 0 rfl rfl rfl <| .fa underlying57 sizeOf55 0 rfl rfl rfl <| .ld gt55 0 rfl rfl rfl <| .z) fun a w S => Zh (op_makeMap kv80 vv80 S rfl fun g2 a w S => Zh (Zm S underlying55 inf80 rfl rfl rfl (.t rfl) rfl rfl rfl fun g3 a w S => Zh (Zw S underlying55 inf80 rfl (k := 3) (j := 0) rfl (.t rfl) (.t rfl) rfl rfl rfl rfl (by first | omega | (simp only [List.length_append, List.length_cons, List.length_nil]; omega)) rfl rfl rfl fun A1 cap1 a w S => run S (.yy (Zz (.t rfl)) rfl <| .fa underlying59 sizeOf57 0 rfl rfl rfl <| .fa underlying57 sizeOf55 0 rfl rfl rfl <| .z) fun a w S => Zh (Xy S sizeOf55 (.t rfl) (.t rfl) (k := 2) rfl rfl (by simp) fun a w S => Zb (Zg (Za (hK2 _ _ (wp_region_lit (run S (.ad (by unfold I64; omega) rfl <| .mv rfl <| .z) fun a w S => Zb (Za ?_))))))))))))))))
   obtain ⟨W1, hnb, hg2, hold⟩ := freeze_blk (S.wd.picks (L' := [.blk g2 (mapK kv80 vv80 []), .ice w1 bs, .blk g1 (.cells #[.slice A1 (gs ++ [g2]).length cap1] 59), rowOf 80 1 encMp A1 cap1 (gs ++ [g2])]) (by repeat (first | exact Picks.nil | (refine Picks.rest ?_; (repeat (first | exact List.Sublist.refl _ | refine List.Sublist.cons_cons _ ?_ | refine List.Sublist.cons _ ?_)); done) | refine Picks.take 0 rfl ?_ | refine Picks.take 1 rfl ?_ | refine Picks.take 2 rfl ?_ | refine Picks.take 3 rfl ?_ | refine Picks.take 4 rfl ?_ | refine Picks.take 5 rfl ?_ | refine Picks.take 6 rfl ?_ | refine Picks.take 7 rfl ?_ | refine Picks.take 8 rfl ?_ | refine Picks.take 9 rfl ?_ | refine Picks.take 10 rfl ?_ | refine Picks.take 11 rfl ?_)))
   replace S := St.mk S.kn W1
   refine ⟨(i + 1, A1, cap1, gs ++ [g2], w, g2 :: bs), ⟨by dsimp only; omega, by dsimp only; rw [List.length_append, hgl]; rfl, ?_, fun b hb => ?_⟩, by dsimp only; omega, S.pk⟩
   · dsimp only
     rw [List.nodup_append]
     refine ⟨hgn, by simp, fun x hx y hy e => ?_⟩
     rw [List.mem_singleton] at hy
     rw [e, hy] at hx
     exact hnb (hgm g2 hx).1
   · dsimp only at hb ⊢
     rcases List.mem_append.1 hb with hb | hb
     · obtain ⟨h1, h2⟩ := hgm b hb
       exact ⟨List.mem_cons_of_mem _ h1, (hold b h1).trans h2⟩
     · rw [List.mem_singleton] at hb
       subst hb
       exact ⟨List.mem_cons_self .., hg2⟩
 obtain rfl : i = 16 := by omega
 refine sg S (.yy (Yf (by omega) (Zy (.t rfl) Ev.c)) rfl <| .z) fun a w S => wp_seq_k fun _ hK2 => Zf S (.t rfl) (wp_exit (Zc (Zc (Zn (Za (hK1 _ _ (sg S (.mv rfl <| .as rfl <| .z) fun a w S => wp_ret (Zk S (results1 S results44 (Rv.tmp rfl)) ?_))))))))
 rw [hgl] at S
 refine ⟨_, _, rfl, S.wd.pk, g1, A, cap, gs, w1, bs, rfl, rfl, hgl, hgn, fun j b hb => ?_⟩
 obtain ⟨h1, h2⟩ := hgm b (List.mem_of_getElem? hb)
 exact ⟨h1, _, h2, mapC_nil⟩
theorem c11 {w0 w w1 : World} {L : List Chunk} {g cap : Nat} {A : Option Addr} {gs bs : List Nat} {T : List KH} {k : List UInt8} {h : Int} (W : Wd w0 (treeP g A cap gs w1 bs L) w) (M : MapsIn w1 bs gs T) (hT : KhOk T) (hk : k.length ≤ 1048576) :
   RetsO Try.prog 11 #[.pointer (some ⟨g, 0, none⟩), .string (Fw.bs k), .int .u64 h] w0 w fun u L' => ∃ w2 bs2, u = .int .i64 (setE k) ∧ L' = treeP g A cap gs w2 bs2 L ∧ MapsIn w2 bs2 gs (setK k h T) := by
 have hgl := M.len
 cases hn : nameB k with
 | false =>
   have rw_n := hn
   have e1 : setE k = 6 := by unfold setE; rw [if_neg (by rw [hn]; simp)]
   have e2 : setK k h T = T := by unfold setK; rw [if_neg (by rw [hn]; simp)]
   unfold Go.Fw.RetsO
   refine enterW3 W func11 rfl ntmps11 rfl fun a S => sg S (.ac rfl <| .z) fun a w S => wp_seq_k fun _ hK1 => sg S (.mv rfl <| .xx (Zi call45 (.cons (.t rfl) .nil) (fun hp w W => c45 _ _ _ _ _ (by exact Wd.cell W (k := 0) rfl rfl))) rfl <| .nt rfl <| .z) fun a w S => Zf S (.t rfl) (wp_skip (Za (hK1 _ _ (wp_seq_k fun _ hK1 => wp_seq_k fun _ hK2 => wp_region_lit (run S (.mv rfl <| .xx (Zi call46 (.cons (.t rfl) .nil) (fun hp w W => c46 _ _ (by assumption))) rfl <| .z) fun a w S => ?_)))))
   rw [rw_n] at S
   refine run S (.nt rfl <| .z) fun a w S => Zb (Za (hK2 _ _ (Ze S (.t rfl) (sg S (.ac rfl <| .z) fun a w S => wp_ret (Zj (Zk S (results1 S results11 (Rv.tmp rfl)) ?_))))))
   rw [e1, e2]
   exact ⟨_, _, rfl, S.wd.pk, w1, bs, rfl, rfl, M⟩
 | true =>
   have rw_n := hn
   have hp := Xg k
   have e1 : setE k = 0 := by unfold setE; rw [if_pos hn]
   have e2 : setK k h T = setT k h T := by unfold setK; rw [if_pos hn]
   obtain ⟨b, hb⟩ : ∃ b, gs[placeK k]? = some b := ⟨_, List.getElem?_eq_getElem (by omega)⟩
   obtain ⟨hbb, o, ho, hC⟩ := M.maps _ b hb
   obtain ⟨gr, rfl⟩ := W.row_at (k := 1) rfl (by have := (W.room (k := 1) rfl).1; omega)
   have halt_d := trivial
   unfold Go.Fw.RetsO
   refine enterW3 W func11 rfl ntmps11 rfl fun a S => sg S (.ac rfl <| .z) fun a w S => wp_seq_k fun _ hK1 => sg S (.mv rfl <| .xx (Zi call45 (.cons (.t rfl) .nil) (fun hp w W => c45 _ _ _ _ _ (by exact Wd.cell W (k := 0) rfl rfl))) rfl <| .nt rfl <| .z) fun a w S => Zf S (.t rfl) (wp_skip (Za (hK1 _ _ (wp_seq_k fun _ hK1 => wp_seq_k fun _ hK2 => wp_region_lit (run S (.mv rfl <| .xx (Zi call46 (.cons (.t rfl) .nil) (fun hp w W => c46 _ _ (by assumption))) rfl <| .z) fun a w S => ?_)))))
   rw [rw_n] at S
   refine run S (.nt rfl <| .z) fun a w S => Zb (Za (hK2 _ _ (Zf S (.t rfl) (wp_skip (Za (hK1 _ _ (wp_seq_k fun _ hK1 => ?_)))))))
   clear halt_d
   replace S := S.pull 2 rfl
   simp only [List.eraseIdx_cons_succ, List.eraseIdx_cons_zero] at S
   replace S := St.mk S.kn (thaw_blk S.wd hbb ho)
   have hold_r := trivial
   refine h_begin S (by kernel_rfl) [.blk g (.cells #[.slice (some ⟨gr, 0, none⟩) 16 cap] 59), rowOf 80 1 encMp (some ⟨gr, 0, none⟩) cap gs] ?_
   clear S
   intro a w S
   refine hy 0 S rfl (Zd (.t rfl)) rfl fun a w S => hy 1 S rfl (Zz (.t rfl)) rfl fun a w S => hy 2 S rfl (Zp (FieldT.mk underlying59 rfl sizeOf57 rfl) (.t rfl) (i' := 0) rfl) rfl fun a w S => hy 3 S rfl (Zp (FieldT.mk underlying57 rfl sizeOf55 rfl) (.t rfl) (i' := 0) rfl) rfl fun a w S => hy 4 S rfl (Yg ⟨isAgg55, sizeOf55⟩ (.t rfl) (k := 0) rfl rfl) rfl fun a w S => ?_
   refine hy 5 S rfl (Zd (.t rfl)) rfl fun a w S => hy 9 S rfl (Zd (.t rfl)) rfl fun a w S => hy 10 S rfl (Zd (.t rfl)) rfl fun a w S => h_q (i := 6) S (by repeat (first | exact List.Sublist.refl _ | exact List.nil_sublist _ | refine .cons_cons _ ?_ | refine .cons _ ?_)) rfl (by kernel_rfl) (Zi call47 (.cons (.t rfl) .nil) (fun hp w W => c47 _ _ (by omega))) rfl fun a w S => hy 7 S rfl (Yi underlying55 sizeOf80 (.t rfl) (.t rfl) (fun _ => by omega)) rfl fun a w S => ?_
   refine hy 8 S rfl (ys_ldW0 ⟨isAgg80, sizeOf80⟩ (.t rfl) (k := 1) rfl hb (fun _ => rfl) rfl) rfl fun a w S => h_m0 (i := 11) rfl (by kernel_rfl) (op_updS (partT (setT k h T) (placeK k)) S smT80 (.t rfl) (.t rfl) (.t rfl) (j := 0) rfl hC (part_set_mem hT.sorted) ?_)
   clear S
   rintro o' hC' a w S
   refine Yw S ?_
   refine Xe (by kernel_rfl) (Za (hK1 _ _ (sg S (.ac rfl <| .z) fun a w S => wp_ret (Zk S (results1 S results11 (Rv.tmp rfl)) ?_))))
   obtain ⟨W1, hnb, hg2, hold⟩ := freeze_blk (S.wd.picks (L' := .blk b o' :: .ice w1 (bs.filter fun x => decide (x ≠ b)) :: .blk g (.cells #[.slice (some ⟨gr, 0, none⟩) 16 cap] 59) :: rowOf 80 1 encMp (some ⟨gr, 0, none⟩) cap gs :: L) (by repeat (first | exact Picks.nil | (refine Picks.rest ?_; (repeat (first | exact List.Sublist.refl _ | refine List.Sublist.cons_cons _ ?_ | refine List.Sublist.cons _ ?_)); done) | refine Picks.take 0 rfl ?_ | refine Picks.take 1 rfl ?_ | refine Picks.take 2 rfl ?_ | refine Picks.take 3 rfl ?_ | refine Picks.take 4 rfl ?_ | refine Picks.take 5 rfl ?_ | refine Picks.take 6 rfl ?_ | refine Picks.take 7 rfl ?_ | refine Picks.take 8 rfl ?_ | refine Picks.take 9 rfl ?_ | refine Picks.take 10 rfl ?_ | refine Picks.take 11 rfl ?_)))
   rw [e1, e2]
   refine ⟨_, treeP g (some ⟨gr, 0, none⟩) cap gs w (b :: bs.filter fun x => decide (x ≠ b)) L, rfl, W1.pk, w, _, rfl, rfl, maps_upd M hb (fun j hj => part_set hT.sorted hj) hC' hg2 (fun x hx hne => hold x (List.mem_filter.2 ⟨hx, by simpa using hne⟩)) (fun x hx => ?_)⟩
   by_cases e : x = b
   · subst e; exact List.mem_cons_self ..
   · exact List.mem_cons_of_mem _ (List.mem_filter.2 ⟨hx, by simpa using e⟩)
end Go.Proofs.Ytbijdmfilmecbaa
namespace Go.Fw
open Go.Proofs Go.RowKit Go.ChangeMaps
section
variable {P : Program} {n : Nat} {w0 : World} {K : KL} {L : List Chunk} {b : Bool} {dst : Option Tmp} {ty : TypeId} {pos : String} {aft : Array Edge} {gd : Option (Nat × Bool)} {a : Act} {w : World} {Z : Act → World → Prop} {Q : Exit → Act → World → Prop} {d : Nat}
section
variable {t t' : TypeId} {x y : Operand} {l m : List UInt8} (hx : Ev n b K x (.string (bs l))) (hy : Ev n b K y (.string (bs m)))
include hx hy
theorem ys_leqStr : Yr P ⟨dst, .binOp .leq t x y t', ty, pos, aft, gd⟩ n K w0 L b (.bool (!Op.bytesLess m l)) := fun a w hb hkn _ => by
 simp only [execOp, hx a hb hkn, hy a hb hkn]
 simp only [eqGuard, binOp, Op.stringOp, bs_toList, less_ge]
 simp
end
end
end Go.Fw
namespace Go.Fw
open Go.RowKit
theorem setT_end {k : List UInt8} {h : Int} : ∀ {P : List KH}, (∀ y ∈ P, Op.bytesLess y.1 k = true) → setT k h P = P ++ [(k, h)]
 | [], _ => rfl
 | (y, u) :: r, hp => by
   have h1 : Op.bytesLess y k = true := hp (y, u) (by simp)
   rw [setT, if_neg (by rw [Xd h1]; simp), if_neg (less_ne h1).symm, setT_end fun z hz => hp z (by simp [hz])]
   rfl
theorem setT_lt {k : List UInt8} {h : Int} {x : KH} (hx : Op.bytesLess k x.1 = true) : ∀ {P : List KH}, (∀ y ∈ P, Op.bytesLess y.1 k = true) → setT k h (P ++ [x]) = P ++ [(k, h)] ++ [x]
 | [], _ => by
   obtain ⟨y, u⟩ := x
   show setT k h [(y, u)] = _
   rw [setT, if_pos hx]; rfl
 | (y, u) :: r, hp => by
   have h1 : Op.bytesLess y k = true := hp (y, u) (by simp)
   rw [List.cons_append, setT, if_neg (by rw [Xd h1]; simp), if_neg (less_ne h1).symm, setT_lt hx fun z hz => hp z (by simp [hz])]
   rfl
theorem setT_eq {k : List UInt8} {h u0 : Int} : ∀ {P : List KH}, (∀ y ∈ P, Op.bytesLess y.1 k = true) → setT k h (P ++ [(k, u0)]) = P ++ [(k, h)]
 | [], _ => by
   show setT k h [(k, u0)] = _
   rw [setT, if_neg (by rw [Xi]; simp), if_pos rfl]; rfl
 | (y, u) :: r, hp => by
   have h1 : Op.bytesLess y k = true := hp (y, u) (by simp)
   rw [List.cons_append, setT, if_neg (by rw [Xd h1]; simp), if_neg (less_ne h1).symm, setT_eq fun z hz => hp z (by simp [hz])]
   rfl
theorem setT_done {k : List UInt8} {h : Int} {x : KH} : ∀ {P : List KH}, (∃ y ∈ P, Op.bytesLess y.1 k = false) → setT k h (P ++ [x]) = setT k h P ++ [x]
 | [], h => by obtain ⟨y, hy, _⟩ := h; simp at hy
 | (y, u) :: r, hp => by
   rw [List.cons_append, setT, setT]
   by_cases h1 : Op.bytesLess k y = true
   · rw [if_pos h1, if_pos h1]; rfl
   · rw [if_neg h1, if_neg h1]
     by_cases h2 : k = y
     · rw [if_pos h2, if_pos h2]; rfl
     · rw [if_neg h2, if_neg h2, setT_done]
       · rfl
       · obtain ⟨z, hz, hz2⟩ := hp
         rcases List.mem_cons.1 hz with rfl | hz
         · rcases Xt h2 with h3 | h3
           · exact absurd h3 h1
           · rw [h3] at hz2; cases hz2
         · exact ⟨z, hz, hz2⟩
def outT (k : List UInt8) (h : Int) (P : List KH) (done : Bool) : List KH := if done then setT k h P else P
theorem outT_len (k : List UInt8) (h : Int) (T : List KH) (i : Nat) (b : Bool) : (outT k h (T.take i) b).length ≤ T.length + 1 := by
 unfold outT
 have : (T.take i).length ≤ T.length := by rw [List.length_take]; omega
 split
 · have := setT_len k h (T.take i); omega
 · omega
end Go.Fw
namespace Go.Proofs.Ytbijdmfilmecbaa
open Go.Fw Go.Proofs Go.RowKit Go.Proofs.Try
abbrev docP (g : Nat) (A : Option Addr) (cap : Nat) (T : List KH) (L : List Chunk) : List Chunk := .blk g (.cells #[.slice A T.length cap] 69) :: rowOf 28 3 Kh.enc A cap T :: L
theorem sl_m2 {w0 w : World} {L : List Chunk} {k g cap : Nat} {A : Option Addr} {T : List KH} (W : Wd w0 L w) (hk : L[k]? = some (.blk g (.cells #[.slice A T.length cap] 69)))
   (h2 : L[k + 1]? = some (rowOf 28 3 Kh.enc A cap T) := by rfl) : DocAt w g A cap T := ⟨Wd.cell W hk rfl, Sl.of_own W h2 Kh.enc_len⟩
theorem c52 {w0 w : World} {L : List Chunk} {g cap : Nat} {A : Option Addr} {T : List KH} {k : List UInt8} {h : Int} (W : Wd w0 (docP g A cap T L) w) (hT : KhOk T) (hl : T.length ≤ 2097152) (hk : k.length ≤ 1048576) :
   RetsO Try.prog 52 #[.pointer (some ⟨g, 0, none⟩), .string (Fw.bs k), .int .u64 h] w0 w fun u L' => ∃ A2 e2, u = .int .i64 (setE k) ∧ L' = docP g A2 e2 (setK k h T) L := by
 cases hn : nameB k with
 | false =>
   have rw_n := hn
   have e1 : setE k = 6 := by unfold setE; rw [if_neg (by rw [hn]; simp)]
   have e2 : setK k h T = T := by unfold setK; rw [if_neg (by rw [hn]; simp)]
   unfold Go.Fw.RetsO
   refine enterW3 W func52 rfl ntmps52 rfl fun a S => sg S (.ac rfl <| .z) fun a w S => wp_seq_k fun _ hK1 => wp_seq_k fun _ hK2 => wp_region_lit (run S (.mv rfl <| .xx (Zi call18 (.cons (.t rfl) .nil) (fun hp w W => c18 _ _ (by assumption))) rfl <| .z) fun a w S => ?_)
   rw [rw_n] at S
   refine run S (.nt rfl <| .z) fun a w S => Zb (Za (hK2 _ _ (Ze S (.t rfl) (sg S (.ac rfl <| .z) fun a w S => wp_ret (Zj (Zk S (results1 S results52 (Rv.tmp rfl)) ?_))))))
   rw [e1, e2]
   exact ⟨_, _, rfl, S.wd.pk, A, cap, rfl, rfl⟩
 | true =>
   have rw_n := hn
   have e1 : setE k = 0 := by unfold setE; rw [if_pos hn]
   have e2 : setK k h T = setT k h T := by unfold setK; rw [if_pos hn]
   have hs := hT.sorted
   have rw_e : #[Value.int .i64 0, .string (Fw.bs k), .int .u64 h] = (Kh.enc (k, h)).toArray := rfl
   unfold Go.Fw.RetsO
   refine enterW3 W func52 rfl ntmps52 rfl fun a S => sg S (.ac rfl <| .z) fun a w S => wp_seq_k fun _ hK1 => wp_seq_k fun _ hK2 => wp_region_lit (run S (.mv rfl <| .xx (Zi call18 (.cons (.t rfl) .nil) (fun hp w W => c18 _ _ (by assumption))) rfl <| .z) fun a w S => ?_)
   rw [rw_n] at S
   refine run S (.nt rfl <| .z) fun a w S => Zb (Za (hK2 _ _ (Zf S (.t rfl) (wp_skip (Za (hK1 _ _ (sg S (.ac rfl <| .z) fun a w S => sg S (.ac rfl <| .z) fun a w S => wp_seq_k fun _ hK1 => sg S (.ac rfl <| .z) fun a w S => wp_block ?_)))))))
   refine Ye (S.nil_ 28 3 Kh.enc none) [7, 8, 9] (X := Nat × Bool × Option Addr × Nat) (fun q => [(7, true, .slice q.2.2.1 (outT k h (T.take q.1) q.2.1).length q.2.2.2), (8, true, .bool q.2.1), (9, true, .int .i64 (q.1 : Int))])
     (fun q => rowOf 28 3 Kh.enc q.2.2.1 q.2.2.2 (outT k h (T.take q.1) q.2.1) :: docP g A cap T L)
     (fun q => q.1 ≤ T.length ∧ (if q.2.1 then ∃ y ∈ T.take q.1, Op.bytesLess y.1 k = false else ∀ y ∈ T.take q.1, Op.bytesLess y.1 k = true)) (fun q => T.length - q.1) (0, false, none, 0) ⟨Nat.zero_le _, by simp⟩ ?_
   clear S
   rintro ⟨i, done, B, cB⟩ a w ⟨hi, hd⟩ S
   dsimp only at hi hd S
   have hol := outT_len k h T i done
   by_cases hlt : i < T.length
   · obtain ⟨ga, rfl⟩ := S.wd.row_at (k := 2) rfl (by have := (S.wd.room (k := 2) rfl).1; omega)
     obtain ⟨x, hx⟩ : ∃ x, T[i]? = some x := ⟨_, List.getElem?_eq_getElem hlt⟩
     have rw_i : IntKind.i64.wrap ((i : Int) + 1) = ((i + 1 : Nat) : Int) := by rw [IntKind.wrap_i64]; omega
     have ht : T.take (i + 1) = T.take i ++ [x] := by rw [List.take_add_one, hx, Option.toList_some]
     cases done with
     | true =>
       rw [if_pos rfl] at hd
       have hne : x.1 ≠ k := by
         obtain ⟨y, hy, hy2⟩ := hd
         intro e
         have hyx : Op.bytesLess y.1 x.1 = true := by
           have h1 := hs.sublist (List.take_sublist (i + 1) T)
           rw [ht, List.pairwise_append] at h1
           exact h1.2.2 y hy x (by simp)
         rw [e, hy2] at hyx; cases hyx
       have hst : outT k h (T.take (i + 1)) true = outT k h (T.take i) true ++ [x] := by unfold outT; rw [ht, if_pos rfl, if_pos rfl, setT_done hd]
       have rw_x : decide (x.1 ≠ k) = true := decide_eq_true hne
       generalize outT k h (T.take i) true = O at *
       refine wp_seq_k fun _ hK2 => sg S (.mv rfl <| .mv rfl <| .yy (Zz (.t rfl)) rfl <| .fa underlying69 sizeOf22 0 rfl rfl rfl <| .ld gt22 1 rfl rfl rfl <| .ln underlying22 rfl <| .lt (by omega) rfl rfl <| .z) fun a w S => Ze S (.t rfl) (wp_skip (Za (hK2 _ _ (wp_seq_k fun _ hK2 => wp_block (wp_seq_k fun _ hK3 => sg S (.mv rfl <| .nt rfl <| .mv rfl <| .sk rfl rfl rfl <| .sk rfl rfl rfl <| .sk rfl rfl rfl <| .sk rfl rfl rfl <| .sk rfl rfl rfl <| .sk rfl rfl rfl <| .sk rfl rfl rfl <| .sk rfl rfl rfl <| .sk rfl rfl rfl <| .sk rfl rfl rfl <| .yy (Zs (.t rfl) Ev.c) rfl <| .z) fun a w S => Zf S (.t rfl) (wp_skip (Za (hK3 _ _ (wp_seq_k fun _ hK3 => wp_region_lit (run S (.mv rfl <| .yy (Zz (.t rfl)) rfl <| .fa underlying69 sizeOf22 0 rfl rfl rfl <| .ld gt22 1 rfl rfl rfl <| .mv rfl <| .ix underlying22 sizeOf28 (by omega) rfl rfl <| .yy (Yz (FieldT.mk underlying28 rfl sizeOf9 rfl) (.t rfl)) rfl <| .yy (ys_ldW ⟨isAgg9, sizeOf9⟩ (.t rfl) (k := 2) rfl hx (fun _ => rfl) rfl) rfl <| .mv rfl <| .yy (ys_neqStr (.t rfl) (.t rfl)) rfl <| .z) fun a w S => ?_))))))))))
       rw [rw_x] at S
       refine Zb (Za (hK3 _ _ (Ze S (.t rfl) (wp_region_lit (run S (.mv rfl <| .mv rfl <| .yy (Zz (.t rfl)) rfl <| .fa underlying69 sizeOf22 0 rfl rfl rfl <| .ld gt22 1 rfl rfl rfl <| .mv rfl <| .ix underlying22 sizeOf28 (by omega) rfl rfl <| .yy (Xn ⟨isAgg28, sizeOf28⟩ (.t rfl) (k := 2) rfl hx (fun _ => rfl)) rfl <| .z) fun a w S => Zh (Zm S underlying22 inf28 rfl rfl rfl (.t rfl) rfl rfl rfl fun g1 a w S => Zh (Zw S underlying22 inf28 rfl (k := 1) (j := 0) rfl (.t rfl) (.t rfl) rfl rfl rfl rfl (by first | omega | (simp only [List.length_append, List.length_cons, List.length_nil]; omega)) rfl rfl rfl fun A1 cap1 a w S => run S (.as rfl <| .z) fun a w S => Zb (Zg (Za (hK2 _ _ (wp_region_lit (run S (.mv rfl <| .ad (by unfold I64; omega) rfl <| .as rfl <| .z) fun a w S => Zb (Za ?_)))))))))))))
       refine ⟨(i + 1, true, A1, cap1), ⟨by dsimp only; omega, ?_⟩, by dsimp only; omega, ?_⟩
       · dsimp only
         rw [if_pos rfl, ht]
         obtain ⟨y, hy, hy2⟩ := hd
         exact ⟨y, List.mem_append_left _ hy, hy2⟩
       · dsimp only; rw [hst]; exact S.pk
     | false =>
       rw [if_neg (by simp)] at hd
       rcases Classical.em (Op.bytesLess x.1 k = true) with hxk | hxk
       · have hst : outT k h (T.take (i + 1)) false = outT k h (T.take i) false ++ [x] := by unfold outT; rw [ht, if_neg (by simp), if_neg (by simp)]
         have rw_x : decide (x.1 ≠ k) = true := decide_eq_true (less_ne hxk)
         generalize outT k h (T.take i) false = O at *
         have rw_l := hxk
         refine wp_seq_k fun _ hK2 => sg S (.mv rfl <| .mv rfl <| .yy (Zz (.t rfl)) rfl <| .fa underlying69 sizeOf22 0 rfl rfl rfl <| .ld gt22 1 rfl rfl rfl <| .ln underlying22 rfl <| .lt (by omega) rfl rfl <| .z) fun a w S => Ze S (.t rfl) (wp_skip (Za (hK2 _ _ (wp_seq_k fun _ hK2 => wp_block (wp_seq_k fun _ hK3 => wp_seq_k fun _ hK4 => wp_region_lit (run S (.mv rfl <| .nt rfl <| .mv rfl <| .gy rfl rfl (Zd (.t rfl)) <| .gy rfl rfl (Zd (.t rfl)) <| .gy rfl rfl (Zz (.t rfl)) <| .gy rfl rfl (Zp (FieldT.mk underlying69 rfl sizeOf22 rfl) (.t rfl) (i' := 0) rfl) <| .gy rfl rfl (Yg ⟨isAgg22, sizeOf22⟩ (.t rfl) (k := 1) rfl rfl) <| .gy rfl rfl (Zd (.t rfl)) <| .gy rfl rfl (Yi underlying22 sizeOf28 (.t rfl) (.t rfl) (fun _ => by omega)) <| .gy rfl rfl (Yz (FieldT.mk underlying28 rfl sizeOf9 rfl) (.t rfl)) <| .gy rfl rfl (ys_ldW ⟨isAgg9, sizeOf9⟩ (.t rfl) (k := 2) rfl hx (fun _ => rfl) rfl) <| .gy rfl rfl (ys_leqStr (.t rfl) (.t rfl)) <| .z) fun a w S => ?_))))))
         rw [rw_l] at S
         refine run S (.yy (Zu (.t rfl) (.t rfl)) rfl <| .z) fun a w S => Zb (Za (hK4 _ _ (Zf S (.t rfl) (wp_skip (Za (hK3 _ _ (wp_seq_k fun _ hK3 => wp_region_lit (run S (.mv rfl <| .yy (Zz (.t rfl)) rfl <| .fa underlying69 sizeOf22 0 rfl rfl rfl <| .ld gt22 1 rfl rfl rfl <| .mv rfl <| .ix underlying22 sizeOf28 (by omega) rfl rfl <| .yy (Yz (FieldT.mk underlying28 rfl sizeOf9 rfl) (.t rfl)) rfl <| .yy (ys_ldW ⟨isAgg9, sizeOf9⟩ (.t rfl) (k := 2) rfl hx (fun _ => rfl) rfl) rfl <| .mv rfl <| .yy (ys_neqStr (.t rfl) (.t rfl)) rfl <| .z) fun a w S => ?_))))))))
         rw [rw_x] at S
         refine Zb (Za (hK3 _ _ (Ze S (.t rfl) (wp_region_lit (run S (.mv rfl <| .mv rfl <| .yy (Zz (.t rfl)) rfl <| .fa underlying69 sizeOf22 0 rfl rfl rfl <| .ld gt22 1 rfl rfl rfl <| .mv rfl <| .ix underlying22 sizeOf28 (by omega) rfl rfl <| .yy (Xn ⟨isAgg28, sizeOf28⟩ (.t rfl) (k := 2) rfl hx (fun _ => rfl)) rfl <| .z) fun a w S => Zh (Zm S underlying22 inf28 rfl rfl rfl (.t rfl) rfl rfl rfl fun g1 a w S => Zh (Zw S underlying22 inf28 rfl (k := 1) (j := 0) rfl (.t rfl) (.t rfl) rfl rfl rfl rfl (by first | omega | (simp only [List.length_append, List.length_cons, List.length_nil]; omega)) rfl rfl rfl fun A1 cap1 a w S => run S (.as rfl <| .z) fun a w S => Zb (Zg (Za (hK2 _ _ (wp_region_lit (run S (.mv rfl <| .ad (by unfold I64; omega) rfl <| .as rfl <| .z) fun a w S => Zb (Za ?_)))))))))))))
         refine ⟨(i + 1, false, A1, cap1), ⟨by dsimp only; omega, ?_⟩, by dsimp only; omega, ?_⟩
         · dsimp only
           rw [if_neg (by simp), ht]
           intro y hy
           rw [List.mem_append, List.mem_singleton] at hy
           rcases hy with hy | rfl
           · exact hd y hy
           · exact hxk
         · dsimp only; rw [hst]; exact S.pk
       · have hxk' : Op.bytesLess x.1 k = false := by simpa using hxk
         by_cases hke : x.1 = k
         · have hst : outT k h (T.take (i + 1)) true = outT k h (T.take i) false ++ [(k, h)] := by
             unfold outT
             rw [ht, if_pos rfl, if_neg (by simp)]
             obtain ⟨x1, x2⟩ := x
             dsimp only at hke
             subst hke
             exact setT_eq hd
           have rw_x : decide (x.1 ≠ k) = false := decide_eq_false (fun h => h hke)
           generalize outT k h (T.take i) false = O at *
           have rw_l := hxk'
           refine wp_seq_k fun _ hK2 => sg S (.mv rfl <| .mv rfl <| .yy (Zz (.t rfl)) rfl <| .fa underlying69 sizeOf22 0 rfl rfl rfl <| .ld gt22 1 rfl rfl rfl <| .ln underlying22 rfl <| .lt (by omega) rfl rfl <| .z) fun a w S => Ze S (.t rfl) (wp_skip (Za (hK2 _ _ (wp_seq_k fun _ hK2 => wp_block (wp_seq_k fun _ hK3 => wp_seq_k fun _ hK4 => wp_region_lit (run S (.mv rfl <| .nt rfl <| .mv rfl <| .gy rfl rfl (Zd (.t rfl)) <| .gy rfl rfl (Zd (.t rfl)) <| .gy rfl rfl (Zz (.t rfl)) <| .gy rfl rfl (Zp (FieldT.mk underlying69 rfl sizeOf22 rfl) (.t rfl) (i' := 0) rfl) <| .gy rfl rfl (Yg ⟨isAgg22, sizeOf22⟩ (.t rfl) (k := 1) rfl rfl) <| .gy rfl rfl (Zd (.t rfl)) <| .gy rfl rfl (Yi underlying22 sizeOf28 (.t rfl) (.t rfl) (fun _ => by omega)) <| .gy rfl rfl (Yz (FieldT.mk underlying28 rfl sizeOf9 rfl) (.t rfl)) <| .gy rfl rfl (ys_ldW ⟨isAgg9, sizeOf9⟩ (.t rfl) (k := 2) rfl hx (fun _ => rfl) rfl) <| .gy rfl rfl (ys_leqStr (.t rfl) (.t rfl)) <| .z) fun a w S => ?_))))))
           rw [rw_l] at S
           refine run S (.yy (Zu (.t rfl) (.t rfl)) rfl <| .z) fun a w S => Zb (Za (hK4 _ _ (Ze S (.t rfl) (wp_seq_k fun _ hK4 => wp_region_lit (run S (.mv rfl <| .mv rfl <| .mv rfl <| .yy (Xc (ps := [(1, Go.Operand.tmp 37), (2, Go.Operand.tmp 38)]) (us := [_, _, _]) bld28 (.cons (.t rfl) (.cons (.t rfl) .nil)) rfl) rfl <| .z) fun a w S => ?_)))))
           rw [rw_e] at S
           refine Zh (Zm S underlying22 inf28 rfl rfl rfl (.t rfl) rfl rfl rfl fun g1 a w S => ?_)
           rw [rw_e] at S
           refine Zh (Zw S underlying22 inf28 rfl (k := 1) (j := 0) rfl (.t rfl) (.t rfl) rfl rfl rfl rfl (by first | omega | (simp only [List.length_append, List.length_cons, List.length_nil]; omega)) rfl rfl rfl fun A1 cap1 a w S => ?_)
           rw [rw_e] at S
           refine run S (.as rfl <| .z) fun a w S => ?_
           rw [rw_e] at S
           refine Zb ?_
           rw [rw_e] at S
           refine Za (hK4 _ _ ?_)
           rw [rw_e] at S
           refine wp_region_lit ?_
           rw [rw_e] at S
           refine run S (.ac rfl <| .z) fun a w S => ?_
           rw [rw_e] at S
           refine Zb ?_
           rw [rw_e] at S
           refine Za (hK3 _ _ ?_)
           rw [rw_e] at S
           refine wp_seq_k fun _ hK3 => ?_
           rw [rw_e] at S
           refine wp_region_lit ?_
           rw [rw_e] at S
           refine run S (.mv rfl <| .z) fun a w S => ?_
           rw [rw_e] at S
           refine run S (.yy (Zz (.t rfl)) rfl <| .z) fun a w S => ?_
           rw [rw_e] at S
           refine run S (.fa underlying69 sizeOf22 0 rfl rfl rfl <| .z) fun a w S => ?_
           rw [rw_e] at S
           refine run S (.ld gt22 2 rfl rfl rfl <| .z) fun a w S => ?_
           rw [rw_e] at S
           refine run S (.mv rfl <| .z) fun a w S => ?_
           rw [rw_e] at S
           refine run S (.ix underlying22 sizeOf28 (by omega) rfl rfl <| .z) fun a w S => ?_
           rw [rw_e] at S
           refine run S (.yy (Yz (FieldT.mk underlying28 rfl sizeOf9 rfl) (.t rfl)) rfl <| .z) fun a w S => ?_
           rw [rw_e] at S
           refine run S (.yy (ys_ldW ⟨isAgg9, sizeOf9⟩ (.t rfl) (k := 3) rfl hx (fun _ => rfl) rfl) rfl <| .z) fun a w S => ?_
           rw [rw_e] at S
           refine run S (.mv rfl <| .z) fun a w S => ?_
           rw [rw_e] at S
           refine run S (.yy (ys_neqStr (.t rfl) (.t rfl)) rfl <| .z) fun a w S => ?_
           rw [rw_e] at S
           rw [rw_x] at S
           refine Zb ?_
           rw [rw_e] at S
           refine Za (hK3 _ _ ?_)
           rw [rw_e] at S
           refine Zf S (.t rfl) ?_
           rw [rw_e] at S
           refine wp_skip ?_
           rw [rw_e] at S
           refine Zg (Za (hK2 _ _ ?_))
           rw [rw_e] at S
           refine wp_region_lit ?_
           rw [rw_e] at S
           refine run S (.mv rfl <| .z) fun a w S => ?_
           rw [rw_e] at S
           refine run S (.ad (by unfold I64; omega) rfl <| .z) fun a w S => ?_
           rw [rw_e] at S
           refine run S (.as rfl <| .z) fun a w S => ?_
           rw [rw_e] at S
           refine Zb ?_
           rw [rw_e] at S
           refine Za ?_
           rw [rw_e] at S
           refine ⟨(i + 1, true, A1, cap1), ⟨by dsimp only; omega, ?_⟩, by dsimp only; omega, ?_⟩
           · dsimp only
             rw [if_pos rfl, ht]
             exact ⟨x, by simp, hxk'⟩
           · dsimp only; rw [hst]; exact S.pk
         · have hlt2 : Op.bytesLess k x.1 = true := (Xt (fun e => hke e.symm)).resolve_right hxk
           have hst : outT k h (T.take (i + 1)) true = outT k h (T.take i) false ++ [(k, h)] ++ [x] := by
             unfold outT
             rw [ht, if_pos rfl, if_neg (by simp), setT_lt hlt2 hd]
           have rw_x : decide (x.1 ≠ k) = true := decide_eq_true hke
           generalize outT k h (T.take i) false = O at *
           have rw_l := hxk'
           refine wp_seq_k fun _ hK2 => sg S (.mv rfl <| .mv rfl <| .yy (Zz (.t rfl)) rfl <| .fa underlying69 sizeOf22 0 rfl rfl rfl <| .ld gt22 1 rfl rfl rfl <| .ln underlying22 rfl <| .lt (by omega) rfl rfl <| .z) fun a w S => Ze S (.t rfl) (wp_skip (Za (hK2 _ _ (wp_seq_k fun _ hK2 => wp_block (wp_seq_k fun _ hK3 => wp_seq_k fun _ hK4 => wp_region_lit (run S (.mv rfl <| .nt rfl <| .mv rfl <| .gy rfl rfl (Zd (.t rfl)) <| .gy rfl rfl (Zd (.t rfl)) <| .gy rfl rfl (Zz (.t rfl)) <| .gy rfl rfl (Zp (FieldT.mk underlying69 rfl sizeOf22 rfl) (.t rfl) (i' := 0) rfl) <| .gy rfl rfl (Yg ⟨isAgg22, sizeOf22⟩ (.t rfl) (k := 1) rfl rfl) <| .gy rfl rfl (Zd (.t rfl)) <| .gy rfl rfl (Yi underlying22 sizeOf28 (.t rfl) (.t rfl) (fun _ => by omega)) <| .gy rfl rfl (Yz (FieldT.mk underlying28 rfl sizeOf9 rfl) (.t rfl)) <| .gy rfl rfl (ys_ldW ⟨isAgg9, sizeOf9⟩ (.t rfl) (k := 2) rfl hx (fun _ => rfl) rfl) <| .gy rfl rfl (ys_leqStr (.t rfl) (.t rfl)) <| .z) fun a w S => ?_))))))
           rw [rw_l] at S
           refine run S (.yy (Zu (.t rfl) (.t rfl)) rfl <| .z) fun a w S => Zb (Za (hK4 _ _ (Ze S (.t rfl) (wp_seq_k fun _ hK4 => wp_region_lit (run S (.mv rfl <| .mv rfl <| .mv rfl <| .yy (Xc (ps := [(1, Go.Operand.tmp 37), (2, Go.Operand.tmp 38)]) (us := [_, _, _]) bld28 (.cons (.t rfl) (.cons (.t rfl) .nil)) rfl) rfl <| .z) fun a w S => ?_)))))
           rw [rw_e] at S
           refine Zh (Zm S underlying22 inf28 rfl rfl rfl (.t rfl) rfl rfl rfl fun g1 a w S => ?_)
           rw [rw_e] at S
           refine Zh (Zw S underlying22 inf28 rfl (k := 1) (j := 0) rfl (.t rfl) (.t rfl) rfl rfl rfl rfl (by first | omega | (simp only [List.length_append, List.length_cons, List.length_nil]; omega)) rfl rfl rfl fun A1 cap1 a w S => ?_)
           rw [rw_e] at S
           refine run S (.as rfl <| .z) fun a w S => ?_
           rw [rw_e] at S
           refine Zb ?_
           rw [rw_e] at S
           refine Za (hK4 _ _ ?_)
           rw [rw_e] at S
           refine wp_region_lit ?_
           rw [rw_e] at S
           refine run S (.ac rfl <| .z) fun a w S => ?_
           rw [rw_e] at S
           refine Zb ?_
           rw [rw_e] at S
           refine Za (hK3 _ _ ?_)
           rw [rw_e] at S
           refine wp_seq_k fun _ hK3 => ?_
           rw [rw_e] at S
           refine wp_region_lit ?_
           rw [rw_e] at S
           refine run S (.mv rfl <| .z) fun a w S => ?_
           rw [rw_e] at S
           refine run S (.yy (Zz (.t rfl)) rfl <| .z) fun a w S => ?_
           rw [rw_e] at S
           refine run S (.fa underlying69 sizeOf22 0 rfl rfl rfl <| .z) fun a w S => ?_
           rw [rw_e] at S
           refine run S (.ld gt22 2 rfl rfl rfl <| .z) fun a w S => ?_
           rw [rw_e] at S
           refine run S (.mv rfl <| .z) fun a w S => ?_
           rw [rw_e] at S
           refine run S (.ix underlying22 sizeOf28 (by omega) rfl rfl <| .z) fun a w S => ?_
           rw [rw_e] at S
           refine run S (.yy (Yz (FieldT.mk underlying28 rfl sizeOf9 rfl) (.t rfl)) rfl <| .z) fun a w S => ?_
           rw [rw_e] at S
           refine run S (.yy (ys_ldW ⟨isAgg9, sizeOf9⟩ (.t rfl) (k := 3) rfl hx (fun _ => rfl) rfl) rfl <| .z) fun a w S => ?_
           rw [rw_e] at S
           refine run S (.mv rfl <| .z) fun a w S => ?_
           rw [rw_e] at S
           refine run S (.yy (ys_neqStr (.t rfl) (.t rfl)) rfl <| .z) fun a w S => ?_
           rw [rw_e] at S
           rw [rw_x] at S
           refine Zb ?_
           rw [rw_e] at S
           refine Za (hK3 _ _ ?_)
           rw [rw_e] at S
           refine Ze S (.t rfl) ?_
           rw [rw_e] at S
           refine wp_region_lit ?_
           rw [rw_e] at S
           refine run S (.mv rfl <| .z) fun a w S => ?_
           rw [rw_e] at S
           refine run S (.mv rfl <| .z) fun a w S => ?_
           rw [rw_e] at S
           refine run S (.yy (Zz (.t rfl)) rfl <| .z) fun a w S => ?_
           rw [rw_e] at S
           refine run S (.fa underlying69 sizeOf22 0 rfl rfl rfl <| .z) fun a w S => ?_
           rw [rw_e] at S
           refine run S (.ld gt22 2 rfl rfl rfl <| .z) fun a w S => ?_
           rw [rw_e] at S
           refine run S (.mv rfl <| .z) fun a w S => ?_
           rw [rw_e] at S
           refine run S (.ix underlying22 sizeOf28 (by omega) rfl rfl <| .z) fun a w S => ?_
           rw [rw_e] at S
           refine run S (.yy (Xn ⟨isAgg28, sizeOf28⟩ (.t rfl) (k := 3) rfl hx (fun _ => rfl)) rfl <| .z) fun a w S => ?_
           rw [rw_e] at S
           refine Zh (Zm S underlying22 inf28 rfl rfl rfl (.t rfl) rfl rfl rfl fun g2 a w S => ?_)
           rw [rw_e] at S
           refine Zh (Zw S underlying22 inf28 rfl (k := 2) (j := 0) rfl (.t rfl) (.t rfl) rfl rfl rfl rfl (by first | omega | (simp only [List.length_append, List.length_cons, List.length_nil]; omega)) rfl rfl rfl fun A2 cap2 a w S => ?_)
           rw [rw_e] at S
           refine run S (.as rfl <| .z) fun a w S => ?_
           rw [rw_e] at S
           refine Zb ?_
           rw [rw_e] at S
           refine Zg (Za (hK2 _ _ ?_))
           rw [rw_e] at S
           refine wp_region_lit ?_
           rw [rw_e] at S
           refine run S (.mv rfl <| .z) fun a w S => ?_
           rw [rw_e] at S
           refine run S (.ad (by unfold I64; omega) rfl <| .z) fun a w S => ?_
           rw [rw_e] at S
           refine run S (.as rfl <| .z) fun a w S => ?_
           rw [rw_e] at S
           refine Zb ?_
           rw [rw_e] at S
           refine Za ?_
           rw [rw_e] at S
           refine ⟨(i + 1, true, A2, cap2), ⟨by dsimp only; omega, ?_⟩, by dsimp only; omega, ?_⟩
           · dsimp only
             rw [if_pos rfl, ht]
             exact ⟨x, by simp, hxk'⟩
           · dsimp only; rw [hst]; exact S.pk
   obtain rfl : i = T.length := by omega
   rw [List.take_length] at S hd hol
   cases done with
   | true =>
     have hst : outT k h T true = setT k h T := by unfold outT; rw [if_pos rfl]
     rw [hst] at S
     refine wp_seq_k fun _ hK2 => sg S (.mv rfl <| .mv rfl <| .yy (Zz (.t rfl)) rfl <| .fa underlying69 sizeOf22 0 rfl rfl rfl <| .ld gt22 1 rfl rfl rfl <| .ln underlying22 rfl <| .ge (by omega) rfl rfl <| .z) fun a w S => Zf S (.t rfl) (wp_exit (Zc (Zc (Zn (Za (hK1 _ _ (wp_seq_k fun _ hK1 => sg S (.mv rfl <| .nt rfl <| .z) fun a w S => Zf S (.t rfl) (wp_skip (Za (hK1 _ _ (wp_seq_k fun _ hK1 => wp_region_lit (run S (.mv rfl <| .mv rfl <| .yy (Zz (.t rfl)) rfl <| .fa underlying69 sizeOf22 0 rfl rfl rfl <| .z) fun a w S => Zh (Xy S sizeOf22 (.t rfl) (.t rfl) (k := 1) rfl rfl (by simp) fun a w S => Zb (Za (hK1 _ _ (sg S (.ac rfl <| .z) fun a w S => wp_ret (Zk S (results1 S results52 (Rv.tmp rfl)) ?_)))))))))))))))))
     rw [e1, e2]
     exact ⟨_, docP g B cB (setT k h T) L, rfl, S.wd.pk, _, _, rfl, rfl⟩
   | false =>
     rw [if_neg (by simp)] at hd
     have hst : setT k h T = outT k h T false ++ [(k, h)] := by unfold outT; rw [if_neg (by simp), setT_end hd]
     generalize outT k h T false = O at *
     refine wp_seq_k fun _ hK2 => sg S (.mv rfl <| .mv rfl <| .yy (Zz (.t rfl)) rfl <| .fa underlying69 sizeOf22 0 rfl rfl rfl <| .ld gt22 1 rfl rfl rfl <| .ln underlying22 rfl <| .ge (by omega) rfl rfl <| .z) fun a w S => Zf S (.t rfl) (wp_exit (Zc (Zc (Zn (Za (hK1 _ _ (wp_seq_k fun _ hK1 => sg S (.mv rfl <| .nt rfl <| .z) fun a w S => Ze S (.t rfl) (wp_region_lit (run S (.mv rfl <| .mv rfl <| .mv rfl <| .yy (Xc (ps := [(1, Go.Operand.tmp 65), (2, Go.Operand.tmp 66)]) (us := [_, _, _]) bld28 (.cons (.t rfl) (.cons (.t rfl) .nil)) rfl) rfl <| .z) fun a w S => ?_)))))))))
     rw [rw_e] at S
     refine Zh (Zm S underlying22 inf28 rfl rfl rfl (.t rfl) rfl rfl rfl fun g1 a w S => ?_)
     rw [rw_e] at S
     refine Zh (Zw S underlying22 inf28 rfl (k := 1) (j := 0) rfl (.t rfl) (.t rfl) rfl rfl rfl rfl (by first | omega | (simp only [List.length_append, List.length_cons, List.length_nil]; omega)) rfl rfl rfl fun A1 cap1 a w S => ?_)
     rw [rw_e] at S
     refine run S (.as rfl <| .z) fun a w S => ?_
     rw [rw_e] at S
     refine Zb ?_
     rw [rw_e] at S
     refine Za (hK1 _ _ ?_)
     rw [rw_e] at S
     refine wp_seq_k fun _ hK1 => ?_
     rw [rw_e] at S
     refine wp_region_lit ?_
     rw [rw_e] at S
     refine run S (.mv rfl <| .z) fun a w S => ?_
     rw [rw_e] at S
     refine run S (.mv rfl <| .z) fun a w S => ?_
     rw [rw_e] at S
     refine run S (.yy (Zz (.t rfl)) rfl <| .z) fun a w S => ?_
     rw [rw_e] at S
     refine run S (.fa underlying69 sizeOf22 0 rfl rfl rfl <| .z) fun a w S => ?_
     rw [rw_e] at S
     refine Zh (Xy S sizeOf22 (.t rfl) (.t rfl) (k := 2) rfl rfl (by simp) fun a w S => ?_)
     rw [rw_e] at S
     refine Zb ?_
     rw [rw_e] at S
     refine Za (hK1 _ _ ?_)
     rw [rw_e] at S
     refine wp_seq_k fun _ hK1 => ?_
     rw [rw_e] at S
     refine wp_region_lit ?_
     rw [rw_e] at S
     refine run S (.ac rfl <| .z) fun a w S => ?_
     rw [rw_e] at S
     refine Zb ?_
     rw [rw_e] at S
     refine Za (hK1 _ _ ?_)
     rw [rw_e] at S
     refine wp_ret ?_
     rw [rw_e] at S
     refine Zk S (results1 S results52 (Rv.tmp rfl)) ?_
     rw [rw_e] at S
     rw [e1, e2, hst]
     exact ⟨_, docP g A1 cap1 (O ++ [(k, h)]) L, rfl, S.wd.pk, _, _, rfl, rfl⟩
end Go.Proofs.Ytbijdmfilmecbaa
namespace Go.Fw
def idxW {α : Type} (p : α → Bool) : Nat → List α → Int
 | _, [] => -1
 | k, y :: r => if p y then (k : Int) else idxW p (k + 1) r
theorem idxW_any {α : Type} (p : α → Bool) : ∀ (l : List α) (k : Nat), decide (0 ≤ idxW p k l) = l.any p
 | [], k => rfl
 | y :: r, k => by
   unfold idxW
   by_cases h : p y = true
   · rw [if_pos h, List.any_cons, h, Bool.true_or]
     exact decide_eq_true (by omega)
   · rw [if_neg h, idxW_any p r (k + 1), List.any_cons, Bool.eq_false_iff.2 h, Bool.false_or]
section
variable {α : Type} [DecidableEq α]
def idxG (x : α) : Nat → List α → Int
 | _, [] => -1
 | k, y :: r => if y = x then (k : Int) else idxG x (k + 1) r
theorem idxG_mem (x : α) : ∀ (l : List α) (k : Nat), decide (0 ≤ idxG x k l) = decide (x ∈ l)
 | [], k => by simp [idxG]
 | y :: r, k => by
   unfold idxG
   by_cases h : y = x
   · subst h; simp
   · rw [if_neg h, idxG_mem x r (k + 1)]
     have h' : ¬ x = y := fun e => h e.symm
     simp [h']
end
theorem sm_iff {x y : Sm} : x = y ↔ x.place = y.place ∧ x.key = y.key ∧ x.hash = y.hash := by
 obtain ⟨a, b, c⟩ := x
 obtain ⟨a', b', c'⟩ := y
 simp
end Go.Fw
namespace Go.Proofs.Ytbijdmfilmecbaa
open Go.Fw Go.Proofs Go.RowKit Go.Proofs.Try
def ReadsV {α : Type} (enc : α → List Value) (w0 : World) (f : FuncId) (cs : List Value) (l : List α) (p : α → Bool) : Prop := ∀ w', Wd w0 [] w' → ∀ x ∈ l, Calls Try.prog f ([Value.agg (enc x).toArray] ++ cs).toArray w' fun e w'' => e = .returned (.bool (p x)) ∧ Bel w'.heap.size w' w''
def ReadsI (w0 : World) (f : FuncId) (cs : List Value) (l : List Int) (p : Int → Bool) : Prop := ∀ w', Wd w0 [] w' → ∀ x ∈ l, Calls Try.prog f ([Value.int .i64 x] ++ cs).toArray w' fun e w'' => e = .returned (.bool (p x)) ∧ Bel w'.heap.size w' w''
theorem c24 (w0 : World) (v v' : Value) (l l' : List Sm) (h : Sl Sm.enc 3 w0 w0.heap.size v l) (h' : Sl Sm.enc 3 w0 w0.heap.size v' l') :
   Calls Try.prog 24 #[v, v'] w0 fun e w' => e = .returned (.bool (decide (l = l'))) ∧ Bel w0.heap.size w0 w' := by
 obtain ⟨A, cap, rfl, hl, hcap, hA⟩ := h
 obtain ⟨A', cap', rfl, hl', hcap', hA'⟩ := h'
 refine enter2 func24 rfl ntmps24 rfl fun a S => sg S (.ac rfl <| .z) fun a w S => wp_seq_k fun _ hK1 => sg S (.mv rfl <| .ln underlying22 rfl <| .mv rfl <| .ln underlying22 rfl <| .yy (Yn (.t rfl) (.t rfl)) rfl <| .z) fun a w S => ?_
 refine st_if S (.t rfl) (fun h1 => ?_) (fun h1 => ?_)
 refine sg S (.ac rfl <| .z) fun a w S => wp_ret (Zj (Zk S (results1 S results24 (Rv.tmp rfl)) ?_))
 rotate_left
 refine wp_skip (Za (hK1 _ _ (wp_seq_k fun _ hK1 => sg S (.mv rfl <| .ln underlying22 rfl <| .mc rfl <| .z) fun a w S => wp_block ?_)))
 rotate_left
 · refine ⟨?_, S.wd.below⟩
   rw [decide_eq_false (fun e => h1 (by rw [e]))]
 · refine st_lpK S (X := Nat) (fun k => [(13, true, .int .i64 (k : Int))]) (fun _ L => L) (fun k => k ≤ l.length ∧ l.take k = l'.take k) (fun k => l.length - k) 0 ⟨Nat.zero_le _, rfl⟩ ?_
   clear S
   intro k a w ⟨hk, hno⟩ S
   by_cases hlt : k < l.length
   · obtain ⟨g, o, m, rfl, hmm, hd, hc⟩ := Yc hA hlt
     obtain ⟨g', o', m', rfl, hmm', hd', hc'⟩ := Yc hA' (show k < l'.length by omega)
     clear hA hA'
     refine sg S (.lt (by omega) rfl rfl <| .z) fun a w S => wp_seq_k fun _ hK2 => Ze S (.t rfl) (wp_skip (Za (hK2 _ _ (wp_seq_k fun _ hK2 => wp_block (sg S (.mv rfl <| .as rfl <| .z) fun a w S => wp_seq_k fun _ hK3 => Xk S (by kernel_rfl) (by kernel_rfl) fun a S => qrun S (.mv rfl <| .mv rfl <| .ix underlying22 sizeOf28 (by omega) rfl rfl <| .yy (Yh ⟨isAgg28, sizeOf28⟩ (.t rfl) (vs := [_, _, _]) rfl (fun _ => hc)) rfl <| .mv rfl <| .mv rfl <| .ix underlying22 sizeOf28 (by omega) rfl rfl <| .yy (Yh ⟨isAgg28, sizeOf28⟩ (.t rfl) (vs := [_, _, _]) rfl (fun _ => hc')) rfl <| .yy (ys_neA (.t rfl) (.t rfl) eq28) rfl <| .z) fun a S => ?_)))))
     (refine q_nil ?_; intro w W; replace S := St.mk S W; clear W)
     refine Za (hK3 _ _ ?_)
     refine st_cond S (.t rfl) (fun h2 => ?_) (fun h2 => ?_)
     refine sg S (.ac rfl <| .z) fun a w S => wp_ret (Yk (Zj (Zj (Yk (Zj (Zk S (results1 S results24 (Rv.tmp rfl)) ?_))))))
     rotate_left
     refine wp_skip (Zg (Za (hK2 _ _ (wp_region_lit (run S (.ad (by unfold I64; omega) rfl <| .mv rfl <| .z) fun a w S => Zb (Za ?_))))))
     rotate_left
     · refine ⟨?_, S.wd.below⟩
       have hne : ¬ m = m' := fun e => by
         have h3 := h2
         rw [sm_iff] at e
         simp at h3
         simp_all
       rw [at_ne hmm hmm' hne]
     · have heq : m = m' := by
         have h3 := h2
         rw [sm_iff]
         simpa using h3
       exact ⟨k + 1, ⟨by omega, at_step hno hmm hmm' heq⟩, by omega, S.wk⟩
   · refine sg S (.ge (by omega) rfl rfl <| .z) fun a w S => wp_seq_k fun _ hK2 => Zf S (.t rfl) (wp_exit (Zc (Zc (Zn (Za (hK1 _ _ (sg S (.ac rfl <| .z) fun a w S => wp_ret (Zk S (results1 S results24 (Rv.tmp rfl)) ?_))))))))
     refine ⟨?_, S.wd.below⟩
     rw [decide_eq_true]
     rw [List.take_of_length_le (by omega), List.take_of_length_le (by omega)] at hno
     exact hno
theorem c78 (w0 : World) (v1 : Value) (l : List Int) (x : Int) (h : Sl encI 1 w0 w0.heap.size v1 l) :
   Calls Try.prog 78 #[v1, .int .i64 x] w0 fun e w' => e = .returned (.int .i64 (idxG x 0 l)) ∧ Bel w0.heap.size w0 w' := by
 obtain ⟨A, cap, rfl, hl, hcap, hA⟩ := h
 refine enter2 func78 rfl ntmps78 rfl fun a S => sg S (.ac rfl <| .z) fun a w S => wp_seq_k fun _ hK1 => sg S (.mv rfl <| .ln underlying42 rfl <| .mc rfl <| .z) fun a w S => wp_block ?_
 refine st_lpK S (X := Nat) (fun k => [(8, true, .int .i64 (k : Int))]) (fun _ L => L) (fun k => k ≤ l.length ∧ idxG x k (l.drop k) = idxG x 0 l) (fun k => l.length - k) 0 ⟨Nat.zero_le _, rfl⟩ ?_
 clear S
 intro k a w ⟨hk, hno⟩ S
 by_cases hlt : k < l.length
 · obtain ⟨g, o, m, rfl, hm, hd, hc⟩ := Yc hA hlt
   clear hA
   refine sg S (.lt (by omega) rfl rfl <| .z) fun a w S => wp_seq_k fun _ hK2 => Ze S (.t rfl) (wp_skip (Za (hK2 _ _ (wp_seq_k fun _ hK2 => wp_block (sg S (.mv rfl <| .as rfl <| .z) fun a w S => sg S (.mv rfl <| .mv rfl <| .mv rfl <| .ix underlying42 sizeOf3 (by omega) rfl rfl <| .yy (Ya ⟨isAgg3, sizeOf3⟩ (.t rfl) (fun _ => hc 0 _ rfl)) rfl <| .yy (Yt (.t rfl) (.t rfl)) rfl <| .z) fun a w S => ?_)))))
   refine st_if S (.t rfl) (fun h1 => ?_) (fun h1 => ?_)
   refine sg S (.mv rfl <| .as rfl <| .z) fun a w S => wp_ret (Yk (Zj (Zj (Yk (Zj (Zk S (results1 S results78 (Rv.tmp rfl)) ?_))))))
   rotate_left
   refine wp_skip (Zg (Za (hK2 _ _ (wp_region_lit (run S (.ad (by unfold I64; omega) rfl <| .mv rfl <| .z) fun a w S => Zb (Za ?_))))))
   rotate_left
   · refine ⟨?_, S.wd.below⟩
     rw [← hno, hd, idxG, if_pos h1.symm]
   · rw [hd, idxG, if_neg (fun e => h1 e.symm)] at hno
     exact ⟨k + 1, ⟨by omega, hno⟩, by omega, S.wk⟩
 · refine sg S (.ge (by omega) rfl rfl <| .z) fun a w S => wp_seq_k fun _ hK2 => Zf S (.t rfl) (wp_exit (Zc (Zc (Zn (Za (hK1 _ _ (sg S (.ac rfl <| .z) fun a w S => wp_ret (Zk S (results1 S results78 (Rv.tmp rfl)) ?_))))))))
   refine ⟨?_, S.wd.below⟩
   rw [← hno, List.drop_eq_nil_of_le (by omega)]; rfl
theorem c59 (w0 : World) (v1 : Value) (l : List Int) (x : Int) (h : Sl encI 1 w0 w0.heap.size v1 l) :
   Calls Try.prog 59 #[v1, .int .i64 x] w0 fun e w' => e = .returned (.bool (decide (x ∈ l))) ∧ Bel w0.heap.size w0 w' := by
 refine enter2 func59 rfl ntmps59 rfl fun a S => sg S (.ac rfl <| .z) fun a w S => sg S (.mv rfl <| .mv rfl <| .xx (Zi call78 (.cons (.t rfl) (.cons (.t rfl) .nil)) (fun hp w W => c78 _ _ _ _ (by exact .old W (by assumption)))) rfl <| .yy (Yd (.t rfl) Ev.c) rfl <| .as rfl <| .z) fun a w S => wp_ret (Zk S (results1 S results59 (Rv.tmp rfl)) ?_)
 refine ⟨?_, S.wd.below⟩
 rw [idxG_mem]
theorem x98 (w0 : World) (v : Value) (l : List Int) (f : FuncId) (cs : List Value) (p : Int → Bool) (hf : ∀ args w, (callFunc f args).run Try.prog w = .ok (.enter f args) w) (hr : ReadsI w0 f cs l p) (h : Sl encI 1 w0 w0.heap.size v l) :
   Calls Try.prog 98 #[v, .func (.func f) #[] cs.toArray] w0 fun e w' => e = .returned (.int .i64 (idxW p 0 l)) ∧ Bel w0.heap.size w0 w' := by
 obtain ⟨A, cap, rfl, hl, hcap, hA⟩ := h
 refine enter2 func98 rfl ntmps98 rfl fun a S => sg S (.ac rfl <| .z) fun a w S => wp_seq_k fun _ hK1 => sg S (.mv rfl <| .ln underlying42 rfl <| .mc rfl <| .z) fun a w S => wp_block ?_
 refine Ye S [4, 5, 8] (X := Nat) (fun k => [(8, true, .int .i64 (k : Int))]) (fun _ => []) (fun k => k ≤ l.length ∧ idxW p k (l.drop k) = idxW p 0 l) (fun k => l.length - k) 0 ⟨Nat.zero_le _, rfl⟩ ?_
 clear S
 intro k a w ⟨hk, hno⟩ S
 by_cases hlt : k < l.length
 · obtain ⟨gq, oq, x, rfl, hx, hd, hcc⟩ := Yc hA hlt
   rw [hd] at hno
   have hrx := fun w' W' => hr w' W' x (List.mem_of_getElem? hx)
   refine sg S (.lt (by omega) rfl rfl <| .z) fun a w S => wp_seq_k fun _ hK2 => Ze S (.t rfl) (wp_skip (Za (hK2 _ _ (wp_seq_k fun _ hK2 => wp_block (sg S (.mv rfl <| .as rfl <| .z) fun a w S => wp_seq_k fun _ hK3 => wp_region_lit (run S (.mv rfl <| .mv rfl <| .mv rfl <| .ix underlying42 sizeOf3 (by omega) rfl rfl <| .yy (Ya ⟨isAgg3, sizeOf3⟩ (.t rfl) (fun _ => hcc 0 _ rfl)) rfl <| .z) fun a w S => st_y S (ys_callVC (cs := cs) (vs := [.int .i64 x]) (v := .bool (p x)) (.t rfl) hf (.cons (.t rfl) .nil) (fun _ w' W' => hrx w' (W'.sub (List.nil_sublist _)))) rfl ?_))))))
   clear S a w
   intro a w S
   cases hp : p x with
   | true =>
     rw [hp] at S
     refine Zb (Za (hK3 _ _ (Ze S (.t rfl) (sg S (.mv rfl <| .as rfl <| .z) fun a w S => wp_ret (Yk (Zj (Zj (Yk (Zj (Zk S (results1 S results98 (Rv.tmp rfl)) ?_))))))))))
     refine ⟨?_, S.wd.below⟩
     rw [← hno, idxW, if_pos hp]
   | false =>
     rw [hp] at S
     refine Zb (Za (hK3 _ _ (Zf S (.t rfl) (wp_skip (Zg (Za (hK2 _ _ (wp_region_lit (run S (.ad (by unfold I64; omega) rfl <| .mv rfl <| .z) fun a w S => Zb (Za ?_))))))))))
     rw [idxW, if_neg (by rw [hp]; decide)] at hno
     exact ⟨k + 1, ⟨by omega, hno⟩, by omega, S.pk⟩
 · obtain rfl : k = l.length := by omega
   rw [List.drop_length] at hno
   refine sg S (.ge (by omega) rfl rfl <| .z) fun a w S => wp_seq_k fun _ hK2 => Zf S (.t rfl) (wp_exit (Zc (Zc (Zn (Za (hK1 _ _ (sg S (.ac rfl <| .z) fun a w S => wp_ret (Zk S (results1 S results98 (Rv.tmp rfl)) ?_))))))))
   exact ⟨by rw [← hno]; rfl, S.wd.below⟩
theorem x72 (w0 : World) (v : Value) (l : List Int) (f : FuncId) (cs : List Value) (p : Int → Bool) (hf : ∀ args w, (callFunc f args).run Try.prog w = .ok (.enter f args) w) (hr : ReadsI w0 f cs l p) (h : Sl encI 1 w0 w0.heap.size v l) :
   Calls Try.prog 72 #[v, .func (.func f) #[] cs.toArray] w0 fun e w' => e = .returned (.bool (l.any p)) ∧ Bel w0.heap.size w0 w' := by
 have hs := h
 obtain ⟨A, cap, rfl, hl, hcap, hA⟩ := h
 refine enter2 func72 rfl ntmps72 rfl fun a S => sg S (.ac rfl <| .z) fun a w S => wp_seq_k fun _ hK1 => wp_region_lit (run S (.mv rfl <| .mv rfl <| .z) fun a w S => st_y S (Zi call98 (.cons (.t rfl) (.cons (.t rfl) .nil)) (fun _ w' W' => x98 w' _ l f cs p hf (fun w'' W'' => hr w'' ((W'.sub (List.nil_sublist _)).step W''.below)) (Sl.old W' hs))) rfl ?_)
 clear S a w
 intro a w S
 refine run S (.yy (Yd (.t rfl) Ev.c) rfl <| .as rfl <| .z) fun a w S => Zb (Za (hK1 _ _ (wp_ret (Zk S (results1 S results72 (Rv.tmp rfl)) ?_))))
 exact ⟨by rw [← idxW_any p l 0], S.wd.below⟩
theorem x49 (w0 : World) (v : Value) (l : List Sm) (f : FuncId) (cs : List Value) (p : Sm → Bool) (hf : ∀ args w, (callFunc f args).run Try.prog w = .ok (.enter f args) w) (hr : ReadsV Sm.enc w0 f cs l p) (h : Sl Sm.enc 3 w0 w0.heap.size v l) :
   Calls Try.prog 49 #[v, .func (.func f) #[] cs.toArray] w0 fun e w' => e = .returned (.int .i64 (idxW p 0 l)) ∧ Bel w0.heap.size w0 w' := by
 obtain ⟨A, cap, rfl, hl, hcap, hA⟩ := h
 refine enter2 func49 rfl ntmps49 rfl fun a S => sg S (.ac rfl <| .z) fun a w S => wp_seq_k fun _ hK1 => sg S (.mv rfl <| .ln underlying22 rfl <| .mc rfl <| .z) fun a w S => wp_block ?_
 refine Ye S [4, 5, 8] (X := Nat) (fun k => [(8, true, .int .i64 (k : Int))]) (fun _ => []) (fun k => k ≤ l.length ∧ idxW p k (l.drop k) = idxW p 0 l) (fun k => l.length - k) 0 ⟨Nat.zero_le _, rfl⟩ ?_
 clear S
 intro k a w ⟨hk, hno⟩ S
 by_cases hlt : k < l.length
 · obtain ⟨gq, oq, x, rfl, hx, hd, hcc⟩ := Yc hA hlt
   rw [hd] at hno
   have hrx := fun w' W' => hr w' W' x (List.mem_of_getElem? hx)
   refine sg S (.lt (by omega) rfl rfl <| .z) fun a w S => wp_seq_k fun _ hK2 => Ze S (.t rfl) (wp_skip (Za (hK2 _ _ (wp_seq_k fun _ hK2 => wp_block (sg S (.mv rfl <| .as rfl <| .z) fun a w S => wp_seq_k fun _ hK3 => wp_region_lit (run S (.mv rfl <| .mv rfl <| .mv rfl <| .ix underlying22 sizeOf28 (by omega) rfl rfl <| .yy (Yh ⟨isAgg28, sizeOf28⟩ (.t rfl) (vs := [_, _, _]) rfl (fun _ => hcc)) rfl <| .z) fun a w S => st_y S (ys_callVC (cs := cs) (vs := [.agg (Sm.enc x).toArray]) (v := .bool (p x)) (.t rfl) hf (.cons (.t rfl) .nil) (fun _ w' W' => hrx w' (W'.sub (List.nil_sublist _)))) rfl ?_))))))
   clear S a w
   intro a w S
   cases hp : p x with
   | true =>
     rw [hp] at S
     refine Zb (Za (hK3 _ _ (Ze S (.t rfl) (sg S (.mv rfl <| .as rfl <| .z) fun a w S => wp_ret (Yk (Zj (Zj (Yk (Zj (Zk S (results1 S results49 (Rv.tmp rfl)) ?_))))))))))
     refine ⟨?_, S.wd.below⟩
     rw [← hno, idxW, if_pos hp]
   | false =>
     rw [hp] at S
     refine Zb (Za (hK3 _ _ (Zf S (.t rfl) (wp_skip (Zg (Za (hK2 _ _ (wp_region_lit (run S (.ad (by unfold I64; omega) rfl <| .mv rfl <| .z) fun a w S => Zb (Za ?_))))))))))
     rw [idxW, if_neg (by rw [hp]; decide)] at hno
     exact ⟨k + 1, ⟨by omega, hno⟩, by omega, S.pk⟩
 · obtain rfl : k = l.length := by omega
   rw [List.drop_length] at hno
   refine sg S (.ge (by omega) rfl rfl <| .z) fun a w S => wp_seq_k fun _ hK2 => Zf S (.t rfl) (wp_exit (Zc (Zc (Zn (Za (hK1 _ _ (sg S (.ac rfl <| .z) fun a w S => wp_ret (Zk S (results1 S results49 (Rv.tmp rfl)) ?_))))))))
   exact ⟨by rw [← hno]; rfl, S.wd.below⟩
theorem x16 (w0 : World) (v : Value) (l : List Sm) (f : FuncId) (cs : List Value) (p : Sm → Bool) (hf : ∀ args w, (callFunc f args).run Try.prog w = .ok (.enter f args) w) (hr : ReadsV Sm.enc w0 f cs l p) (h : Sl Sm.enc 3 w0 w0.heap.size v l) :
   Calls Try.prog 16 #[v, .func (.func f) #[] cs.toArray] w0 fun e w' => e = .returned (.bool (l.any p)) ∧ Bel w0.heap.size w0 w' := by
 have hs := h
 obtain ⟨A, cap, rfl, hl, hcap, hA⟩ := h
 refine enter2 func16 rfl ntmps16 rfl fun a S => sg S (.ac rfl <| .z) fun a w S => wp_seq_k fun _ hK1 => wp_region_lit (run S (.mv rfl <| .mv rfl <| .z) fun a w S => st_y S (Zi call49 (.cons (.t rfl) (.cons (.t rfl) .nil)) (fun _ w' W' => x49 w' _ l f cs p hf (fun w'' W'' => hr w'' ((W'.sub (List.nil_sublist _)).step W''.below)) (Sl.old W' hs))) rfl ?_)
 clear S a w
 intro a w S
 refine run S (.yy (Yd (.t rfl) Ev.c) rfl <| .as rfl <| .z) fun a w S => Zb (Za (hK1 _ _ (wp_ret (Zk S (results1 S results16 (Rv.tmp rfl)) ?_))))
 exact ⟨by rw [← idxW_any p l 0], S.wd.below⟩
end Go.Proofs.Ytbijdmfilmecbaa
namespace Go.Fw
open Go.RowKit
def inP (level p : Int) : Bool := decide (0 ≤ p ∧ p < 2 ^ level.toNat)
theorem inP_not (level p : Int) : (decide (p < 0) || decide (2 ^ level.toNat ≤ p)) = !inP level p := by
 unfold inP
 generalize (2 : Int) ^ level.toNat = b
 by_cases h1 : p < 0
 · simp [h1]
   try omega
 · by_cases h2 : b ≤ p
   · simp [h2]
   · simp [h1, h2]
     try omega
theorem okP_eq (level deep : Int) (l : List Int) : okP level deep l = (decide (0 ≤ level) && decide (level ≤ deep) && l.all (inP level)) := rfl
theorem any_not {α : Type} (p : α → Bool) : ∀ l : List α, (!(l.any fun x => !p x)) = l.all p
 | [] => rfl
 | x :: r => by rw [List.any_cons, List.all_cons, Bool.not_or, Bool.not_not, any_not p r]
theorem pow_shl {m : Nat} (h : m ≤ 4) : IntKind.i64.wrap (1 * 2 ^ m) = 2 ^ m := by
 obtain rfl | rfl | rfl | rfl | rfl : m = 0 ∨ m = 1 ∨ m = 2 ∨ m = 3 ∨ m = 4 := by omega
 all_goals rfl
structure Sums (l : List Sm) : Prop where
 hash : hashOk l
 key : ∀ x ∈ l, x.key.length ≤ 1048576
 len : l.length ≤ 1048576
theorem sets_step {T : List KH} {l : List Sm} {i : Nat} {x : Sm} (h : l[i]? = some x) : setsT T (l.take (i + 1)) = setK x.key x.hash (setsT T (l.take i)) := sets_snoc h
theorem sets_take {l : List Sm} (h : Sums l) (q : Nat) : KhOk (setsT [] (l.take q)) := sets_ok _ (fun x hx => h.hash x (List.mem_of_mem_take hx)) kh_nil
theorem Sums.ok {l : List Sm} (h : Sums l) : KhOk (setsT [] l) := sets_ok _ h.hash kh_nil
theorem Sums.room {l : List Sm} (h : Sums l) : (setsT [] l).length ≤ 1048576 := by
 have h1 := sets_len l []
 have h2 := h.len
 rw [List.length_nil] at h1
 omega
end Go.Fw
namespace Go.Proofs.Ytbijdmfilmecbaa
open Go.Fw Go.Proofs Go.RowKit Go.Proofs.Try
theorem c73 (w0 : World) (p lv : Int) (b : Nat) (h : w0.cell? ⟨b, 0, none⟩ = some (.int .i64 lv)) (hlv : 0 ≤ lv ∧ lv ≤ 4) :
   Calls Try.prog 73 #[.int .i64 p, .pointer (some ⟨b, 0, none⟩)] w0 fun e w' => e = .returned (.bool (!inP lv p)) ∧ Bel w0.heap.size w0 w' := by
 obtain ⟨m, rfl⟩ : ∃ m : Nat, lv = (m : Int) := ⟨lv.toNat, by omega⟩
 have e := inP_not m p
 rw [Int.toNat_natCast] at e
 have hm : m ≤ 4 := by omega
 have rw_s := pow_shl hm
 by_cases hp : p < 0
 · have rw_p := decide_eq_true hp
   refine enter2 func73 rfl ntmps73 rfl fun a S => sg S (.ac rfl <| .z) fun a w S => sg S (.mv rfl <| .yy (Ym (by omega) (Zy (.t rfl) Ev.c)) rfl <| .mv rfl <| .sk rfl rfl rfl <| .sk rfl rfl rfl <| .sk rfl rfl rfl <| .sk rfl rfl rfl <| .yy (Zu (.t rfl) Ev.c) rfl <| .as rfl <| .z) fun a w S => wp_ret (Zk S (results1 S results73 (Rv.tmp rfl)) ?_)
   exact ⟨by rw [← e, rw_p]; rfl, S.wd.below⟩
 · have rw_p := decide_eq_false hp
   refine enter2 func73 rfl ntmps73 rfl fun a S => sg S (.ac rfl <| .z) fun a w S => wp_seq_k fun _ hK1 => wp_region_lit (run S (.mv rfl <| .yy (Yf (by omega) (Zy (.t rfl) Ev.c)) rfl <| .mv rfl <| .gy rfl rfl (Zd (.t rfl)) <| .gy rfl rfl (Ya ⟨isAgg3, sizeOf3⟩ (.t rfl) (fun _ => h)) <| .gy rfl rfl (ys_shl Ev.c (.t rfl) (Nat.ble_eq_true_of_le (by show _ ≤ 64; omega))) <| .z) fun a w S => ?_)
   rw [rw_s] at S
   refine run S (.gy rfl rfl (Yd (.t rfl) (.t rfl)) <| .yy (Zs (.t rfl) (.t rfl)) rfl <| .as rfl <| .z) fun a w S => Zb (Za (hK1 _ _ (wp_ret (Zk S (results1 S results73 (Rv.tmp rfl)) ?_))))
   exact ⟨by rw [← e, rw_p]; rfl, S.wd.below⟩
theorem c53 (w0 : World) (level : Int) (v1 : Value) (l : List Int) (h : Sl encI 1 w0 w0.heap.size v1 l) :
   Calls Try.prog 53 #[.int .i64 level, v1] w0 fun e w' => e = .returned (.bool (okP level 4 l)) ∧ Bel w0.heap.size w0 w' := by
 rw [okP_eq]
 by_cases h1 : 0 ≤ level
 · have rw_1 := decide_eq_true h1
   by_cases h2 : level ≤ 4
   · have rw_2 := decide_eq_true h2
     have hs := h
     obtain ⟨A, cap, rfl, hl, hcap, hA⟩ := h
     refine enter2 func53 rfl ntmps53 rfl fun a S => wp_seq_k fun _ hK1 => wp_region_lit (Zh (op_box1 S (.t rfl) rfl rfl fun g1 a w S => run S (.ac rfl <| .z) fun a w S => Zb (Za (hK1 _ _ (wp_seq_k fun _ hK1 => wp_region_lit (run S (.ld gt3 0 rfl rfl rfl <| .yy (Ym (by omega) (Yd (.t rfl) Ev.c)) rfl <| .mv rfl <| .gy rfl rfl (Yg ⟨isAgg3, sizeOf3⟩ (.t rfl) (k := 0) rfl rfl) <| .gy rfl rfl (Ym (by omega) (Xq (.t rfl) Ev.c)) <| .yy (Zu (.t rfl) (.t rfl)) rfl <| .mv rfl <| .gy rfl rfl (Zd (.t rfl)) <| .gy rfl rfl (ys_mkFunc (.cons (.t rfl) .nil)) <| .z) fun a w S => st_yt S rfl rfl (Zi call72 (.cons (.t rfl) (.cons (.t rfl) .nil)) (fun _ w' W' => x72 w' _ l 73 [.pointer (some ⟨g1, 0, none⟩)] (fun x => !inP level x) (enters_of func73 (by kernel_rfl) rfl) (fun w'' W'' x hx => c73 w'' x level g1 (Wd.cellOld W'' (Wd.cell W' (k := 0) rfl rfl)) ⟨h1, h2⟩) (Sl.old W' hs))) rfl ?_))))))
     clear S a w
     intro a w S
     refine run S (.gy rfl rfl (ys_not (.t rfl)) <| .yy (Zu (.t rfl) (.t rfl)) rfl <| .as rfl <| .z) fun a w S => Zb (Za (hK1 _ _ (wp_ret (Zk S (results1 S results53 (Rv.tmp rfl)) ?_))))
     exact ⟨by rw [any_not, rw_1, rw_2]; rfl, S.wd.below⟩
   · have rw_2 := decide_eq_false h2
     refine enter2 func53 rfl ntmps53 rfl fun a S => wp_seq_k fun _ hK1 => wp_region_lit (Zh (op_box1 S (.t rfl) rfl rfl fun g1 a w S => run S (.ac rfl <| .z) fun a w S => Zb (Za (hK1 _ _ (sg S (.ld gt3 0 rfl rfl rfl <| .yy (Ym (by omega) (Yd (.t rfl) Ev.c)) rfl <| .mv rfl <| .gy rfl rfl (Yg ⟨isAgg3, sizeOf3⟩ (.t rfl) (k := 0) rfl rfl) <| .gy rfl rfl (Yf (by omega) (Xq (.t rfl) Ev.c)) <| .yy (Zu (.t rfl) (.t rfl)) rfl <| .mv rfl <| .sk rfl rfl rfl <| .sk rfl rfl rfl <| .sk rfl rfl rfl <| .sk rfl rfl rfl <| .yy (Zs (.t rfl) Ev.c) rfl <| .as rfl <| .z) fun a w S => wp_ret (Zk S (results1 S results53 (Rv.tmp rfl)) ?_))))))
     exact ⟨by rw [rw_1, rw_2]; rfl, S.wd.below⟩
 · have rw_1 := decide_eq_false h1
   refine enter2 func53 rfl ntmps53 rfl fun a S => wp_seq_k fun _ hK1 => wp_region_lit (Zh (op_box1 S (.t rfl) rfl rfl fun g1 a w S => run S (.ac rfl <| .z) fun a w S => Zb (Za (hK1 _ _ (sg S (.ld gt3 0 rfl rfl rfl <| .yy (Yf (by omega) (Yd (.t rfl) Ev.c)) rfl <| .mv rfl <| .sk rfl rfl rfl <| .sk rfl rfl rfl <| .yy (Zs (.t rfl) Ev.c) rfl <| .mv rfl <| .sk rfl rfl rfl <| .sk rfl rfl rfl <| .sk rfl rfl rfl <| .sk rfl rfl rfl <| .yy (Zs (.t rfl) Ev.c) rfl <| .as rfl <| .z) fun a w S => wp_ret (Zk S (results1 S results53 (Rv.tmp rfl)) ?_))))))
   exact ⟨by rw [rw_1]; rfl, S.wd.below⟩
theorem c55 (w0 : World) (level deep : Int) (v2 : Value) (l : List Int) (h : Sl encI 1 w0 w0.heap.size v2 l) (hd4 : deep ≤ 4) :
   Calls Try.prog 55 #[.int .i64 level, .int .i64 deep, v2] w0 fun e w' => e = .returned (.bool (okP level deep l)) ∧ Bel w0.heap.size w0 w' := by
 rw [okP_eq]
 by_cases h1 : level < 0
 · have rw_1 := decide_eq_true h1
   refine enter3 func55 rfl ntmps55 rfl fun a S => sg S (.ac rfl <| .z) fun a w S => wp_seq_k fun _ hK1 => sg S (.mv rfl <| .yy (Ym (by omega) (Zy (.t rfl) Ev.c)) rfl <| .mv rfl <| .sk rfl rfl rfl <| .sk rfl rfl rfl <| .sk rfl rfl rfl <| .yy (Zu (.t rfl) Ev.c) rfl <| .z) fun a w S => Ze S (.t rfl) (sg S (.ac rfl <| .z) fun a w S => wp_ret (Zj (Zk S (results1 S results55 (Rv.tmp rfl)) ?_)))
   exact ⟨by rw [decide_eq_false (show ¬ (0 ≤ level) by omega)]; rfl, S.wd.below⟩
 have rw_1 := decide_eq_false h1
 by_cases h2 : deep < level
 · have rw_2 := decide_eq_true h2
   refine enter3 func55 rfl ntmps55 rfl fun a S => sg S (.ac rfl <| .z) fun a w S => wp_seq_k fun _ hK1 => sg S (.mv rfl <| .yy (Yf (by omega) (Zy (.t rfl) Ev.c)) rfl <| .mv rfl <| .gy rfl rfl (Zd (.t rfl)) <| .gy rfl rfl (Zd (.t rfl)) <| .gy rfl rfl (Ym (by omega) (Xf (.t rfl) (.t rfl))) <| .yy (Zs (.t rfl) (.t rfl)) rfl <| .z) fun a w S => Ze S (.t rfl) (sg S (.ac rfl <| .z) fun a w S => wp_ret (Zj (Zk S (results1 S results55 (Rv.tmp rfl)) ?_)))
   exact ⟨by rw [decide_eq_false (show ¬ (level ≤ deep) by omega), Bool.and_false]; rfl, S.wd.below⟩
 have rw_2 := decide_eq_false h2
 rw [decide_eq_true (show 0 ≤ level by omega), decide_eq_true (show level ≤ deep by omega), Bool.true_and, Bool.true_and]
 obtain ⟨m, rfl⟩ : ∃ m : Nat, level = (m : Int) := ⟨level.toNat, by omega⟩
 have hm : m ≤ 4 := by omega
 have rw_s := pow_shl hm
 obtain ⟨A, cap, rfl, hl, hcap, hA⟩ := h
 refine enter3 func55 rfl ntmps55 rfl fun a S => sg S (.ac rfl <| .z) fun a w S => wp_seq_k fun _ hK1 => sg S (.mv rfl <| .yy (Yf (by omega) (Zy (.t rfl) Ev.c)) rfl <| .mv rfl <| .gy rfl rfl (Zd (.t rfl)) <| .gy rfl rfl (Zd (.t rfl)) <| .gy rfl rfl (Yf (by omega) (Xf (.t rfl) (.t rfl))) <| .yy (Zs (.t rfl) (.t rfl)) rfl <| .z) fun a w S => Zf S (.t rfl) (wp_skip (Za (hK1 _ _ (wp_seq_k fun _ hK1 => sg S (.ac rfl <| .z) fun a w S => wp_block ?_))))
 refine Ye S [7] (X := Nat) (fun q => [(7, true, .int .i64 (q : Int))]) (fun _ => []) (fun q => q ≤ l.length ∧ (l.take q).all (inP m) = true) (fun q => l.length - q) 0 ⟨Nat.zero_le _, rfl⟩ ?_
 clear S
 rintro q a w ⟨hq, hall⟩ S
 by_cases hlt : q < l.length
 · obtain ⟨g, o, x, rfl, hx, hd, hc⟩ := Yc hA hlt
   have e := inP_not m x
   rw [Int.toNat_natCast] at e
   by_cases hx0 : x < 0
   · have rw_p := decide_eq_true hx0
     refine wp_seq_k fun _ hK2 => sg S (.mv rfl <| .mv rfl <| .ln underlying42 rfl <| .lt (by omega) rfl rfl <| .z) fun a w S => Ze S (.t rfl) (wp_skip (Za (hK2 _ _ (wp_seq_k fun _ hK2 => wp_block (wp_seq_k fun _ hK3 => Xk S (by kernel_rfl) (by kernel_rfl) fun a S => qrun S (.mv rfl <| .mv rfl <| .ix underlying42 sizeOf3 (by omega) rfl rfl <| .yy (Ya ⟨isAgg3, sizeOf3⟩ (.t rfl) (fun _ => hc 0 _ rfl)) rfl <| .yy (Ym (by omega) (Zy (.t rfl) Ev.c)) rfl <| .mv rfl <| .sk rfl rfl rfl <| .sk rfl rfl rfl <| .sk rfl rfl rfl <| .sk rfl rfl rfl <| .sk rfl rfl rfl <| .sk rfl rfl rfl <| .sk rfl rfl rfl <| .yy (Zu (.t rfl) Ev.c) rfl <| .z) fun a S => ?_)))))
     (refine q_nil ?_; intro w W; replace S := St.mk S W; clear W)
     refine Za (hK3 _ _ (Ze S (.t rfl) (sg S (.ac rfl <| .z) fun a w S => wp_ret (Yk (Zj (Zj (Yk (Zj (Zk S (results1 S results55 (Rv.tmp rfl)) ?_)))))))))
     have h3 : l.all (inP m) = false := List.all_eq_false.2 ⟨x, List.mem_of_getElem? hx, by rw [rw_p, Bool.true_or] at e; have e' := congrArg Bool.not e; rw [Bool.not_not] at e'; rw [← e']; simp⟩
     exact ⟨by rw [h3], S.wd.below⟩
   · have rw_p := decide_eq_false hx0
     by_cases hx2 : 2 ^ m ≤ x
     · have rw_x := decide_eq_true hx2
       refine wp_seq_k fun _ hK2 => sg S (.mv rfl <| .mv rfl <| .ln underlying42 rfl <| .lt (by omega) rfl rfl <| .z) fun a w S => Ze S (.t rfl) (wp_skip (Za (hK2 _ _ (wp_seq_k fun _ hK2 => wp_block (wp_seq_k fun _ hK3 => Xk S (by kernel_rfl) (by kernel_rfl) fun a S => qrun S (.mv rfl <| .mv rfl <| .ix underlying42 sizeOf3 (by omega) rfl rfl <| .yy (Ya ⟨isAgg3, sizeOf3⟩ (.t rfl) (fun _ => hc 0 _ rfl)) rfl <| .yy (Yf (by omega) (Zy (.t rfl) Ev.c)) rfl <| .mv rfl <| .gy rfl rfl (Zd (.t rfl)) <| .gy rfl rfl (Zd (.t rfl)) <| .gy rfl rfl (Yi underlying42 sizeOf3 (.t rfl) (.t rfl) (fun _ => by omega)) <| .gy rfl rfl (Ya ⟨isAgg3, sizeOf3⟩ (.t rfl) (fun _ => hc 0 _ rfl)) <| .gy rfl rfl (Zd (.t rfl)) <| .gy rfl rfl (ys_shl Ev.c (.t rfl) (Nat.ble_eq_true_of_le (by show _ ≤ 64; omega))) <| .z) fun a S => ?_)))))
       rw [rw_s] at S
       refine qrun S (.gy rfl rfl (Ym (by omega) (Yd (.t rfl) (.t rfl))) <| .yy (Zs (.t rfl) (.t rfl)) rfl <| .z) fun a S => ?_
       (refine q_nil ?_; intro w W; replace S := St.mk S W; clear W)
       refine Za (hK3 _ _ (Ze S (.t rfl) (sg S (.ac rfl <| .z) fun a w S => wp_ret (Yk (Zj (Zj (Yk (Zj (Zk S (results1 S results55 (Rv.tmp rfl)) ?_)))))))))
       have h3 : l.all (inP m) = false := List.all_eq_false.2 ⟨x, List.mem_of_getElem? hx, by rw [rw_x, Bool.or_true] at e; have e' := congrArg Bool.not e; rw [Bool.not_not] at e'; rw [← e']; simp⟩
       exact ⟨by rw [h3], S.wd.below⟩
     · have rw_x := decide_eq_false hx2
       refine wp_seq_k fun _ hK2 => sg S (.mv rfl <| .mv rfl <| .ln underlying42 rfl <| .lt (by omega) rfl rfl <| .z) fun a w S => Ze S (.t rfl) (wp_skip (Za (hK2 _ _ (wp_seq_k fun _ hK2 => wp_block (wp_seq_k fun _ hK3 => Xk S (by kernel_rfl) (by kernel_rfl) fun a S => qrun S (.mv rfl <| .mv rfl <| .ix underlying42 sizeOf3 (by omega) rfl rfl <| .yy (Ya ⟨isAgg3, sizeOf3⟩ (.t rfl) (fun _ => hc 0 _ rfl)) rfl <| .yy (Yf (by omega) (Zy (.t rfl) Ev.c)) rfl <| .mv rfl <| .gy rfl rfl (Zd (.t rfl)) <| .gy rfl rfl (Zd (.t rfl)) <| .gy rfl rfl (Yi underlying42 sizeOf3 (.t rfl) (.t rfl) (fun _ => by omega)) <| .gy rfl rfl (Ya ⟨isAgg3, sizeOf3⟩ (.t rfl) (fun _ => hc 0 _ rfl)) <| .gy rfl rfl (Zd (.t rfl)) <| .gy rfl rfl (ys_shl Ev.c (.t rfl) (Nat.ble_eq_true_of_le (by show _ ≤ 64; omega))) <| .z) fun a S => ?_)))))
       rw [rw_s] at S
       refine qrun S (.gy rfl rfl (Yf (by omega) (Yd (.t rfl) (.t rfl))) <| .yy (Zs (.t rfl) (.t rfl)) rfl <| .z) fun a S => ?_
       (refine q_nil ?_; intro w W; replace S := St.mk S W; clear W)
       refine Za (hK3 _ _ (Zf S (.t rfl) (wp_skip (Zg (Za (hK2 _ _ (wp_region_lit (run S (.mv rfl <| .ad (by unfold I64; omega) rfl <| .as rfl <| .z) fun a w S => Zb (Za ?_)))))))))
       have h3 : inP m x = true := by rw [rw_p, rw_x] at e; have e' := congrArg Bool.not e; rw [Bool.not_not] at e'; exact e'.symm
       have h4 : (l.take (q + 1)).all (inP m) = true := by rw [List.take_add_one, hx, Option.toList_some, List.all_append, hall, List.all_cons, h3]; rfl
       exact ⟨q + 1, ⟨by omega, h4⟩, by omega, S.pk⟩
 · obtain rfl : q = l.length := by omega
   rw [List.take_length] at hall
   refine wp_seq_k fun _ hK2 => sg S (.mv rfl <| .mv rfl <| .ln underlying42 rfl <| .ge (by omega) rfl rfl <| .z) fun a w S => Zf S (.t rfl) (wp_exit (Zc (Zc (Zn (Za (hK1 _ _ (sg S (.ac rfl <| .z) fun a w S => wp_ret (Zk S (results1 S results55 (Rv.tmp rfl)) ?_))))))))
   rw [hall]
   exact ⟨rfl, S.wd.below⟩
theorem c9 (w0 : World) (v1 : Value) (l : List Sm) (h : Sl Sm.enc 3 w0 w0.heap.size v1 l) (hs : Sums l) :
   Rets Try.prog 9 #[v1] w0 fun u L => ∃ g A cap gs w1 bs, u = .pointer (some ⟨g, 0, none⟩) ∧ L = treeP g A cap gs w1 bs [] ∧ MapsIn w1 bs gs (setsT [] l) := by
 obtain ⟨A, cap, rfl, hl, hcap, hA⟩ := h
 unfold Go.Fw.Rets
 refine enter1 func9 rfl ntmps9 rfl fun a S => sg S (.ac rfl <| .z) fun a w S => wp_seq_k fun _ hK1 => wp_region_lit ?_
 (refine Zh (Zq S call44 .nil (c44 _) rfl ?_); clear S a w; rintro _ _ ⟨g1, A1, cap1, gs1, w11, bs1, rfl, rfl, hr11⟩ a w S)
 refine run S (.as rfl <| .z) fun a w S => Zb (Za (hK1 _ _ (wp_seq_k fun _ hK1 => sg S (.mv rfl <| .ln underlying22 rfl <| .mc rfl <| .z) fun a w S => wp_block ?_)))
 refine Ye S [9] (X := Nat × World × List Nat) (fun q => [(9, true, .int .i64 (q.1 : Int))]) (fun q => treeP g1 A1 cap1 gs1 q.2.1 q.2.2 []) (fun q => q.1 ≤ l.length ∧ MapsIn q.2.1 q.2.2 gs1 (setsT [] (l.take q.1))) (fun q => l.length - q.1) (0, w11, bs1) ⟨Nat.zero_le _, hr11⟩ ?_
 clear S hr11
 rintro ⟨q, w1, bs⟩ a w ⟨hq, M⟩ S
 dsimp only at hq M S
 have hT := sets_take hs q
 by_cases hlt : q < l.length
 · obtain ⟨g, o, x, rfl, hx, hd, hc⟩ := Yc hA hlt
   have hk := hs.key x (List.mem_of_getElem? hx)
   have hst := sets_step (T := []) hx
   generalize setsT [] (l.take q) = T at *
   refine sg S (.lt (by omega) rfl rfl <| .z) fun a w S => wp_seq_k fun _ hK2 => Ze S (.t rfl) (wp_skip (Za (hK2 _ _ (wp_seq_k fun _ hK2 => wp_block (wp_seq_k fun _ hK3 => wp_region_lit (run S (.ix underlying22 sizeOf28 (by omega) rfl rfl <| .yy (Yh ⟨isAgg28, sizeOf28⟩ (.t rfl) (vs := [_, _, _]) rfl (fun _ => hc)) rfl <| .z) fun a w S => Zh (Zr S zeroValue28 (cs := _) rfl rfl fun g2 a w S => Zh (Yb S sizeOf28 (.t rfl) (.t rfl) (k := 0) rfl rfl rfl (by simp [Value.oneCell']) fun a w S => Zb (Za (hK3 _ _ (wp_region_lit (run S (.mv rfl <| .fa underlying28 sizeOf9 1 rfl rfl rfl <| .ld gt9 0 rfl rfl rfl <| .fa underlying28 sizeOf23 2 rfl rfl rfl <| .ld gt23 0 rfl rfl rfl <| .z) fun a w S => ?_))))))))))))
   (replace S := S.pull 3 rfl; try simp only [List.set_cons_zero, List.set_cons_succ, List.eraseIdx_cons_succ, List.eraseIdx_cons_zero] at S; replace S := S.pull 3 rfl; try simp only [List.set_cons_zero, List.set_cons_succ, List.eraseIdx_cons_succ, List.eraseIdx_cons_zero] at S; replace S := S.pull 3 rfl; try simp only [List.set_cons_zero, List.set_cons_succ, List.eraseIdx_cons_succ, List.eraseIdx_cons_zero] at S; refine Zh (op_callO S call11 (.cons (.t rfl) (.cons (.t rfl) (.cons (.t rfl) .nil))) (c11 S.wd (by first | assumption | omega | (dsimp only; omega) | exact Sl.nil_ | exact .old S.wd (by assumption) | exact Sl.of_own S.wd (k := 0) rfl (fun _ => rfl) | exact Sl.of_own S.wd (k := 1) rfl (fun _ => rfl) | exact Sl.of_own S.wd (k := 2) rfl (fun _ => rfl) | exact Sl.of_own S.wd (k := 3) rfl (fun _ => rfl) | (simp; done) | (simp at *; omega)) (by first | assumption | omega | (dsimp only; omega) | exact Sl.nil_ | exact .old S.wd (by assumption) | exact Sl.of_own S.wd (k := 0) rfl (fun _ => rfl) | exact Sl.of_own S.wd (k := 1) rfl (fun _ => rfl) | exact Sl.of_own S.wd (k := 2) rfl (fun _ => rfl) | exact Sl.of_own S.wd (k := 3) rfl (fun _ => rfl) | (simp; done) | (simp at *; omega)) (by first | assumption | omega | (dsimp only; omega) | exact Sl.nil_ | exact .old S.wd (by assumption) | exact Sl.of_own S.wd (k := 0) rfl (fun _ => rfl) | exact Sl.of_own S.wd (k := 1) rfl (fun _ => rfl) | exact Sl.of_own S.wd (k := 2) rfl (fun _ => rfl) | exact Sl.of_own S.wd (k := 3) rfl (fun _ => rfl) | (simp; done) | (simp at *; omega))) rfl ?_) <;> clear S a w)
   rintro _ _ ⟨w21, bs21, rfl, rfl, hr1⟩ a w S
   refine Zb (Zg (Za (hK2 _ _ (wp_region_lit (run S (.ad (by unfold I64; omega) rfl <| .mv rfl <| .z) fun a w S => Zb (Za ?_))))))
   exact ⟨(q + 1, w21, bs21), ⟨by dsimp only; omega, by dsimp only; rw [hst]; assumption⟩, by dsimp only; omega, S.pk⟩
 obtain rfl : q = l.length := by omega
 rw [List.take_length] at M
 refine sg S (.ge (by omega) rfl rfl <| .z) fun a w S => wp_seq_k fun _ hK2 => Zf S (.t rfl) (wp_exit (Zc (Zc (Zn (Za (hK1 _ _ (sg S (.mv rfl <| .as rfl <| .z) fun a w S => wp_ret (Zk S (results1 S results9 (Rv.tmp rfl)) ?_))))))))
 exact ⟨_, _, rfl, S.wd.pk, g1, A1, cap1, gs1, w1, bs, rfl, rfl, M⟩
theorem c20 (w0 : World) (v1 : Value) (l : List Sm) (h : Sl Sm.enc 3 w0 w0.heap.size v1 l) (hs : Sums l) :
   Rets Try.prog 20 #[v1] w0 fun u L => ∃ g A cap, u = .pointer (some ⟨g, 0, none⟩) ∧ L = docP g A cap (setsT [] l) [] := by
 obtain ⟨A, cap, rfl, hl, hcap, hA⟩ := h
 unfold Go.Fw.Rets
 refine enter1 func20 rfl ntmps20 rfl fun a S => sg S (.ac rfl <| .z) fun a w S => wp_seq_k fun _ hK1 => wp_region_lit (run S (.yy (Xc (ps := []) (us := [_]) bld69 .nil rfl) rfl <| .z) fun a w S => Zh (Xw S (.t rfl) rfl fun g1 a w S => run S (.as rfl <| .z) fun a w S => Zb (Za (hK1 _ _ (wp_seq_k fun _ hK1 => sg S (.ac rfl <| .z) fun a w S => wp_block ?_)))))
 replace S := S.nil_ 28 3 Kh.enc none
 refine Ye S [4] (X := Nat × Option Addr × Nat) (fun q => [(4, true, .int .i64 (q.1 : Int))]) (fun q => docP g1 q.2.1 q.2.2 (setsT [] (l.take q.1)) []) (fun q => q.1 ≤ l.length) (fun q => l.length - q.1) (0, none, 0) (Nat.zero_le _) ?_
 clear S
 rintro ⟨q, B, cB⟩ a w hq S
 dsimp only at hq S
 have hT := sets_take hs q
 have hTl := sets_len (l.take q) []
 rw [List.length_nil, List.length_take] at hTl
 by_cases hlt : q < l.length
 · obtain ⟨g, o, x, rfl, hx, hd, hc⟩ := Yc hA hlt
   have hk := hs.key x (List.mem_of_getElem? hx)
   have hll := hs.len
   have hst := sets_step (T := []) hx
   generalize setsT [] (l.take q) = T at *
   have hTl2 : T.length ≤ 2097152 := by omega
   have hold_r := trivial
   have lr_nil := trivial
   refine wp_seq_k fun _ hK2 => sg S (.mv rfl <| .mv rfl <| .ln underlying22 rfl <| .lt (by omega) rfl rfl <| .z) fun a w S => Ze S (.t rfl) (wp_skip (Za (hK2 _ _ (wp_seq_k fun _ hK2 => wp_block (h_begin S (by kernel_rfl) [] fun a w S => hy 0 S rfl (Zd (.t rfl)) rfl fun a w S => hy 1 S rfl (Zd (.t rfl)) rfl fun a w S => hy 2 S rfl (Zd (.t rfl)) rfl fun a w S => hy 3 S rfl (Yi underlying22 sizeOf28 (.t rfl) (.t rfl) (fun _ => by omega)) rfl fun a w S => ?_)))))
   refine hy 4 S rfl (Yz (FieldT.mk underlying28 rfl sizeOf9 rfl) (.t rfl)) rfl fun a w S => hy 5 S rfl (Ya ⟨isAgg9, sizeOf9⟩ (.t rfl) (fun _ => hc _ _ rfl)) rfl fun a w S => hy 6 S rfl (Zd (.t rfl)) rfl fun a w S => hy 7 S rfl (Zd (.t rfl)) rfl fun a w S => hy 8 S rfl (Yi underlying22 sizeOf28 (.t rfl) (.t rfl) (fun _ => by omega)) rfl fun a w S => ?_
   refine hy 9 S rfl (Yz (FieldT.mk underlying28 rfl sizeOf23 rfl) (.t rfl)) rfl fun a w S => hy 10 S rfl (Ya ⟨isAgg23, sizeOf23⟩ (.t rfl) (fun _ => hc _ _ rfl)) rfl fun a w S => ?_
   (refine h_m (i := 11) rfl (by kernel_rfl) (op_callO S call52 (.cons (.t rfl) (.cons (.t rfl) (.cons (.t rfl) .nil))) (c52 S.wd (by first | assumption | omega | (dsimp only; omega) | exact Sl.nil_ | exact .old S.wd (by assumption) | exact Sl.of_own S.wd (k := 0) rfl (fun _ => rfl) | exact Sl.of_own S.wd (k := 1) rfl (fun _ => rfl) | (simp; done) | (simp at *; omega)) (by first | assumption | omega | (dsimp only; omega) | exact Sl.nil_ | exact .old S.wd (by assumption) | exact Sl.of_own S.wd (k := 0) rfl (fun _ => rfl) | exact Sl.of_own S.wd (k := 1) rfl (fun _ => rfl) | (simp; done) | (simp at *; omega)) (by first | assumption | omega | (dsimp only; omega) | exact Sl.nil_ | exact .old S.wd (by assumption) | exact Sl.of_own S.wd (k := 0) rfl (fun _ => rfl) | exact Sl.of_own S.wd (k := 1) rfl (fun _ => rfl) | (simp; done) | (simp at *; omega))) rfl ?_) <;> clear S a w)
   rintro _ _ ⟨A21, e21, rfl, rfl⟩ a w S
   refine Yw S ?_
   refine Xe (by kernel_rfl) (Zg (Za (hK2 _ _ (wp_region_lit (run S (.mv rfl <| .ad (by unfold I64; omega) rfl <| .as rfl <| .z) fun a w S => Zb (Za ?_))))))
   exact ⟨(q + 1, A21, e21), by dsimp only; omega, by dsimp only; omega, by dsimp only; rw [hst]; exact S.pk⟩
 obtain rfl : q = l.length := by omega
 rw [List.take_length] at S
 refine wp_seq_k fun _ hK2 => sg S (.mv rfl <| .mv rfl <| .ln underlying22 rfl <| .ge (by omega) rfl rfl <| .z) fun a w S => Zf S (.t rfl) (wp_exit (Zc (Zc (Zn (Za (hK1 _ _ (sg S (.mv rfl <| .as rfl <| .z) fun a w S => wp_ret (Zk S (results1 S results20 (Rv.tmp rfl)) ?_))))))))
 exact ⟨_, _, rfl, S.wd.pk, g1, B, cB, rfl, rfl⟩
end Go.Proofs.Ytbijdmfilmecbaa
namespace Go.Fw
open Go.RowKit
section
variable {P : Program} {n : Nat} {w0 : World} {K : KL} {L : List Chunk} {ty : TypeId} {pos : String} {aft : Array Edge} {gd : Option (Nat × Bool)} {a : Act} {w : World} {Z : Act → World → Prop} {Q : Exit → Act → World → Prop} {d : Nat}
theorem op_push2 {α : Type} {enc : α → List Value} {l : List α} {y y2 : α} {t e bytes size cap c k j g : Nat} {e' : TypeId} {fr : Nat × Nat} {z : Value} {A : Option Addr} {s x : Operand} {vs : List Value} (S : St n w0 K L a w) (ht : P.underlying t = some (.slice e))
   (hi : InfoT P e z size bytes) (hzs : z.cells.size = size) (hk : L[k]? = some (rowOf e size enc A cap l)) (hs : Ev n true K s (.slice A l.length cap)) (hx : Ev n true K x (.slice (some ⟨g, 0, none⟩) 2 c)) (hj : L[j]? = some (.blk g (.cells vs.toArray e' fr))) (hvs : vs = enc y ++ enc y2)
   (hlen : (enc y).length = size) (hlen2 : (enc y2).length = size) (h1 : (enc y ++ enc y2).all (·.oneCell') = true) (hb : (l.length + 2) * bytes ≤ 200000000000000) (hb1 : Nat.blt 0 bytes = true) (hb2 : Nat.ble bytes 65536 = true) (hd : Nat.blt d n = true)
   (next : ∀ A' cap' a w, St n w0 ((d, true, .slice A' (l ++ [y, y2]).length cap') :: K) (L.set k (rowOf e size enc A' cap' (l ++ [y, y2]))) a w → Z a w) :
   Oper.wp P ⟨some d, .call ⟨.builtin .append, #[s, x], #[t, t]⟩, ty, pos, aft, gd⟩ a w Z Q := by
 subst hvs
 refine op_append S ht ht (.inr ⟨_, rfl⟩) hi hzs hs hx hk (Src.blk S.wd hj (by rw [List.length_append, hlen, hlen2]; omega) (fun u hu => List.all_eq_true.1 h1 u hu)) hb hb1 hb2 hd (fun A' cap' a w _ S' => next A' cap' a w ?_)
 have e1 : (l ++ [y, y2]).length = l.length + 2 := by simp
 have e2 : (l ++ [y, y2]).flatMap enc = l.flatMap enc ++ (enc y ++ enc y2) := by simp
 unfold rowOf
 rw [e1, e2]; exact S'
end
end Go.Fw
namespace Go.Fw
open Go.RowKit
def belowA (level : Int) (l : List Int) : List Int × Int := if okP level 3 l = true then (belowT l, 0) else ([], 80)
def sumsA (T : List KH) (level : Int) (l : List Int) : List Sm × Int := if okP level 4 l = true then (sumsT T level l, 0) else ([], 80)
def keysA (T : List KH) (l : List Int) : List Sm × Int := if okP 4 4 l = true then (keysT T l, 0) else ([], 80)
def unlikeA (T : List KH) (level : Int) (l : List Sm) : List Int × Int := if okP level 4 (l.map (·.place)) = true then (unlikeT T level l, 0) else ([], 80)
theorem okP_mem {level deep x : Int} {l : List Int} (h : okP level deep l = true) (hx : x ∈ l) : 0 ≤ x ∧ x < 2 ^ level.toNat := by
 unfold okP at h
 simp only [Bool.and_eq_true, List.all_eq_true] at h
 exact of_decide_eq_true (h.2 x hx)
theorem okP_lv {level deep : Int} {l : List Int} (h : okP level deep l = true) : 0 ≤ level ∧ level ≤ deep := by
 unfold okP at h
 simp only [Bool.and_eq_true] at h
 exact ⟨of_decide_eq_true h.1.1, of_decide_eq_true h.1.2⟩
theorem pow_16 {level : Int} (h : level ≤ 4) : (2 : Int) ^ level.toNat ≤ 16 := by
 have h1 : level.toNat ≤ 4 := by omega
 generalize level.toNat = m at h1
 obtain rfl | rfl | rfl | rfl | rfl : m = 0 ∨ m = 1 ∨ m = 2 ∨ m = 3 ∨ m = 4 := by omega
 all_goals decide
theorem below_step {l : List Int} {q : Nat} {x : Int} (h : l[q]? = some x) : belowT (l.take (q + 1)) = belowT (l.take q) ++ [2 * x, 2 * x + 1] := by
 unfold belowT
 rw [List.take_add_one, h, Option.toList_some, List.flatMap_append]
 rfl
theorem below_len : ∀ l : List Int, (belowT l).length = 2 * l.length
 | [] => rfl
 | x :: r => by
   have ih := below_len r
   unfold belowT at ih ⊢
   rw [List.flatMap_cons, List.length_append, ih]
   simp only [List.length_cons, List.length_nil]
   omega
theorem sums_step {T : List KH} {level : Int} {l : List Int} {q : Nat} {x : Int} (h : l[q]? = some x) : sumsT T level (l.take (q + 1)) = sumsT T level (l.take q) ++ [⟨x, [], hashT T (4 - level).toNat x.toNat⟩] := by
 unfold sumsT
 rw [List.take_add_one, h, Option.toList_some, List.map_append]
 rfl
theorem sums_len' (T : List KH) (level : Int) (l : List Int) : (sumsT T level l).length = l.length := List.length_map ..
theorem keys_step {T : List KH} {l : List Int} {q : Nat} {x : Int} (h : l[q]? = some x) : keysT T (l.take (q + 1)) = keysT T (l.take q) ++ (partT T x.toNat).map (smP x) := by
 unfold keysT
 rw [List.take_add_one, h, Option.toList_some, List.flatMap_append]
 simp
theorem unlike_step {T : List KH} {level : Int} {l : List Sm} {q : Nat} {x : Sm} (h : l[q]? = some x) : unlikeT T level (l.take (q + 1)) = unlikeT T level (l.take q) ++ (if hashT T (4 - level).toNat x.place.toNat ≠ x.hash then [x.place] else []) := by
 unfold unlikeT
 rw [List.take_add_one, h, Option.toList_some, List.filter_append, List.map_append]
 congr 1
 by_cases hh : hashT T (4 - level).toNat x.place.toNat = x.hash <;> simp [hh]
theorem okP_low {level : Int} (l : List Int) (h : level < 4) : okP level 4 l = okP level 3 l := by
 unfold okP
 rw [decide_eq_true (show level ≤ 4 by omega), decide_eq_true (show level ≤ 3 by omega)]
theorem okP_high {level : Int} (l : List Int) (h : 4 ≤ level) : okP level 3 l = false := by
 unfold okP
 rw [decide_eq_false (show ¬ level ≤ 3 by omega), Bool.and_false, Bool.false_and]
end Go.Fw
namespace Go.Proofs.Ytbijdmfilmecbaa
open Go.Fw Go.Proofs Go.RowKit Go.Proofs.Try
theorem c30 (w0 : World) (level : Int) (v1 : Value) (l : List Int) (h : Sl encI 1 w0 w0.heap.size v1 l) (hn : l.length ≤ 2097152) :
   Rets Try.prog 30 #[.int .i64 level, v1] w0 fun u L => ∃ B c, u = .tuple #[.slice B (belowA level l).1.length c, .int .i64 (belowA level l).2] ∧ L = [rowOf 3 1 encI B c (belowA level l).1] := by
 by_cases h1 : 4 ≤ level
 · have rw_1 := decide_eq_true h1
   have e : belowA level l = ([], 80) := by unfold belowA; rw [okP_high l h1]; rfl
   rw [e]
   unfold Go.Fw.Rets
   refine enter2 func30 rfl ntmps30 rfl fun a S => sg S (.ac rfl <| .ac rfl <| .z) fun a w S => wp_seq_k fun _ hK1 => sg S (.mv rfl <| .yy (Ym (by omega) (Yd (.t rfl) Ev.c)) rfl <| .mv rfl <| .sk rfl rfl rfl <| .sk rfl rfl rfl <| .sk rfl rfl rfl <| .sk rfl rfl rfl <| .yy (Zu (.t rfl) Ev.c) rfl <| .z) fun a w S => Ze S (.t rfl) (sg S (.ac rfl <| .ac rfl <| .z) fun a w S => wp_ret (Zj (Zk S (results2 S results30 (Rv.tmp rfl) (Rv.tmp rfl)) ?_)))
   exact ⟨_, _, rfl, (S.nil_ 3 1 encI none).wd.pk, none, 0, rfl, rfl⟩
 have rw_1 := decide_eq_false h1
 have e4 := okP_low l (show level < 4 by omega)
 cases hok : okP level 3 l with
 | false =>
   rw [hok] at e4
   have rw_4 := e4
   have e : belowA level l = ([], 80) := by unfold belowA; rw [hok]; rfl
   rw [e]
   unfold Go.Fw.Rets
   refine enter2 func30 rfl ntmps30 rfl fun a S => sg S (.ac rfl <| .ac rfl <| .z) fun a w S => wp_seq_k fun _ hK1 => wp_seq_k fun _ hK2 => wp_region_lit (run S (.mv rfl <| .yy (Yf (by omega) (Yd (.t rfl) Ev.c)) rfl <| .mv rfl <| .gy rfl rfl (Zd (.t rfl)) <| .gy rfl rfl (Zd (.t rfl)) <| .gx rfl rfl (Zi call53 (.cons (.t rfl) (.cons (.t rfl) .nil)) (fun hp w W => c53 _ _ _ _ (by exact .old W (by assumption)))) <| .z) fun a w S => ?_)
   rw [rw_4] at S
   refine run S (.gy rfl rfl (ys_not (.t rfl)) <| .yy (Zs (.t rfl) (.t rfl)) rfl <| .z) fun a w S => Zb (Za (hK2 _ _ (Ze S (.t rfl) (sg S (.ac rfl <| .ac rfl <| .z) fun a w S => wp_ret (Zj (Zk S (results2 S results30 (Rv.tmp rfl) (Rv.tmp rfl)) ?_))))))
   exact ⟨_, _, rfl, (S.nil_ 3 1 encI none).wd.pk, none, 0, rfl, rfl⟩
 | true =>
   rw [hok] at e4
   have rw_4 := e4
   have e : belowA level l = (belowT l, 0) := by unfold belowA; rw [if_pos hok]
   rw [e]
   have h16 := pow_16 (show level ≤ 4 by omega)
   have hbl := below_len l
   have hmem := fun x hx => okP_mem (x := x) hok hx
   have h0 := h
   obtain ⟨A, cap, rfl, hl, hcap, hA⟩ := h
   unfold Go.Fw.Rets
   refine enter2 func30 rfl ntmps30 rfl fun a S => sg S (.ac rfl <| .ac rfl <| .z) fun a w S => wp_seq_k fun _ hK1 => wp_seq_k fun _ hK2 => wp_region_lit (run S (.mv rfl <| .yy (Yf (by omega) (Yd (.t rfl) Ev.c)) rfl <| .mv rfl <| .gy rfl rfl (Zd (.t rfl)) <| .gy rfl rfl (Zd (.t rfl)) <| .gx rfl rfl (Zi call53 (.cons (.t rfl) (.cons (.t rfl) .nil)) (fun hp w W => c53 _ _ _ _ (by exact .old W (by assumption)))) <| .z) fun a w S => ?_)
   rw [rw_4] at S
   refine run S (.gy rfl rfl (ys_not (.t rfl)) <| .yy (Zs (.t rfl) (.t rfl)) rfl <| .z) fun a w S => Zb (Za (hK2 _ _ (Zf S (.t rfl) (wp_skip (Za (hK1 _ _ (sg S (.ac rfl <| .z) fun a w S => wp_seq_k fun _ hK1 => sg S (.mv rfl <| .ln underlying42 rfl <| .mc rfl <| .z) fun a w S => wp_block ?_)))))))
   replace S := S.nil_ 3 1 encI none
   refine Ye S [6, 19] (X := Nat × Option Addr × Nat) (fun q => [(6, true, .slice q.2.1 (belowT (l.take q.1)).length q.2.2), (19, true, .int .i64 (q.1 : Int))]) (fun q => [rowOf 3 1 encI q.2.1 q.2.2 (belowT (l.take q.1))]) (fun q => q.1 ≤ l.length) (fun q => l.length - q.1) (0, none, 0) (Nat.zero_le _) ?_
   clear S
   rintro ⟨q, B, cB⟩ a w hq S
   dsimp only at hq S
   have hbt := below_len (l.take q)
   rw [List.length_take] at hbt
   by_cases hlt : q < l.length
   · obtain ⟨g, o, x, rfl, hx, hd, hc⟩ := Yc hA hlt
     have hxb := hmem x (List.mem_of_getElem? hx)
     have hst := below_step hx
     generalize belowT (l.take q) = M at *
     refine sg S (.lt (by omega) rfl rfl <| .z) fun a w S => wp_seq_k fun _ hK2 => Ze S (.t rfl) (wp_skip (Za (hK2 _ _ (wp_seq_k fun _ hK2 => wp_block (sg S (.ix underlying42 sizeOf3 (by omega) rfl rfl <| .yy (Ya ⟨isAgg3, sizeOf3⟩ (.t rfl) (fun _ => hc 0 _ rfl)) rfl <| .as rfl <| .z) fun a w S => wp_region_lit (run S (.mv rfl <| .mv rfl <| .yy (Yu Ev.c (.t rfl) (fun _ => by unfold I64; omega)) rfl <| .mv rfl <| .yy (Yu Ev.c (.t rfl) (fun _ => by unfold I64; omega)) rfl <| .ad (by unfold I64; omega) rfl <| .z) fun a w S => Zh (op_bsliceZ (ps := [(0, Go.Operand.tmp 25), (1, Go.Operand.tmp 28)]) (us := [_, _]) S underlying42 sizeOf3 zeroValue3 rfl rfl (.cons (.t rfl) (.cons (.t rfl) .nil)) rfl rfl fun g1 a w S => Zh (op_push2 S underlying42 inf3 rfl (k := 1) (j := 0) rfl (.t rfl) (.t rfl) rfl rfl rfl rfl rfl (by first | omega | (simp only [List.length_append, List.length_cons, List.length_nil]; omega)) rfl rfl rfl fun A1 cap1 a w S => run S (.as rfl <| .z) fun a w S => Zb (Zg (Za (hK2 _ _ (wp_region_lit (run S (.ad (by unfold I64; omega) rfl <| .mv rfl <| .z) fun a w S => Zb (Za ?_))))))))))))))
     exact ⟨(q + 1, A1, cap1), by dsimp only; omega, by dsimp only; omega, by dsimp only; rw [hst]; exact S.pk⟩
   obtain rfl : q = l.length := by omega
   rw [List.take_length] at S
   refine sg S (.ge (by omega) rfl rfl <| .z) fun a w S => wp_seq_k fun _ hK2 => Zf S (.t rfl) (wp_exit (Zc (Zc (Zn (Za (hK1 _ _ (sg S (.mv rfl <| .as rfl <| .ac rfl <| .z) fun a w S => wp_ret (Zk S (results2 S results30 (Rv.tmp rfl) (Rv.tmp rfl)) ?_))))))))
   exact ⟨_, _, rfl, S.wd.pk, _, _, rfl, rfl⟩
theorem c22 (w0 : World) (g cap : Nat) (A : Option Addr) (gs : List Nat) (T : List KH) (level : Int) (v2 : Value) (l : List Int) (h : TreeAt w0 g A cap gs T) (hT : KhOk T) (hl : T.length ≤ 4194304) (h2 : Sl encI 1 w0 w0.heap.size v2 l) (hn : l.length ≤ 4194304) :
   Rets Try.prog 22 #[.pointer (some ⟨g, 0, none⟩), .int .i64 level, v2] w0 fun u L => ∃ B c, u = .tuple #[.slice B (sumsA T level l).1.length c, .int .i64 (sumsA T level l).2] ∧ L = [rowOf 28 3 Sm.enc B c (sumsA T level l).1] := by
 have hkeys := h.keys
 cases hok : okP level 4 l with
 | false =>
   have rw_4 := hok
   have e : sumsA T level l = ([], 80) := by unfold sumsA; rw [hok]; rfl
   rw [e]
   unfold Go.Fw.Rets
   refine enter3 func22 rfl ntmps22 rfl fun a S => sg S (.ac rfl <| .ac rfl <| .z) fun a w S => wp_seq_k fun _ hK1 => sg S (.mv rfl <| .xx (Zi call45 (.cons (.t rfl) .nil) (fun hp w W => c45 _ _ _ _ _ (by exact Wd.cellOld W (by assumption)))) rfl <| .nt rfl <| .z) fun a w S => Zf S (.t rfl) (wp_skip (Za (hK1 _ _ (wp_seq_k fun _ hK1 => wp_seq_k fun _ hK2 => wp_region_lit (run S (.mv rfl <| .mv rfl <| .xx (Zi call53 (.cons (.t rfl) (.cons (.t rfl) .nil)) (fun hp w W => c53 _ _ _ _ (by exact .old W (by assumption)))) rfl <| .z) fun a w S => ?_)))))
   rw [rw_4] at S
   refine run S (.nt rfl <| .z) fun a w S => Zb (Za (hK2 _ _ (Ze S (.t rfl) (sg S (.ac rfl <| .ac rfl <| .z) fun a w S => wp_ret (Zj (Zk S (results2 S results22 (Rv.tmp rfl) (Rv.tmp rfl)) ?_))))))
   exact ⟨_, _, rfl, (S.nil_ 28 3 Sm.enc none).wd.pk, none, 0, rfl, rfl⟩
 | true =>
   have rw_4 := hok
   have e : sumsA T level l = (sumsT T level l, 0) := by unfold sumsA; rw [if_pos hok]
   rw [e]
   have hlv := okP_lv hok
   have hmem := fun x hx => okP_mem (x := x) hok hx
   have h0 := h2
   obtain ⟨A', cap', rfl, hl', hcap', hA⟩ := h2
   unfold Go.Fw.Rets
   refine enter3 func22 rfl ntmps22 rfl fun a S => sg S (.ac rfl <| .ac rfl <| .z) fun a w S => wp_seq_k fun _ hK1 => sg S (.mv rfl <| .xx (Zi call45 (.cons (.t rfl) .nil) (fun hp w W => c45 _ _ _ _ _ (by exact Wd.cellOld W (by assumption)))) rfl <| .nt rfl <| .z) fun a w S => Zf S (.t rfl) (wp_skip (Za (hK1 _ _ (wp_seq_k fun _ hK1 => wp_seq_k fun _ hK2 => wp_region_lit (run S (.mv rfl <| .mv rfl <| .xx (Zi call53 (.cons (.t rfl) (.cons (.t rfl) .nil)) (fun hp w W => c53 _ _ _ _ (by exact .old W (by assumption)))) rfl <| .z) fun a w S => ?_)))))
   rw [rw_4] at S
   refine run S (.nt rfl <| .z) fun a w S => Zb (Za (hK2 _ _ (Zf S (.t rfl) (wp_skip (Za (hK1 _ _ (sg S (.ac rfl <| .z) fun a w S => wp_seq_k fun _ hK1 => sg S (.mv rfl <| .ln underlying42 rfl <| .mc rfl <| .z) fun a w S => wp_block ?_)))))))
   replace S := S.nil_ 28 3 Sm.enc none
   refine Ye S [8, 20] (X := Nat × Option Addr × Nat) (fun q => [(8, true, .slice q.2.1 (sumsT T level (l.take q.1)).length q.2.2), (20, true, .int .i64 (q.1 : Int))]) (fun q => [rowOf 28 3 Sm.enc q.2.1 q.2.2 (sumsT T level (l.take q.1))]) (fun q => q.1 ≤ l.length) (fun q => l.length - q.1) (0, none, 0) (Nat.zero_le _) ?_
   clear S
   rintro ⟨q, B, cB⟩ a w hq S
   dsimp only at hq S
   have hbt := sums_len' T level (l.take q)
   rw [List.length_take] at hbt
   by_cases hlt : q < l.length
   · obtain ⟨g, o, x, rfl, hx, hd, hc⟩ := Yc hA hlt
     have hxb := hmem x (List.mem_of_getElem? hx)
     have hst := sums_step (T := T) (level := level) hx
     obtain ⟨y, rw_y⟩ : ∃ y, hashT T (4 - level).toNat x.toNat = y := ⟨_, rfl⟩
     rw [rw_y] at hst
     generalize sumsT T level (l.take q) = M at *
     refine sg S (.lt (by omega) rfl rfl <| .z) fun a w S => wp_seq_k fun _ hK2 => Ze S (.t rfl) (wp_skip (Za (hK2 _ _ (wp_seq_k fun _ hK2 => wp_block (sg S (.ix underlying42 sizeOf3 (by omega) rfl rfl <| .yy (Ya ⟨isAgg3, sizeOf3⟩ (.t rfl) (fun _ => hc 0 _ rfl)) rfl <| .as rfl <| .z) fun a w S => wp_region_lit (run S (.mv rfl <| .mv rfl <| .mv rfl <| .mv rfl <| .mv rfl <| .xx (Zi call54 (.cons (.t rfl) (.cons (.t rfl) (.cons (.t rfl) .nil))) (fun hp w W => c54 _ _ _ _ _ _ _ _ (by exact .old W (by assumption)) (by assumption) (by assumption) (by assumption) (by assumption))) rfl <| .z) fun a w S => ?_))))))
     rw [rw_y] at S
     refine run S (.yy (Xc (ps := [(0, Go.Operand.tmp 25), (2, Go.Operand.tmp 29)]) (us := [_, _, _]) bld28 (.cons (.t rfl) (.cons (.t rfl) .nil)) rfl) rfl <| .z) fun a w S => Zh (Zm S underlying22 inf28 rfl rfl rfl (.t rfl) rfl rfl rfl fun g1 a w S => Zh (Zw S underlying22 inf28 rfl (k := 1) (j := 0) rfl (.t rfl) (.t rfl) rfl Go.Fw.Sm.mkEnc rfl rfl (by first | omega | (simp only [List.length_append, List.length_cons, List.length_nil]; omega)) rfl rfl rfl fun A1 cap1 a w S => run S (.as rfl <| .z) fun a w S => Zb (Zg (Za (hK2 _ _ (wp_region_lit (run S (.ad (by unfold I64; omega) rfl <| .mv rfl <| .z) fun a w S => Zb (Za ?_))))))))
     exact ⟨(q + 1, A1, cap1), by dsimp only; omega, by dsimp only; omega, by dsimp only; rw [hst]; exact S.pk⟩
   obtain rfl : q = l.length := by omega
   rw [List.take_length] at S
   refine sg S (.ge (by omega) rfl rfl <| .z) fun a w S => wp_seq_k fun _ hK2 => Zf S (.t rfl) (wp_exit (Zc (Zc (Zn (Za (hK1 _ _ (sg S (.mv rfl <| .as rfl <| .ac rfl <| .z) fun a w S => wp_ret (Zk S (results2 S results22 (Rv.tmp rfl) (Rv.tmp rfl)) ?_))))))))
   exact ⟨_, _, rfl, S.wd.pk, _, _, rfl, rfl⟩
end Go.Proofs.Ytbijdmfilmecbaa
namespace Go.Fw
open Go.RowKit
theorem keys_len (T : List KH) : ∀ l : List Int, (keysT T l).length ≤ l.length * T.length
 | [] => by simp [keysT]
 | x :: r => by
   have ih := keys_len T r
   have h1 := partT_len T x.toNat
   unfold keysT at ih ⊢
   rw [List.flatMap_cons, List.length_append, List.length_map, List.length_cons, Nat.succ_mul]
   omega
theorem unlike_len (T : List KH) (level : Int) (l : List Sm) : (unlikeT T level l).length ≤ l.length := by
 unfold unlikeT
 rw [List.length_map]
 exact List.length_filter_le _ _
end Go.Fw
namespace Go.Proofs.Ytbijdmfilmecbaa
open Go.Fw Go.Proofs Go.RowKit Go.Proofs.Try
theorem c27 (w0 : World) (g cap : Nat) (A : Option Addr) (gs : List Nat) (T : List KH) (level : Int) (v2 : Value) (l : List Sm) (h : TreeAt w0 g A cap gs T) (hT : KhOk T) (hl : T.length ≤ 4194304) (h2 : Sl Sm.enc 3 w0 w0.heap.size v2 l) (hn : l.length ≤ 4194304) :
   Rets Try.prog 27 #[.pointer (some ⟨g, 0, none⟩), .int .i64 level, v2] w0 fun u L => ∃ B c, u = .tuple #[.slice B (unlikeA T level l).1.length c, .int .i64 (unlikeA T level l).2] ∧ L = [rowOf 3 1 encI B c (unlikeA T level l).1] := by
 have hkeys := h.keys
 have h0 := h2
 obtain ⟨A', cap', rfl, hl', hcap', hA⟩ := h2
 unfold Go.Fw.Rets
 refine enter3 func27 rfl ntmps27 rfl fun a S => sg S (.ac rfl <| .ac rfl <| .z) fun a w S => wp_seq_k fun _ hK1 => sg S (.mv rfl <| .xx (Zi call45 (.cons (.t rfl) .nil) (fun hp w W => c45 _ _ _ _ _ (by exact Wd.cellOld W (by assumption)))) rfl <| .nt rfl <| .z) fun a w S => Zf S (.t rfl) (wp_skip (Za (hK1 _ _ (sg S (.ac rfl <| .ac rfl <| .z) fun a w S => wp_seq_k fun _ hK1 => sg S (.mv rfl <| .ln underlying22 rfl <| .mc rfl <| .z) fun a w S => wp_block ?_))))
 replace S := S.nil_ 3 1 encI none
 refine Ye S [8, 19] (X := Nat × Option Addr × Nat) (fun q => [(8, true, .slice q.2.1 ((l.take q.1).map (·.place)).length q.2.2), (19, true, .int .i64 (q.1 : Int))]) (fun q => [rowOf 3 1 encI q.2.1 q.2.2 ((l.take q.1).map (·.place))]) (fun q => q.1 ≤ l.length) (fun q => l.length - q.1) (0, none, 0) (Nat.zero_le _) ?_
 clear S
 rintro ⟨q, B, cB⟩ a w hq S
 dsimp only at hq S
 have hbt : ((l.take q).map (·.place)).length = min q l.length := by rw [List.length_map, List.length_take]
 by_cases hlt : q < l.length
 · obtain ⟨g, o, x, rfl, hx, hd, hc⟩ := Yc hA hlt
   have hst : (l.take (q + 1)).map (·.place) = (l.take q).map (·.place) ++ [x.place] := by rw [List.take_add_one, hx, Option.toList_some, List.map_append]; rfl
   generalize (l.take q).map (·.place) = M at *
   refine sg S (.lt (by omega) rfl rfl <| .z) fun a w S => wp_seq_k fun _ hK2 => Ze S (.t rfl) (wp_skip (Za (hK2 _ _ (wp_seq_k fun _ hK2 => wp_block (wp_seq_k fun _ hK3 => wp_region_lit (run S (.ix underlying22 sizeOf28 (by omega) rfl rfl <| .yy (Yh ⟨isAgg28, sizeOf28⟩ (.t rfl) (vs := [_, _, _]) rfl (fun _ => hc)) rfl <| .z) fun a w S => Zh (Zr S zeroValue28 (cs := _) rfl rfl fun g1 a w S => Zh (Yb S sizeOf28 (.t rfl) (.t rfl) (k := 0) rfl rfl rfl (by simp [Value.oneCell']) fun a w S => Zb (Za (hK3 _ _ (wp_region_lit (run S (.mv rfl <| .fa underlying28 sizeOf3 0 rfl rfl rfl <| .ld gt3 0 rfl rfl rfl <| .z) fun a w S => Zh (Zm S underlying42 inf3 rfl rfl rfl (.t rfl) rfl rfl rfl fun g2 a w S => Zh (Zw S underlying42 inf3 rfl (k := 2) (j := 0) rfl (.t rfl) (.t rfl) rfl rfl rfl rfl (by first | omega | (simp only [List.length_append, List.length_cons, List.length_nil]; omega)) rfl rfl rfl fun A1 cap1 a w S => run S (.as rfl <| .z) fun a w S => Zb (Zg (Za (hK2 _ _ (wp_region_lit (run S (.ad (by unfold I64; omega) rfl <| .mv rfl <| .z) fun a w S => Zb (Za ?_))))))))))))))))))))
   exact ⟨(q + 1, A1, cap1), by dsimp only; omega, by dsimp only; omega, by dsimp only; rw [hst]; exact S.pk⟩
 obtain rfl : q = l.length := by omega
 rw [List.take_length] at S
 cases hok : okP level 4 (l.map (·.place)) with
 | false =>
   have rw_4 := hok
   have e : unlikeA T level l = ([], 80) := by unfold unlikeA; rw [hok]; rfl
   rw [e] at hK1
   refine sg S (.ge (by omega) rfl rfl <| .z) fun a w S => wp_seq_k fun _ hK2 => Zf S (.t rfl) (wp_exit (Zc (Zc (Zn (Za (hK1 _ _ (wp_seq_k fun _ hK1 => wp_seq_k fun _ hK3 => wp_region_lit (run S (.mv rfl <| .mv rfl <| .xx (Zi call53 (.cons (.t rfl) (.cons (.t rfl) .nil)) (fun hp w W => c53 _ _ _ _ (by exact Sl.of_own W (k := 0) rfl (fun _ => rfl)))) rfl <| .z) fun a w S => ?_))))))))
   simp only [List.nil_append] at S
   rw [rw_4] at S
   refine run S (.nt rfl <| .z) fun a w S => Zb (Za (hK3 _ _ (Ze S (.t rfl) (sg S (.ac rfl <| .ac rfl <| .z) fun a w S => wp_ret (Zj (Zk S (results2 S results27 (Rv.tmp rfl) (Rv.tmp rfl)) ?_))))))
   exact ⟨_, _, rfl, (S.nil_ 3 1 encI none).wd.pk, none, 0, rfl, rfl⟩
 | true =>
   have rw_4 := hok
   have e : unlikeA T level l = (unlikeT T level l, 0) := by unfold unlikeA; rw [if_pos hok]
   rw [e] at hK1
   have hlv := okP_lv hok
   have hmem := fun x hx => okP_mem (x := x) hok hx
   refine sg S (.ge (by omega) rfl rfl <| .z) fun a w S => wp_seq_k fun _ hK2 => Zf S (.t rfl) (wp_exit (Zc (Zc (Zn (Za (hK1 _ _ (wp_seq_k fun _ hK1 => wp_seq_k fun _ hK3 => wp_region_lit (run S (.mv rfl <| .mv rfl <| .xx (Zi call53 (.cons (.t rfl) (.cons (.t rfl) .nil)) (fun hp w W => c53 _ _ _ _ (by exact Sl.of_own W (k := 0) rfl (fun _ => rfl)))) rfl <| .z) fun a w S => ?_))))))))
   simp only [List.nil_append] at S
   rw [rw_4] at S
   refine run S (.nt rfl <| .z) fun a w S => Zb (Za (hK3 _ _ (Zf S (.t rfl) (wp_skip (Za (hK1 _ _ (wp_seq_k fun _ hK1 => sg S (.mv rfl <| .ln underlying22 rfl <| .mc rfl <| .z) fun a w S => wp_block ?_)))))))
   refine Ye (S.nil_ 3 1 encI none) [9, 35] (X := Nat × Option Addr × Nat) (fun q => [(9, true, .slice q.2.1 (unlikeT T level (l.take q.1)).length q.2.2), (35, true, .int .i64 (q.1 : Int))]) (fun q => [rowOf 3 1 encI q.2.1 q.2.2 (unlikeT T level (l.take q.1))]) (fun q => q.1 ≤ l.length) (fun q => l.length - q.1) (0, none, 0) (Nat.zero_le _) ?_
   clear S
   rintro ⟨q, B2, cB2⟩ a w hq S
   dsimp only at hq S
   have hbt := unlike_len T level (l.take q)
   rw [List.length_take] at hbt
   by_cases hlt : q < l.length
   · obtain ⟨g, o, x, rfl, hx, hd, hc⟩ := Yc hA hlt
     have hxb := hmem x.place (List.mem_map.2 ⟨x, List.mem_of_getElem? hx, rfl⟩)
     have hst := unlike_step (T := T) (level := level) hx
     obtain ⟨y, rw_y⟩ : ∃ y, hashT T (4 - level).toNat x.place.toNat = y := ⟨_, rfl⟩
     rw [rw_y] at hst
     generalize unlikeT T level (l.take q) = M at *
     by_cases hyx : y = x.hash
     · have rw_e := decide_eq_false (show ¬ (y ≠ x.hash) from fun h => h hyx)
       rw [if_neg (fun h => h hyx), List.append_nil] at hst
       refine sg S (.lt (by omega) rfl rfl <| .z) fun a w S => wp_seq_k fun _ hK3 => Ze S (.t rfl) (wp_skip (Za (hK3 _ _ (wp_seq_k fun _ hK3 => wp_block (wp_seq_k fun _ hK4 => wp_region_lit (run S (.ix underlying22 sizeOf28 (by omega) rfl rfl <| .yy (Yh ⟨isAgg28, sizeOf28⟩ (.t rfl) (vs := [_, _, _]) rfl (fun _ => hc)) rfl <| .z) fun a w S => Zh (Zr S zeroValue28 (cs := _) rfl rfl fun g1 a w S => Zh (Yb S sizeOf28 (.t rfl) (.t rfl) (k := 0) rfl rfl rfl (by simp [Value.oneCell']) fun a w S => Zb (Za (hK4 _ _ (wp_seq_k fun _ hK4 => Xk S (by kernel_rfl) (by kernel_rfl) fun a S => qrun S (.mv rfl <| .mv rfl <| .fa underlying28 sizeOf3 0 rfl rfl rfl <| .ld gt3 0 rfl rfl rfl <| .xx (Zi call54 (.cons (.t rfl) (.cons (.t rfl) (.cons (.t rfl) .nil))) (fun hp w W => c54 _ _ _ _ _ _ _ _ (by exact .old W (by assumption)) (by assumption) (by assumption) (by assumption) (by assumption))) rfl <| .z) fun a S => ?_)))))))))))
       rw [rw_y] at S
       refine qrun S (.fa underlying28 sizeOf23 2 rfl rfl rfl <| .ld gt23 0 rfl rfl rfl <| .yy (Yf (by omega) (Yn (.t rfl) (.t rfl))) rfl <| .z) fun a S => ?_
       (refine q_nil ?_; intro w W; replace S := St.mk S W; clear W)
       refine Za (hK4 _ _ (Zf S (.t rfl) (wp_skip (Zg (Za (hK3 _ _ (wp_region_lit (run S (.ad (by unfold I64; omega) rfl <| .mv rfl <| .z) fun a w S => Zb (Za ?_)))))))))
       exact ⟨(q + 1, B2, cB2), by dsimp only; omega, by dsimp only; omega, by dsimp only; rw [hst]; exact S.pk⟩
     · have rw_e := decide_eq_true (show y ≠ x.hash from hyx)
       rw [if_pos hyx] at hst
       refine sg S (.lt (by omega) rfl rfl <| .z) fun a w S => wp_seq_k fun _ hK3 => Ze S (.t rfl) (wp_skip (Za (hK3 _ _ (wp_seq_k fun _ hK3 => wp_block (wp_seq_k fun _ hK4 => wp_region_lit (run S (.ix underlying22 sizeOf28 (by omega) rfl rfl <| .yy (Yh ⟨isAgg28, sizeOf28⟩ (.t rfl) (vs := [_, _, _]) rfl (fun _ => hc)) rfl <| .z) fun a w S => Zh (Zr S zeroValue28 (cs := _) rfl rfl fun g1 a w S => Zh (Yb S sizeOf28 (.t rfl) (.t rfl) (k := 0) rfl rfl rfl (by simp [Value.oneCell']) fun a w S => Zb (Za (hK4 _ _ (wp_seq_k fun _ hK4 => Xk S (by kernel_rfl) (by kernel_rfl) fun a S => qrun S (.mv rfl <| .mv rfl <| .fa underlying28 sizeOf3 0 rfl rfl rfl <| .ld gt3 0 rfl rfl rfl <| .xx (Zi call54 (.cons (.t rfl) (.cons (.t rfl) (.cons (.t rfl) .nil))) (fun hp w W => c54 _ _ _ _ _ _ _ _ (by exact .old W (by assumption)) (by assumption) (by assumption) (by assumption) (by assumption))) rfl <| .z) fun a S => ?_)))))))))))
       rw [rw_y] at S
       refine qrun S (.fa underlying28 sizeOf23 2 rfl rfl rfl <| .ld gt23 0 rfl rfl rfl <| .yy (Ym (by omega) (Yn (.t rfl) (.t rfl))) rfl <| .z) fun a S => ?_
       (refine q_nil ?_; intro w W; replace S := St.mk S W; clear W)
       refine Za (hK4 _ _ (Ze S (.t rfl) (wp_region_lit (run S (.mv rfl <| .fa underlying28 sizeOf3 0 rfl rfl rfl <| .ld gt3 0 rfl rfl rfl <| .z) fun a w S => Zh (Zm S underlying42 inf3 rfl rfl rfl (.t rfl) rfl rfl rfl fun g2 a w S => Zh (Zw S underlying42 inf3 rfl (k := 2) (j := 0) rfl (.t rfl) (.t rfl) rfl rfl rfl rfl (by first | omega | (simp only [List.length_append, List.length_cons, List.length_nil]; omega)) rfl rfl rfl fun A1 cap1 a w S => run S (.as rfl <| .z) fun a w S => Zb (Zg (Za (hK3 _ _ (wp_region_lit (run S (.ad (by unfold I64; omega) rfl <| .mv rfl <| .z) fun a w S => Zb (Za ?_))))))))))))
       exact ⟨(q + 1, A1, cap1), by dsimp only; omega, by dsimp only; omega, by dsimp only; rw [hst]; exact S.pk⟩
   obtain rfl : q = l.length := by omega
   rw [List.take_length] at S
   refine sg S (.ge (by omega) rfl rfl <| .z) fun a w S => wp_seq_k fun _ hK3 => Zf S (.t rfl) (wp_exit (Zc (Zc (Zn (Za (hK1 _ _ (sg S (.mv rfl <| .as rfl <| .ac rfl <| .z) fun a w S => wp_ret (Zk S (results2 S results27 (Rv.tmp rfl) (Rv.tmp rfl)) ?_))))))))
   exact ⟨_, _, rfl, S.wd.pk, _, _, rfl, rfl⟩
end Go.Proofs.Ytbijdmfilmecbaa
namespace Go.Fw
open Go.RowKit
theorem keys_room (T : List KH) (l : List Int) (hT : T.length ≤ 1048576) (hl : l.length ≤ 1048576) : (keysT T l).length ≤ 1099511627776 :=
 Nat.le_trans (keys_len T l) (Nat.mul_le_mul hl hT)
end Go.Fw
namespace Go.Proofs.Ytbijdmfilmecbaa
open Go.Fw Go.Proofs Go.RowKit Go.Proofs.Try
theorem c25 (w0 : World) (g cap : Nat) (A : Option Addr) (gs : List Nat) (T : List KH) (v2 : Value) (l : List Int) (h : TreeAt w0 g A cap gs T) (hT : KhOk T) (hl : T.length ≤ 1048576) (h2 : Sl encI 1 w0 w0.heap.size v2 l) (hn : l.length ≤ 1048576) :
   Rets Try.prog 25 #[.pointer (some ⟨g, 0, none⟩), v2] w0 fun u L => ∃ B c, u = .tuple #[.slice B (keysA T l).1.length c, .int .i64 (keysA T l).2] ∧ L = [rowOf 28 3 Sm.enc B c (keysA T l).1] := by
 have hkeys := h.keys
 have hgl := h.len
 cases hok : okP 4 4 l with
 | false =>
   have rw_4 := hok
   have e : keysA T l = ([], 80) := by unfold keysA; rw [hok]; rfl
   rw [e]
   unfold Go.Fw.Rets
   refine enter2 func25 rfl ntmps25 rfl fun a S => sg S (.ac rfl <| .ac rfl <| .z) fun a w S => wp_seq_k fun _ hK1 => sg S (.mv rfl <| .xx (Zi call45 (.cons (.t rfl) .nil) (fun hp w W => c45 _ _ _ _ _ (by exact Wd.cellOld W (by assumption)))) rfl <| .nt rfl <| .z) fun a w S => Zf S (.t rfl) (wp_skip (Za (hK1 _ _ (wp_seq_k fun _ hK1 => wp_seq_k fun _ hK2 => wp_region_lit (run S (.mv rfl <| .xx (Zi call53 (.cons Ev.c (.cons (.t rfl) .nil)) (fun hp w W => c53 _ _ _ _ (by exact .old W (by assumption)))) rfl <| .z) fun a w S => ?_)))))
   rw [rw_4] at S
   refine run S (.nt rfl <| .z) fun a w S => Zb (Za (hK2 _ _ (Ze S (.t rfl) (sg S (.ac rfl <| .ac rfl <| .z) fun a w S => wp_ret (Zj (Zk S (results2 S results25 (Rv.tmp rfl) (Rv.tmp rfl)) ?_))))))
   exact ⟨_, _, rfl, (S.nil_ 28 3 Sm.enc none).wd.pk, none, 0, rfl, rfl⟩
 | true =>
   have rw_4 := hok
   have e : keysA T l = (keysT T l, 0) := by unfold keysA; rw [if_pos hok]
   rw [e]
   have hmem := fun x hx => okP_mem (x := x) hok hx
   have h0 := h2
   obtain ⟨A', cap', rfl, hl', hcap', hA⟩ := h2
   unfold Go.Fw.Rets
   refine enter2 func25 rfl ntmps25 rfl fun a S => sg S (.ac rfl <| .ac rfl <| .z) fun a w S => wp_seq_k fun _ hK1 => sg S (.mv rfl <| .xx (Zi call45 (.cons (.t rfl) .nil) (fun hp w W => c45 _ _ _ _ _ (by exact Wd.cellOld W (by assumption)))) rfl <| .nt rfl <| .z) fun a w S => Zf S (.t rfl) (wp_skip (Za (hK1 _ _ (wp_seq_k fun _ hK1 => wp_seq_k fun _ hK2 => wp_region_lit (run S (.mv rfl <| .xx (Zi call53 (.cons Ev.c (.cons (.t rfl) .nil)) (fun hp w W => c53 _ _ _ _ (by exact .old W (by assumption)))) rfl <| .z) fun a w S => ?_)))))
   rw [rw_4] at S
   refine run S (.nt rfl <| .z) fun a w S => Zb (Za (hK2 _ _ (Zf S (.t rfl) (wp_skip (Za (hK1 _ _ (sg S (.ac rfl <| .z) fun a w S => wp_seq_k fun _ hK1 => sg S (.mv rfl <| .ln underlying42 rfl <| .mc rfl <| .z) fun a w S => wp_block ?_)))))))
   replace S := S.nil_ 28 3 Sm.enc none
   refine Ye S [6, 19] (X := Nat × Option Addr × Nat) (fun q => [(6, true, .slice q.2.1 (keysT T (l.take q.1)).length q.2.2), (19, true, .int .i64 (q.1 : Int))]) (fun q => [rowOf 28 3 Sm.enc q.2.1 q.2.2 (keysT T (l.take q.1))]) (fun q => q.1 ≤ l.length) (fun q => l.length - q.1) (0, none, 0) (Nat.zero_le _) ?_
   clear S
   rintro ⟨q, B, cB⟩ a w hq S
   dsimp only at hq S
   have hbt := keys_room T (l.take q) hl (by rw [List.length_take]; omega)
   by_cases hlt : q < l.length
   · obtain ⟨g3, o3, x, rfl, hx, hd, hc⟩ := Yc hA hlt
     have hxb := hmem x (List.mem_of_getElem? hx)
     obtain ⟨i, rfl⟩ : ∃ i : Nat, x = (i : Int) := ⟨x.toNat, by omega⟩
     have hi : i < 16 := by have h5 := hxb.2; have h6 : (2 : Int) ^ (4 : Int).toNat = 16 := by decide
                            rw [h6] at h5; omega
     have hst := keys_step (T := T) hx
     rw [Int.toNat_natCast] at hst
     generalize keysT T (l.take q) = M at *
     obtain ⟨A2, cap2, e2, hl2, hcap2, hA2⟩ := h.row
     cases e2
     obtain ⟨gr, o_, b, rfl, hb, hd2, hcx⟩ := Yc hA2 (show i < gs.length by omega)
     obtain ⟨o, ho, hC⟩ := h.maps i b hb
     have hpl := partT_len T i
     refine sg S (.lt (by omega) rfl rfl <| .z) fun a w S => wp_seq_k fun _ hK2 => Ze S (.t rfl) (wp_skip (Za (hK2 _ _ (wp_seq_k fun _ hK2 => wp_block (sg S (.ix underlying42 sizeOf3 (by omega) rfl rfl <| .yy (Ya ⟨isAgg3, sizeOf3⟩ (.t rfl) (fun _ => hc 0 _ rfl)) rfl <| .as rfl <| .z) fun a w S => wp_seq_k fun _ hK3 => wp_region_lit (run S (.mv rfl <| .yy (Zz (.t rfl)) rfl <| .fa underlying59 sizeOf57 0 rfl rfl rfl <| .mv rfl <| .z) fun a w S => ?_))))))
     (refine Zh (Zq S call57 (.cons (.t rfl) (.cons (.t rfl) .nil)) (c57 _ _ _ _ _ _ _ (by exact .old S.wd (by assumption)) (by assumption) (by assumption) (by omega)) rfl ?_); clear S a w; rintro _ _ ⟨B1, c1, rfl, rfl⟩ a w S)
     refine run S (.ln underlying61 rfl <| .mc rfl <| .z) fun a w S => Zb (Za (hK3 _ _ (wp_block ?_)))
     rw [show M = M ++ ((partT T i).take 0).map (smP i) by simp] at S
     refine Ye S [6, 29] (X := Nat × Option Addr × Nat) (fun j => [(6, true, .slice j.2.1 (M ++ ((partT T i).take j.1).map (smP i)).length j.2.2), (29, true, .int .i64 (j.1 : Int))]) (fun j => [rowOf 28 3 Sm.enc j.2.1 j.2.2 (M ++ ((partT T i).take j.1).map (smP i)), rowOf 9 1 encS' B1 c1 ((partT T i).map (·.1))]) (fun j => j.1 ≤ (partT T i).length) (fun j => (partT T i).length - j.1) (0, B, cB) (Nat.zero_le _) ?_
     clear S
     rintro ⟨j, B2, cB2⟩ a w hj S
     dsimp only at hj S
     have hml : ((partT T i).map (·.1)).length = (partT T i).length := List.length_map ..
     have hjl : (M ++ ((partT T i).take j).map (smP i)).length = M.length + min j (partT T i).length := by rw [List.length_append, List.length_map, List.length_take]
     by_cases hjt : j < (partT T i).length
     · obtain ⟨y, hy⟩ : ∃ y, (partT T i)[j]? = some y := ⟨_, List.getElem?_eq_getElem hjt⟩
       obtain ⟨ga, rfl⟩ := S.wd.row_at (k := 1) rfl (by have := (S.wd.room (k := 1) rfl).1; omega)
       have hy1 : ((partT T i).map (·.1))[j]? = some y.1 := by rw [List.getElem?_map, hy]; rfl
       have hmx : (y.1, y.2) ∈ partT T i := List.mem_of_getElem? hy
       have hyl := name_len (hT.name y (Zv.1 hmx).1)
       have hst2 : M ++ ((partT T i).take (j + 1)).map (smP i) = (M ++ ((partT T i).take j).map (smP i)) ++ [⟨i, y.1, y.2⟩] := by rw [List.take_add_one, hy, Option.toList_some, List.map_append, List.append_assoc]; rfl
       generalize M ++ ((partT T i).take j).map (smP i) = M2 at *
       refine sg S (.lt (by omega) rfl rfl <| .z) fun a w S => wp_seq_k fun _ hK3 => Ze S (.t rfl) (wp_skip (Za (hK3 _ _ (wp_seq_k fun _ hK3 => wp_block (sg S (.ix underlying61 sizeOf9 (by omega) rfl rfl <| .yy (ys_ldW0 ⟨isAgg9, sizeOf9⟩ (.t rfl) (k := 1) rfl hy1 (fun _ => rfl) rfl) rfl <| .as rfl <| .z) fun a w S => wp_region_lit (run S (.mv rfl <| .mv rfl <| .mv rfl <| .mv rfl <| .yy (Zz (.t rfl)) rfl <| .fa underlying59 sizeOf57 0 rfl rfl rfl <| .fa underlying57 sizeOf55 0 rfl rfl rfl <| .yy (Ya ⟨isAgg55, sizeOf55⟩ (.t rfl) (fun _ => hkeys)) rfl <| .mv rfl <| .ix underlying55 sizeOf80 (by omega) rfl rfl <| .yy (Ya ⟨isAgg80, sizeOf80⟩ (.t rfl) (fun _ => hcx 0 _ rfl)) rfl <| .mv rfl <| .yy (ys_lookSO smT80 (.t rfl) (.t rfl) (by assumption) (by assumption) (by assumption)) rfl <| .yy (Xc (ps := [(0, Go.Operand.tmp 34), (1, Go.Operand.tmp 35), (2, Go.Operand.tmp 45)]) (us := [_, _, _]) bld28 (.cons (.t rfl) (.cons (.t rfl) (.cons (.t rfl) .nil))) rfl) rfl <| .z) fun a w S => Zh (Zm S underlying22 inf28 rfl rfl rfl (.t rfl) rfl rfl rfl fun g1 a w S => ?_)))))))
       refine Zh (Zw S underlying22 inf28 rfl (k := 1) (j := 0) rfl (.t rfl) (.t rfl) rfl Go.Fw.Sm.mkEnc rfl rfl (by first | omega | (simp only [List.length_append, List.length_cons, List.length_nil]; omega)) rfl rfl rfl fun A1 cap1 a w S => run S (.as rfl <| .z) fun a w S => Zb (Zg (Za (hK3 _ _ (wp_region_lit (run S (.ad (by unfold I64; omega) rfl <| .mv rfl <| .z) fun a w S => Zb (Za ?_)))))))
       exact ⟨(j + 1, A1, cap1), by dsimp only; omega, by dsimp only; omega, by dsimp only; rw [hst2]; exact S.pk⟩
     obtain rfl : j = (partT T i).length := by omega
     rw [List.take_length, ← hst] at S
     refine sg S (.ge (by omega) rfl rfl <| .z) fun a w S => wp_seq_k fun _ hK3 => Zf S (.t rfl) (wp_exit (Zc (Zc (Zn (Zg (Za (hK2 _ _ (wp_region_lit (run S (.ad (by unfold I64; omega) rfl <| .mv rfl <| .z) fun a w S => Zb (Za ?_))))))))))
     exact ⟨(q + 1, B2, cB2), by dsimp only; omega, by dsimp only; omega, S.pk⟩
   obtain rfl : q = l.length := by omega
   rw [List.take_length] at S
   refine sg S (.ge (by omega) rfl rfl <| .z) fun a w S => wp_seq_k fun _ hK2 => Zf S (.t rfl) (wp_exit (Zc (Zc (Zn (Za (hK1 _ _ (sg S (.mv rfl <| .as rfl <| .ac rfl <| .z) fun a w S => wp_ret (Zk S (results2 S results25 (Rv.tmp rfl) (Rv.tmp rfl)) ?_))))))))
   exact ⟨_, _, rfl, S.wd.pk, _, _, rfl, rfl⟩
theorem c26 (w0 : World) (g cap : Nat) (A : Option Addr) (T : List KH) (v2 : Value) (l : List Int) (h : DocAt w0 g A cap T) (hT : KhOk T) (hl : T.length ≤ 1048576) (h2 : Sl encI 1 w0 w0.heap.size v2 l) (hn : l.length ≤ 1048576) :
   Rets Try.prog 26 #[.pointer (some ⟨g, 0, none⟩), v2] w0 fun u L => ∃ B c, u = .tuple #[.slice B (keysA T l).1.length c, .int .i64 (keysA T l).2] ∧ L = [rowOf 28 3 Sm.enc B c (keysA T l).1] := by
 have h44 : (4 : Int) ≤ 4 := by omega
 cases hok : okP 4 4 l with
 | false =>
   have rw_4 := hok
   have e : keysA T l = ([], 80) := by unfold keysA; rw [hok]; rfl
   rw [e]
   unfold Go.Fw.Rets
   refine enter2 func26 rfl ntmps26 rfl fun a S => sg S (.ac rfl <| .ac rfl <| .z) fun a w S => wp_seq_k fun _ hK1 => wp_seq_k fun _ hK2 => wp_region_lit (run S (.mv rfl <| .xx (Zi call55 (.cons Ev.c (.cons Ev.c (.cons (.t rfl) .nil))) (fun hp w W => c55 _ _ _ _ _ (by exact .old W (by assumption)) (by assumption))) rfl <| .z) fun a w S => ?_)
   rw [rw_4] at S
   refine run S (.nt rfl <| .z) fun a w S => Zb (Za (hK2 _ _ (Ze S (.t rfl) (sg S (.ac rfl <| .ac rfl <| .z) fun a w S => wp_ret (Zj (Zk S (results2 S results26 (Rv.tmp rfl) (Rv.tmp rfl)) ?_))))))
   exact ⟨_, _, rfl, (S.nil_ 28 3 Sm.enc none).wd.pk, none, 0, rfl, rfl⟩
 | true =>
   have rw_4 := hok
   have e : keysA T l = (keysT T l, 0) := by unfold keysA; rw [if_pos hok]
   rw [e]
   have hmem := fun x hx => okP_mem (x := x) hok hx
   have h0 := h2
   obtain ⟨A', cap', rfl, hl', hcap', hA⟩ := h2
   unfold Go.Fw.Rets
   refine enter2 func26 rfl ntmps26 rfl fun a S => sg S (.ac rfl <| .ac rfl <| .z) fun a w S => wp_seq_k fun _ hK1 => wp_seq_k fun _ hK2 => wp_region_lit (run S (.mv rfl <| .xx (Zi call55 (.cons Ev.c (.cons Ev.c (.cons (.t rfl) .nil))) (fun hp w W => c55 _ _ _ _ _ (by exact .old W (by assumption)) (by assumption))) rfl <| .z) fun a w S => ?_)
   rw [rw_4] at S
   refine run S (.nt rfl <| .z) fun a w S => Zb (Za (hK2 _ _ (Zf S (.t rfl) (wp_skip (Za (hK1 _ _ (sg S (.ac rfl <| .z) fun a w S => wp_seq_k fun _ hK1 => sg S (.ac rfl <| .z) fun a w S => wp_block ?_)))))))
   replace S := S.nil_ 28 3 Sm.enc none
   refine Ye S [6, 7] (X := Nat × Option Addr × Nat) (fun q => [(6, true, .slice q.2.1 (keysT T (l.take q.1)).length q.2.2), (7, true, .int .i64 (q.1 : Int))]) (fun q => [rowOf 28 3 Sm.enc q.2.1 q.2.2 (keysT T (l.take q.1))]) (fun q => q.1 ≤ l.length) (fun q => l.length - q.1) (0, none, 0) (Nat.zero_le _) ?_
   clear S
   rintro ⟨q, B, cB⟩ a w hq S
   dsimp only at hq S
   have hbt := keys_room T (l.take q) hl (by rw [List.length_take]; omega)
   by_cases hlt : q < l.length
   · obtain ⟨g3, o3, x, rfl, hx, hd, hc⟩ := Yc hA hlt
     have hxb := hmem x (List.mem_of_getElem? hx)
     obtain ⟨i, rfl⟩ : ∃ i : Nat, x = (i : Int) := ⟨x.toNat, by omega⟩
     have hi : i < 16 := by have h5 := hxb.2; have h6 : (2 : Int) ^ (4 : Int).toNat = 16 := by decide
                            rw [h6] at h5; omega
     have hst := keys_step (T := T) hx
     rw [Int.toNat_natCast] at hst
     generalize keysT T (l.take q) = M at *
     have hpl := partT_len T i
     have hml : ((partT T i).map (smP i)).length = (partT T i).length := List.length_map ..
     refine wp_seq_k fun _ hK2 => sg S (.mv rfl <| .mv rfl <| .ln underlying42 rfl <| .lt (by omega) rfl rfl <| .z) fun a w S => Ze S (.t rfl) (wp_skip (Za (hK2 _ _ (wp_seq_k fun _ hK2 => wp_block (wp_region_lit (run S (.mv rfl <| .mv rfl <| .mv rfl <| .mv rfl <| .ix underlying42 sizeOf3 (by omega) rfl rfl <| .yy (Ya ⟨isAgg3, sizeOf3⟩ (.t rfl) (fun _ => hc 0 _ rfl)) rfl <| .z) fun a w S => ?_))))))
     (refine Zh (Zq S call58 (.cons (.t rfl) (.cons (.t rfl) .nil)) (c58 _ _ _ _ _ _ (by exact .old S.wd (by assumption)) (by assumption) (by omega) (by assumption)) rfl ?_); clear S a w; rintro _ _ ⟨B1, c1, rfl, rfl⟩ a w S)
     refine Zh (op_extend _ S underlying22 underlying22 (.inr ⟨_, rfl⟩) inf28 rfl (k := 1) rfl (.t rfl) (.t rfl) (Src.row S.wd (k := 0) rfl (Go.Fw.flat_one Go.Fw.Sm.enc_one _)) (by first | omega | (simp only [List.length_append, List.length_cons, List.length_nil]; omega) | (simp; omega)) rfl rfl rfl fun A1 cap1 a w S => run S (.as rfl <| .z) fun a w S => Zb (Zg (Za (hK2 _ _ (wp_region_lit (run S (.mv rfl <| .ad (by unfold I64; omega) rfl <| .as rfl <| .z) fun a w S => Zb (Za ?_)))))))
     exact ⟨(q + 1, A1, cap1), by dsimp only; omega, by dsimp only; omega, by dsimp only; rw [hst]; exact S.pk⟩
   obtain rfl : q = l.length := by omega
   rw [List.take_length] at S
   refine wp_seq_k fun _ hK2 => sg S (.mv rfl <| .mv rfl <| .ln underlying42 rfl <| .ge (by omega) rfl rfl <| .z) fun a w S => Zf S (.t rfl) (wp_exit (Zc (Zc (Zn (Za (hK1 _ _ (sg S (.mv rfl <| .as rfl <| .ac rfl <| .z) fun a w S => wp_ret (Zk S (results2 S results26 (Rv.tmp rfl) (Rv.tmp rfl)) ?_))))))))
   exact ⟨_, _, rfl, S.wd.pk, _, _, rfl, rfl⟩
end Go.Proofs.Ytbijdmfilmecbaa
namespace Go.Proofs.Ytbijdmfilmecbaa
open Go.Fw Go.Proofs Go.RowKit Go.ChangeShapes Go.WideShapes Go.ChangeAt Go.Deep Go.Joins Go.Proofs.Try
section
variable {H : Type} {enc : TypeId × Value → H} {w : World}
theorem wf_u64 {n : Int} (h : (Lit.int .u64 n).wf = true) : 0 ≤ n ∧ n ≤ 18446744073709551615 := by
 simp only [Lit.wf, IntKind.min, IntKind.max, IntKind.signed, IntKind.bits, Bool.and_eq_true, decide_eq_true_eq, Bool.false_eq_true, if_false] at h
 omega
theorem rdSum : Rdr enc Try.prog w 28 fun cs b => ∃ x : Sm, cs = Sm.enc x ∧ (0 ≤ x.hash ∧ x.hash ≤ 18446744073709551615) ∧ x.key.length + 1 ≤ b := by
 refine (Rdr.struct underlying28 (by kernel_rfl) (.cons (Rdr.int underlying3) (.cons (Rdr.str underlying9) (.cons (Rdr.int underlying23) .nil)))).mono ?_
 rintro cs b ⟨_, _, rfl, ⟨_, _, x, rfl, _⟩, _, _, rfl, ⟨_, hb, s, rfl, hs⟩, _, _, rfl, ⟨_, _, h, rfl, hw⟩, rfl⟩
 exact ⟨⟨x, s, h⟩, rfl, wf_u64 hw, by dsimp only; omega⟩
end
end Go.Proofs.Ytbijdmfilmecbaa
namespace Go.Fw
open Go.RowKit
def getT (T : List KH) (k : List UInt8) : Option Int := (T.find? fun x => decide (x.1 = k)).map (·.2)
theorem getT_none {T : List KH} {k : List UInt8} (h : getT T k = none) : ∀ x ∈ T, x.1 ≠ k := by
 unfold getT at h
 rw [Option.map_eq_none_iff, List.find?_eq_none] at h
 intro x hx e
 exact h x hx (decide_eq_true e)
theorem Xp {T : List KH} {k : List UInt8} {h : Int} (e : getT T k = some h) : (k, h) ∈ T := by
 unfold getT at e
 obtain ⟨x, hx, rfl⟩ := Option.map_eq_some_iff.1 e
 have h1 := List.find?_some hx
 have h2 := List.mem_of_find?_eq_some hx
 have h3 : x.1 = k := of_decide_eq_true h1
 rw [← h3]
 exact h2
theorem key_inj {T : List KH} (hT : T.Pairwise ltK) {k : List UInt8} {h h' : Int} (h1 : (k, h) ∈ T) (h2 : (k, h') ∈ T) : h = h' := by
 refine Decidable.byContradiction fun hne => ?_
 induction T with
 | nil => cases h1
 | cons x r ih =>
   rw [List.pairwise_cons] at hT
   rcases List.mem_cons.1 h1 with a1 | a1
   · rcases List.mem_cons.1 h2 with a2 | a2
     · rw [← a1] at a2
       simp at a2
       exact hne a2.symm
     · have := hT.1 _ a2
       rw [← a1] at this
       unfold ltK at this
       rw [Xi] at this
       cases this
   · rcases List.mem_cons.1 h2 with a2 | a2
     · have := hT.1 _ a1
       rw [← a2] at this
       unfold ltK at this
       rw [Xi] at this
       cases this
     · exact ih hT.2 a1 a2
theorem getT_mem {T : List KH} (hT : T.Pairwise ltK) {k : List UInt8} {h : Int} (e : (k, h) ∈ T) : getT T k = some h := by
 cases hg : getT T k with
 | none => exact absurd rfl (getT_none hg _ e)
 | some u => rw [key_inj hT (Xp hg) e]
def missP (T U : List KH) (places : List Int) (k : List UInt8) : Bool := (places.any fun p => decide (p = (placeK k : Int))) && (!(getT T k).isSome || (!(getT U k).isSome || decide ((getT T k).getD 0 ≠ (getT U k).getD 0)))
def bothT (T : List KH) (sums : List Sm) : List KH := setsT [] (T.map (smP 0) ++ sums)
def missT (T : List KH) (sums : List Sm) (places : List Int) : List (List UInt8) := ((bothT T sums).filter fun x => missP T (setsT [] sums) places x.1).map (·.1)
def namesOk (sums : List Sm) : Bool := sums.all fun s => nameB s.key
def missA (T : List KH) (sums : List Sm) (places : List Int) : List (List UInt8) × Int := if okP 4 4 places = true then (if namesOk sums = true then (missT T sums places, 0) else ([], 6)) else ([], 80)
theorem sets_app (T : List KH) (l r : List Sm) : setsT T (l ++ r) = setsT (setsT T l) r := by unfold setsT; rw [List.foldl_append]
theorem sets_self : ∀ (T : List KH), KhOk T → setsT [] (T.map (smP 0)) = T := fun T hT => by
 have key : ∀ (R P : List KH), KhOk (P ++ R) → setsT P (R.map (smP 0)) = P ++ R := by
   intro R
   induction R with
   | nil => intro P _; simp [setsT]
   | cons x r ih =>
     intro P h
     have hn : nameB (smP 0 x).key = true := h.name x (by simp)
     have hp : ∀ y ∈ P, Op.bytesLess y.1 x.1 = true := fun y hy => by
       have := List.pairwise_append.1 h.sorted
       exact this.2.2 y hy x (by simp)
     show setsT (if nameB (smP 0 x).key = true then setT (smP 0 x).key (smP 0 x).hash P else P) (r.map (smP 0)) = _
     rw [if_pos hn]
     have e : setT (smP 0 x).key (smP 0 x).hash P = P ++ [x] := by
       have : ∀ P : List KH, (∀ y ∈ P, Op.bytesLess y.1 x.1 = true) → setT x.1 x.2 P = P ++ [x] := by
         intro P
         induction P with
         | nil => intro _; rfl
         | cons z q ihq =>
           intro hz
           have h1 : Op.bytesLess z.1 x.1 = true := hz z (by simp)
           obtain ⟨zk, zh⟩ := z
           rw [setT, if_neg (by rw [Xd h1]; simp), if_neg (less_ne h1).symm, ihq fun y hy => hz y (by simp [hy])]
           rfl
       exact this P hp
     rw [e, ih (P ++ [x]) (by rw [List.append_assoc]; exact h), List.append_assoc]
     rfl
 have := key T [] (by simpa using hT)
 simpa using this
theorem smp_ok {T : List KH} (hT : KhOk T) : hashOk (T.map (smP 0)) := fun x hx => by
 obtain ⟨y, hy, rfl⟩ := List.mem_map.1 hx
 exact hT.hash y hy
theorem both_ok {T : List KH} {sums : List Sm} (hT : KhOk T) (hs : hashOk sums) : KhOk (bothT T sums) := by
 refine sets_ok _ (fun x hx => ?_) kh_nil
 rcases List.mem_append.1 hx with hx | hx
 · exact smp_ok hT x hx
 · exact hs x hx
theorem both_eq {T : List KH} {sums : List Sm} (hT : KhOk T) : bothT T sums = setsT T sums := by
 unfold bothT
 rw [sets_app, sets_self T hT]
theorem sets_has {k : List UInt8} : ∀ (l : List Sm) {T : List KH}, KhOk T → hashOk l → namesOk l = true → ((∃ h, (k, h) ∈ setsT T l) ↔ (∃ h, (k, h) ∈ T) ∨ ∃ s ∈ l, s.key = k)
 | [], T, _, _, _ => by simp [setsT]
 | s :: r, T, hT, hl, hn => by
   unfold namesOk at hn
   rw [List.all_cons, Bool.and_eq_true] at hn
   have ih := sets_has (k := k) r (setT_ok hT hn.1 (hl s (by simp))) (fun x hx => hl x (by simp [hx])) hn.2
   show (∃ h, (k, h) ∈ setsT (if nameB s.key = true then setT s.key s.hash T else T) r) ↔ _
   rw [if_pos hn.1, ih]
   constructor
   · rintro (⟨h, hh⟩ | ⟨x, hx, e⟩)
     · rcases (Xb hT.sorted).1 hh with e | ⟨h1, _⟩
       · simp at e
         exact .inr ⟨s, by simp, e.1.symm⟩
       · exact .inl ⟨h, h1⟩
     · exact .inr ⟨x, by simp [hx], e⟩
   · rintro (⟨h, hh⟩ | ⟨x, hx, e⟩)
     · by_cases e : k = s.key
       · exact .inl ⟨s.hash, (Xb hT.sorted).2 (.inl (by rw [e]))⟩
       · exact .inl ⟨h, (Xb hT.sorted).2 (.inr ⟨hh, e⟩)⟩
     · rcases List.mem_cons.1 hx with rfl | hx
       · exact .inl ⟨x.hash, (Xb hT.sorted).2 (.inl (by rw [e]))⟩
       · exact .inr ⟨x, hx, e⟩
theorem both_has {T : List KH} {sums : List Sm} {k : List UInt8} (hT : KhOk T) (hs : hashOk sums) (hn : namesOk sums = true) : (∃ h, (k, h) ∈ bothT T sums) ↔ (∃ h, (k, h) ∈ T) ∨ ∃ h, (k, h) ∈ setsT [] sums := by
 rw [both_eq hT, sets_has sums hT hs hn, sets_has sums kh_nil hs hn]
 simp
theorem miss_mem {T : List KH} {sums : List Sm} {places : List Int} {k : List UInt8} (hT : KhOk T) (hs : hashOk sums) (hn : namesOk sums = true) : k ∈ missT T sums places ↔
   (placeK k : Int) ∈ places ∧ ((∃ h, (k, h) ∈ T ∧ getT (setsT [] sums) k ≠ some h) ∨ ((∃ h, (k, h) ∈ setsT [] sums) ∧ ∀ h, (k, h) ∉ T)) := by
 have hU := sets_ok sums hs kh_nil
 unfold missT
 rw [List.mem_map]
 have hany : ∀ k, (places.any fun p => decide (p = (placeK k : Int))) = true ↔ (placeK k : Int) ∈ places := fun k => by
   rw [List.any_eq_true]
   constructor
   · rintro ⟨p, hp, e⟩
     rw [← of_decide_eq_true e]; exact hp
   · exact fun h => ⟨_, h, decide_eq_true rfl⟩
 constructor
 · rintro ⟨⟨k', u⟩, hx, rfl⟩
   obtain ⟨h1, h2⟩ := List.mem_filter.1 hx
   unfold missP at h2
   rw [Bool.and_eq_true] at h2
   refine ⟨(hany _).1 h2.1, ?_⟩
   have h3 := (both_has hT hs hn).1 ⟨u, h1⟩
   cases hg : getT T k' with
   | none =>
     refine .inr ⟨?_, fun h hh => getT_none hg _ hh rfl⟩
     rcases h3 with ⟨h, hh⟩ | h3
     · exact absurd rfl (getT_none hg _ hh)
     · exact h3
   | some v =>
     refine .inl ⟨v, Xp hg, fun e => ?_⟩
     have h4 := h2.2
     dsimp only at h4
     rw [hg, e] at h4
     simp at h4
 · rintro ⟨h1, h2⟩
   have h3 : ∃ h, (k, h) ∈ bothT T sums := (both_has hT hs hn).2 (by
     rcases h2 with ⟨h, hh, _⟩ | ⟨h, _⟩
     · exact .inl ⟨h, hh⟩
     · exact .inr h)
   obtain ⟨u, hu⟩ := h3
   refine ⟨(k, u), List.mem_filter.2 ⟨hu, ?_⟩, rfl⟩
   unfold missP
   rw [Bool.and_eq_true]
   refine ⟨(hany k).2 h1, ?_⟩
   dsimp only
   rcases h2 with ⟨h, hh, hne⟩ | ⟨_, hno⟩
   · rw [getT_mem hT.sorted hh]
     cases hg : getT (setsT [] sums) k with
     | none => simp
     | some v =>
       rw [hg] at hne
       simp
       exact fun e => hne (by rw [e])
   · cases hg : getT T k with
     | none => simp
     | some v => exact absurd (Xp hg) (hno v)
theorem miss_sorted {T : List KH} {sums : List Sm} {places : List Int} (hT : KhOk T) (hs : hashOk sums) : ((missT T sums places).map fun k => ((k, 0) : KH)).Pairwise ltK := by
 unfold missT
 rw [List.map_map]
 refine List.pairwise_map.2 (((both_ok hT hs).sorted.filter _).imp fun h => ?_)
 exact h
theorem miss_len (T : List KH) (sums : List Sm) (places : List Int) : (missT T sums places).length ≤ T.length + sums.length := by
 unfold missT
 rw [List.length_map]
 have h1 := List.length_filter_le (fun x : KH => missP T (setsT [] sums) places x.1) (bothT T sums)
 have h2 := sets_len (T.map (smP 0) ++ sums) []
 rw [List.length_append, List.length_map, List.length_nil] at h2
 unfold bothT at h1 ⊢
 omega
end Go.Fw
namespace Go.Fw
open Go.RowKit
def diffT (T U : List KH) (n : Nat) (p : Int) : Bool := decide (hashT U (4 - n) p.toNat ≠ hashT T (4 - n) p.toNat)
def candT (T U : List KH) : Nat → List Int
 | 0 => [0]
 | n + 1 => belowT ((candT T U n).filter (diffT T U n))
theorem unlike_sums {T U : List KH} {n : Nat} (l : List Int) : unlikeT U (n : Int) (sumsT T (n : Int) l) = l.filter (diffT T U n) := by
 have e : (4 - (n : Int)).toNat = 4 - n := by omega
 unfold unlikeT sumsT
 rw [List.filter_map, List.map_map, e]
 exact (List.map_congr_left fun _ _ => rfl).trans (List.map_id _)
theorem below_mem {l : List Int} {p : Int} : p ∈ belowT l ↔ ∃ r ∈ l, p = 2 * r ∨ p = 2 * r + 1 := by
 unfold belowT
 rw [List.mem_flatMap]
 simp
theorem cand_ok {T U : List KH} : ∀ (n : Nat), ∀ p ∈ candT T U n, 0 ≤ p ∧ p < 2 ^ n
 | 0, p, hp => by
   have : p = 0 := by simpa [candT] using hp
   subst this
   decide
 | n + 1, p, hp => by
   rw [candT, below_mem] at hp
   obtain ⟨r, hr, h⟩ := hp
   have ih := cand_ok n r (List.mem_filter.1 hr).1
   rw [Int.pow_succ]
   omega
theorem cand_okP {T U : List KH} {n : Nat} (hn : n ≤ 4) : okP (n : Int) 4 (candT T U n) = true := by
 unfold okP
 rw [decide_eq_true (show (0 : Int) ≤ n by omega), decide_eq_true (show (n : Int) ≤ 4 by omega), Bool.true_and, Bool.true_and, List.all_eq_true]
 intro p hp
 have := cand_ok n p hp
 rw [Int.toNat_natCast]
 exact decide_eq_true this
theorem filt_okP {T U : List KH} {n : Nat} (hn : n ≤ 4) {d : Int} (hd : (n : Int) ≤ d) : okP (n : Int) d ((candT T U n).filter (diffT T U n)) = true := by
 unfold okP
 rw [decide_eq_true (show (0 : Int) ≤ n by omega), decide_eq_true hd, Bool.true_and, Bool.true_and, List.all_eq_true]
 intro p hp
 have := cand_ok n p (List.mem_filter.1 hp).1
 rw [Int.toNat_natCast]
 exact decide_eq_true this
def underT (T : List KH) (n p : Nat) : List KH := T.filter fun x => decide (placeK x.1 / 2 ^ (4 - n) = p)
def NoClash (T U : List KH) : Prop := ∀ n, n ≤ 4 → ∀ p, p < 2 ^ n → hashT T (4 - n) p = hashT U (4 - n) p → underT T n p = underT U n p
theorem part_under {T : List KH} {n q : Nat} : partT T q = (underT T n (q / 2 ^ (4 - n))).filter fun x => decide (placeK x.1 = q) := by
 unfold partT underT
 rw [List.filter_filter]
 refine List.filter_congr fun x _ => ?_
 by_cases h : placeK x.1 = q
 · rw [h]; simp
 · simp [h]
theorem cand_mem {T U : List KH} (hc : NoClash T U) {q : Nat} (hq : q < 16) (hd : hashT T 0 q ≠ hashT U 0 q) : ∀ n, n ≤ 4 → ((q / 2 ^ (4 - n) : Nat) : Int) ∈ candT T U n ∧ diffT T U n ((q / 2 ^ (4 - n) : Nat) : Int) = true := by
 have hdiff : ∀ n, n ≤ 4 → diffT T U n ((q / 2 ^ (4 - n) : Nat) : Int) = true := fun n hn => by
   unfold diffT
   rw [Int.toNat_natCast]
   refine decide_eq_true fun e => hd ?_
   have hlt : q / 2 ^ (4 - n) < 2 ^ n := by
     rw [Nat.div_lt_iff_lt_mul (Nat.two_pow_pos _), ← Nat.pow_add, show n + (4 - n) = 4 by omega]
     exact hq
   have h1 := hc n hn _ hlt e.symm
   rw [hashT, hashT, part_under (T := T) (n := n), part_under (T := U) (n := n), h1]
 intro n
 induction n with
 | zero =>
   intro hn
   refine ⟨?_, hdiff 0 hn⟩
   have : q / 2 ^ (4 - 0) = 0 := Nat.div_eq_of_lt hq
   rw [this]
   simp [candT]
 | succ n ih =>
   intro hn
   obtain ⟨h1, h2⟩ := ih (by omega)
   refine ⟨?_, hdiff (n + 1) hn⟩
   rw [candT, below_mem]
   refine ⟨_, List.mem_filter.2 ⟨h1, h2⟩, ?_⟩
   have e : q / 2 ^ (4 - n) = q / 2 ^ (4 - (n + 1)) / 2 := by
     rw [Nat.div_div_eq_div_mul, ← Nat.pow_succ, show (4 - (n + 1)).succ = 4 - n by omega]
   rw [e]
   omega
theorem sets_from {T : List KH} : ∀ (l : List Sm) {S : List KH}, KhOk S → hashOk l → (∀ x ∈ S, x ∈ T) → (∀ s ∈ l, (s.key, s.hash) ∈ T) → ∀ x ∈ setsT S l, x ∈ T
 | [], _, _, _, h, _ => h
 | s :: r, S, hS, hh, h, hl => by
   show ∀ x ∈ setsT (if nameB s.key = true then setT s.key s.hash S else S) r, x ∈ T
   by_cases hn : nameB s.key = true
   · rw [if_pos hn]
     refine sets_from r (setT_ok hS hn (hh s (by simp))) (fun x hx => hh x (by simp [hx])) (fun x hx => ?_) (fun x hx => hl x (by simp [hx]))
     rcases (Xb hS.sorted).1 hx with rfl | ⟨hx, _⟩
     · exact hl s (by simp)
     · exact h x hx
   · rw [if_neg hn]
     exact sets_from r hS (fun x hx => hh x (by simp [hx])) h (fun x hx => hl x (by simp [hx]))
theorem keysT_mem {T : List KH} {l : List Int} {s : Sm} : s ∈ keysT T l ↔ ∃ p ∈ l, ∃ x ∈ partT T p.toNat, s = smP p x := by
 unfold keysT
 rw [List.mem_flatMap]
 constructor
 · rintro ⟨p, hp, h⟩
   obtain ⟨x, hx, rfl⟩ := List.mem_map.1 h
   exact ⟨p, hp, x, hx, rfl⟩
 · rintro ⟨p, hp, x, hx, rfl⟩
   exact ⟨p, hp, List.mem_map.2 ⟨x, hx, rfl⟩⟩
theorem keysT_ok {T : List KH} (hT : KhOk T) (l : List Int) : hashOk (keysT T l) ∧ namesOk (keysT T l) = true ∧ ∀ s ∈ keysT T l, (s.key, s.hash) ∈ T := by
 have key : ∀ s ∈ keysT T l, (s.key, s.hash) ∈ T := fun s hs => by
   obtain ⟨p, _, x, hx, rfl⟩ := keysT_mem.1 hs
   exact (Zv.1 hx).1
 refine ⟨fun s hs => hT.hash _ (key s hs), ?_, key⟩
 unfold namesOk
 rw [List.all_eq_true]
 exact fun s hs => hT.name _ (key s hs)
theorem keysT_tree {T : List KH} (hT : KhOk T) {l : List Int} (h0 : ∀ p ∈ l, 0 ≤ p) {k : List UInt8} {h : Int} : (k, h) ∈ setsT [] (keysT T l) ↔ (k, h) ∈ T ∧ (placeK k : Int) ∈ l := by
 obtain ⟨k1, k2, k3⟩ := keysT_ok hT l
 have hsub := sets_from (T := T) (keysT T l) kh_nil k1 (by simp) k3
 have hhas := sets_has (k := k) (keysT T l) kh_nil k1 k2
 generalize hpk : placeK k = pk
 have hkey : (∃ s ∈ keysT T l, s.key = k) → (pk : Int) ∈ l := by
   rintro ⟨s, hs, he⟩
   obtain ⟨p, hp, x, hx, hxs⟩ := keysT_mem.1 hs
   have h2 := (Zv.1 hx).2
   have h1 := h0 p hp
   have h3 : x.1 = k := by rw [← he, hxs]; rfl
   rw [h3, hpk] at h2
   rw [h2, Int.toNat_of_nonneg h1]
   exact hp
 constructor
 · intro hm
   refine ⟨hsub _ hm, hkey ?_⟩
   rcases hhas.1 ⟨h, hm⟩ with ⟨_, h1⟩ | h1
   · cases h1
   · exact h1
 · rintro ⟨hm, hp⟩
   have hpt : (k, h) ∈ partT T ((pk : Int).toNat) := Zv.2 ⟨hm, by rw [Int.toNat_natCast]; exact hpk⟩
   obtain ⟨h', hm'⟩ := hhas.2 (.inr ⟨smP (pk : Int) (k, h), keysT_mem.2 ⟨_, hp, (k, h), hpt, rfl⟩, rfl⟩)
   rw [key_inj hT.sorted hm (hsub _ hm')]
   exact hm'
theorem miss_ext {U : List KH} {s1 s2 : List Sm} {p1 p2 : List Int} (hU : KhOk U) (h1 : hashOk s1) (h2 : hashOk s2) (h : ∀ k, k ∈ missT U s1 p1 ↔ k ∈ missT U s2 p2) : missT U s1 p1 = missT U s2 p2 := by
 have a1 := miss_sorted (places := p1) hU h1
 have a2 := miss_sorted (places := p2) hU h2
 rw [List.pairwise_map] at a1 a2
 exact Xm (R := fun a b => Op.bytesLess a b = true) (fun a => by rw [Xi]; simp) (fun a b h => by rw [Xd h]; simp) a1 a2 h
theorem found_all {T U : List KH} (hT : KhOk T) (hU : KhOk U) (hc : NoClash T U) :
   missT U (keysT T ((candT T U 4).filter (diffT T U 4))) ((candT T U 4).filter (diffT T U 4)) = missT U (T.map (smP 0)) ((List.range 16).map fun i : Nat => (i : Int)) := by
 obtain ⟨X, hX⟩ : ∃ X, (candT T U 4).filter (diffT T U 4) = X := ⟨_, rfl⟩
 rw [hX]
 have h0 : ∀ p ∈ X, 0 ≤ p := fun p hp => by rw [← hX] at hp; exact (cand_ok 4 p (List.mem_filter.1 hp).1).1
 obtain ⟨k1, k2, k3⟩ := keysT_ok hT X
 have hX2 : ∀ k, hashT T 0 (placeK k) ≠ hashT U 0 (placeK k) → ((placeK k : Nat) : Int) ∈ X := fun k hne => by
   have := cand_mem hc (Xg k) hne 4 (Nat.le_refl _)
   rw [show placeK k / 2 ^ (4 - 4) = placeK k by simp] at this
   rw [← hX]
   exact List.mem_filter.2 this
 have hpart : ∀ k, ((placeK k : Nat) : Int) ∉ X → partT T (placeK k) = partT U (placeK k) := fun k hn => by
   have he : hashT T 0 (placeK k) = hashT U 0 (placeK k) := Decidable.byContradiction fun h => hn (hX2 k h)
   have h1 := hc 4 (Nat.le_refl _) (placeK k) (Xg k) he
   rw [part_under (T := T) (n := 4), part_under (T := U) (n := 4), show placeK k / 2 ^ (4 - 4) = placeK k by simp, h1]
 have hn2 : namesOk (T.map (smP 0)) = true := by
   unfold namesOk
   rw [List.all_eq_true]
   intro s hs
   obtain ⟨x, hx, rfl⟩ := List.mem_map.1 hs
   exact hT.name x hx
 refine miss_ext hU k1 (smp_ok hT) fun k => ?_
 rw [miss_mem hU k1 k2, miss_mem hU (smp_ok hT) hn2, sets_self T hT]
 have hV := sets_ok _ k1 kh_nil
 have hall : ((placeK k : Nat) : Int) ∈ (List.range 16).map fun i : Nat => (i : Int) := List.mem_map.2 ⟨placeK k, List.mem_range.2 (Xg k), rfl⟩
 have hget : ((placeK k : Nat) : Int) ∈ X → getT (setsT [] (keysT T X)) k = getT T k := fun hp => by
   cases hg : getT T k with
   | some v => exact getT_mem hV.sorted ((keysT_tree hT h0).2 ⟨Xp hg, hp⟩)
   | none =>
     cases hg2 : getT (setsT [] (keysT T X)) k with
     | none => rfl
     | some v => exact absurd rfl (getT_none hg _ ((keysT_tree hT h0).1 (Xp hg2)).1)
 constructor
 · rintro ⟨hp, h⟩
   refine ⟨hall, ?_⟩
   rw [hget hp] at h
   rcases h with h | ⟨⟨u, hu⟩, h⟩
   · exact .inl h
   · exact .inr ⟨⟨u, ((keysT_tree hT h0).1 hu).1⟩, h⟩
 · rintro ⟨_, h⟩
   have hp : ((placeK k : Nat) : Int) ∈ X := Decidable.byContradiction fun hn => by
     have he := hpart k hn
     rcases h with ⟨v, hv, h⟩ | ⟨⟨u, hu⟩, h⟩
     · have : (k, v) ∈ partT T (placeK k) := by rw [he]; exact Zv.2 ⟨hv, rfl⟩
       exact h (getT_mem hT.sorted (Zv.1 this).1)
     · have : (k, u) ∈ partT U (placeK k) := by rw [← he]; exact Zv.2 ⟨hu, rfl⟩
       exact h u (Zv.1 this).1
   refine ⟨hp, ?_⟩
   rw [hget hp]
   rcases h with h | ⟨⟨u, hu⟩, h⟩
   · exact .inl h
   · exact .inr ⟨⟨u, (keysT_tree hT h0).2 ⟨hu, hp⟩⟩, h⟩
end Go.Fw
namespace Go.Fw
open Go.RowKit
theorem below_nodup : ∀ {l : List Int}, l.Nodup → (belowT l).Nodup
 | [], _ => by simp [belowT]
 | x :: r, h => by
   rw [List.nodup_cons] at h
   have ih := below_nodup h.2
   show (([2 * x, 2 * x + 1] : List Int) ++ belowT r).Nodup
   rw [List.nodup_append]
   refine ⟨by simp; omega, ih, fun a ha b hb e => ?_⟩
   subst e
   obtain ⟨y, hy, h1⟩ := below_mem.1 hb
   have : y = x := by
     simp at ha
     omega
   subst this
   exact h.1 hy
theorem cand_nodup (T U : List KH) : ∀ n, (candT T U n).Nodup
 | 0 => by simp [candT]
 | n + 1 => below_nodup ((cand_nodup T U n).filter _)
theorem keysT_congr {T S : List KH} : ∀ {l : List Int}, (∀ p ∈ l, partT T p.toNat = partT S p.toNat) → keysT T l = keysT S l
 | [], _ => rfl
 | p :: r, h => by
   have ih := keysT_congr (l := r) fun q hq => h q (by simp [hq])
   unfold keysT at ih ⊢
   rw [List.flatMap_cons, List.flatMap_cons, ih, h p (by simp)]
theorem keysT_few : ∀ {l : List Int} (T : List KH), l.Nodup → (∀ p ∈ l, 0 ≤ p) → (keysT T l).length ≤ T.length
 | [], T, _, _ => by simp [keysT]
 | p :: r, T, hn, h0 => by
   rw [List.nodup_cons] at hn
   have ih := keysT_few (T.filter fun x => !decide (placeK x.1 = p.toNat)) hn.2 fun q hq => h0 q (by simp [hq])
   have e : keysT T r = keysT (T.filter fun x => !decide (placeK x.1 = p.toNat)) r := keysT_congr fun q hq => by
     unfold partT
     rw [List.filter_filter]
     refine List.filter_congr fun x _ => ?_
     have h1 := h0 p (by simp)
     have h2 := h0 q (by simp [hq])
     have h3 : q ≠ p := fun e => hn.1 (by rw [← e]; exact hq)
     by_cases h4 : placeK x.1 = q.toNat
     · have h5 : ¬ placeK x.1 = p.toNat := by omega
       simp [h4, h5]
       omega
     · simp [h4]
   have hsum : (partT T p.toNat).length + (T.filter fun x => !decide (placeK x.1 = p.toNat)).length = T.length := by
     unfold partT
     clear ih e
     induction T with
     | nil => rfl
     | cons x s ihs =>
       by_cases hx : placeK x.1 = p.toNat
       · simp [hx]; omega
       · simp [hx]; omega
   show (((partT T p.toNat).map (smP p)) ++ keysT T r).length ≤ T.length
   rw [List.length_append, List.length_map, e]
   omega
end Go.Fw
namespace Go.Fw
open Go.RowKit
structure Sl1 where
 a : Option Addr
 n : Nat
 c : Nat
abbrev Sl1.v (s : Sl1) : Value := .slice s.a s.n s.c
abbrev Sl1.nil : Sl1 := ⟨none, 0, 0⟩
structure MV where
 kind : Int
 fr : Int
 to : Int
 rq : Int
 key : List UInt8
 ce : Sl1
 cm : Sl1
 cc : Sl1
 ow : Int
 pt : Int
 nn : Int
 r1 : Int
 r2 : Int
 r3 : Int
 rm : Sl1
 pe : Sl1
 su : Sl1
abbrev MV.enc (m : MV) : List Value := [.int .i64 m.kind, .int .i64 m.fr, .int .i64 m.to, .int .i64 m.rq, .string (bs m.key), .slice m.ce.a m.ce.n m.ce.c, .slice m.cm.a m.cm.n m.cm.c, .slice m.cc.a m.cc.n m.cc.c, .int .i64 m.ow, .int .i64 m.pt, .int .i64 m.nn, .int .i64 m.r1, .int .i64 m.r2, .int .i64 m.r3, .slice m.rm.a m.rm.n m.rm.c, .slice m.pe.a m.pe.n m.pe.c, .slice m.su.a m.su.n m.su.c]
theorem MV.enc_len (m : MV) : (MV.enc m).length = 17 := rfl
theorem MV.enc_one (m : MV) : ∀ u ∈ MV.enc m, u.oneCell' = true := fun u hu => by
 simp [MV.enc] at hu
 rcases hu with rfl | rfl | rfl | rfl | rfl | rfl | rfl | rfl | rfl | rfl | rfl | rfl | rfl | rfl | rfl | rfl | rfl <;> rfl
abbrev XV.enc (self : Int) (g : Nat) (m : MV) : List Value := .int .i64 self :: .pointer (some ⟨g, 0, none⟩) :: MV.enc m
abbrev giveV (self : Int) (m : MV) (k : List UInt8) : MV := ⟨9, self, m.fr, 0, k, .nil, .nil, .nil, -1, m.pt, 0, 0, 0, 0, .nil, .nil, .nil⟩
abbrev treeV (self : Int) (m : MV) (n : Int) (s : Sl1) : MV := ⟨8, self, m.fr, 0, [], .nil, .nil, .nil, -1, m.pt, n, 0, 0, 0, .nil, .nil, s⟩
theorem giveV_enc (self : Int) (m : MV) (k : List UInt8) : #[Value.int .i64 9, .int .i64 self, .int .i64 m.fr, .int .i64 0, .string (bs k), .slice none 0 0, .slice none 0 0, .slice none 0 0, .int .i64 (-1), .int .i64 m.pt, .int .i64 0, .int .i64 0, .int .i64 0, .int .i64 0, .slice none 0 0, .slice none 0 0, .slice none 0 0] = (MV.enc (giveV self m k)).toArray := rfl
def haveT (T : List KH) (l : List (List UInt8)) : List (List UInt8) := l.filter (hasT T)
def giveT (self : Int) (m : MV) (T : List KH) (l : List (List UInt8)) : List MV := (haveT T l).map (giveV self m)
theorem haveT_snoc {T : List KH} {l : List (List UInt8)} {i : Nat} {k : List UInt8} (h : l[i]? = some k) : haveT T (l.take (i + 1)) = haveT T (l.take i) ++ if hasT T k = true then [k] else [] := by
 unfold haveT
 rw [List.take_add_one, h, Option.toList_some, List.filter_append]
 congr 1
 by_cases e : hasT T k = true
 · rw [if_pos e, List.filter_cons_of_pos e]; rfl
 · rw [if_neg e, List.filter_cons_of_neg e]; rfl
theorem haveT_len (T : List KH) (l : List (List UInt8)) : (haveT T l).length ≤ l.length := List.length_filter_le _ _
theorem part_key {T : List KH} (hT : KhOk T) (k : List UInt8) (p : Int) (hp : p.toNat = placeK k) : ((keysT T [p]).filter fun s => decide (s.key = k)).length = if hasT T k = true then 1 else 0 := by
 have e1 : (keysT T [p]) = (partT T (placeK k)).map (smP p) := by
   unfold keysT
   rw [List.flatMap_cons, List.flatMap_nil, List.append_nil, hp]
 have hs : (partT T (placeK k)).Pairwise ltK := hT.sorted.filter _
 have hm : ∀ x, x ∈ partT T (placeK k) ↔ x ∈ T ∧ placeK x.1 = placeK k := fun x => Zv
 have e2 : ((partT T (placeK k)).map (smP p)).filter (fun s => decide (s.key = k)) = ((partT T (placeK k)).filter fun x => decide (x.1 = k)).map (smP p) := by
   rw [List.filter_map]; rfl
 rw [e1, e2, List.length_map]
 have hn : ((partT T (placeK k)).filter fun x => decide (x.1 = k)).Pairwise ltK := hs.filter _
 by_cases h : hasT T k = true
 · rw [if_pos h]
   unfold hasT at h
   rw [List.any_eq_true] at h
   obtain ⟨x, hx, e⟩ := h
   rw [decide_eq_true_eq] at e
   have hxm : x ∈ (partT T (placeK k)).filter fun x => decide (x.1 = k) := by
     rw [List.mem_filter, decide_eq_true_eq]
     exact ⟨(hm x).2 ⟨hx, by rw [e]⟩, e⟩
   have hall : ∀ y ∈ (partT T (placeK k)).filter fun x => decide (x.1 = k), y.1 = k := fun y hy => by
     rw [List.mem_filter, decide_eq_true_eq] at hy; exact hy.2
   generalize (partT T (placeK k)).filter (fun x => decide (x.1 = k)) = l at hn hxm hall
   match l, hn, hxm, hall with
   | [_], _, _, _ => rfl
   | a :: b :: r, hn, _, hall =>
     exfalso
     have h1 := (List.pairwise_cons.1 hn).1 b (by simp)
     unfold ltK at h1
     rw [hall a (by simp), hall b (by simp)] at h1
     rw [Xi] at h1
     cases h1
 · rw [if_neg h]
   rw [List.length_eq_zero_iff, List.filter_eq_nil_iff]
   intro x hx
   rw [decide_eq_true_eq]
   intro e
   refine h ?_
   unfold hasT
   rw [List.any_eq_true]
   exact ⟨x, ((hm x).1 hx).1, decide_eq_true e⟩
structure Ans where
 gives : List (List UInt8)
 tree : Option (Int × List Sm)
abbrev Ans.nil : Ans := ⟨[], none⟩
def Ans.sums (a : Ans) : List Sm := match a.tree with
 | some p => p.2
 | none => []
def leavesT (T : List KH) (u : List Int) : List Sm := u.flatMap fun p => ⟨p, [], 0⟩ :: keysT T [p]
def downT (T : List KH) (n : Int) (sums : List Sm) : Option (Int × List Sm) :=
 if okP n 4 (sums.map (·.place)) = true ∧ unlikeT T n sums ≠ [] then (if n = 4 then some (5, leavesT T (unlikeT T n sums)) else some (n + 1, sumsT T (n + 1) (belowT (unlikeT T n sums)))) else none
def placesS (sums : List Sm) : List Int := (sums.filter fun s => decide (s.key = [])).map (·.place)
def restS (sums : List Sm) : List Sm := sums.filter fun s => !decide (s.key = [])
def missW (T : List KH) (sums : List Sm) : List (List UInt8) := (missA T (restS sums) (placesS sums)).1
def keyS (k : List UInt8) : Sm := ⟨0, k, 0⟩
def keysQ (T : List KH) (sums : List Sm) : Ans := if missW T sums = [] then .nil else ⟨haveT T (missW T sums), some (6, (missW T sums).map keyS)⟩
def onA (T : List KH) (n : Int) (sums : List Sm) : Ans :=
 if 0 ≤ n ∧ n ≤ 4 then ⟨[], downT T n sums⟩ else if n = 5 then keysQ T sums else if n = 6 then ⟨haveT T (sums.map (·.key)), none⟩ else .nil
def ansV (self : Int) (m : MV) (a : Ans) (B : Option Addr) (cB : Nat) : List MV := a.gives.map (giveV self m) ++ match a.tree with
 | some p => [treeV self m p.1 ⟨B, p.2.length, cB⟩]
 | none => []
theorem unlike_mem {T : List KH} {n x : Int} {sums : List Sm} (h : x ∈ unlikeT T n sums) : x ∈ sums.map (·.place) := by
 unfold unlikeT at h
 obtain ⟨s, hs, rfl⟩ := List.mem_map.1 h
 exact List.mem_map.2 ⟨s, (List.mem_filter.1 hs).1, rfl⟩
theorem okP_iff {n d : Int} {l : List Int} : okP n d l = true ↔ (0 ≤ n ∧ n ≤ d) ∧ ∀ x ∈ l, 0 ≤ x ∧ x < 2 ^ n.toNat := by
 unfold okP
 rw [Bool.and_eq_true, Bool.and_eq_true, decide_eq_true_eq, decide_eq_true_eq, List.all_eq_true]
 constructor
 · rintro ⟨h1, h2⟩; exact ⟨h1, fun x hx => of_decide_eq_true (h2 x hx)⟩
 · rintro ⟨h1, h2⟩; exact ⟨h1, fun x hx => decide_eq_true (h2 x hx)⟩
theorem okP_unlike {T : List KH} {n d : Int} {sums : List Sm} (h : okP n d (sums.map (·.place)) = true) : okP n d (unlikeT T n sums) = true := by
 obtain ⟨h1, h2⟩ := okP_iff.1 h
 exact okP_iff.2 ⟨h1, fun x hx => h2 x (unlike_mem hx)⟩
theorem okP_below {n : Int} {l : List Int} (h : okP n 4 l = true) (hn : n ≠ 4) : okP n 3 l = true ∧ okP (n + 1) 4 (belowT l) = true := by
 obtain ⟨⟨h0, h1⟩, h2⟩ := okP_iff.1 h
 refine ⟨okP_iff.2 ⟨⟨h0, by omega⟩, h2⟩, okP_iff.2 ⟨⟨by omega, by omega⟩, fun x hx => ?_⟩⟩
 obtain ⟨p, hp, hx⟩ := List.mem_flatMap.1 hx
 obtain ⟨h3, h4⟩ := h2 p hp
 have e : (2 : Int) ^ (n + 1).toNat = 2 * 2 ^ n.toNat := by
   rw [show (n + 1).toNat = n.toNat + 1 by omega, Int.pow_succ]; omega
 rw [e]
 generalize (2 : Int) ^ n.toNat = b at h4
 simp at hx
 omega
theorem okP_one {p : Int} {l : List Int} (h : okP 4 4 l = true) (hp : p ∈ l) : okP 4 4 [p] = true := by
 obtain ⟨h1, h2⟩ := okP_iff.1 h
 exact okP_iff.2 ⟨h1, fun x hx => by rw [List.mem_singleton.1 hx]; exact h2 p hp⟩
theorem Xz (T : List KH) (p : Int) : (keysT T [p]).length ≤ T.length := by
 unfold keysT
 rw [List.flatMap_cons, List.flatMap_nil, List.append_nil, List.length_map]
 exact List.length_filter_le _ _
theorem leaves_snoc {T : List KH} {u : List Int} {i : Nat} {p : Int} (h : u[i]? = some p) : leavesT T (u.take (i + 1)) = (leavesT T (u.take i) ++ [⟨p, [], 0⟩]) ++ keysT T [p] := by
 unfold leavesT
 rw [List.take_add_one, h, Option.toList_some, List.flatMap_append, List.flatMap_cons, List.flatMap_nil, List.append_nil, List.append_assoc]
 rfl
theorem leaves_len (T : List KH) (u : List Int) : (leavesT T u).length ≤ u.length * (T.length + 1) := by
 unfold leavesT
 induction u with
 | nil => simp
 | cons p r ih =>
   rw [List.flatMap_cons, List.length_append, List.length_cons, List.length_cons, Nat.add_mul]
   have := Xz T p
   omega
end Go.Fw
namespace Go.Proofs.Ytbijdmfilmecbaa
open Go.Fw Go.Proofs Go.RowKit Go.Proofs.Try
theorem sl_i1 {w0 w : World} {L : List Chunk} {k g : Nat} {t : TypeId} {fr : Nat × Nat} {x : Int} (W : Wd w0 L w) (hk : L[k]? = some (.blk g (.cells #[.int .i64 x] t fr))) : Sl encI 1 w w.heap.size (.slice (some ⟨g, 0, none⟩) 1 1) [x] := Sl.of_blk (enc := encI) (cap := 1) [x] W hk rfl (fun _ => rfl) (Nat.le_refl 1) (by decide)
theorem c103 (w0 : World) (self n : Int) (pv : Value) (m : MV) (A : Option Addr) (l c : Nat) :
   Calls Try.prog 103 #[.agg (.int .i64 self :: pv :: MV.enc m).toArray, .int .i64 n, .slice A l c] w0 fun e w' => e = .returned (.agg (MV.enc (treeV self m n ⟨A, l, c⟩)).toArray) ∧ Bel w0.heap.size w0 w' := by
 refine enter3 func103 rfl ntmps103 rfl fun a S => wp_seq_k fun _ hK1 => wp_region_lit (Zh (Xw S (.t rfl) rfl fun g1 a w S => Zh (Zr S zeroValue111 (cs := _) rfl rfl fun g2 a w S => Zb (Za (hK1 _ _ (wp_seq_k fun _ hK1 => wp_region_lit (run S (.fa underlying130 sizeOf3 0 rfl rfl rfl <| .ld gt3 1 rfl rfl rfl <| .fa underlying130 sizeOf111 2 rfl rfl rfl <| .fa underlying111 sizeOf3 3 rfl rfl rfl <| .ld gt3 1 rfl rfl rfl <| .fa underlying130 sizeOf111 2 rfl rfl rfl <| .fa underlying111 sizeOf3 11 rfl rfl rfl <| .ld gt3 1 rfl rfl rfl <| .mv rfl <| .mv rfl <| .yy (Xc (ps := [(0, _), (1, Go.Operand.tmp 8), (2, Go.Operand.tmp 11), (7, Go.Operand.tmp 14), (6, _), (8, Go.Operand.tmp 15), (11, Go.Operand.tmp 16)]) (us := [_, _, _, _, _, _, _, _, _, _, _, _, _, _, _, _, _]) bld111 (.cons Ev.c (.cons (.t rfl) (.cons (.t rfl) (.cons (.t rfl) (.cons Ev.c (.cons (.t rfl) (.cons (.t rfl) .nil))))))) rfl) rfl <| .z) fun a w S => Zh (Yb S sizeOf111 (.t rfl) (.t rfl) (k := 0) rfl rfl rfl (by simp [Value.oneCell']) fun a w S => Zb (Za (hK1 _ _ (wp_ret (Zk S (results1 S results103 (Rv.cell (k := 0) ⟨isAgg111, sizeOf111⟩ rfl rfl rfl)) ?_))))))))))))
 exact ⟨rfl, S.wd.below⟩
theorem c104 (w0 : World) (self : Int) (m : MV) (g cap : Nat) (A : Option Addr) (gs : List Nat) (T : List KH) (v : Value) (l : List (List UInt8)) (h : TreeAt w0 g A cap gs T) (hT : KhOk T) (hl : T.length ≤ 1048576) (h2 : Sl encS' 1 w0 w0.heap.size v l) (hk : ∀ k ∈ l, k.length ≤ 1048576) (hn : l.length ≤ 1048576) :
   Rets Try.prog 104 #[.agg (XV.enc self g m).toArray, v] w0 fun u L => ∃ B cB, u = .slice B (giveT self m T l).length cB ∧ L = [rowOf 111 17 MV.enc B cB (giveT self m T l)] := by
 obtain ⟨A', cap', rfl, hl', hcap', hA'⟩ := h2
 unfold Go.Fw.Rets
 refine enter2 func104 rfl ntmps104 rfl fun a S => wp_seq_k fun _ hK1 => wp_region_lit (Zh (Xw S (.t rfl) rfl fun g1 a w S => run S (.ac rfl <| .z) fun a w S => Zb (Za (hK1 _ _ (sg S (.ac rfl <| .z) fun a w S => wp_seq_k fun _ hK1 => sg S (.mv rfl <| .ln underlying61 rfl <| .mc rfl <| .z) fun a w S => wp_block ?_)))))
 replace S := S.nil_ 111 17 MV.enc none
 refine Ye S [5, 14] (X := Nat × Option Addr × Nat) (fun q => [(5, true, .slice q.2.1 (giveT self m T (l.take q.1)).length q.2.2), (14, true, .int .i64 (q.1 : Int))])
   (fun q => [rowOf 111 17 MV.enc q.2.1 q.2.2 (giveT self m T (l.take q.1)), .blk g1 (.cells (XV.enc self g m).toArray 130)]) (fun q => q.1 ≤ l.length) (fun q => l.length - q.1) (0, none, 0) (Nat.zero_le _) ?_
 clear S
 rintro ⟨i, B, cB⟩ a w hi S
 dsimp only at hi S
 have hgl : (giveT self m T (l.take i)).length ≤ i := by
   unfold giveT
   rw [List.length_map]
   have := haveT_len T (l.take i)
   rw [List.length_take] at this
   omega
 by_cases hlt : i < l.length
 · obtain ⟨gq, oq, k, rfl, hk1, hd, hc⟩ := Yc hA' hlt
   have hkl := hk k (List.mem_of_getElem? hk1)
   have hst := haveT_snoc (T := T) hk1
   have hok : okP 4 4 [(placeK k : Int)] = true := okP_iff.2 ⟨⟨by omega, by omega⟩, fun x hx => by
     rw [List.mem_singleton.1 hx]
     have := Xg k
     have e : (2 : Int) ^ (4 : Int).toNat = 16 := by decide
     omega⟩
   have hka : keysA T [(placeK k : Int)] = (keysT T [(placeK k : Int)], 0) := if_pos hok
   have hkx := part_key hT k (placeK k : Int) (Int.toNat_natCast _)
   have hkn := Xz T (placeK k : Int)
   have hg1 : giveT self m T (l.take (i + 1)) = giveT self m T (l.take i) ++ List.replicate (if hasT T k = true then 1 else 0) (giveV self m k) := by
     unfold giveT
     rw [hst, List.map_append]
     congr 1
     split <;> rfl
   generalize giveT self m T (l.take i) = G at *
   obtain ⟨p, hp⟩ : ∃ p, placeK k = p := ⟨_, rfl⟩
   have rw_p : ((placeK k : Nat) : Int) = (p : Int) := by rw [hp]
   rw [hp] at hkx hkn hka
   generalize hks : keysT T [(p : Int)] = ks at *
   have rw_1 : (keysA T [(p : Int)]).1 = ks := by rw [hka]
   have rw_2 : (keysA T [(p : Int)]).2 = 0 := by rw [hka]
   have halt_d := trivial
   refine sg S (.lt (by omega) rfl rfl <| .z) fun a w S => wp_seq_k fun _ hK2 => Ze S (.t rfl) (wp_skip (Za (hK2 _ _ (wp_seq_k fun _ hK2 => wp_block (sg S (.ix underlying61 sizeOf9 (by omega) rfl rfl <| .yy (Ya ⟨isAgg9, sizeOf9⟩ (.t rfl) (fun _ => hc 0 _ rfl)) rfl <| .as rfl <| .z) fun a w S => wp_seq_k fun _ hK3 => ?_)))))
   clear halt_d
   refine Code.wp_mono (Q := fun e a w => match e with
     | .normal => ∃ B1 c1, St 55 w0 [(9, true, .int .i64 0), (8, true, .slice B1 ks.length c1), (7, true, .string (bs k)), (5, true, .slice B G.length cB), (14, true, .int .i64 (i : Int)), (13, true, .int .i64 (l.length : Int)), (12, true, .slice (some ⟨gq, oq, none⟩) l.length cap'), (4, true, .slice none 0 0), (2, true, .pointer (some ⟨g1, 0, none⟩)), (0, true, .agg (XV.enc self g m).toArray), (1, true, .slice (some ⟨gq, oq, none⟩) l.length cap')]
         [rowOf 28 3 Sm.enc B1 c1 ks, rowOf 111 17 MV.enc B cB G, .blk g1 (.cells (XV.enc self g m).toArray 130)] a w
     | _ => False) (fun e a w q => ?_) ?_
   rotate_left
   · have hold_r := trivial
     have lr_nil := trivial
     refine h_begin S (by kernel_rfl) [] fun a w S => hy 0 S rfl (Zp (FieldT.mk underlying130 rfl sizeOf24 rfl) (.t rfl) (i' := 1) rfl) rfl fun a w S => hy 2 S rfl (Zd (.t rfl)) rfl fun a w S => ?_
     refine h_split (i := 1) (j := 3) (by kernel_rfl) rfl rfl ?_ ?_
     (refine op_y S (Yr.ys (Yg ⟨isAgg24, sizeOf24⟩ (.t rfl) (k := 1) rfl rfl)) rfl ?_; clear S a w; intro a w S; refine Yw S ?_)
     refine h_q (i := 3) S (by repeat (first | exact List.Sublist.refl _ | exact List.nil_sublist _ | refine .cons_cons _ ?_ | refine .cons _ ?_)) rfl (by kernel_rfl) (Zi call47 (.cons (.t rfl) .nil) (fun hp w W => c47 _ _ (by omega))) rfl fun a w S => ?_
     rw [rw_p] at S
     (refine h_m (i := 4) rfl (by kernel_rfl) (Zm S underlying42 inf3 rfl rfl rfl (.t rfl) rfl rfl rfl ?_); clear S a w; intro g2 a w S; refine Yw S ?_)
     (refine h_m (i := 5) rfl (by kernel_rfl) (Zq S call25 (.cons (.t rfl) (.cons (.t rfl) .nil)) (c25 _ _ _ _ _ _ _ _ (by exact .old S.wd (by assumption)) (by assumption) (by assumption) (by exact sl_i1 S.wd (k := 0) rfl) (by (simp; done))) rfl ?_); clear S a w; rintro _ _ ⟨B1, c1, rfl, rfl⟩ a w S; refine Yw S ?_)
     rw [rw_1] at S
     rw [rw_2] at S
     refine hy 6 S rfl (Zd (.t rfl)) rfl fun a w S => hy 7 S rfl (ys_ext (.t rfl) rfl) rfl fun a w S => hy 8 S rfl (ys_ext (.t rfl) rfl) rfl fun a w S => hy 9 S rfl (Yp (.t rfl)) rfl fun a w S => hy 10 S rfl (Yp (.t rfl)) rfl fun a w S => Xe (by kernel_rfl) ?_
     rotate_left
     (refine op_y S (Zi call47 (.cons (.t rfl) .nil) (fun hp w W => c47 _ _ (by omega))) rfl ?_; clear S a w; intro a w S; refine Yw S ?_)
     rw [rw_p] at S
     refine h_split (i := 1) (j := 4) (by kernel_rfl) rfl rfl ?_ ?_
     (refine op_y S (Yr.ys (Yg ⟨isAgg24, sizeOf24⟩ (.t rfl) (k := 1) rfl rfl)) rfl ?_; clear S a w; intro a w S; refine Yw S ?_)
     (refine h_m (i := 4) rfl (by kernel_rfl) (Zm S underlying42 inf3 rfl rfl rfl (.t rfl) rfl rfl rfl ?_); clear S a w; intro g2 a w S; refine Yw S ?_)
     (refine h_m (i := 5) rfl (by kernel_rfl) (Zq S call25 (.cons (.t rfl) (.cons (.t rfl) .nil)) (c25 _ _ _ _ _ _ _ _ (by exact .old S.wd (by assumption)) (by assumption) (by assumption) (by exact sl_i1 S.wd (k := 0) rfl) (by (simp; done))) rfl ?_); clear S a w; rintro _ _ ⟨B1, c1, rfl, rfl⟩ a w S; refine Yw S ?_)
     rw [rw_1] at S
     rw [rw_2] at S
     refine hy 6 S rfl (Zd (.t rfl)) rfl fun a w S => hy 7 S rfl (ys_ext (.t rfl) rfl) rfl fun a w S => hy 8 S rfl (ys_ext (.t rfl) rfl) rfl fun a w S => hy 9 S rfl (Yp (.t rfl)) rfl fun a w S => hy 10 S rfl (Yp (.t rfl)) rfl fun a w S => Xe (by kernel_rfl) ?_
     rotate_left
     (refine Zm S underlying42 inf3 rfl rfl rfl (.t rfl) rfl rfl rfl ?_; clear S a w; intro g2 a w S; refine Yw S ?_)
     refine h_q (i := 1) S (by repeat (first | exact List.Sublist.refl _ | exact List.nil_sublist _ | refine .cons_cons _ ?_ | refine .cons _ ?_)) rfl (by kernel_rfl) (Yr.ys (Yg ⟨isAgg24, sizeOf24⟩ (.t rfl) (k := 2) rfl rfl)) rfl fun a w S => ?_
     (refine h_m (i := 5) rfl (by kernel_rfl) (Zq S call25 (.cons (.t rfl) (.cons (.t rfl) .nil)) (c25 _ _ _ _ _ _ _ _ (by exact .old S.wd (by assumption)) (by assumption) (by assumption) (by exact sl_i1 S.wd (k := 0) rfl) (by (simp; done))) rfl ?_); clear S a w; rintro _ _ ⟨B1, c1, rfl, rfl⟩ a w S; refine Yw S ?_)
     rw [rw_1] at S
     rw [rw_2] at S
     refine hy 6 S rfl (Zd (.t rfl)) rfl fun a w S => hy 7 S rfl (ys_ext (.t rfl) rfl) rfl fun a w S => hy 8 S rfl (ys_ext (.t rfl) rfl) rfl fun a w S => hy 9 S rfl (Yp (.t rfl)) rfl fun a w S => hy 10 S rfl (Yp (.t rfl)) rfl fun a w S => Xe (by kernel_rfl) ?_
     rotate_left
     all_goals exact ⟨_, _, S.pk⟩
   clear S
   rcases e with _ | _ | _ | _ | _ | _ | _
   any_goals exact q.elim
   obtain ⟨B1, c1, S⟩ := q
   refine Za (hK3 _ _ ?_)
   clear hK3
   have hksl := (S.wd.room (k := 0) rfl).1
   refine wp_seq_k fun _ hK3 => sg S (.mv rfl <| .yy (Yf (by omega) (Yn (.t rfl) Ev.c)) rfl <| .z) fun a w S => Zf S (.t rfl) (wp_skip (Za (hK3 _ _ (sg S (.mv rfl <| .ln underlying22 rfl <| .mc rfl <| .z) fun a w S => wp_block ?_))))
   have e0 : G = G ++ List.replicate ((ks.take 0).filter fun s => decide (s.key = k)).length (giveV self m k) := by simp
   rw [e0] at S
   refine Ye S [5, 31] (X := Nat × Option Addr × Nat) (fun q => [(5, true, .slice q.2.1 (G ++ List.replicate ((ks.take q.1).filter fun s => decide (s.key = k)).length (giveV self m k)).length q.2.2), (31, true, .int .i64 (q.1 : Int))])
     (fun q => [rowOf 111 17 MV.enc q.2.1 q.2.2 (G ++ List.replicate ((ks.take q.1).filter fun s => decide (s.key = k)).length (giveV self m k)), rowOf 28 3 Sm.enc B1 c1 ks, .blk g1 (.cells (XV.enc self g m).toArray 130)]) (fun q => q.1 ≤ ks.length) (fun q => ks.length - q.1) (0, B, cB) (Nat.zero_le _) ?_
   clear S
   rintro ⟨j, C, cC⟩ a w hj S
   dsimp only at hj S
   by_cases hjl : j < ks.length
   · obtain ⟨gS, rfl⟩ := S.wd.row_at (k := 1) rfl (by omega)
     obtain ⟨s, hs⟩ : ∃ s, ks[j]? = some s := ⟨_, List.getElem?_eq_getElem hjl⟩
     have hfl := List.length_filter_le (fun s : Sm => decide (s.key = k)) (ks.take j)
     rw [List.length_take] at hfl
     by_cases he : s.key = k
     · have rw_e := decide_eq_true he
       have hf : ((ks.take (j + 1)).filter fun s => decide (s.key = k)).length = ((ks.take j).filter fun s => decide (s.key = k)).length + 1 := by
         rw [List.take_add_one, hs, Option.toList_some, List.filter_append, List.filter_cons_of_pos (by exact rw_e), List.length_append]; rfl
       generalize ((ks.take j).filter fun s => decide (s.key = k)).length = c at *
       have rw_g := giveV_enc self m k
       have hGl : (G ++ List.replicate c (giveV self m k)).length ≤ 4194304 := by rw [List.length_append, List.length_replicate]; omega
       have hG2 : (G ++ List.replicate c (giveV self m k)) ++ [giveV self m k] = G ++ List.replicate (c + 1) (giveV self m k) := by rw [List.replicate_succ', List.append_assoc]
       generalize G ++ List.replicate c (giveV self m k) = H at *
       refine sg S (.lt (by omega) rfl rfl <| .z) fun a w S => wp_seq_k fun _ hK3 => Ze S (.t rfl) (wp_skip (Za (hK3 _ _ (wp_seq_k fun _ hK3 => wp_block (wp_seq_k fun _ hK4 => wp_region_lit (run S (.ix underlying22 sizeOf28 (by omega) rfl rfl <| .yy (Xn ⟨isAgg28, sizeOf28⟩ (.t rfl) (k := 1) rfl hs (fun _ => rfl)) rfl <| .z) fun a w S => Zh (Zr S zeroValue28 (cs := _) rfl rfl fun g2 a w S => Zh (Yb S sizeOf28 (.t rfl) (.t rfl) (k := 0) rfl rfl rfl (by simp [Value.oneCell']) fun a w S => Zb (Za (hK4 _ _ (wp_seq_k fun _ hK4 => wp_region_lit (run S (.fa underlying28 sizeOf9 1 rfl rfl rfl <| .ld gt9 0 rfl rfl rfl <| .mv rfl <| .yy (ys_eqlStr (.t rfl) (.t rfl)) rfl <| .z) fun a w S => ?_))))))))))))
       rw [rw_e] at S
       refine Zb (Za (hK4 _ _ (Ze S (.t rfl) (wp_region_lit (run S (.mv rfl <| .fa underlying130 sizeOf3 0 rfl rfl rfl <| .ld gt3 3 rfl rfl rfl <| .fa underlying130 sizeOf111 2 rfl rfl rfl <| .fa underlying111 sizeOf3 3 rfl rfl rfl <| .ld gt3 3 rfl rfl rfl <| .fa underlying130 sizeOf111 2 rfl rfl rfl <| .fa underlying111 sizeOf3 11 rfl rfl rfl <| .ld gt3 3 rfl rfl rfl <| .mv rfl <| .yy (Xc (ps := [(0, _), (1, Go.Operand.tmp 41), (2, Go.Operand.tmp 44), (7, Go.Operand.tmp 47), (6, _), (4, Go.Operand.tmp 48)]) (us := [_, _, _, _, _, _, _, _, _, _, _, _, _, _, _, _, _]) bld111 (.cons Ev.c (.cons (.t rfl) (.cons (.t rfl) (.cons (.t rfl) (.cons Ev.c (.cons (.t rfl) .nil)))))) rfl) rfl <| .z) fun a w S => ?_)))))
       rw [rw_g] at S
       refine Zh (Zm S underlying114 inf111 rfl rfl rfl (.t rfl) rfl rfl rfl fun g3 a w S => ?_)
       rw [rw_g] at S
       refine Zh (Zw S underlying114 inf111 rfl (k := 2) (j := 0) rfl (.t rfl) (.t rfl) rfl rfl rfl rfl (by first | omega | (simp only [List.length_append, List.length_cons, List.length_nil]; omega)) rfl rfl rfl fun A1 cap1 a w S => ?_)
       rw [rw_g] at S
       refine run S (.as rfl <| .z) fun a w S => ?_
       rw [rw_g] at S
       refine Zb ?_
       rw [rw_g] at S
       refine Zg (Za (hK3 _ _ ?_))
       rw [rw_g] at S
       refine wp_region_lit ?_
       rw [rw_g] at S
       refine run S (.ad (by unfold I64; omega) rfl <| .z) fun a w S => ?_
       rw [rw_g] at S
       refine run S (.mv rfl <| .z) fun a w S => ?_
       rw [rw_g] at S
       refine Zb ?_
       rw [rw_g] at S
       refine Za ?_
       rw [rw_g] at S
       rw [hG2, ← hf] at S
       exact ⟨(j + 1, A1, cap1), by dsimp only; omega, by dsimp only; omega, S.pk⟩
     · have rw_e := decide_eq_false he
       have hf : ((ks.take (j + 1)).filter fun s => decide (s.key = k)).length = ((ks.take j).filter fun s => decide (s.key = k)).length := by
         rw [List.take_add_one, hs, Option.toList_some, List.filter_append, List.filter_cons_of_neg (by rw [rw_e]; simp), List.filter_nil, List.append_nil]
       refine sg S (.lt (by omega) rfl rfl <| .z) fun a w S => wp_seq_k fun _ hK3 => Ze S (.t rfl) (wp_skip (Za (hK3 _ _ (wp_seq_k fun _ hK3 => wp_block (wp_seq_k fun _ hK4 => wp_region_lit (run S (.ix underlying22 sizeOf28 (by omega) rfl rfl <| .yy (Xn ⟨isAgg28, sizeOf28⟩ (.t rfl) (k := 1) rfl hs (fun _ => rfl)) rfl <| .z) fun a w S => Zh (Zr S zeroValue28 (cs := _) rfl rfl fun g2 a w S => Zh (Yb S sizeOf28 (.t rfl) (.t rfl) (k := 0) rfl rfl rfl (by simp [Value.oneCell']) fun a w S => Zb (Za (hK4 _ _ (wp_seq_k fun _ hK4 => wp_region_lit (run S (.fa underlying28 sizeOf9 1 rfl rfl rfl <| .ld gt9 0 rfl rfl rfl <| .mv rfl <| .yy (ys_eqlStr (.t rfl) (.t rfl)) rfl <| .z) fun a w S => ?_))))))))))))
       rw [rw_e] at S
       refine Zb (Za (hK4 _ _ (Zf S (.t rfl) (wp_skip (Zg (Za (hK3 _ _ (wp_region_lit (run S (.ad (by unfold I64; omega) rfl <| .mv rfl <| .z) fun a w S => Zb (Za ?_))))))))))
       rw [← hf] at S
       exact ⟨(j + 1, C, cC), by dsimp only; omega, by dsimp only; omega, S.pk⟩
   obtain rfl : j = ks.length := by omega
   rw [List.take_length, hkx] at S
   refine sg S (.ge (by omega) rfl rfl <| .z) fun a w S => wp_seq_k fun _ hK3 => Zf S (.t rfl) (wp_exit (Zc (Zc (Zn (Zg (Za (hK2 _ _ (wp_region_lit (run S (.ad (by unfold I64; omega) rfl <| .mv rfl <| .z) fun a w S => Zb (Za ?_))))))))))
   exact ⟨(i + 1, C, cC), by dsimp only; omega, by dsimp only; omega, by dsimp only; rw [hg1]; exact S.pk⟩
 obtain rfl : i = l.length := by omega
 rw [List.take_length] at S
 refine sg S (.ge (by omega) rfl rfl <| .z) fun a w S => wp_seq_k fun _ hK2 => Zf S (.t rfl) (wp_exit (Zc (Zc (Zn (Za (hK1 _ _ (sg S (.mv rfl <| .as rfl <| .z) fun a w S => wp_ret (Zk S (results1 S results104 (Rv.tmp rfl)) ?_))))))))
 exact ⟨_, _, rfl, S.wd.pk, B, cB, rfl, rfl⟩
end Go.Proofs.Ytbijdmfilmecbaa
namespace Go.Fw
open Go.RowKit
theorem names_step {l : List Sm} {q : Nat} {x : Sm} (h : l[q]? = some x) : namesOk (l.take (q + 1)) = (namesOk (l.take q) && nameB x.key) := by
 unfold namesOk
 rw [List.take_add_one, h, Option.toList_some, List.all_append]
 simp
theorem names_no {l : List Sm} {x : Sm} (hx : x ∈ l) (h : nameB x.key = false) : namesOk l = false := by
 unfold namesOk
 rw [List.all_eq_false]
 exact ⟨x, hx, by rw [h]; simp⟩
end Go.Fw
namespace Go.Proofs.Ytbijdmfilmecbaa
open Go.Fw Go.Proofs Go.RowKit Go.Proofs.Try
end Go.Proofs.Ytbijdmfilmecbaa
namespace Go.Fw
open Go.RowKit
theorem st_straight {P : Program} {Q : Exit → Act → World → Prop} {a : Act} {w : World} {c : Code} (h : c.wp P (Exit.jump 0 (fun _ _ => False) Q) a w) : (Code.scope c).wp P Q a w :=
 wp_scope_straight (wp_mono h fun e a w h => by
   cases e with
   | goto l => exact h.2.elim
   | _ => exact h)
end Go.Fw
namespace Go.Proofs.Ytbijdmfilmecbaa
open Go.Fw Go.Proofs Go.RowKit Go.Proofs.Try
end Go.Proofs.Ytbijdmfilmecbaa
namespace Go.Fw
open Go.RowKit Go.Maps Go.Sort Go.Proofs Go.Shelf Go.ChangeMaps Go.Proofs.Ytbijdmfilmecbaa
section
variable {vv : Int → Value} {P : Program} {n : Nat} {w0 : World} {K : KL} {L : List Chunk} {ty : TypeId} {pos : String} {aft : Array Edge} {gd : Option (Nat × Bool)} {a : Act} {w : World} {Z : Act → World → Prop} {Q : Exit → Act → World → Prop} {d : Nat} {dst : Option Tmp} {b : Bool} {t kt et : TypeId} {l : List (KH × Nat)} {c : Nat}
theorem op_rangeM {g : Nat} {x : Operand} (S : St n w0 K L a w) (ht : P.underlying t = some (.map kt et)) (hx : Ev n true K x (.map (some g))) (hg : w.heap[g]? = some (smO vv l c)) (hd : Nat.blt d n = true)
   (next : ∀ i a w, St n w0 ((d, true, .pointer (some ⟨i, 0, none⟩)) :: K) (.blk i (.mapIter (some g) c #[] c) :: L) a w → Z a w) : Oper.wp P ⟨some d, .range t x, ty, pos, aft, gd⟩ a w Z Q := by
 have h := run_range_map w t kt et g (smE vv l).toArray c ht hg
 refine Xv (v := .pointer (some ⟨w.heap.size, 0, none⟩)) (w' := w.alloc (.mapIter (some g) c #[] c)) ?_ (next w.heap.size _ _ ⟨S.kn.put hd _, S.wd.alloc _⟩)
 simp only [execOp, hx a rfl S.kn]
 simp [h]
theorem op_nextM {i g i' : Nat} {seen : Array Nat} {x : Operand} (S : St n w0 K L a w) (hx : Ev n true K x (.pointer (some ⟨i', 0, none⟩))) (hi : L[i]? = some (.blk i' (.mapIter (some g) c seen c))) (hg : w.heap[g]? = some (smO vv l c)) (ok : SmOk l c) (hd : Nat.blt d n = true)
   (done : (∀ p ∈ l, p.2 ∈ seen) → ∀ a w, St n w0 ((d, true, .tuple #[.bool false]) :: K) L a w → Z a w)
   (more : ∀ p, p ∈ l → p.2 ∉ seen → ∀ a w, St n w0 ((d, true, .tuple #[.bool true, .string (bs p.1.1), vv p.1.2]) :: K) (L.set i (.blk i' (.mapIter (some g) c (seen.push p.2) c))) a w → Z a w) :
   Oper.wp P ⟨some d, .next x false, ty, pos, aft, gd⟩ a w Z Q := by
 have h1 := (S.wd.get hi).2
 have hold : ∀ e ∈ (smE vv l).toArray.toList, e.born < c := fun e he => by
   have he' : e ∈ smE vv l := he
   unfold smE at he'
   obtain ⟨p, hp, rfl⟩ := List.mem_map.1 he'
   exact ok.lt p hp
 rcases run_next_at (P := P) w ty i' g c c seen (smE vv l).toArray c h1 hg hold (Nat.le_refl _) with ⟨h0, hr⟩ | ⟨e, he, w1, hw1, hr⟩
 · refine Xv (v := .tuple #[.bool false]) (w' := w) ?_ (done (fun p hp => ?_) _ _ ⟨S.kn.put hd _, S.wd⟩)
   · simp only [execOp, hx a rfl S.kn]
     simp [hr]
   · refine Decidable.byContradiction fun hn => ?_
     have hmem : (⟨.string (bs p.1.1), vv p.1.2, p.2⟩ : MapEntry) ∈ (leftOf (smE vv l).toArray seen) := by
       unfold leftOf
       rw [Array.mem_filter]
       refine ⟨by rw [List.mem_toArray]; exact List.mem_map.2 ⟨p, hp, rfl⟩, ?_⟩
       simpa using hn
     have := Array.size_pos_of_mem hmem
     omega
 · unfold leftOf at he
   rw [Array.mem_toList_iff, Array.mem_filter, List.mem_toArray] at he
   obtain ⟨hm, hns⟩ := he
   unfold smE at hm
   obtain ⟨p, hp, rfl⟩ := List.mem_map.1 hm
   replace hns : p.2 ∉ seen := by simpa using hns
   have W1 : Wd w0 L w1 := by rcases hw1 with rfl | rfl; exact S.wd; exact S.wd.drew
   refine Xv (v := .tuple #[.bool true, .string (bs p.1.1), vv p.1.2]) (w' := setBlock w1 i' (.mapIter (some g) c (seen.push p.2) c)) ?_ (more p hp hns _ _ ⟨S.kn.put hd _, W1.setBlk hi⟩)
   simp only [execOp, hx a rfl S.kn]
   simp [hr]
theorem ys_entryM {i g i' : Nat} {seen : Array Nat} {p : KH × Nat} {x : Operand} (hx : Ev n b K x (.pointer (some ⟨i', 0, none⟩))) (hi : L[i]? = some (.blk i' (.mapIter (some g) c (seen.push p.2) c))) (hg : ∀ w, Wd w0 L w → w.heap[g]? = some (smO vv l c)) (ok : SmOk l c) (hp : p ∈ l) :
   Yr P ⟨dst, .entry x, ty, pos, aft, gd⟩ n K w0 L b (.tuple #[.string (bs p.1.1), vv p.1.2]) := fun a w hb hkn hw => by
 have h1 := (hw.get hi).2
 have hrun := Go.run_entry_at (P := P) w i' g c seen (smE vv l).toArray c ⟨.string (bs p.1.1), vv p.1.2, p.2⟩ h1 (hg w hw) (List.mem_map.2 ⟨p, hp, rfl⟩) (by
   show ((smE vv l).map (·.born)).Nodup
   unfold smE
   rw [List.map_map]
   exact ok.born)
 simp only [execOp, hx a hb hkn]
 simp [hrun]
end
theorem seen_room {l : List (KH × Nat)} {seen : Array Nat} (hn : seen.toList.Nodup) (hs : ∀ b ∈ seen, b ∈ l.map (·.2)) {p : KH × Nat} (hp : p ∈ l) (hns : p.2 ∉ seen) : seen.size < l.length ∧ (seen.push p.2).toList.Nodup ∧ ∀ b ∈ seen.push p.2, b ∈ l.map (·.2) := by
 have h1 : (p.2 :: seen.toList).Nodup := List.nodup_cons.2 ⟨by simpa using hns, hn⟩
 have h2 := h1.length_le_of_subset (l₂ := l.map (·.2)) fun x hx => by
   rcases List.mem_cons.1 hx with rfl | hx
   · exact List.mem_map.2 ⟨p, hp, rfl⟩
   · exact hs x (by simpa using hx)
 rw [List.length_cons, List.length_map, Array.length_toList] at h2
 refine ⟨by omega, ?_, fun x hx => ?_⟩
 · rw [Array.toList_push, List.nodup_append]
   refine ⟨hn, by simp, fun a ha b hb e => ?_⟩
   simp at hb
   rw [e, hb] at ha
   exact hns (by simpa using ha)
 · rw [Array.mem_push] at hx
   rcases hx with hx | rfl
   · exact hs x hx
   · exact List.mem_map.2 ⟨p, hp, rfl⟩
end Go.Fw
namespace Go.Proofs
open Go.Shelf
def Try.keysU_ren : Go.Shelf.Ren := ⟨fun | 7 => 61 | 10 => 80 | n => n, fun | 23 => 90 | 26 => 9 | 3 => 91 | 28 => 95 | 0 => 0 | 27 => 94 | 33 => 39 | 4 => 4 | n => n, fun | n => n⟩
theorem Try.keysU : Go.Proofs.SlLaysZ.n7 Try.prog Try.keysU_ren := {
 mixed := by kernel_rfl
 f7 := ⟨Try.f61.name, by decide, Try.func61.trans (congrArg some (by kernel_rfl))⟩
 f10 := ⟨Try.f80.name, by decide, Try.func80.trans (congrArg some (by kernel_rfl))⟩
 t0 := Try.underlying0
 a0 := Try.isAgg0
 z0 := Try.sizeOf0
 v0 := Try.zeroValue0
 t4 := Try.underlying4
 a4 := Try.isAgg4
 z4 := Try.sizeOf4
 v4 := Try.zeroValue4
 t23 := Try.underlying90
 a23 := Try.isAgg90
 z23 := Try.sizeOf90
 v23 := Try.zeroValue90
 t26 := Try.underlying9
 a26 := Try.isAgg9
 z26 := Try.sizeOf9
 v26 := Try.zeroValue9
 t27 := Try.underlying94
 a27 := Try.isAgg94
 z27 := Try.sizeOf94
 v27 := Try.zeroValue94
 t28 := Try.underlying95
 a28 := Try.isAgg95
 z28 := Try.sizeOf95
 v28 := Try.zeroValue95
 t33 := Try.underlying39
 a33 := Try.isAgg39
 z33 := Try.sizeOf39
 v33 := Try.zeroValue39 }
end Go.Proofs
namespace Go.Fw
open Go.RowKit
def insU (k : List UInt8) (f : List KH) : List KH := (k, 0) :: f.filter fun x => decide (x.1 ≠ k)
theorem insU_mem {k : List UInt8} {f : List KH} : ∀ x, x ∈ insU k f ↔ x = (k, 0) ∨ (x ∈ f ∧ x.1 ≠ k) := fun x => by
 unfold insU
 rw [List.mem_cons, List.mem_filter, decide_eq_true_eq]
def Keys0 (f : List KH) (p : List UInt8 → Prop) : Prop := ∀ x, x ∈ f ↔ x.2 = 0 ∧ p x.1
theorem keys0_nil {p : List UInt8 → Prop} (h : ∀ k, ¬ p k) : Keys0 [] p := fun x => by
 constructor
 · intro hx; cases hx
 · intro hx; exact absurd hx.2 (h _)
theorem keys0_ins {f : List KH} {p p' : List UInt8 → Prop} {k : List UInt8} (h : Keys0 f p) (hp : ∀ x, p' x ↔ x = k ∨ p x) : Keys0 (insU k f) p' := fun x => by
 rw [insU_mem, h, hp]
 obtain ⟨a, b⟩ := x
 simp only [Prod.mk.injEq]
 constructor
 · rintro (⟨rfl, rfl⟩ | ⟨⟨h1, h2⟩, _⟩)
   · exact ⟨rfl, .inl rfl⟩
   · exact ⟨h1, .inr h2⟩
 · rintro ⟨rfl, rfl | h2⟩
   · exact .inl ⟨rfl, rfl⟩
   · by_cases e : a = k
     · exact .inl ⟨e, rfl⟩
     · exact .inr ⟨⟨rfl, h2⟩, e⟩
theorem Xu {f : List KH} {p p' : List UInt8 → Prop} (h : Keys0 f p) (hp : ∀ x, p' x ↔ p x) : Keys0 f p' := fun x => by rw [h, hp]
theorem born_inj {ml : List (KH × Nat)} (hb : (ml.map (·.2)).Nodup) {e e' : KH × Nat} (he : e ∈ ml) (he' : e' ∈ ml) (h : e.2 = e'.2) : e = e' := by
 obtain ⟨i, hi⟩ := List.mem_iff_getElem?.1 he
 obtain ⟨j, hj⟩ := List.mem_iff_getElem?.1 he'
 have h1 : (ml.map (·.2))[i]? = some e.2 := by rw [List.getElem?_map, hi]; rfl
 have h2 : (ml.map (·.2))[j]? = some e.2 := by rw [List.getElem?_map, hj, h]; rfl
 have hij := (List.getElem?_inj (List.getElem?_eq_some_iff.1 h1).1 hb).1 (h1.trans h2.symm)
 subst hij
 rw [hi] at hj
 simpa using hj
theorem seen_step {ml : List (KH × Nat)} (hb : (ml.map (·.2)).Nodup) {e : KH × Nat} (he : e ∈ ml) {seen : Array Nat} (R : KH × Nat → Prop) : (∃ e' ∈ ml, e'.2 ∈ seen.push e.2 ∧ R e') ↔ R e ∨ ∃ e' ∈ ml, e'.2 ∈ seen ∧ R e' := by
 constructor
 · rintro ⟨e', h1, h2, h3⟩
   rw [Array.mem_push] at h2
   rcases h2 with h2 | h2
   · exact .inr ⟨e', h1, h2, h3⟩
   · obtain rfl := born_inj hb h1 he h2
     exact .inl h3
 · rintro (h | ⟨e', h1, h2, h3⟩)
   · exact ⟨e, he, by rw [Array.mem_push]; exact .inr rfl, h⟩
   · exact ⟨e', h1, by rw [Array.mem_push]; exact .inl h2, h3⟩
theorem pred_add {A : List UInt8 → Prop} {ml : List (KH × Nat)} (hb : (ml.map (·.2)).Nodup) {e : KH × Nat} (he : e ∈ ml) {seen : Array Nat} {B : List UInt8 → KH × Nat → Prop} (hB : B e.1.1 e) (k : List UInt8) :
   (A k ∨ ∃ e' ∈ ml, e'.2 ∈ seen.push e.2 ∧ e'.1.1 = k ∧ B k e') ↔ k = e.1.1 ∨ (A k ∨ ∃ e' ∈ ml, e'.2 ∈ seen ∧ e'.1.1 = k ∧ B k e') := by
 rw [seen_step hb he (fun e' => e'.1.1 = k ∧ B k e')]
 constructor
 · rintro (h | ⟨rfl, _⟩ | h)
   · exact .inr (.inl h)
   · exact .inl rfl
   · exact .inr (.inr h)
 · rintro (rfl | h | h)
   · exact .inr (.inl ⟨rfl, hB⟩)
   · exact .inl h
   · exact .inr (.inr h)
theorem pred_not {A : List UInt8 → Prop} {ml : List (KH × Nat)} (hb : (ml.map (·.2)).Nodup) {e : KH × Nat} (he : e ∈ ml) {seen : Array Nat} {B : List UInt8 → KH × Nat → Prop} (hB : ¬ B e.1.1 e) (k : List UInt8) :
   (A k ∨ ∃ e' ∈ ml, e'.2 ∈ seen.push e.2 ∧ e'.1.1 = k ∧ B k e') ↔ (A k ∨ ∃ e' ∈ ml, e'.2 ∈ seen ∧ e'.1.1 = k ∧ B k e') := by
 rw [seen_step hb he (fun e' => e'.1.1 = k ∧ B k e')]
 constructor
 · rintro (h | ⟨rfl, h⟩ | h)
   · exact .inl h
   · exact absurd h hB
   · exact .inr h
 · rintro (h | h)
   · exact .inl h
   · exact .inr (.inr h)
section
variable {P : Program} {n : Nat} {w0 : World} {K : KL} {L : List Chunk} {ty : TypeId} {pos : String} {aft : Array Edge} {gd : Option (Nat × Bool)} {dst : Option Tmp} {b : Bool} {t : TypeId}
theorem ys_lookSOk {vv : Int → Value} {g : Nat} {o : Obj} {f : List KH} {k : List UInt8} {r : Option Int} {x y : Operand} (T : SmV vv P t) (hx : Ev n b K x (.map (some g))) (hy : Ev n b K y (.string (bs k))) (hk : w0.heap[g]? = some o) (hC : MapV vv o f) (hr : match r with | some h => (k, h) ∈ f | none => ∀ x ∈ f, x.1 ≠ k) :
   Yr P ⟨dst, .lookup t x y true, ty, pos, aft, gd⟩ n K w0 L b (.tuple #[vv (r.getD 0), .bool r.isSome]) := fun a w hb hkn hw => by
 have hlt := (Array.getElem?_eq_some_iff.1 hk).1
 have h := run_lookS (ok := true) T ((hw.below.block g hlt).trans hk) hC hr
 simp only [execOp, hx a hb hkn, hy a hb hkn]
 simp [h]
end
end Go.Fw
namespace Go.Proofs.Ytbijdmfilmecbaa
open Go.Fw Go.Proofs Go.RowKit Go.Proofs.Try
abbrev kv90 (x : List UInt8) : Value := .string (bs x)
abbrev vv90 (x : Int) : Value := .agg #[]
theorem bld91 : BuildT Try.prog 91 [] [] := ⟨⟨_, zeroValue91, rfl⟩, _, underlying91, fun w => by simp⟩
theorem smU : SmV (fun _ => .agg #[]) Try.prog 90 := ⟨⟨_, _, underlying90, underlying9, zeroValue91⟩⟩
theorem c61 (w0 : World) (b : Option Nat) :
   Rets Try.prog 61 #[.map b] w0 fun u L => ∃ g, u = .func (.func 80) #[] #[.pointer (some ⟨g, 0, none⟩)] ∧ L = [.blk g (.cells #[.map b] 90)] := by
 unfold Go.Fw.Rets
 refine enter1 func61 rfl ntmps61 rfl fun a S => wp_seq_k fun _ hK1 => wp_region_lit (Zh (op_box1 S (.t rfl) rfl rfl fun g1 a w S => run S (.ac rfl <| .z) fun a w S => Zb (Za (hK1 _ _ (sg S (.yy (ys_mkFunc (.cons (.t rfl) .nil)) rfl <| .as rfl <| .z) fun a w S => wp_ret (Zk S (results1 S results61 (Rv.tmp rfl)) ?_))))))
 exact ⟨_, _, rfl, S.wd.pk, _, rfl, rfl⟩
theorem sortedU {f : List KH} {o : Obj} {w0 w : World} {L : List Chunk} {g b : Nat} (W : Wd w0 (.blk g (.cells #[.map (some b)] 90) :: L) w) (hb : w.heap[b]? = some o) (hC : MapV (fun _ => .agg #[]) o f) (hf : f.Pairwise ltK) (hs : ∀ x ∈ f, x.1.length ≤ 1048576) (hl : f.length ≤ 4194304) :
   RetsO Try.prog 60 #[.func (.func 80) #[] #[.pointer (some ⟨g, 0, none⟩)]] w0 w fun v L' => ∃ A cap, v = .slice A f.length cap ∧ L' = rowOf 9 1 encS' A cap (f.map (·.1)) :: .blk g (.cells #[.map (some b)] 90) :: L :=
 sorted_keysS (ρk := Try.keysU_ren) (ρs := Try.sortedS_ren) { Try.keysU with } Try.sortedS (sortsS _) (enters_of func43 (by kernel_rfl) rfl) (enters_of func80 (by kernel_rfl) rfl) W underlying9 hb hC hf hs hl
theorem c32 (w0 : World) (g cap : Nat) (A : Option Addr) (gs : List Nat) (T : List KH) (v1 v2 : Value) (places : List Int) (sums : List Sm) (h : TreeAt w0 g A cap gs T) (hT : KhOk T) (h1 : Sl encI 1 w0 w0.heap.size v1 places) (hn : places.length ≤ 1048576) (h2 : Sl Sm.enc 3 w0 w0.heap.size v2 sums) (hs : Sums sums) (hTs : T.length + sums.length ≤ 1048576) :
   Rets Try.prog 32 #[.pointer (some ⟨g, 0, none⟩), v1, v2] w0 fun u L => ∃ B c, u = .tuple #[.slice B (missA T sums places).1.length c, .int .i64 (missA T sums places).2] ∧ L = [rowOf 9 1 encS' B c (missA T sums places).1] := by
 have hkeys := h.keys
 have hgl := h.len
 cases hok : okP 4 4 places with
 | false =>
   have rw_4 := hok
   have e : missA T sums places = ([], 80) := by unfold missA; rw [hok]; rfl
   rw [e]
   unfold Go.Fw.Rets
   refine enter3 func32 rfl ntmps32 rfl fun a S => sg S (.ac rfl <| .ac rfl <| .z) fun a w S => st_straight (wp_seq_k fun _ hK1 => sg S (.mv rfl <| .xx (Zi call45 (.cons (.t rfl) .nil) (fun hp w W => c45 _ _ _ _ _ (by exact Wd.cellOld W (by assumption)))) rfl <| .nt rfl <| .z) fun a w S => Zf S (.t rfl) (wp_skip (Za (hK1 _ _ (wp_seq_k fun _ hK1 => wp_seq_k fun _ hK2 => wp_region_lit (run S (.mv rfl <| .xx (Zi call53 (.cons Ev.c (.cons (.t rfl) .nil)) (fun hp w W => c53 _ _ _ _ (by exact .old W (by assumption)))) rfl <| .z) fun a w S => ?_))))))
   rw [rw_4] at S
   refine run S (.nt rfl <| .z) fun a w S => Zb (Za (hK2 _ _ (Ze S (.t rfl) (sg S (.ac rfl <| .ac rfl <| .z) fun a w S => wp_ret (Zj ?_)))))
   refine jump_ret ?_
   refine Zk S (results2 S results32 (Rv.tmp rfl) (Rv.tmp rfl)) ?_
   exact ⟨_, _, rfl, (S.nil_ 9 1 encS' none).wd.pk, none, 0, rfl, rfl⟩
 | true =>
   have rw_4 := hok
   have h20 := h2
   have h10 := h1
   obtain ⟨A2, cap2, rfl, hl2, hcap2, hA2⟩ := h2
   obtain ⟨A1, cap1, rfl, hl1, hcap1, hA1⟩ := h1
   unfold Go.Fw.Rets
   refine enter3 func32 rfl ntmps32 rfl fun a S => sg S (.ac rfl <| .ac rfl <| .z) fun a w S => st_straight (wp_seq_k fun _ hK1 => sg S (.mv rfl <| .xx (Zi call45 (.cons (.t rfl) .nil) (fun hp w W => c45 _ _ _ _ _ (by exact Wd.cellOld W (by assumption)))) rfl <| .nt rfl <| .z) fun a w S => Zf S (.t rfl) (wp_skip (Za (hK1 _ _ (wp_seq_k fun _ hK1 => wp_seq_k fun _ hK2 => wp_region_lit (run S (.mv rfl <| .xx (Zi call53 (.cons Ev.c (.cons (.t rfl) .nil)) (fun hp w W => c53 _ _ _ _ (by exact .old W (by assumption)))) rfl <| .z) fun a w S => ?_))))))
   rw [rw_4] at S
   refine run S (.nt rfl <| .z) fun a w S => Zb (Za (hK2 _ _ (Zf S (.t rfl) (wp_skip (Za (hK1 _ _ (wp_seq_k fun _ hK1 => wp_region_lit (Zh (op_makeMap kv80 vv80 S rfl fun g1 a w S => run S (.as rfl <| .z) fun a w S => Zb (Za (hK1 _ _ (wp_seq_k fun _ hK1 => sg S (.mv rfl <| .ln underlying22 rfl <| .mc rfl <| .z) fun a w S => wp_block ?_))))))))))))
   refine Ye S [6, 7, 31] (X := Nat × Obj) (fun q => [(6, true, .slice none 0 0), (7, true, .int .i64 0), (31, true, .int .i64 (q.1 : Int))]) (fun q => [.blk g1 q.2]) (fun q => q.1 ≤ sums.length ∧ namesOk (sums.take q.1) = true ∧ MapC q.2 (setsT [] (sums.take q.1))) (fun q => sums.length - q.1) (0, _) ⟨Nat.zero_le _, rfl, mapC_nil⟩ ?_
   clear S
   rintro ⟨q, o⟩ a w ⟨hq, hno, hC⟩ S
   dsimp only at hq hno hC S
   by_cases hlt : q < sums.length
   · obtain ⟨g2, o2, x, rfl, hx, hd, hc⟩ := Yc hA2 hlt
     have hkl := hs.key x (List.mem_of_getElem? hx)
     cases hnx : nameB x.key with
     | false =>
       have rw_n := hnx
       have e : missA T sums places = ([], 6) := by unfold missA; rw [if_pos hok, names_no (List.mem_of_getElem? hx) hnx]; rfl
       refine sg S (.lt (by omega) rfl rfl <| .z) fun a w S => wp_seq_k fun _ hK2 => Ze S (.t rfl) (wp_skip (Za (hK2 _ _ (wp_seq_k fun _ hK2 => wp_block (wp_seq_k fun _ hK3 => wp_region_lit (run S (.ix underlying22 sizeOf28 (by omega) rfl rfl <| .yy (Yh ⟨isAgg28, sizeOf28⟩ (.t rfl) (vs := [_, _, _]) rfl (fun _ => hc)) rfl <| .z) fun a w S => Zh (Zr S zeroValue28 (cs := _) rfl rfl fun g3 a w S => Zh (Yb S sizeOf28 (.t rfl) (.t rfl) (k := 0) rfl rfl rfl (by simp [Value.oneCell']) fun a w S => Zb (Za (hK3 _ _ (wp_seq_k fun _ hK3 => wp_seq_k fun _ hK4 => wp_region_lit (run S (.fa underlying28 sizeOf9 1 rfl rfl rfl <| .ld gt9 0 rfl rfl rfl <| .xx (Zi call46 (.cons (.t rfl) .nil) (fun hp w W => c46 _ _ (by assumption))) rfl <| .z) fun a w S => ?_))))))))))))
       rw [rw_n] at S
       refine run S (.nt rfl <| .z) fun a w S => Zb (Za (hK4 _ _ (Ze S (.t rfl) (sg S (.ac rfl <| .ac rfl <| .z) fun a w S => wp_ret (Zj (Yk (Zj (Zj (Yk (Zj ?_))))))))))
       refine jump_ret ?_
       refine Zk S (results2 S results32 (Rv.tmp rfl) (Rv.tmp rfl)) ?_
       rw [e]
       exact ⟨_, _, rfl, (S.nil_ 9 1 encS' none).wd.pk, none, 0, rfl, rfl⟩
     | true =>
       have rw_n := hnx
       have hst := names_step hx
       rw [hno, hnx] at hst
       have hT0 := sets_take hs q
       have hsn := sets_step (T := []) hx
       have hsk : setK x.key x.hash (setsT [] (sums.take q)) = setT x.key x.hash (setsT [] (sums.take q)) := by unfold setK; rw [if_pos hnx]
       rw [hsk] at hsn
       refine sg S (.lt (by omega) rfl rfl <| .z) fun a w S => wp_seq_k fun _ hK2 => Ze S (.t rfl) (wp_skip (Za (hK2 _ _ (wp_seq_k fun _ hK2 => wp_block (wp_seq_k fun _ hK3 => wp_region_lit (run S (.ix underlying22 sizeOf28 (by omega) rfl rfl <| .yy (Yh ⟨isAgg28, sizeOf28⟩ (.t rfl) (vs := [_, _, _]) rfl (fun _ => hc)) rfl <| .z) fun a w S => Zh (Zr S zeroValue28 (cs := _) rfl rfl fun g3 a w S => Zh (Yb S sizeOf28 (.t rfl) (.t rfl) (k := 0) rfl rfl rfl (by simp [Value.oneCell']) fun a w S => Zb (Za (hK3 _ _ (wp_seq_k fun _ hK3 => wp_seq_k fun _ hK4 => wp_region_lit (run S (.fa underlying28 sizeOf9 1 rfl rfl rfl <| .ld gt9 0 rfl rfl rfl <| .xx (Zi call46 (.cons (.t rfl) .nil) (fun hp w W => c46 _ _ (by assumption))) rfl <| .z) fun a w S => ?_))))))))))))
       rw [rw_n] at S
       refine run S (.nt rfl <| .z) fun a w S => Zb (Za (hK4 _ _ (Zf S (.t rfl) (wp_skip (Za (hK3 _ _ (wp_region_lit (run S (.mv rfl <| .fa underlying28 sizeOf9 1 rfl rfl rfl <| .ld gt9 0 rfl rfl rfl <| .fa underlying28 sizeOf23 2 rfl rfl rfl <| .ld gt23 0 rfl rfl rfl <| .z) fun a w S => Zh (op_updS (setsT [] (sums.take (q + 1))) S smT80 (.t rfl) (.t rfl) (.t rfl) (j := 1) rfl hC (fun y => by rw [hsn]; exact Xb hT0.sorted) ?_)))))))))
       clear S
       rintro o' hC' a w S
       refine Zb (Zg (Za (hK2 _ _ (wp_region_lit (run S (.ad (by unfold I64; omega) rfl <| .mv rfl <| .z) fun a w S => Zb (Za ?_))))))
       exact ⟨(q + 1, o'), ⟨by dsimp only; omega, hst, hC'⟩, by dsimp only; omega, S.pk⟩
   obtain rfl : q = sums.length := by omega
   rw [List.take_length] at hno hC
   have e : missA T sums places = (missT T sums places, 0) := by unfold missA; rw [if_pos hok, if_pos hno]
   have hU := hs.ok
   have hmem := fun k => miss_mem (T := T) (sums := sums) (places := places) (k := k) hT hs.hash hno
   have hsort := miss_sorted (T := T) (sums := sums) (places := places) hT hs.hash
   have hmt := miss_len T sums places
   generalize setsT [] sums = U at *
   generalize missT T sums places = F at *
   refine sg S (.ge (by omega) rfl rfl <| .z) fun a w S => wp_seq_k fun _ hK2 => Zf S (.t rfl) (wp_exit (Zc (Zc (Zn (Za (hK1 _ _ (wp_seq_k fun _ hK1 => wp_region_lit (Zh (op_makeMap kv90 vv90 S rfl fun g2 a w S => run S (.as rfl <| .z) fun a w S => Zb (Za (hK1 _ _ (wp_seq_k fun _ hK1 => sg S (.mv rfl <| .ln underlying42 rfl <| .mc rfl <| .z) fun a w S => wp_block ?_))))))))))))
   have hag := h.row
   obtain ⟨A3, cap3, e3, hl3, hcap3, hA3⟩ := hag
   cases e3
   refine Ye S [48] (X := Nat × Obj × List KH) (fun q => [(48, true, .int .i64 (q.1 : Int))]) (fun q => [.blk g2 q.2.1, .blk g1 o]) (fun q => q.1 ≤ places.length ∧ MapV (fun _ => .agg #[]) q.2.1 q.2.2 ∧ Keys0 q.2.2 fun k => ∃ p ∈ places.take q.1, p = (placeK k : Int) ∧ ∃ h, (k, h) ∈ T ∧ getT U k ≠ some h) (fun q => places.length - q.1) (0, _, []) ⟨Nat.zero_le _, mapV_nil, keys0_nil fun k hk => by obtain ⟨p, hp, _⟩ := hk; simp at hp⟩ ?_
   clear S
   rintro ⟨q, mo, f⟩ a w ⟨hq, hM, hf⟩ S
   dsimp only at hq hM hf S
   by_cases hqt : q < places.length
   · obtain ⟨g5, o5, y, rfl, hy, hdy, hcy⟩ := Yc hA1 hqt
     have hyb := okP_mem hok (List.mem_of_getElem? hy)
     obtain ⟨i, rfl⟩ : ∃ i : Nat, y = (i : Int) := ⟨y.toNat, by omega⟩
     have hi : i < 16 := by have h5 := hyb.2; have h6 : (2 : Int) ^ (4 : Int).toNat = 16 := by decide
                            rw [h6] at h5; omega
     obtain ⟨gr, o_, b, rfl, hb, hd2, hcx⟩ := Yc hA3 (show i < gs.length by omega)
     obtain ⟨oo, ho, hCp⟩ := h.maps i b hb
     obtain ⟨ml, mc, rfl, mok, mm⟩ := hCp
     have hbl := (Array.getElem?_eq_some_iff.1 ho).1
     refine sg S (.lt (by omega) rfl rfl <| .z) fun a w S => wp_seq_k fun _ hK3 => Ze S (.t rfl) (wp_skip (Za (hK3 _ _ (wp_seq_k fun _ hK3 => wp_block (sg S (.ix underlying42 sizeOf3 (by omega) rfl rfl <| .yy (Ya ⟨isAgg3, sizeOf3⟩ (.t rfl) (fun _ => hcy 0 _ rfl)) rfl <| .as rfl <| .z) fun a w S => wp_seq_k fun _ hK4 => wp_region_lit (run S (.mv rfl <| .yy (Zz (.t rfl)) rfl <| .fa underlying59 sizeOf57 0 rfl rfl rfl <| .fa underlying57 sizeOf55 0 rfl rfl rfl <| .yy (Ya ⟨isAgg55, sizeOf55⟩ (.t rfl) (fun _ => hkeys)) rfl <| .mv rfl <| .ix underlying55 sizeOf80 (by omega) rfl rfl <| .yy (Ya ⟨isAgg80, sizeOf80⟩ (.t rfl) (fun _ => hcx 0 _ rfl)) rfl <| .z) fun a w S => Zh (op_rangeM S underlying80 (.t rfl) ((S.wd.below.block b hbl).trans ho) rfl ?_)))))))
     clear S
     rintro it a w S
     refine Zb (Za (hK4 _ _ (wp_block ?_)))
     refine Ye S [] (X := Array Nat × Obj × List KH) (fun q => []) (fun z => [.blk it (.mapIter (some b) mc z.1 mc), .blk g2 z.2.1, .blk g1 o]) (fun z => z.1.toList.Nodup ∧ (∀ x ∈ z.1, x ∈ ml.map (·.2)) ∧ MapV (fun _ => .agg #[]) z.2.1 z.2.2 ∧ Keys0 z.2.2 fun k => (∃ p ∈ places.take q, p = (placeK k : Int) ∧ ∃ h, (k, h) ∈ T ∧ getT U k ≠ some h) ∨ ∃ e ∈ ml, e.2 ∈ z.1 ∧ e.1.1 = k ∧ getT U k ≠ some e.1.2) (fun z => ml.length - z.1.size) (#[], mo, f) ⟨List.nodup_nil, by simp, hM, Xu hf (fun k => by simp)⟩ ?_
     clear S
     rintro ⟨seen, mo2, f2⟩ a w ⟨hs1, hs2, hM2, hf2⟩ S
     dsimp only at hs1 hs2 hM2 hf2 S
     refine wp_seq_k fun _ hK4 => wp_region_lit ?_
     refine Zh (op_nextM S (.t rfl) (i := 0) rfl ((S.wd.below.block b hbl).trans ho) mok rfl ?_ ?_)
     · intro hall
       clear S
       intro a w S
       refine run S (.ex rfl rfl <| .z) fun a w S => Zb (Za (hK4 _ _ (wp_seq_k fun _ hK4 => Zf S (.t rfl) (wp_exit (Zc (Zc (Zn (Zg (Za (hK3 _ _ (wp_region_lit (run S (.ad (by unfold I64; omega) rfl <| .mv rfl <| .z) fun a w S => Zb (Za ?_)))))))))))))
       refine ⟨(q + 1, mo2, f2), ⟨by dsimp only; omega, hM2, Xu hf2 fun k => ?_⟩, by dsimp only; omega, S.pk⟩
       dsimp only
       rw [List.take_add_one, hy, Option.toList_some]
       constructor
       · rintro ⟨p, hp, rfl, hh, h5, h6⟩
         rcases List.mem_append.1 hp with hp | hp
         · exact .inl ⟨_, hp, rfl, hh, h5, h6⟩
         · rw [List.mem_singleton] at hp
           obtain ⟨e, he, ee⟩ := List.mem_map.1 ((mm (k, hh)).2 (Zv.2 ⟨h5, by dsimp only; omega⟩))
           exact .inr ⟨e, he, hall e he, by rw [ee], by rw [ee]; exact h6⟩
       · rintro (⟨p, hp, h7⟩ | ⟨e, he, _, rfl, h6⟩)
         · exact ⟨p, List.mem_append_left _ hp, h7⟩
         · have h8 := Zv.1 ((mm e.1).1 (List.mem_map.2 ⟨e, he, rfl⟩))
           exact ⟨(i : Int), List.mem_append_right _ (by simp), by rw [h8.2], e.1.2, h8.1, h6⟩
     · intro e he hns
       clear S
       intro a w S
       obtain ⟨hsz, hsn, hsm⟩ := seen_room hs1 hs2 he hns
       refine run S (.ex rfl rfl <| .z) fun a w S => Zb (Za (hK4 _ _ (wp_seq_k fun _ hK4 => Ze S (.t rfl) (wp_skip (Za (hK4 _ _ (wp_block (wp_seq_k fun _ hK4 => wp_region_lit (st_y S (Yr.ys (ys_entryM (.t rfl) (i := 0) rfl (fun w' W' => (W'.below.block b hbl).trans ho) mok he)) rfl ?_)))))))))
       clear S a w
       intro a w S
       refine run S (.ex rfl rfl <| .ex rfl rfl <| .as rfl <| .as rfl <| .z) fun a w S => Zb (Za (hK4 _ _ (wp_seq_k fun _ hK4 => wp_region_lit (run S (.mv rfl <| .mv rfl <| .z) fun a w S => ?_))))
       cases hgk : getT U e.1.1 with
       | none =>
         refine st_y S (Yr.ys (ys_lookS (r := none) smT80 (.t rfl) (.t rfl) (j := 2) rfl hC (getT_none hgk))) rfl ?_
         clear S a w
         intro a w S
         simp only [Option.isSome_none, Option.getD_none] at S
         refine run S (.mv rfl <| .ex rfl rfl <| .ex rfl rfl <| .as rfl <| .as rfl <| .z) fun a w S => Zb (Za (hK4 _ _ (sg S (.mv rfl <| .nt rfl <| .mv rfl <| .sk rfl rfl rfl <| .sk rfl rfl rfl <| .sk rfl rfl rfl <| .yy (Zu (.t rfl) Ev.c) rfl <| .z) fun a w S => Ze S (.t rfl) (wp_region_lit (run S (.mv rfl <| .mv rfl <| .yy (Xc (ps := []) (us := []) bld91 .nil rfl) rfl <| .z) fun a w S => Zh (op_updS (insU e.1.1 f2) S smU (.t rfl) (.t rfl) (.t rfl) (j := 1) rfl hM2 insU_mem ?_))))))
         clear S
         rintro mo3 hM3 a w S
         refine Zb (Zg (Za ?_))
         exact ⟨(seen.push e.2, mo3, insU e.1.1 f2), ⟨hsn, hsm, hM3, keys0_ins hf2 (pred_add (B := fun k e' => getT U k ≠ some e'.1.2) mok.born he (by rw [hgk]; simp))⟩, by dsimp only; rw [Array.size_push]; omega, S.pk⟩
       | some v =>
         refine st_y S (Yr.ys (ys_lookS (r := some v) smT80 (.t rfl) (.t rfl) (j := 2) rfl hC (Xp hgk))) rfl ?_
         clear S a w
         intro a w S
         simp only [Option.isSome_some, Option.getD_some] at S
         by_cases hv : v = e.1.2
         · have rw_v : decide (v ≠ e.1.2) = false := decide_eq_false (fun h => h hv)
           refine run S (.mv rfl <| .ex rfl rfl <| .ex rfl rfl <| .as rfl <| .as rfl <| .z) fun a w S => Zb (Za (hK4 _ _ (sg S (.mv rfl <| .nt rfl <| .mv rfl <| .gy rfl rfl (Zd (.t rfl)) <| .gy rfl rfl (Zd (.t rfl)) <| .gy rfl rfl (Yf (by omega) (Yn (.t rfl) (.t rfl))) <| .yy (Zs (.t rfl) (.t rfl)) rfl <| .z) fun a w S => Zf S (.t rfl) (wp_skip (Zg (Za ?_))))))
           exact ⟨(seen.push e.2, mo2, f2), ⟨hsn, hsm, hM2, Xu hf2 (pred_not (B := fun k e' => getT U k ≠ some e'.1.2) mok.born he (by rw [hgk, hv]; simp))⟩, by dsimp only; rw [Array.size_push]; omega, S.pk⟩
         · have rw_v : decide (v ≠ e.1.2) = true := decide_eq_true hv
           refine run S (.mv rfl <| .ex rfl rfl <| .ex rfl rfl <| .as rfl <| .as rfl <| .z) fun a w S => Zb (Za (hK4 _ _ (sg S (.mv rfl <| .nt rfl <| .mv rfl <| .gy rfl rfl (Zd (.t rfl)) <| .gy rfl rfl (Zd (.t rfl)) <| .gy rfl rfl (Ym (by omega) (Yn (.t rfl) (.t rfl))) <| .yy (Zs (.t rfl) (.t rfl)) rfl <| .z) fun a w S => Ze S (.t rfl) (wp_region_lit (run S (.mv rfl <| .mv rfl <| .yy (Xc (ps := []) (us := []) bld91 .nil rfl) rfl <| .z) fun a w S => Zh (op_updS (insU e.1.1 f2) S smU (.t rfl) (.t rfl) (.t rfl) (j := 1) rfl hM2 insU_mem ?_))))))
           clear S
           rintro mo3 hM3 a w S
           refine Zb (Zg (Za ?_))
           exact ⟨(seen.push e.2, mo3, insU e.1.1 f2), ⟨hsn, hsm, hM3, keys0_ins hf2 (pred_add (B := fun k e' => getT U k ≠ some e'.1.2) mok.born he (by rw [hgk]; simpa using hv))⟩, by dsimp only; rw [Array.size_push]; omega, S.pk⟩
   obtain rfl : q = places.length := by omega
   rw [List.take_length] at hf
   obtain ⟨ul, uc, rfl, uok, um⟩ := hC
   refine sg S (.ge (by omega) rfl rfl <| .z) fun a w S => wp_seq_k fun _ hK3 => Zf S (.t rfl) (wp_exit (Zc (Zc (Zn (Za (hK1 _ _ (wp_seq_k fun _ hK1 => wp_label (Za (hK1 _ _ (wp_seq_k fun _ hK1 => wp_seq_k fun _ hK4 => wp_region_lit (run S (.mv rfl <| .z) fun a w S => Zh (op_rangeM S underlying80 (.t rfl) ((S.wd.get (k := 1) rfl).2) rfl ?_))))))))))))
   clear S
   rintro it a w S
   refine Zb (Za (hK4 _ _ (wp_block ?_)))
   refine Ye S [] (X := Array Nat × Obj × List KH) (fun q => []) (fun z => [.blk it (.mapIter (some g1) uc z.1 uc), .blk g2 z.2.1, .blk g1 (smO (fun x => .int .u64 x) ul uc)]) (fun z => z.1.toList.Nodup ∧ (∀ x ∈ z.1, x ∈ ul.map (·.2)) ∧ MapV (fun _ => .agg #[]) z.2.1 z.2.2 ∧ Keys0 z.2.2 fun k => (∃ p ∈ places, p = (placeK k : Int) ∧ ∃ h, (k, h) ∈ T ∧ getT U k ≠ some h) ∨ ∃ e ∈ ul, e.2 ∈ z.1 ∧ e.1.1 = k ∧ ((placeK k : Int) ∈ places ∧ getT T k = none)) (fun z => ul.length - z.1.size) (#[], mo, f) ⟨List.nodup_nil, by simp, hM, Xu hf (fun k => by simp)⟩ ?_
   clear S
   rintro ⟨seen, mo2, f2⟩ a w ⟨hs1, hs2, hM2, hf2⟩ S
   dsimp only at hs1 hs2 hM2 hf2 S
   refine wp_seq_k fun _ hK4 => wp_region_lit ?_
   refine Zh (op_nextM S (.t rfl) (i := 0) rfl ((S.wd.get (k := 2) rfl).2) uok rfl ?_ ?_)
   · intro hall
     clear S
     intro a w S
     have hF : Keys0 f2 fun k => k ∈ F := Xu hf2 fun k => by
       rw [hmem]
       constructor
       · rintro ⟨h1, ⟨h, h2, h3⟩ | ⟨⟨u, hu⟩, h3⟩⟩
         · exact .inl ⟨_, h1, rfl, h, h2, h3⟩
         · obtain ⟨e, he, ee⟩ := List.mem_map.1 ((um (k, u)).2 hu)
           refine .inr ⟨e, he, hall e he, by rw [ee], h1, ?_⟩
           cases hg : getT T k with
           | none => rfl
           | some v => exact absurd (Xp hg) (h3 v)
       · rintro (⟨p, hp, rfl, h⟩ | ⟨e, he, _, rfl, h1, h2⟩)
         · exact ⟨hp, .inl h⟩
         · exact ⟨h1, .inr ⟨⟨e.1.2, (um _).1 (List.mem_map.2 ⟨e, he, rfl⟩)⟩, fun h hh => getT_none h2 _ hh rfl⟩⟩
     have hMF : MapV (fun _ => .agg #[]) mo2 (F.map fun k => ((k, 0) : KH)) := mapC_congr hM2 fun x => by
       rw [hF x, List.mem_map]
       constructor
       · rintro ⟨h1, h2⟩
         exact ⟨x.1, h2, by rw [← h1]⟩
       · rintro ⟨k, hk, rfl⟩
         exact ⟨rfl, hk⟩
     have hlen : ∀ x ∈ F.map (fun k => ((k, 0) : KH)), x.1.length ≤ 1048576 := fun x hx => by
       obtain ⟨k, hk, rfl⟩ := List.mem_map.1 hx
       show k.length ≤ 1048576
       rcases (hmem k).1 hk with ⟨_, ⟨h, h2, _⟩ | ⟨⟨u, hu⟩, _⟩⟩
       · have := name_len (hT.name (k, h) h2); dsimp only at this; omega
       · have := name_len (hU.name (k, u) hu); dsimp only at this; omega
     have e5 : (F.map fun k => ((k, 0) : KH)).map (·.1) = F := by rw [List.map_map]; exact (List.map_congr_left fun _ _ => rfl).trans (List.map_id _)
     have e6 : (F.map fun k => ((k, 0) : KH)).length = F.length := List.length_map ..
     refine run S (.ex rfl rfl <| .z) fun a w S => Zb (Za (hK4 _ _ (wp_seq_k fun _ hK4 => Zf S (.t rfl) (wp_exit (Zc (Zc (Zn (Za (hK1 _ _ (wp_seq_k fun _ hK1 => wp_region_lit (run S (.mv rfl <| .z) fun a w S => ?_)))))))))))
     (refine Zh (Zq S call61 (.cons (.t rfl) .nil) (c61 _ _) rfl ?_); clear S a w; rintro _ _ ⟨g3, rfl, rfl⟩ a w S)
     refine Zh (op_callO S call60 (.cons (.t rfl) .nil) (sortedU S.wd ((S.wd.get (k := 2) rfl).2) hMF hsort hlen (by rw [e6]; omega)) rfl ?_)
     clear S
     rintro _ _ ⟨B, c, rfl, rfl⟩ a w S
     rw [e5, e6] at S
     refine run S (.as rfl <| .ac rfl <| .z) fun a w S => Zb (Za (hK1 _ _ (wp_ret ?_)))
     refine jump_ret ?_
     refine Zk S (results2 S results32 (Rv.tmp rfl) (Rv.tmp rfl)) ?_
     rw [e]
     exact ⟨_, _, rfl, S.wd.pk, _, _, rfl, rfl⟩
   · intro e he hns
     clear S
     intro a w S
     obtain ⟨hsz, hsn, hsm⟩ := seen_room hs1 hs2 he hns
     have hkl := name_len (hU.name e.1 ((um _).1 (List.mem_map.2 ⟨e, he, rfl⟩)))
     have hpk := Xg e.1.1
     obtain ⟨pk, rw_pk⟩ : ∃ y, placeK e.1.1 = y := ⟨_, rfl⟩
     rw [rw_pk] at hpk
     refine run S (.ex rfl rfl <| .z) fun a w S => Zb (Za (hK4 _ _ (wp_seq_k fun _ hK4 => Ze S (.t rfl) (wp_skip (Za (hK4 _ _ (wp_block (wp_seq_k fun _ hK4 => wp_region_lit (st_y S (Yr.ys (ys_entryM (.t rfl) (i := 0) rfl (fun w' W' => (W'.get (k := 2) rfl).2) uok he)) rfl ?_)))))))))
     clear S a w
     intro a w S
     by_cases hin : (pk : Int) ∈ places
     · have rw_i := decide_eq_true hin
       obtain ⟨gr, o_, b, rfl, hb, hd2, hcx⟩ := Yc hA3 (show pk < gs.length by omega)
       obtain ⟨oo, ho, hCp⟩ := h.maps _ b hb
       refine run S (.ex rfl rfl <| .as rfl <| .z) fun a w S => Zb (Za (hK4 _ _ (wp_seq_k fun _ hK4 => wp_region_lit (run S (.mv rfl <| .xx (Zi call47 (.cons (.t rfl) .nil) (fun hp w W => c47 _ _ (by omega))) rfl <| .z) fun a w S => ?_))))
       simp only [List.nil_append] at S
       rw [rw_pk] at S
       refine run S (.as rfl <| .z) fun a w S => Zb (Za (hK4 _ _ (wp_seq_k fun _ hK4 => wp_seq_k fun _ hK5 => wp_region_lit (run S (.mv rfl <| .mv rfl <| .xx (Zi call59 (.cons (.t rfl) (.cons (.t rfl) .nil)) (fun hp w W => c59 _ _ _ _ (by exact .old W (by assumption)))) rfl <| .z) fun a w S => ?_))))
       rw [rw_i] at S
       refine run S (.nt rfl <| .z) fun a w S => Zb (Za (hK5 _ _ (Zf S (.t rfl) (wp_skip (Za (hK4 _ _ (wp_seq_k fun _ hK4 => wp_region_lit (run S (.mv rfl <| .yy (Zz (.t rfl)) rfl <| .fa underlying59 sizeOf57 0 rfl rfl rfl <| .fa underlying57 sizeOf55 0 rfl rfl rfl <| .yy (Ya ⟨isAgg55, sizeOf55⟩ (.t rfl) (fun _ => hkeys)) rfl <| .mv rfl <| .ix underlying55 sizeOf80 (by omega) rfl rfl <| .yy (Ya ⟨isAgg80, sizeOf80⟩ (.t rfl) (fun _ => hcx 0 _ rfl)) rfl <| .mv rfl <| .z) fun a w S => ?_))))))))
       cases hgk : getT T e.1.1 with
       | none =>
         refine st_y S (Yr.ys (ys_lookSOk (r := none) smT80 (.t rfl) (.t rfl) ho hCp (fun x hx => getT_none hgk x (Zv.1 hx).1))) rfl ?_
         clear S a w
         intro a w S
         simp only [Option.isSome_none, Option.getD_none] at S
         refine run S (.mv rfl <| .ex rfl rfl <| .ex rfl rfl <| .as rfl <| .as rfl <| .z) fun a w S => Zb (Za (hK4 _ _ (sg S (.mv rfl <| .nt rfl <| .z) fun a w S => Ze S (.t rfl) (wp_region_lit (run S (.mv rfl <| .mv rfl <| .yy (Xc (ps := []) (us := []) bld91 .nil rfl) rfl <| .z) fun a w S => Zh (op_updS (insU e.1.1 f2) S smU (.t rfl) (.t rfl) (.t rfl) (j := 1) rfl hM2 insU_mem ?_))))))
         clear S
         rintro mo3 hM3 a w S
         refine Zb (Zg (Za ?_))
         exact ⟨(seen.push e.2, mo3, insU e.1.1 f2), ⟨hsn, hsm, hM3, keys0_ins hf2 (pred_add (B := fun k e' => (placeK k : Int) ∈ places ∧ getT T k = none) uok.born he ⟨by rw [rw_pk]; exact hin, hgk⟩)⟩, by dsimp only; rw [Array.size_push]; omega, S.pk⟩
       | some v =>
         refine st_y S (Yr.ys (ys_lookSOk (r := some v) smT80 (.t rfl) (.t rfl) ho hCp (Zv.2 ⟨Xp hgk, rw_pk⟩))) rfl ?_
         clear S a w
         intro a w S
         simp only [Option.isSome_some, Option.getD_some] at S
         refine run S (.mv rfl <| .ex rfl rfl <| .ex rfl rfl <| .as rfl <| .as rfl <| .z) fun a w S => Zb (Za (hK4 _ _ (sg S (.mv rfl <| .nt rfl <| .z) fun a w S => Zf S (.t rfl) (wp_skip (Zg (Za ?_))))))
         exact ⟨(seen.push e.2, mo2, f2), ⟨hsn, hsm, hM2, Xu hf2 (pred_not (B := fun k e' => (placeK k : Int) ∈ places ∧ getT T k = none) uok.born he (fun h => by rw [hgk] at h; cases h.2))⟩, by dsimp only; rw [Array.size_push]; omega, S.pk⟩
     · have rw_i := decide_eq_false hin
       refine run S (.ex rfl rfl <| .as rfl <| .z) fun a w S => Zb (Za (hK4 _ _ (wp_seq_k fun _ hK4 => wp_region_lit (run S (.mv rfl <| .xx (Zi call47 (.cons (.t rfl) .nil) (fun hp w W => c47 _ _ (by omega))) rfl <| .z) fun a w S => ?_))))
       simp only [List.nil_append] at S
       rw [rw_pk] at S
       refine run S (.as rfl <| .z) fun a w S => Zb (Za (hK4 _ _ (wp_seq_k fun _ hK4 => wp_seq_k fun _ hK5 => wp_region_lit (run S (.mv rfl <| .mv rfl <| .xx (Zi call59 (.cons (.t rfl) (.cons (.t rfl) .nil)) (fun hp w W => c59 _ _ _ _ (by exact .old W (by assumption)))) rfl <| .z) fun a w S => ?_))))
       rw [rw_i] at S
       refine run S (.nt rfl <| .z) fun a w S => Zb (Za (hK5 _ _ (Ze S (.t rfl) (wp_exit (Zc (Zn (Za ?_)))))))
       exact ⟨(seen.push e.2, mo2, f2), ⟨hsn, hsm, hM2, Xu hf2 (pred_not (B := fun k e' => (placeK k : Int) ∈ places ∧ getT T k = none) uok.born he (fun h => hin (by rw [← rw_pk]; exact h.1)))⟩, by dsimp only; rw [Array.size_push]; omega, S.pk⟩
end Go.Proofs.Ytbijdmfilmecbaa
