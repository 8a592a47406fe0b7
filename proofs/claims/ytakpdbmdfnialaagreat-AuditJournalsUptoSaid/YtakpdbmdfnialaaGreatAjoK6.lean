/- Contracts and laws that the statement Ajo leans on, part 6. -/
import Derived.Test.YtakpdbmdfnialaaGreatAjoK5
set_option linter.unusedVariables false
set_option linter.unusedSimpArgs false
set_option maxRecDepth 100000
set_option maxHeartbeats 4000000
namespace Go.Fw
open Go.RowKit
theorem coversR_nf {C : Ctx} (hC : Nf C) (d : Dot) : C.coversR d = C.covers d := by
 unfold Ctx.coversR Ctx.covers
 by_cases h : 1 ≤ d.count
 · rw [decide_eq_true h]; simp
 · rw [decide_eq_false h]
   have : d ∉ C.cloud := fun hd => by
     have := Xw (hC.mayC d hd)
     omega
   simp [this]
theorem CartOk.coversR {c : Cart} (h : CartOk c) (d : Dot) : c.ctx.coversR d = c.ctx.covers d := coversR_nf (can_nf h.ctx) d
theorem Wi {w : World} {g b m n : Nat} {cs vs : List Value} (h : ∀ j u, cs[j]? = some u → w.cell? ⟨g, b + j, none⟩ = some u) (e : (cs.drop m).take n = vs) : ∀ j u, vs[j]? = some u → w.cell? ⟨g, b + m + j, none⟩ = some u := fun j u hj => by
 rw [Nat.add_assoc]
 refine h _ u ?_
 rw [← e, List.getElem?_take] at hj
 split at hj
 · rwa [List.getElem?_drop] at hj
 · cases hj
theorem any_take {α : Type} {p : α → Bool} {l : List α} {i : Nat} {x : α} (h : l[i]? = some x) (hn : (l.take i).any p = false) (hx : p x = false) : (l.take (i + 1)).any p = false := by
 rw [List.take_add_one, h, Option.toList_some, List.any_append, hn, List.any_cons, List.any_nil, hx]
 rfl
theorem any_hit {α : Type} {p : α → Bool} {l : List α} {i : Nat} {x : α} (h : l[i]? = some x) (hx : p x = true) : l.any p = true := List.any_eq_true.2 ⟨x, List.mem_of_getElem? h, hx⟩
structure SameL (x y : SLog) : Prop where
 kind : x.kind = y.kind
 at_ : x.at_ = y.at_
 ask : x.ask = y.ask
 u : x.u.1 = y.u.1
 an : x.an = y.an
 al : x.al = y.al
 key : x.key = y.key
 s : x.s.1 = y.s.1
 c : x.c.1 = y.c.1
theorem SameL.of {x y : SLog} (h : x.nul = y.nul) : SameL x y := by
 unfold SLog.nul SLog.at3 at h
 simp only [SLog.mk.injEq, Prod.mk.injEq] at h
 exact ⟨h.1, h.2.1, h.2.2.1, h.2.2.2.1.1, h.2.2.2.2.1, h.2.2.2.2.2.1, h.2.2.2.2.2.2.1, h.2.2.2.2.2.2.2.1.1, h.2.2.2.2.2.2.2.2.1⟩
theorem like_at {s l : List SLog} (h : s.map SLog.nul = l.map SLog.nul) {i : Nat} {x y : SLog} (hx : s[i]? = some x) (hy : l[i]? = some y) : SameL x y := by
 have h1 := congrArg (fun l => l[i]?) h
 simp only [List.getElem?_map, hx, hy, Option.map_some, Option.some.injEq] at h1
 exact .of h1
end Go.Fw
namespace Go.Proofs.YtakpdbmdfnialaaGreat
open Go.Fw Go.Proofs Go.RowKit Go.Proofs.Tryz
theorem c121 (w0 : World) (v : Value) (l : List SLog) (x y z : Int) (h : Sl SLog.enc 22 w0 w0.heap.size v l) (hl : LogsRd w0 l) (hok : ∀ p ∈ l, CartOk p.c.1) :
   Calls Tryz.prog 121 #[v, .agg #[.int .i64 x, .int .i64 y, .int .i64 z]] w0 fun e w' => e = .returned (.bool (forgotK l ⟨x, y, z⟩)) ∧ Bel w0.heap.size w0 w' := by
 obtain ⟨A, cap, rfl, hl0, hcap, hA⟩ := h
 refine enter2 func121 rfl ntmps121 rfl fun a S => wp_seq_k fun _ hK1 => wp_region_lit (Zj (Zw S (.t rfl) rfl fun g1 a w S => run S (.ac rfl <| .z) fun a w S => Zb (Za (hK1 _ _ (wp_seq_k fun _ hK1 => sg S (.ac rfl <| .z) fun a w S => wp_block ?_)))))
 refine Xb S [5] (X := Nat) (fun k => [(5, true, .int .i64 (k : Int))]) (fun _ => [.blk g1 (.cells (Dot.enc ⟨x, y, z⟩).toArray 74)]) (fun k => k ≤ l.length ∧ (l.take k).any (forgotB ⟨x, y, z⟩) = false) (fun k => l.length - k) 0 ⟨Nat.zero_le _, rfl⟩ ?_
 clear S
 intro k a w ⟨hk, hno⟩ S
 by_cases hlt : k < l.length
 · obtain ⟨gq, oq, p, rfl, hx, hd, hcc⟩ := Yg hA hlt
   have hpr := (hl p (List.mem_of_getElem? hx)).c.ctx
   have rw_R := (hok p (List.mem_of_getElem? hx)).coversR ⟨x, y, z⟩
   have hact := Wi (m := 13) (n := 2) (vs := [.int .i64 p.an, .int .i64 p.al]) hcc rfl
   have hctx := Wi (m := 20) (n := 2) (vs := [.slice p.c.2.a2 p.c.2.n2 p.c.2.c2, .slice p.c.2.a3 p.c.2.n3 p.c.2.c3]) hcc rfl
   by_cases h1 : p.an = x
   · have rw_1 := decide_eq_true h1
     by_cases h2 : p.al = y
     · have rw_2 := decide_eq_true h2
       have hh : forgotB ⟨x, y, z⟩ p = p.c.1.ctx.covers ⟨x, y, z⟩ := by unfold forgotB; rw [decide_eq_true (⟨h1, h2⟩ : p.an = x ∧ p.al = y)]; rfl
       cases hcv : p.c.1.ctx.covers ⟨x, y, z⟩ with
       | true =>
         have rw_c := hcv
         rw [hcv] at hh
         refine wp_seq_k fun _ hK2 => sg S (.mv rfl <| .mv rfl <| .ln underlying84 rfl <| .lt (by omega) rfl rfl <| .z) fun a w S => Zg S (.t rfl) (wp_skip (Za (hK2 _ _ (wp_seq_k fun _ hK2 => wp_block (wp_seq_k fun _ hK3 => wp_region_lit (run S (.mv rfl <| .mv rfl <| .ix underlying84 sizeOf96 (by omega) rfl rfl <| .yy (Zy (FieldT.mk underlying96 rfl sizeOf66 rfl) (.t rfl)) rfl <| .yy (Zp ⟨isAgg66, sizeOf66⟩ (.t rfl) (vs := [_, _]) rfl (fun _ => hact)) rfl <| .z) fun a w S => Zj (Zn S zeroValue66 (cs := _) rfl rfl fun g2 a w S => Zj (Zq S sizeOf66 (.t rfl) (.t rfl) (k := 0) rfl rfl rfl (by simp [Value.oneCell']) fun a w S => Zb (Za (hK3 _ _ (wp_seq_k fun _ hK3 => Yc S (by kernel_rfl) (by kernel_rfl) fun a S => ?_)))))))))))
         refine qrun S (.fa underlying66 sizeOf3 0 rfl rfl rfl <| .ld gt3 0 rfl rfl rfl <| .fa underlying74 sizeOf3 0 rfl rfl rfl <| .ld gt3 1 rfl rfl rfl <| .yy (Yu (by omega) (Ye (.t rfl) (.t rfl))) rfl <| .mv rfl <| .gy rfl rfl (Zc (FieldT.mk underlying66 rfl sizeOf3 rfl) (.t rfl) (i' := 1) rfl) <| .gy rfl rfl (Zt ⟨isAgg3, sizeOf3⟩ (.t rfl) (k := 0) rfl rfl) <| .gy rfl rfl (Zc (FieldT.mk underlying74 rfl sizeOf3 rfl) (.t rfl) (i' := 1) rfl) <| .gy rfl rfl (Zt ⟨isAgg3, sizeOf3⟩ (.t rfl) (k := 1) rfl rfl) <| .gy rfl rfl (Yu (by omega) (Ye (.t rfl) (.t rfl))) <| .yy (Zv (.t rfl) (.t rfl)) rfl <| .mv rfl <| .gy rfl rfl (Zi (.t rfl)) <| .gy rfl rfl (Zi (.t rfl)) <| .gy rfl rfl (Ym underlying84 sizeOf96 (.t rfl) (.t rfl) (fun _ => by omega)) <| .gy rfl rfl (Zy (FieldT.mk underlying96 rfl sizeOf37 rfl) (.t rfl)) <| .gy rfl rfl (Zy (FieldT.mk underlying37 rfl sizeOf35 rfl) (.t rfl)) <| .gy rfl rfl (Zp ⟨isAgg35, sizeOf35⟩ (.t rfl) (vs := [_, _]) rfl (fun _ => hctx)) <| .gy rfl rfl (Zz ⟨isAgg74, sizeOf74⟩ (.t rfl) (k := 1) rfl rfl) <| .gx rfl rfl (Zf call77 (.cons (.t rfl) (.cons (.t rfl) .nil)) (fun hp w W => c77 _ _ _ _ _ _ _ (by exact .old W (by assumption)))) <| .z) fun a S => ?_
         simp only [List.nil_append] at S
         rw [rw_R] at S
         rw [rw_c] at S
         refine qrun S (.yy (Zv (.t rfl) (.t rfl)) rfl <| .z) fun a S => ?_
         (refine Yt ?_; intro w W; replace S := St.mk S W; clear W)
         refine Za (hK3 _ _ (Zg S (.t rfl) (sg S (.ac rfl <| .z) fun a w S => wp_ret (Zr (Zd (Zd (Zr (Zd (Zm S (results1 S results121 (Rv.tmp rfl)) ?_)))))))))
         exact ⟨by unfold forgotK; rw [any_hit hx hh], S.wd.below⟩
       | false =>
         have rw_c := hcv
         rw [hcv] at hh
         refine wp_seq_k fun _ hK2 => sg S (.mv rfl <| .mv rfl <| .ln underlying84 rfl <| .lt (by omega) rfl rfl <| .z) fun a w S => Zg S (.t rfl) (wp_skip (Za (hK2 _ _ (wp_seq_k fun _ hK2 => wp_block (wp_seq_k fun _ hK3 => wp_region_lit (run S (.mv rfl <| .mv rfl <| .ix underlying84 sizeOf96 (by omega) rfl rfl <| .yy (Zy (FieldT.mk underlying96 rfl sizeOf66 rfl) (.t rfl)) rfl <| .yy (Zp ⟨isAgg66, sizeOf66⟩ (.t rfl) (vs := [_, _]) rfl (fun _ => hact)) rfl <| .z) fun a w S => Zj (Zn S zeroValue66 (cs := _) rfl rfl fun g2 a w S => Zj (Zq S sizeOf66 (.t rfl) (.t rfl) (k := 0) rfl rfl rfl (by simp [Value.oneCell']) fun a w S => Zb (Za (hK3 _ _ (wp_seq_k fun _ hK3 => Yc S (by kernel_rfl) (by kernel_rfl) fun a S => ?_)))))))))))
         refine qrun S (.fa underlying66 sizeOf3 0 rfl rfl rfl <| .ld gt3 0 rfl rfl rfl <| .fa underlying74 sizeOf3 0 rfl rfl rfl <| .ld gt3 1 rfl rfl rfl <| .yy (Yu (by omega) (Ye (.t rfl) (.t rfl))) rfl <| .mv rfl <| .gy rfl rfl (Zc (FieldT.mk underlying66 rfl sizeOf3 rfl) (.t rfl) (i' := 1) rfl) <| .gy rfl rfl (Zt ⟨isAgg3, sizeOf3⟩ (.t rfl) (k := 0) rfl rfl) <| .gy rfl rfl (Zc (FieldT.mk underlying74 rfl sizeOf3 rfl) (.t rfl) (i' := 1) rfl) <| .gy rfl rfl (Zt ⟨isAgg3, sizeOf3⟩ (.t rfl) (k := 1) rfl rfl) <| .gy rfl rfl (Yu (by omega) (Ye (.t rfl) (.t rfl))) <| .yy (Zv (.t rfl) (.t rfl)) rfl <| .mv rfl <| .gy rfl rfl (Zi (.t rfl)) <| .gy rfl rfl (Zi (.t rfl)) <| .gy rfl rfl (Ym underlying84 sizeOf96 (.t rfl) (.t rfl) (fun _ => by omega)) <| .gy rfl rfl (Zy (FieldT.mk underlying96 rfl sizeOf37 rfl) (.t rfl)) <| .gy rfl rfl (Zy (FieldT.mk underlying37 rfl sizeOf35 rfl) (.t rfl)) <| .gy rfl rfl (Zp ⟨isAgg35, sizeOf35⟩ (.t rfl) (vs := [_, _]) rfl (fun _ => hctx)) <| .gy rfl rfl (Zz ⟨isAgg74, sizeOf74⟩ (.t rfl) (k := 1) rfl rfl) <| .gx rfl rfl (Zf call77 (.cons (.t rfl) (.cons (.t rfl) .nil)) (fun hp w W => c77 _ _ _ _ _ _ _ (by exact .old W (by assumption)))) <| .z) fun a S => ?_
         simp only [List.nil_append] at S
         rw [rw_R] at S
         rw [rw_c] at S
         refine qrun S (.yy (Zv (.t rfl) (.t rfl)) rfl <| .z) fun a S => ?_
         (refine Yt ?_; intro w W; replace S := St.mk S W; clear W)
         refine Za (hK3 _ _ (Ze S (.t rfl) (wp_skip (Zk (Za (hK2 _ _ (wp_region_lit (run S (.mv rfl <| .ad (by unfold I64; omega) rfl <| .as rfl <| .z) fun a w S => Zb (Za ?_)))))))))
         exact ⟨k + 1, ⟨by omega, any_take hx hno hh⟩, by omega, S.pk⟩
     · have rw_2 := decide_eq_false h2
       have hh : forgotB ⟨x, y, z⟩ p = false := by unfold forgotB; rw [decide_eq_false (fun e => h2 e.2 : ¬ (p.an = x ∧ p.al = y))]; rfl
       refine wp_seq_k fun _ hK2 => sg S (.mv rfl <| .mv rfl <| .ln underlying84 rfl <| .lt (by omega) rfl rfl <| .z) fun a w S => Zg S (.t rfl) (wp_skip (Za (hK2 _ _ (wp_seq_k fun _ hK2 => wp_block (wp_seq_k fun _ hK3 => wp_region_lit (run S (.mv rfl <| .mv rfl <| .ix underlying84 sizeOf96 (by omega) rfl rfl <| .yy (Zy (FieldT.mk underlying96 rfl sizeOf66 rfl) (.t rfl)) rfl <| .yy (Zp ⟨isAgg66, sizeOf66⟩ (.t rfl) (vs := [_, _]) rfl (fun _ => hact)) rfl <| .z) fun a w S => Zj (Zn S zeroValue66 (cs := _) rfl rfl fun g2 a w S => Zj (Zq S sizeOf66 (.t rfl) (.t rfl) (k := 0) rfl rfl rfl (by simp [Value.oneCell']) fun a w S => Zb (Za (hK3 _ _ (wp_seq_k fun _ hK3 => Yc S (by kernel_rfl) (by kernel_rfl) fun a S => ?_)))))))))))
       refine qrun S (.fa underlying66 sizeOf3 0 rfl rfl rfl <| .ld gt3 0 rfl rfl rfl <| .fa underlying74 sizeOf3 0 rfl rfl rfl <| .ld gt3 1 rfl rfl rfl <| .yy (Yu (by omega) (Ye (.t rfl) (.t rfl))) rfl <| .mv rfl <| .gy rfl rfl (Zc (FieldT.mk underlying66 rfl sizeOf3 rfl) (.t rfl) (i' := 1) rfl) <| .gy rfl rfl (Zt ⟨isAgg3, sizeOf3⟩ (.t rfl) (k := 0) rfl rfl) <| .gy rfl rfl (Zc (FieldT.mk underlying74 rfl sizeOf3 rfl) (.t rfl) (i' := 1) rfl) <| .gy rfl rfl (Zt ⟨isAgg3, sizeOf3⟩ (.t rfl) (k := 1) rfl rfl) <| .gy rfl rfl (Yq (by omega) (Ye (.t rfl) (.t rfl))) <| .yy (Zv (.t rfl) (.t rfl)) rfl <| .mv rfl <| .sk rfl rfl rfl <| .sk rfl rfl rfl <| .sk rfl rfl rfl <| .sk rfl rfl rfl <| .sk rfl rfl rfl <| .sk rfl rfl rfl <| .sk rfl rfl rfl <| .sk rfl rfl rfl <| .yy (Zu (.t rfl) Ev.c) rfl <| .z) fun a S => ?_
       (refine Yt ?_; intro w W; replace S := St.mk S W; clear W)
       refine Za (hK3 _ _ (Ze S (.t rfl) (wp_skip (Zk (Za (hK2 _ _ (wp_region_lit (run S (.mv rfl <| .ad (by unfold I64; omega) rfl <| .as rfl <| .z) fun a w S => Zb (Za ?_)))))))))
       exact ⟨k + 1, ⟨by omega, any_take hx hno hh⟩, by omega, S.pk⟩
   · have rw_1 := decide_eq_false h1
     have hh : forgotB ⟨x, y, z⟩ p = false := by unfold forgotB; rw [decide_eq_false (fun e => h1 e.1 : ¬ (p.an = x ∧ p.al = y))]; rfl
     refine wp_seq_k fun _ hK2 => sg S (.mv rfl <| .mv rfl <| .ln underlying84 rfl <| .lt (by omega) rfl rfl <| .z) fun a w S => Zg S (.t rfl) (wp_skip (Za (hK2 _ _ (wp_seq_k fun _ hK2 => wp_block (wp_seq_k fun _ hK3 => wp_region_lit (run S (.mv rfl <| .mv rfl <| .ix underlying84 sizeOf96 (by omega) rfl rfl <| .yy (Zy (FieldT.mk underlying96 rfl sizeOf66 rfl) (.t rfl)) rfl <| .yy (Zp ⟨isAgg66, sizeOf66⟩ (.t rfl) (vs := [_, _]) rfl (fun _ => hact)) rfl <| .z) fun a w S => Zj (Zn S zeroValue66 (cs := _) rfl rfl fun g2 a w S => Zj (Zq S sizeOf66 (.t rfl) (.t rfl) (k := 0) rfl rfl rfl (by simp [Value.oneCell']) fun a w S => Zb (Za (hK3 _ _ (wp_seq_k fun _ hK3 => Yc S (by kernel_rfl) (by kernel_rfl) fun a S => qrun S (.fa underlying66 sizeOf3 0 rfl rfl rfl <| .ld gt3 0 rfl rfl rfl <| .fa underlying74 sizeOf3 0 rfl rfl rfl <| .ld gt3 1 rfl rfl rfl <| .yy (Yq (by omega) (Ye (.t rfl) (.t rfl))) rfl <| .mv rfl <| .sk rfl rfl rfl <| .sk rfl rfl rfl <| .sk rfl rfl rfl <| .sk rfl rfl rfl <| .sk rfl rfl rfl <| .yy (Zu (.t rfl) Ev.c) rfl <| .mv rfl <| .sk rfl rfl rfl <| .sk rfl rfl rfl <| .sk rfl rfl rfl <| .sk rfl rfl rfl <| .sk rfl rfl rfl <| .sk rfl rfl rfl <| .sk rfl rfl rfl <| .sk rfl rfl rfl <| .yy (Zu (.t rfl) Ev.c) rfl <| .z) fun a S => ?_)))))))))))
     (refine Yt ?_; intro w W; replace S := St.mk S W; clear W)
     refine Za (hK3 _ _ (Ze S (.t rfl) (wp_skip (Zk (Za (hK2 _ _ (wp_region_lit (run S (.mv rfl <| .ad (by unfold I64; omega) rfl <| .as rfl <| .z) fun a w S => Zb (Za ?_)))))))))
     exact ⟨k + 1, ⟨by omega, any_take hx hno hh⟩, by omega, S.pk⟩
 obtain rfl : k = l.length := by omega
 rw [List.take_length] at hno
 refine wp_seq_k fun _ hK2 => sg S (.mv rfl <| .mv rfl <| .ln underlying84 rfl <| .ge (by omega) rfl rfl <| .z) fun a w S => Ze S (.t rfl) (wp_exit (Zh (Zh (Ya (Za (hK1 _ _ (sg S (.ac rfl <| .z) fun a w S => wp_ret (Zm S (results1 S results121 (Rv.tmp rfl)) ?_))))))))
 exact ⟨by unfold forgotK; rw [hno], S.wd.below⟩
theorem c122 (w0 : World) (v : Value) (l : List SLog) (m : Nat) (key : List UInt8) (h : Sl SLog.enc 22 w0 w0.heap.size v l) (hn : l.length ≤ 1048576) (hm : m ≤ l.length) :
   Rets Tryz.prog 122 #[v, .int .i64 (m : Int), .string (bs key)] w0 fun u L => ∃ A r, u = .slice A (goneK (l.take m) key).length r ∧ L = [rowOf 96 22 SLog.enc A r (goneK (l.take m) key)] := by
 obtain ⟨A, cap, rfl, hl, hcap, hA⟩ := h
 unfold Go.Fw.Rets
 refine enter3 func122 rfl ntmps122 rfl fun a S => sg S (.ac rfl <| .z) fun a w S => sg S (.ac rfl <| .z) fun a w S => wp_seq_k fun _ hK1 => sg S (.ac rfl <| .z) fun a w S => wp_block ?_
 replace S := S.nil_ 96 22 SLog.enc none
 refine Xb S [7, 8] (X := Nat × Option Addr × Nat) (fun q => [(7, true, .slice q.2.1 (goneK (l.take q.1) key).length q.2.2), (8, true, .int .i64 (q.1 : Int))]) (fun q => [rowOf 96 22 SLog.enc q.2.1 q.2.2 (goneK (l.take q.1) key)]) (fun q => q.1 ≤ m) (fun q => m - q.1) (0, none, 0) (Nat.zero_le _) ?_
 clear S
 rintro ⟨i, B, cB⟩ a w hi S
 dsimp only at hi S
 have hgl := gone_len (l.take i) key
 rw [List.length_take] at hgl
 by_cases hlt : i < m
 · obtain ⟨gq, oq, x, rfl, hx, hd, hc⟩ := Yg hA (show i < l.length by omega)
   have hst := gone_snoc (key := key) hx
   generalize goneK (l.take i) key = G at *
   by_cases hk : x.kind = 5
   · have rw_k := decide_eq_true hk
     by_cases hy : x.key = key
     · have rw_y := decide_eq_true hy
       have rw_l := log_enc x
       rw [show isGone key x = true by unfold isGone; rw [rw_k, rw_y]; rfl, if_pos rfl] at hst
       refine wp_seq_k fun _ hK2 => sg S (.mv rfl <| .mv rfl <| .lt (by omega) rfl rfl <| .z) fun a w S => Zg S (.t rfl) (wp_skip (Za (hK2 _ _ (wp_seq_k fun _ hK2 => wp_block (wp_seq_k fun _ hK3 => wp_region_lit (run S (.mv rfl <| .mv rfl <| .ix underlying84 sizeOf96 (by omega) rfl rfl <| .yy (Zy (FieldT.mk underlying96 rfl sizeOf3 rfl) (.t rfl)) rfl <| .yy (Yv ⟨isAgg3, sizeOf3⟩ (.t rfl) (fun _ => hc _ _ rfl)) rfl <| .yy (Yu (by omega) (Ye (.t rfl) Ev.c)) rfl <| .mv rfl <| .gy rfl rfl (Zi (.t rfl)) <| .gy rfl rfl (Zi (.t rfl)) <| .gy rfl rfl (Ym underlying84 sizeOf96 (.t rfl) (.t rfl) (fun _ => by omega)) <| .gy rfl rfl (Zy (FieldT.mk underlying96 rfl sizeOf9 rfl) (.t rfl)) <| .gy rfl rfl (Yv ⟨isAgg9, sizeOf9⟩ (.t rfl) (fun _ => hc _ _ rfl)) <| .gy rfl rfl (Zi (.t rfl)) <| .gy rfl rfl (Xa (.t rfl) (.t rfl)) <| .z) fun a w S => ?_))))))
       rw [rw_y] at S
       refine run S (.yy (Zv (.t rfl) (.t rfl)) rfl <| .z) fun a w S => Zb (Za (hK3 _ _ (Zg S (.t rfl) (wp_region_lit (run S (.mv rfl <| .mv rfl <| .mv rfl <| .ix underlying84 sizeOf96 (by omega) rfl rfl <| .yy (Zp ⟨isAgg96, sizeOf96⟩ (.t rfl) (vs := [_, _, _, _, _, _, _, _, _, _, _, _, _, _, _, _, _, _, _, _, _, _]) rfl (fun _ => hc)) rfl <| .z) fun a w S => ?_)))))
       rw [rw_l] at S
       refine Zj (Yf S underlying84 inf96 rfl rfl rfl (.t rfl) rfl rfl rfl fun g1 a w S => ?_)
       rw [rw_l] at S
       refine Zj (Yw S underlying84 inf96 rfl (k := 1) (j := 0) rfl (.t rfl) (.t rfl) rfl rfl rfl rfl (by first | omega | (simp only [List.length_append, List.length_cons, List.length_nil]; omega)) rfl rfl rfl fun A1 cap1 a w S => ?_)
       rw [rw_l] at S
       refine run S (.as rfl <| .z) fun a w S => ?_
       rw [rw_l] at S
       refine Zb ?_
       rw [rw_l] at S
       refine Zk (Za (hK2 _ _ ?_))
       rw [rw_l] at S
       refine wp_region_lit ?_
       rw [rw_l] at S
       refine run S (.mv rfl <| .z) fun a w S => ?_
       rw [rw_l] at S
       refine run S (.ad (by unfold I64; omega) rfl <| .z) fun a w S => ?_
       rw [rw_l] at S
       refine run S (.as rfl <| .z) fun a w S => ?_
       rw [rw_l] at S
       refine Zb ?_
       rw [rw_l] at S
       refine Za ?_
       rw [rw_l] at S
       exact ⟨(i + 1, A1, cap1), by dsimp only; omega, by dsimp only; omega, by dsimp only; rw [hst]; exact S.pk⟩
     · have rw_y := decide_eq_false hy
       rw [show isGone key x = false by unfold isGone; rw [rw_k, rw_y]; rfl, if_neg (by decide), List.append_nil] at hst
       refine wp_seq_k fun _ hK2 => sg S (.mv rfl <| .mv rfl <| .lt (by omega) rfl rfl <| .z) fun a w S => Zg S (.t rfl) (wp_skip (Za (hK2 _ _ (wp_seq_k fun _ hK2 => wp_block (wp_seq_k fun _ hK3 => wp_region_lit (run S (.mv rfl <| .mv rfl <| .ix underlying84 sizeOf96 (by omega) rfl rfl <| .yy (Zy (FieldT.mk underlying96 rfl sizeOf3 rfl) (.t rfl)) rfl <| .yy (Yv ⟨isAgg3, sizeOf3⟩ (.t rfl) (fun _ => hc _ _ rfl)) rfl <| .yy (Yu (by omega) (Ye (.t rfl) Ev.c)) rfl <| .mv rfl <| .gy rfl rfl (Zi (.t rfl)) <| .gy rfl rfl (Zi (.t rfl)) <| .gy rfl rfl (Ym underlying84 sizeOf96 (.t rfl) (.t rfl) (fun _ => by omega)) <| .gy rfl rfl (Zy (FieldT.mk underlying96 rfl sizeOf9 rfl) (.t rfl)) <| .gy rfl rfl (Yv ⟨isAgg9, sizeOf9⟩ (.t rfl) (fun _ => hc _ _ rfl)) <| .gy rfl rfl (Zi (.t rfl)) <| .gy rfl rfl (Xa (.t rfl) (.t rfl)) <| .z) fun a w S => ?_))))))
       rw [rw_y] at S
       refine run S (.yy (Zv (.t rfl) (.t rfl)) rfl <| .z) fun a w S => Zb (Za (hK3 _ _ (Ze S (.t rfl) (wp_skip (Zk (Za (hK2 _ _ (wp_region_lit (run S (.mv rfl <| .ad (by unfold I64; omega) rfl <| .as rfl <| .z) fun a w S => Zb (Za ?_))))))))))
       exact ⟨(i + 1, B, cB), by dsimp only; omega, by dsimp only; omega, by dsimp only; rw [hst]; exact S.pk⟩
   · have rw_k := decide_eq_false hk
     rw [show isGone key x = false by unfold isGone; rw [rw_k]; rfl, if_neg (by decide), List.append_nil] at hst
     refine wp_seq_k fun _ hK2 => sg S (.mv rfl <| .mv rfl <| .lt (by omega) rfl rfl <| .z) fun a w S => Zg S (.t rfl) (wp_skip (Za (hK2 _ _ (wp_seq_k fun _ hK2 => wp_block (sg S (.mv rfl <| .mv rfl <| .ix underlying84 sizeOf96 (by omega) rfl rfl <| .yy (Zy (FieldT.mk underlying96 rfl sizeOf3 rfl) (.t rfl)) rfl <| .yy (Yv ⟨isAgg3, sizeOf3⟩ (.t rfl) (fun _ => hc _ _ rfl)) rfl <| .yy (Yq (by omega) (Ye (.t rfl) Ev.c)) rfl <| .mv rfl <| .sk rfl rfl rfl <| .sk rfl rfl rfl <| .sk rfl rfl rfl <| .sk rfl rfl rfl <| .sk rfl rfl rfl <| .sk rfl rfl rfl <| .sk rfl rfl rfl <| .yy (Zu (.t rfl) Ev.c) rfl <| .z) fun a w S => Ze S (.t rfl) (wp_skip (Zk (Za (hK2 _ _ (wp_region_lit (run S (.mv rfl <| .ad (by unfold I64; omega) rfl <| .as rfl <| .z) fun a w S => Zb (Za ?_))))))))))))
     exact ⟨(i + 1, B, cB), by dsimp only; omega, by dsimp only; omega, by dsimp only; rw [hst]; exact S.pk⟩
 obtain rfl : i = m := by omega
 refine wp_seq_k fun _ hK2 => sg S (.mv rfl <| .mv rfl <| .ge (by omega) rfl rfl <| .z) fun a w S => Ze S (.t rfl) (wp_exit (Zh (Zh (Ya (Za (hK1 _ _ (sg S (.mv rfl <| .as rfl <| .z) fun a w S => wp_ret (Zm S (results1 S results122 (Rv.tmp rfl)) ?_))))))))
 exact ⟨_, _, rfl, S.wd.pk, B, cB, rfl, rfl⟩
theorem c124 (w0 : World) (x y : SLog) (hx : LogRd w0 x) (hy : LogRd w0 y) (hs : SameL x y) :
   Calls Tryz.prog 124 #[.agg (SLog.enc x).toArray, .agg (SLog.enc y).toArray] w0 fun e w' => e = .returned (.bool true) ∧ Bel w0.heap.size w0 w' := by
 obtain ⟨h1, h2, h3, h4, h5, h6, h7, h8, h9⟩ := hs
 have u1 := hx.u.ents
 have u2 := hx.u.ctx
 have u3 := hy.u.ents
 have u4 := hy.u.ctx
 have s1 := hx.s.ents
 have s2 := hx.s.ctx
 have s3 := hy.s.ents
 have s4 := hy.s.ctx
 have k1 := hx.c.ents
 have k2 := hx.c.ctx
 have k3 := hy.c.ents
 have k4 := hy.c.ctx
 have rw_1 : decide (x.kind = y.kind) = true := decide_eq_true h1
 have rw_2 : decide (x.at_ = y.at_) = true := decide_eq_true h2
 have rw_3 : decide (x.ask = y.ask) = true := decide_eq_true h3
 have rw_7 : decide (x.key ≠ y.key) = false := decide_eq_false (fun e => e h7)
 have rw_6 : decide (x.an = y.an ∧ x.al = y.al) = true := decide_eq_true ⟨h5, h6⟩
 have rw_8 : decide (x.s.1 = y.s.1) = true := decide_eq_true h8
 have rw_9 : decide (x.c.1 = y.c.1) = true := decide_eq_true h9
 refine enter2 func124 rfl ntmps124 rfl fun a S => wp_seq_k fun _ hK1 => wp_region_lit (Zj (Zw S (.t rfl) rfl fun g1 a w S => Zj (Zw S (.t rfl) rfl fun g2 a w S => run S (.ac rfl <| .z) fun a w S => Zb (Za (hK1 _ _ (wp_seq_k fun _ hK1 => wp_seq_k fun _ hK2 => wp_region_lit ?_))))))
 refine run S (.fa underlying96 sizeOf3 0 rfl rfl rfl <| .ld gt3 1 rfl rfl rfl <| .fa underlying96 sizeOf3 0 rfl rfl rfl <| .ld gt3 0 rfl rfl rfl <| .yy (Yq (by omega) (Yh (.t rfl) (.t rfl))) rfl <| .mv rfl <| .gy rfl rfl (Zc (FieldT.mk underlying96 rfl sizeOf3 rfl) (.t rfl) (i' := 1) rfl) <| .gy rfl rfl (Zt ⟨isAgg3, sizeOf3⟩ (.t rfl) (k := 1) rfl rfl) <| .gy rfl rfl (Zc (FieldT.mk underlying96 rfl sizeOf3 rfl) (.t rfl) (i' := 1) rfl) <| .gy rfl rfl (Zt ⟨isAgg3, sizeOf3⟩ (.t rfl) (k := 0) rfl rfl) <| .gy rfl rfl (Yq (by omega) (Yh (.t rfl) (.t rfl))) <| .yy (Zu (.t rfl) (.t rfl)) rfl <| .mv rfl <| .gy rfl rfl (Zc (FieldT.mk underlying96 rfl sizeOf3 rfl) (.t rfl) (i' := 2) rfl) <| .gy rfl rfl (Zt ⟨isAgg3, sizeOf3⟩ (.t rfl) (k := 1) rfl rfl) <| .gy rfl rfl (Zc (FieldT.mk underlying96 rfl sizeOf3 rfl) (.t rfl) (i' := 2) rfl) <| .gy rfl rfl (Zt ⟨isAgg3, sizeOf3⟩ (.t rfl) (k := 0) rfl rfl) <| .gy rfl rfl (Yq (by omega) (Yh (.t rfl) (.t rfl))) <| .yy (Zu (.t rfl) (.t rfl)) rfl <| .mv rfl <| .gy rfl rfl (Zc (FieldT.mk underlying96 rfl sizeOf9 rfl) (.t rfl) (i' := 15) rfl) <| .gy rfl rfl (Zt ⟨isAgg9, sizeOf9⟩ (.t rfl) (k := 1) rfl rfl) <| .gy rfl rfl (Zc (FieldT.mk underlying96 rfl sizeOf9 rfl) (.t rfl) (i' := 15) rfl) <| .gy rfl rfl (Zt ⟨isAgg9, sizeOf9⟩ (.t rfl) (k := 0) rfl rfl) <| .gy rfl rfl (Xs (.t rfl) (.t rfl)) <| .z) fun a w S => ?_
 rw [rw_7] at S
 refine run S (.yy (Zu (.t rfl) (.t rfl)) rfl <| .mv rfl <| .gy rfl rfl (Zc (FieldT.mk underlying96 rfl sizeOf66 rfl) (.t rfl) (i' := 13) rfl) <| .gy rfl rfl (Zz ⟨isAgg66, sizeOf66⟩ (.t rfl) (k := 1) rfl rfl) <| .gy rfl rfl (Zc (FieldT.mk underlying96 rfl sizeOf66 rfl) (.t rfl) (i' := 13) rfl) <| .gy rfl rfl (Zz ⟨isAgg66, sizeOf66⟩ (.t rfl) (k := 0) rfl rfl) <| .gy rfl rfl (Vm (.t rfl) (.t rfl) eq66) <| .z) fun a w S => ?_
 rw [rw_6] at S
 refine run S (.yy (Zu (.t rfl) (.t rfl)) rfl <| .z) fun a w S => Zb (Za (hK2 _ _ (Ze S (.t rfl) (wp_skip (Za (hK1 _ _ (wp_seq_k fun _ hK1 => wp_region_lit (run S (.fa underlying96 sizeOf77 3 rfl rfl rfl <| .la gt77 1 rfl rfl rfl <| .fa underlying96 sizeOf77 3 rfl rfl rfl <| .la gt77 0 rfl rfl rfl <| .xx (Zf call172 (.cons (.t rfl) (.cons (.t rfl) .nil)) (fun hp w W => c172 _ _ _ _ _ _ _ _ _ (by exact .old W (by assumption)) (by exact .old W (by assumption)) (by exact .old W (by assumption)) (by exact .old W (by assumption)) (by assumption))) rfl <| .mv rfl <| .gy rfl rfl (Zc (FieldT.mk underlying96 rfl sizeOf37 rfl) (.t rfl) (i' := 16) rfl) <| .gy rfl rfl (Zz ⟨isAgg37, sizeOf37⟩ (.t rfl) (k := 1) rfl rfl) <| .gy rfl rfl (Zc (FieldT.mk underlying96 rfl sizeOf37 rfl) (.t rfl) (i' := 16) rfl) <| .gy rfl rfl (Zz ⟨isAgg37, sizeOf37⟩ (.t rfl) (k := 0) rfl rfl) <| .gx rfl rfl (Zf call19 (.cons (.t rfl) (.cons (.t rfl) .nil)) (fun hp w W => c19 _ _ _ _ _ _ _ _ _ (by exact .old W (by assumption)) (by exact .old W (by assumption)) (by exact .old W (by assumption)) (by exact .old W (by assumption)))) <| .z) fun a w S => ?_))))))))
 rw [rw_8] at S
 refine run S (.yy (Zv (.t rfl) (.t rfl)) rfl <| .mv rfl <| .gy rfl rfl (Zc (FieldT.mk underlying96 rfl sizeOf37 rfl) (.t rfl) (i' := 19) rfl) <| .gy rfl rfl (Zz ⟨isAgg37, sizeOf37⟩ (.t rfl) (k := 1) rfl rfl) <| .gy rfl rfl (Zc (FieldT.mk underlying96 rfl sizeOf37 rfl) (.t rfl) (i' := 19) rfl) <| .gy rfl rfl (Zz ⟨isAgg37, sizeOf37⟩ (.t rfl) (k := 0) rfl rfl) <| .gx rfl rfl (Zf call19 (.cons (.t rfl) (.cons (.t rfl) .nil)) (fun hp w W => c19 _ _ _ _ _ _ _ _ _ (by exact .old W (by assumption)) (by exact .old W (by assumption)) (by exact .old W (by assumption)) (by exact .old W (by assumption)))) <| .z) fun a w S => ?_
 rw [rw_9] at S
 refine run S (.yy (Zv (.t rfl) (.t rfl)) rfl <| .as rfl <| .z) fun a w S => Zb (Za (hK1 _ _ (wp_ret (Zm S (results1 S results124 (Rv.tmp rfl)) ?_))))
 exact ⟨rfl, S.wd.below⟩
theorem c123 (w0 : World) (v v' : Value) (l l' : List SLog) (h : Sl SLog.enc 22 w0 w0.heap.size v l) (h' : Sl SLog.enc 22 w0 w0.heap.size v' l') (hc : LogsRd w0 l) (hc' : LogsRd w0 l') (hs : l.map SLog.nul = l'.map SLog.nul) :
   Calls Tryz.prog 123 #[v, v', .func (.func 124) #[] #[]] w0 fun e w' => e = .returned (.bool true) ∧ Bel w0.heap.size w0 w' := by
 obtain ⟨A, cap, rfl, hl, hcap, hA⟩ := h
 obtain ⟨A', cap', rfl, hl', hcap', hA'⟩ := h'
 have hll : l.length = l'.length := by
   have := congrArg List.length hs
   simpa using this
 have rw_ll : ((l'.length : Nat) : Int) = ((l.length : Nat) : Int) := by rw [hll]
 refine enter3 func123 rfl ntmps123 rfl fun a S => sg S (.ac rfl <| .z) fun a w S => wp_seq_k fun _ hK1 => wp_seq_k fun _ hK2 => wp_region_lit (run S (.mv rfl <| .ln underlying84 rfl <| .mv rfl <| .ln underlying84 rfl <| .z) fun a w S => ?_)
 rw [rw_ll] at S
 refine run S (.yy (Yq (by omega) (Yh (.t rfl) (.t rfl))) rfl <| .z) fun a w S => Zb (Za (hK2 _ _ (Ze S (.t rfl) (wp_skip (Za (hK1 _ _ (wp_seq_k fun _ hK1 => sg S (.mv rfl <| .ln underlying84 rfl <| .mc rfl <| .z) fun a w S => wp_block ?_)))))))
 refine Xb S [17] (X := Nat) (fun k => [(17, true, .int .i64 (k : Int))]) (fun _ => []) (fun k => k ≤ l.length) (fun k => l.length - k) 0 (Nat.zero_le _) ?_
 clear S
 rintro k a w hk S
 by_cases hlt : k < l.length
 · obtain ⟨g, o, x, rfl, hx, hd, hcx⟩ := Yg hA hlt
   obtain ⟨g', o', x', rfl, hx', hd', hcx'⟩ := Yg hA' (show k < l'.length by omega)
   have r1 := hc x (List.mem_of_getElem? hx)
   have r2 := hc' x' (List.mem_of_getElem? hx')
   have r3 := like_at hs hx hx'
   refine sg S (.lt (by omega) rfl rfl <| .z) fun a w S => wp_seq_k fun _ hK2 => Zg S (.t rfl) (wp_skip (Za (hK2 _ _ (wp_seq_k fun _ hK2 => wp_block (wp_seq_k fun _ hK3 => wp_region_lit (run S (.mv rfl <| .ix underlying84 sizeOf96 (by omega) rfl rfl <| .yy (Zp ⟨isAgg96, sizeOf96⟩ (.t rfl) (vs := [_, _, _, _, _, _, _, _, _, _, _, _, _, _, _, _, _, _, _, _, _, _]) rfl (fun _ => hcx)) rfl <| .z) fun a w S => Zj (Zn S zeroValue96 (cs := _) rfl rfl fun g1 a w S => run S (.as rfl <| .z) fun a w S => Zj (Zq S sizeOf96 (.t rfl) (.t rfl) (k := 0) rfl rfl rfl (by simp [Value.oneCell']) fun a w S => Zb (Za (hK3 _ _ (wp_seq_k fun _ hK3 => wp_region_lit (run S (.mv rfl <| .mv rfl <| .ix underlying84 sizeOf96 (by omega) rfl rfl <| .yy (Zp ⟨isAgg96, sizeOf96⟩ (.t rfl) (vs := [_, _, _, _, _, _, _, _, _, _, _, _, _, _, _, _, _, _, _, _, _, _]) rfl (fun _ => hcx')) rfl <| .z) fun a w S => Zj (Zn S zeroValue96 (cs := _) rfl rfl fun g2 a w S => Zj (Zq S sizeOf96 (.t rfl) (.t rfl) (k := 0) rfl rfl rfl (by simp [Value.oneCell']) fun a w S => Zb (Za (hK3 _ _ (wp_seq_k fun _ hK3 => wp_region_lit ?_)))))))))))))))))
   refine run S (.mv rfl <| .la gt96 1 rfl rfl rfl <| .la gt96 0 rfl rfl rfl <| .xx (ys_callV (.t rfl) call124 (.cons (.t rfl) (.cons (.t rfl) .nil)) (fun hp w W => c124 _ _ _ (by exact .old W (by assumption)) (by exact .old W (by assumption)) (by assumption))) rfl <| .nt rfl <| .z) fun a w S => Zb (Za (hK3 _ _ (Ze S (.t rfl) (wp_skip (Zk (Za (hK2 _ _ (wp_region_lit (run S (.ad (by unfold I64; omega) rfl <| .mv rfl <| .z) fun a w S => Zb (Za ?_))))))))))
   exact ⟨k + 1, by omega, by omega, S.pk⟩
 · obtain rfl : k = l.length := by omega
   refine sg S (.ge (by omega) rfl rfl <| .z) fun a w S => wp_seq_k fun _ hK2 => Ze S (.t rfl) (wp_exit (Zh (Zh (Ya (Za (hK1 _ _ (sg S (.ac rfl <| .z) fun a w S => wp_ret (Zm S (results1 S results123 (Rv.tmp rfl)) ?_))))))))
   exact ⟨rfl, S.wd.below⟩
theorem c49 (w0 : World) (v v' : Value) (l l' : List SLog) (h : Sl SLog.enc 22 w0 w0.heap.size v l) (h' : Sl SLog.enc 22 w0 w0.heap.size v' l') (hc : LogsRd w0 l) (hc' : LogsRd w0 l') (hs : l.map SLog.nul = l'.map SLog.nul) :
   Calls Tryz.prog 49 #[v, v'] w0 fun e w' => e = .returned (.bool true) ∧ Bel w0.heap.size w0 w' := by
 refine enter2 func49 rfl ntmps49 rfl fun a S => sg S (.ac rfl <| .z) fun a w S => sg S (.mv rfl <| .mv rfl <| .xx (Zf call123 (.cons (.t rfl) (.cons (.t rfl) (.cons Ev.f .nil))) (fun hp w W => c123 _ _ _ _ _ (by exact .old W (by assumption)) (by exact .old W (by assumption)) (by exact .old W (by assumption)) (by exact .old W (by assumption)) (by assumption))) rfl <| .as rfl <| .z) fun a w S => wp_ret (Zm S (results1 S results49 (Rv.tmp rfl)) ?_)
 exact ⟨rfl, S.wd.below⟩
end Go.Proofs.YtakpdbmdfnialaaGreat
namespace Go.Fw
open Go.RowKit
theorem any_snoc' {α : Type} {p : α → Bool} {l : List α} {i : Nat} {x : α} (h : l[i]? = some x) : (l.take (i + 1)).any p = ((l.take i).any p || p x) := by
 rw [List.take_add_one, h, Option.toList_some, List.any_append, List.any_cons, List.any_nil, Bool.or_false]
theorem issuedF_congr : ∀ (l : List SLog) (i : Nat) (met met' : List Nam), (∀ k, k ∈ met ↔ k ∈ met') → issuedF i met l = issuedF i met' l
 | [], i, met, met', h => rfl
 | x :: r, i, met, met', h => by
   have hb : issuedB met x.u.1 = issuedB met' x.u.1 := by
     unfold issuedB
     rw [decide_eq_decide.2 (h (x.u.1.key, x.u.1.dot))]
   rw [issuedF, issuedF, hb, issuedF_congr r (i + 1) _ ((x.u.1.key, x.u.1.dot) :: met') (fun k => by rw [List.mem_cons, List.mem_cons, h k]), issuedF_congr r (i + 1) met met' h]
def dupB (u : Upd) (x : SLog) : Bool := decide (x.kind = 1) && (decide (x.u.1.key = u.key) && decide (x.u.1.dot = u.dot))
def namesK (l : List SLog) : List Nam := (l.filter fun x => decide (x.kind = 1)).map fun x => (x.u.1.key, x.u.1.dot)
theorem names_mem (l : List SLog) (u : Upd) : decide ((u.key, u.dot) ∈ namesK l) = l.any (dupB u) := by
 rw [Bool.eq_iff_iff, decide_eq_true_eq, List.any_eq_true]
 unfold namesK dupB
 rw [List.mem_map]
 constructor
 · rintro ⟨x, hx, e⟩
   rw [List.mem_filter, decide_eq_true_eq] at hx
   simp only [Prod.mk.injEq] at e
   exact ⟨x, hx.1, by simp [hx.2, e.1, e.2]⟩
 · rintro ⟨x, hx, e⟩
   simp only [Bool.and_eq_true, decide_eq_true_eq] at e
   exact ⟨x, by rw [List.mem_filter, decide_eq_true_eq]; exact ⟨hx, e.1⟩, by rw [e.2.1, e.2.2]⟩
theorem names_snoc {l : List SLog} {i : Nat} {x : SLog} (h : l[i]? = some x) (k : Nam) : k ∈ namesK (l.take (i + 1)) ↔ k ∈ (if x.kind = 1 then (x.u.1.key, x.u.1.dot) :: namesK (l.take i) else namesK (l.take i)) := by
 unfold namesK
 rw [List.take_add_one, h, Option.toList_some, List.filter_append, List.map_append, List.filter_cons, List.filter_nil]
 by_cases e : x.kind = 1
 · rw [if_pos e, if_pos (decide_eq_true e), List.mem_append, List.mem_cons, List.map_cons, List.map_nil, List.mem_singleton]
   exact Or.comm
 · rw [if_neg e, if_neg (by rw [decide_eq_false e]; decide), List.map_nil, List.append_nil]
theorem issued_step {l : List SLog} {i : Nat} {x : SLog} (h : l[i]? = some x) : issuedF i (namesK (l.take i)) (l.drop i) = if x.kind = 1 then (if ((l.take i).any (dupB x.u.1) = false ∧ mayE x.u.1 = 0) then issuedF (i + 1) (namesK (l.take (i + 1))) (l.drop (i + 1)) else ((i : Int), 260)) else issuedF (i + 1) (namesK (l.take (i + 1))) (l.drop (i + 1)) := by
 rw [issuedF_at h]
 by_cases e : x.kind = 1
 · rw [if_pos e, if_pos e]
   have hc := issuedF_congr (l.drop (i + 1)) (i + 1) ((x.u.1.key, x.u.1.dot) :: namesK (l.take i)) (namesK (l.take (i + 1))) fun k => by rw [names_snoc h, if_pos e]
   rw [hc]
   have hb : issuedB (namesK (l.take i)) x.u.1 = true ↔ ((l.take i).any (dupB x.u.1) = false ∧ mayE x.u.1 = 0) := by
     unfold issuedB
     rw [names_mem, Bool.and_eq_true, Bool.not_eq_true', decide_eq_true_eq]
   by_cases hB : issuedB (namesK (l.take i)) x.u.1 = true
   · rw [if_pos hB, if_pos (hb.1 hB)]
   · rw [if_neg hB, if_neg (fun h => hB (hb.2 h))]
 · rw [if_neg e, if_neg e]
   exact issuedF_congr _ _ _ _ fun k => by rw [names_snoc h, if_neg e]
theorem sortI_snoc (l : List Ent) (e : Ent) : sortI (l ++ [e]) = insE e (sortI l) := by
 unfold sortI
 rw [List.foldl_append]
 rfl
def badB (u v : Upd) : Bool := decide (v.dot = u.dot) || !decide (v.key = u.key)
theorem okU_of {U : List Upd} (h : ∀ (i k : Nat) (u v : Upd), k < i → U[i]? = some u → U[k]? = some v → badB u v = false) : okU U := by
 have h2 : ∀ (i k : Nat) (u v : Upd), k < i → U[i]? = some u → U[k]? = some v → v.dot ≠ u.dot ∧ v.key = u.key := fun i k u v hk hu hv => by
   have := h i k u v hk hu hv
   unfold badB at this
   rw [Bool.or_eq_false_iff, decide_eq_false_iff_not, Bool.not_eq_false', decide_eq_true_eq] at this
   exact this
 refine ⟨?_, fun u hu v hv => ?_⟩
 · unfold oneU
   refine List.pairwise_map.2 (List.pairwise_iff_getElem.2 fun i j hi hj hij => ?_)
   exact (h2 j i _ _ hij (List.getElem?_eq_getElem hj) (List.getElem?_eq_getElem hi)).1
 · obtain ⟨i, hi, rfl⟩ := List.getElem_of_mem hu
   obtain ⟨j, hj, rfl⟩ := List.getElem_of_mem hv
   rcases Nat.lt_trichotomy i j with hl | rfl | hl
   · exact (h2 j i _ _ hl (List.getElem?_eq_getElem hj) (List.getElem?_eq_getElem hi)).2
   · rfl
   · exact (h2 i j _ _ hl (List.getElem?_eq_getElem hi) (List.getElem?_eq_getElem hj)).2.symm
theorem not_okU {U : List Upd} {i k : Nat} {u v : Upd} (hk : k < i) (hu : U[i]? = some u) (hv : U[k]? = some v) (h : badB u v = true) : meantK U = (Cart.zero, 260) := by
 unfold badB at h
 rw [Bool.or_eq_true, decide_eq_true_eq, Bool.not_eq_true', decide_eq_false_iff_not] at h
 rcases h with h | h
 · refine meant_dots fun hn => ?_
   obtain ⟨hi1, rfl⟩ := List.getElem?_eq_some_iff.1 hu
   obtain ⟨hk1, rfl⟩ := List.getElem?_eq_some_iff.1 hv
   exact List.pairwise_iff_getElem.1 (List.pairwise_map.1 hn) k i hk1 hi1 hk h
 · exact meant_keys fun hn => h (hn v (List.mem_of_getElem? hv) u (List.mem_of_getElem? hu))
def sumMk (l : List SLog) : Nat := (l.map fun x => x.u.1.seen.ctx.marks.length).sum
def sumCl (l : List SLog) : Nat := (l.map fun x => x.u.1.seen.ctx.cloud.length + 1).sum
theorem sum_sub {α : Type} (f : α → Nat) {l m : List α} (h : l.Sublist m) : (l.map f).sum ≤ (m.map f).sum := by
 induction h with
 | slnil => exact Nat.le_refl _
 | cons a h ih => rw [List.map_cons, List.sum_cons]; omega
 | cons_cons a h ih => rw [List.map_cons, List.map_cons, List.sum_cons, List.sum_cons]; omega
theorem flat_sum {α β : Type} (f : α → List β) : ∀ (l : List α), (l.flatMap f).length = (l.map fun x => (f x).length).sum
 | [] => rfl
 | x :: r => by rw [List.flatMap_cons, List.length_append, List.map_cons, List.sum_cons, flat_sum f r]
theorem room_sum {l : List SLog} (h1 : sumMk l ≤ 1900000) (h2 : sumCl l ≤ 1900000) (pr : List SLog) (x : SLog) (i : Nat) : RoomU ((toldU pr x (l.take i)).map (·.1)) := fun _ => by
 have hs : ((l.take i).filter (toldB pr x)).Sublist l := List.filter_sublist.trans (List.take_sublist i l)
 have e1 : (marksU ((toldU pr x (l.take i)).map (·.1))).length = sumMk ((l.take i).filter (toldB pr x)) := by
   unfold marksU toldU sumMk
   rw [flat_sum, List.map_map, List.map_map]
   rfl
 have e2 : (dotsU ((toldU pr x (l.take i)).map (·.1))).length = sumCl ((l.take i).filter (toldB pr x)) := by
   unfold dotsU toldU sumCl
   rw [flat_sum, List.map_map, List.map_map]
   congr 1
   refine List.map_congr_left fun y _ => ?_
   show (y.u.1.seen.ctx.cloud ++ [y.u.1.dot]).length = _
   rw [List.length_append]; rfl
 have k1 := sum_sub (fun x : SLog => x.u.1.seen.ctx.marks.length) hs
 have k2 := sum_sub (fun x : SLog => x.u.1.seen.ctx.cloud.length + 1) hs
 unfold sumMk at e1 h1
 unfold sumCl at e2 h2
 omega
theorem sum_like {s l : List SLog} (h : s.map SLog.nul = l.map SLog.nul) : sumMk s = sumMk l ∧ sumCl s = sumCl l := by
 have e1 : ∀ l : List SLog, sumMk (l.map SLog.nul) = sumMk l := fun l => by unfold sumMk; rw [List.map_map]; rfl
 have e2 : ∀ l : List SLog, sumCl (l.map SLog.nul) = sumCl l := fun l => by unfold sumCl; rw [List.map_map]; rfl
 exact ⟨by rw [← e1 s, h, e1], by rw [← e2 s, h, e2]⟩
theorem jrn_sum {w : World} {s : List SLog} (h : LogsRd w s) (hn : s.length ≤ 1048576) (h1 : sumMk s ≤ 1900000) (h2 : sumCl s ≤ 1900000) (hk : ∀ x ∈ s, CartOk x.s.1 ∧ ∀ m ∈ x.c.1.ctx.marks, mayD m = true) : JrnOk w s := ⟨h, hn, hk, fun i x hx => room_sum h1 h2 _ _ _⟩
end Go.Fw
namespace Go.Proofs.YtakpdbmdfnialaaGreat
open Go.Fw Go.Proofs Go.RowKit Go.ChangeShapes Go.WideShapes Go.ChangeAt Go.Deep Go.Joins Go.Proofs.Tryz
section
variable {H : Type} {enc : TypeId × Value → H} {P : Program} {w : World}
theorem bulk_sum : ∀ l : List (DataW H), (l.map Rows.uptoBulk).sum ≤ Rows.uptoBulkAll l
 | [] => Nat.zero_le _
 | x :: r => by
   have := bulk_sum r
   simp only [Rows.uptoBulkAll, List.map_cons, List.sum_cons]
   omega
theorem Rdr.sliceS {α : Type} {enc1 : α → List Value} {T : α → Nat → Prop} {t e : TypeId} {k : Nat} (ht : P.underlying t = some (.slice e)) (hC : P.cellsOf e = k) (hk : Nat.blt 0 k = true) (he : ∀ x, (enc1 x).length = k) (hr : Rdr enc P w e fun cs b => ∃ x, cs = enc1 x ∧ T x b) :
   Rdr enc P w t fun cs b => ∃ v l, cs = [v] ∧ Sl enc1 k w w.heap.size v l ∧ l.length + 1 ≤ b ∧ ∃ f : Nat → Nat, ((List.range l.length).map f).sum ≤ b ∧ ∀ i x, l[i]? = some x → T x (f i) := fun fuel cs x h => by
 have hk' : 0 < k := by simpa [Nat.blt_eq] using hk
 rcases open_slice ht h with ⟨rfl, rfl⟩ | ⟨a, len, cap, m, n, D, Pl, rfl, hb, hl, hm, hmm, rfl, hi⟩
 · exact ⟨_, [], rfl, Sl.nil_, bulk_one _, fun _ => 0, Nat.zero_le _, fun i x hx => by simp at hx⟩
 · have hlm : len ≤ m := by rw [hmm]; split <;> omega
   have key : ∀ i, i < len → ∃ x : α, (∀ j u, (enc1 x)[j]? = some u → w.cell? (a.add (i * k + j)) = some u) ∧ T x (Rows.uptoBulk (D i)) := fun i hil => by
     obtain ⟨cs', hc, ht'⟩ := hi i (by omega)
     obtain ⟨x, rfl, hT⟩ := hr _ _ _ ht'
     rw [hC] at hc
     obtain ⟨_, hcl, hat⟩ := World.cells?_some hc
     refine ⟨x, fun j u hj => ?_, hT⟩
     have hjl : j < k := by rw [← he x]; exact (List.getElem?_eq_some_iff.1 hj).1
     have h1 := hat j hjl
     rw [Go.Deep.add_add, hj] at h1
     exact h1
   obtain ⟨l, rfl, hl2⟩ := list_of key
   refine ⟨_, l, rfl, ⟨some a, cap, rfl, hl, by simpa [maxLen] using hm, fun hp => ?_⟩, ?_, fun i => Rows.uptoBulk (D i), ?_, fun i x hx => ?_⟩
   · obtain ⟨b, off, spot⟩ := a
     have h0 : 0 < (enc1 (l[0]'(by omega))).length := by rw [he]; exact hk'
     have hc := (hl2 0 (l[0]'(by omega)) (by simp [hp])).1 0 ((enc1 (l[0]'(by omega)))[0]'h0) (List.getElem?_eq_getElem h0)
     have hspot : spot = none := by simpa [Addr.add] using World.cell?_spot hc
     subst hspot
     refine ⟨b, off, rfl, by simpa [Addr.add] using World.block_lt_of_cell? w _ hc, fun k x hx j u hu => ?_⟩
     have := (hl2 k x hx).1 j u hu
     rw [Addr.add_mid, ← Nat.add_assoc] at this
     exact this
   · have := bulk_slice ((List.range l.length).map D) ((List.range (m - l.length)).map fun j => D (l.length + j))
     simpa using this
   · have h3 := bulk_sum ((List.range l.length).map D)
     rw [List.map_map] at h3
     refine Nat.le_trans h3 ?_
     simp only [Rows.uptoBulk]
     omega
   · exact (hl2 i x hx).2
theorem mem_sum : ∀ {l : List Nat} {x : Nat}, x ∈ l → x ≤ l.sum
 | y :: r, x, h => by
   rw [List.sum_cons]
   rcases List.mem_cons.1 h with rfl | h
   · omega
   · have := mem_sum h; omega
theorem sum_range {α : Type} (g : α → Nat) : ∀ (l : List α) (f : Nat → Nat), (∀ i x, l[i]? = some x → g x ≤ f i) → (l.map g).sum ≤ ((List.range l.length).map f).sum
 | [], f, h => Nat.le_refl _
 | x :: r, f, h => by
   have h0 := h 0 x rfl
   have ih := sum_range g r (fun i => f (i + 1)) fun i y hy => h (i + 1) y (by simpa using hy)
   have e : List.map (f ∘ Nat.succ) (List.range r.length) = List.map (fun i => f (i + 1)) (List.range r.length) := rfl
   rw [List.length_cons, List.range_succ_eq_map, List.map_cons, List.map_cons, List.map_map, List.sum_cons, List.sum_cons, e]
   omega
end
section
variable {H : Type} {enc : TypeId × Value → H} {w : World}
def SuRd2 (w : World) (s : SUpd) (b : Nat) : Prop := SuRd w s b ∧ s.1.seen.ctx.cloud.length + 1 ≤ b
theorem rdSU2 : Rdr enc Tryz.prog w 77 fun cs b => ∃ s : SUpd, cs = SUpd.enc s ∧ SuRd2 w s b := rdUpd.mono fun cs b ⟨u, v1, v2, v3, e, hX, hk, _⟩ => by
 obtain ⟨h1, ⟨h2, h3⟩, l1, l2, l3, _⟩ := hX
 have k1 := h1
 have k2 := h2
 have k3 := h3
 obtain ⟨A1, c1, rfl, _⟩ := h1
 obtain ⟨A2, c2, rfl, _⟩ := h2
 obtain ⟨A3, c3, rfl, _⟩ := h3
 exact ⟨(u, ⟨A1, _, c1, A2, _, c2, A3, _, c3⟩), e, ⟨⟨k1, k2, k3⟩, ⟨by dsimp only; omega, by dsimp only; omega, by dsimp only; omega⟩, hk⟩, l3⟩
def LgRd2 (w : World) (x : SLog) (b : Nat) : Prop := LgRd w x b ∧ x.u.1.seen.ctx.cloud.length + 1 ≤ b
theorem rdLog2 : Rdr enc Tryz.prog w 96 fun cs b => ∃ x : SLog, cs = SLog.enc x ∧ LgRd2 w x b := by
 refine (Rdr.struct underlying96 (by kernel_rfl) (.cons (Rdr.int underlying3) (.cons (Rdr.int underlying3) (.cons (Rdr.int underlying3) (.cons rdSU2 (.cons rdActor (.cons (Rdr.str underlying9) (.cons rdSC (.cons rdSC .nil))))))))).mono ?_
 rintro cs b ⟨_, _, rfl, ⟨_, _, k, rfl, _⟩, _, _, rfl, ⟨_, _, at_, rfl, _⟩, _, _, rfl, ⟨_, _, ask, rfl, _⟩, _, _, rfl, ⟨_, b1, u, rfl, ⟨hu, hul, _⟩, hup⟩, _, _, rfl, ⟨_, _, an, al, rfl⟩, _, _, rfl, ⟨_, _, key, rfl, _⟩, _, _, rfl, ⟨_, b2, s, rfl, hs, hsl⟩, _, _, rfl, ⟨_, b3, c, rfl, hc, hcl⟩, rfl⟩
 exact ⟨⟨k, at_, ask, u, an, al, key, s, c⟩, rfl, ⟨⟨hu, hs, hc⟩, lens_le hul b1, lens_le hsl b2, lens_le hcl b3⟩, Nat.le_trans hup b1⟩
theorem read_logsS {v : Value} {d : DataW H} {p : List MemPlace} (hv : ∃ A len cap, v = .slice A len cap) (h : DataW.Trod enc Tryz.prog w 0 (fun _ => true) true 84 v d p) (hb : Rows.uptoBulk d ≤ 1048576) :
   ∃ l, Sl SLog.enc 22 w w.heap.size v l ∧ l.length + 1 ≤ Rows.uptoBulk d ∧ LogsRd w l ∧ SmallL l ∧ sumMk l ≤ Rows.uptoBulk d ∧ sumCl l ≤ Rows.uptoBulk d := by
 obtain ⟨v', l, hc, hs, hl, f, hf, hT⟩ := Rdr.top (Rdr.sliceS (k := 22) underlying84 (by kernel_rfl) rfl SLog.enc_len rdLog2) h
 obtain ⟨A, n, c, rfl⟩ := hv
 simp only [Value.cells, List.cons.injEq, and_true] at hc
 subst hc
 have h1 := sum_range (fun x : SLog => x.u.1.seen.ctx.marks.length) l f fun i x hx => (hT i x hx).1.2.1.2.1
 have h2 := sum_range (fun x : SLog => x.u.1.seen.ctx.cloud.length + 1) l f fun i x hx => (hT i x hx).2
 have hle : ∀ i, i < l.length → f i ≤ ((List.range l.length).map f).sum := fun i hi => mem_sum (List.mem_map.2 ⟨i, List.mem_range.2 hi, rfl⟩)
 refine ⟨l, hs, hl, fun x hx => ?_, fun x hx => ?_, ?_, ?_⟩
 · obtain ⟨i, hi, e⟩ := List.getElem_of_mem hx
   exact (hT i x (by rw [List.getElem?_eq_getElem hi, e])).1.1
 · obtain ⟨i, hi, e⟩ := List.getElem_of_mem hx
   obtain ⟨⟨_, h3, h4, h5⟩, _⟩ := hT i x (by rw [List.getElem?_eq_getElem hi, e])
   have := hle i hi
   exact ⟨lens_le h3 (by omega), lens_le h4 (by omega), lens_le h5 (by omega)⟩
 · unfold sumMk; omega
 · unfold sumCl; omega
end
end Go.Proofs.YtakpdbmdfnialaaGreat
namespace Go.Fw
open Go.RowKit
theorem dot_dec (a b : Dot) : decide (a.node = b.node ∧ a.life = b.life ∧ a.count = b.count) = decide (a = b) := decide_eq_decide.2 (by cases a; cases b; simp)
end Go.Fw
namespace Go.Proofs.YtakpdbmdfnialaaGreat
open Go.Fw Go.Proofs Go.RowKit Go.Proofs.Tryz
theorem c53 (w0 : World) (v : Value) (l : List SLog) (h : Sl SLog.enc 22 w0 w0.heap.size v l) (hl : LogsRd w0 l) (hn : l.length ≤ 1048576) :
   Calls Tryz.prog 53 #[v] w0 fun e w' => e = .returned (.tuple #[.int .i64 (issuedK l).1, .int .i64 (issuedK l).2]) ∧ Bel w0.heap.size w0 w' := by
 obtain ⟨A, cap, rfl, hl0, hcap, hA⟩ := h
 refine enter1 func53 rfl ntmps53 rfl fun a S => sg S (.ac rfl <| .ac rfl <| .z) fun a w S => wp_seq_k fun _ hK1 => sg S (.ac rfl <| .z) fun a w S => wp_block ?_
 refine Xb S [4] (X := Nat) (fun q => [(4, true, .int .i64 (q : Int))]) (fun _ => [])
   (fun q => q ≤ l.length ∧ issuedF q (namesK (l.take q)) (l.drop q) = issuedK l) (fun q => l.length - q) 0 ⟨Nat.zero_le _, rfl⟩ ?_
 clear S
 rintro q a w ⟨hq, hF⟩ S
 by_cases hlt : q < l.length
 · obtain ⟨gq, oq, x, rfl, hx, hd, hc⟩ := Yg hA hlt
   have hxr := hl x (List.mem_of_getElem? hx)
   have hupd := Wi (m := 3) (n := 10) (vs := SUpd.enc x.u) hc rfl
   have r1 := hxr.u.ents
   have r2 := hxr.u.ctx
   rw [issued_step hx] at hF
   by_cases hk : x.kind = 1
   rotate_left
   · have rw_k := decide_eq_false hk
     have rw_k2 : decide (x.kind ≠ 1) = true := decide_eq_true hk
     rw [if_neg hk] at hF
     refine wp_seq_k fun _ hK2 => sg S (.mv rfl <| .mv rfl <| .ln underlying84 rfl <| .lt (by omega) rfl rfl <| .z) fun a w S => Zg S (.t rfl) (wp_skip (Za (hK2 _ _ (wp_seq_k fun _ hK2 => wp_block (wp_seq_k fun _ hK3 => sg S (.mv rfl <| .mv rfl <| .ix underlying84 sizeOf96 (by omega) rfl rfl <| .yy (Zy (FieldT.mk underlying96 rfl sizeOf3 rfl) (.t rfl)) rfl <| .yy (Yv ⟨isAgg3, sizeOf3⟩ (.t rfl) (fun _ => hc _ _ rfl)) rfl <| .yy (Yu (by omega) (Yh (.t rfl) Ev.c)) rfl <| .z) fun a w S => Zg S (.t rfl) (wp_exit (Zh (Ya (Za (hK2 _ _ (wp_region_lit (run S (.mv rfl <| .ad (by unfold I64; omega) rfl <| .as rfl <| .z) fun a w S => Zb (Za ?_)))))))))))))
     exact ⟨q + 1, ⟨by omega, hF⟩, by omega, S.pk⟩
   have rw_k := decide_eq_true hk
   have rw_k2 : decide (x.kind ≠ 1) = false := decide_eq_false (fun e => e hk)
   rw [if_pos hk] at hF
   refine wp_seq_k fun _ hK2 => sg S (.mv rfl <| .mv rfl <| .ln underlying84 rfl <| .lt (by omega) rfl rfl <| .z) fun a w S => Zg S (.t rfl) (wp_skip (Za (hK2 _ _ (wp_seq_k fun _ hK2 => wp_block (wp_seq_k fun _ hK3 => sg S (.mv rfl <| .mv rfl <| .ix underlying84 sizeOf96 (by omega) rfl rfl <| .yy (Zy (FieldT.mk underlying96 rfl sizeOf3 rfl) (.t rfl)) rfl <| .yy (Yv ⟨isAgg3, sizeOf3⟩ (.t rfl) (fun _ => hc _ _ rfl)) rfl <| .yy (Yq (by omega) (Yh (.t rfl) Ev.c)) rfl <| .z) fun a w S => Ze S (.t rfl) (wp_skip (Za (hK3 _ _ (wp_seq_k fun _ hK3 => wp_region_lit (run S (.mv rfl <| .mv rfl <| .ix underlying84 sizeOf96 (by omega) rfl rfl <| .yy (Zy (FieldT.mk underlying96 rfl sizeOf77 rfl) (.t rfl)) rfl <| .yy (Zp ⟨isAgg77, sizeOf77⟩ (.t rfl) (vs := [_, _, _, _, _, _, _, _, _, _]) rfl (fun _ => hupd)) rfl <| .z) fun a w S => Zj (Zn S zeroValue77 (cs := _) rfl rfl fun g1 a w S => Zj (Zq S sizeOf77 (.t rfl) (.t rfl) (k := 0) rfl rfl rfl (by simp [Value.oneCell']) fun a w S => Zb (Za (hK3 _ _ (wp_seq_k fun _ hK3 => sg S (.ac rfl <| .z) fun a w S => wp_block ?_)))))))))))))))
   refine Xb S [6] (X := Nat) (fun k => [(6, true, .int .i64 (k : Int))]) (fun _ => [.blk g1 (.cells (SUpd.enc x.u).toArray 77)])
     (fun k => k ≤ q ∧ ((l.take q).take k).any (dupB x.u.1) = false) (fun k => q - k) 0 ⟨Nat.zero_le _, rfl⟩ ?_
   clear S
   rintro k a w ⟨hk2, hno⟩ S
   by_cases hlt2 : k < q
   · obtain ⟨g2, o2, y, e0, hy, hyd, hyc⟩ := Yg hA (show k < l.length by omega)
     cases e0
     have hkey : w0.cell? ⟨gq, oq + k * 22 + 3, none⟩ = some (.string (bs y.u.1.key)) := hyc 3 _ rfl
     have rw_d := dot_dec y.u.1.dot x.u.1.dot
     have hdot := Wi (m := 4) (n := 3) (vs := Dot.enc y.u.1.dot) hyc rfl
     have hy2 : (l.take q)[k]? = some y := by rw [List.getElem?_take, if_pos hlt2, hy]
     have hit : dupB x.u.1 y = true → (l.take q).any (dupB x.u.1) = true := fun e => List.any_eq_true.2 ⟨y, List.mem_of_getElem? hy2, e⟩
     have hsn := any_snoc' (p := dupB x.u.1) hy2
     by_cases h1 : y.kind = 1
     · have rw_1 := decide_eq_true h1
       by_cases h2 : y.u.1.key = x.u.1.key
       · have rw_2 := decide_eq_true h2
         by_cases h3 : y.u.1.dot = x.u.1.dot
         · have rw_3 := decide_eq_true h3
           have hh : dupB x.u.1 y = true := by unfold dupB; rw [rw_1, rw_2, rw_3]; rfl
           rw [if_neg (fun e => by rw [hit hh] at e; exact absurd e.1 (by decide))] at hF
           refine wp_seq_k fun _ hK4 => sg S (.mv rfl <| .mv rfl <| .lt (by omega) rfl rfl <| .z) fun a w S => Zg S (.t rfl) (wp_skip (Za (hK4 _ _ (wp_seq_k fun _ hK4 => wp_block (wp_seq_k fun _ hK5 => Yc S (by kernel_rfl) (by kernel_rfl) fun a S => qrun S (.mv rfl <| .mv rfl <| .ix underlying84 sizeOf96 (by omega) rfl rfl <| .yy (Zy (FieldT.mk underlying96 rfl sizeOf3 rfl) (.t rfl)) rfl <| .yy (Yv ⟨isAgg3, sizeOf3⟩ (.t rfl) (fun _ => hyc _ _ rfl)) rfl <| .yy (Yu (by omega) (Ye (.t rfl) Ev.c)) rfl <| .mv rfl <| .gy rfl rfl (Zi (.t rfl)) <| .gy rfl rfl (Zi (.t rfl)) <| .gy rfl rfl (Ym underlying84 sizeOf96 (.t rfl) (.t rfl) (fun _ => by omega)) <| .gy rfl rfl (Zy (FieldT.mk underlying96 rfl sizeOf77 rfl) (.t rfl)) <| .gy rfl rfl (Zy (FieldT.mk underlying77 rfl sizeOf9 rfl) (.t rfl)) <| .gy rfl rfl (Yv ⟨isAgg9, sizeOf9⟩ (.t rfl) (fun _ => hkey)) <| .gy rfl rfl (Zc (FieldT.mk underlying77 rfl sizeOf9 rfl) (.t rfl) (i' := 0) rfl) <| .gy rfl rfl (Zt ⟨isAgg9, sizeOf9⟩ (.t rfl) (k := 0) rfl rfl) <| .gy rfl rfl (Xa (.t rfl) (.t rfl)) <| .z) fun a S => ?_)))))
           rw [rw_2] at S
           refine qrun S (.yy (Zv (.t rfl) (.t rfl)) rfl <| .mv rfl <| .gy rfl rfl (Zi (.t rfl)) <| .gy rfl rfl (Zi (.t rfl)) <| .gy rfl rfl (Ym underlying84 sizeOf96 (.t rfl) (.t rfl) (fun _ => by omega)) <| .gy rfl rfl (Zy (FieldT.mk underlying96 rfl sizeOf77 rfl) (.t rfl)) <| .gy rfl rfl (Zy (FieldT.mk underlying77 rfl sizeOf74 rfl) (.t rfl)) <| .gy rfl rfl (Zp ⟨isAgg74, sizeOf74⟩ (.t rfl) (vs := [_, _, _]) rfl (fun _ => hdot)) <| .gy rfl rfl (Zc (FieldT.mk underlying77 rfl sizeOf74 rfl) (.t rfl) (i' := 1) rfl) <| .gy rfl rfl (Zz ⟨isAgg74, sizeOf74⟩ (.t rfl) (k := 0) rfl rfl) <| .gy rfl rfl (Wa (.t rfl) (.t rfl) eq74) <| .z) fun a S => ?_
           rw [rw_d] at S
           rw [rw_3] at S
           refine qrun S (.yy (Zv (.t rfl) (.t rfl)) rfl <| .z) fun a S => ?_
           (refine Yt ?_; intro w W; replace S := St.mk S W; clear W)
           refine Za (hK5 _ _ (Zg S (.t rfl) (sg S (.mv rfl <| .as rfl <| .ac rfl <| .z) fun a w S => wp_ret (Zr (Zd (Zd (Zr (Zd (Zr (Zd (Zd (Zr (Zd (Zm S (results2 S results53 (Rv.tmp rfl) (Rv.tmp rfl)) ?_))))))))))))))
           rw [← hF]
           exact ⟨rfl, S.wd.below⟩
         · have rw_3 := decide_eq_false h3
           have hh : dupB x.u.1 y = false := by unfold dupB; rw [rw_1, rw_2, rw_3]; rfl
           refine wp_seq_k fun _ hK4 => sg S (.mv rfl <| .mv rfl <| .lt (by omega) rfl rfl <| .z) fun a w S => Zg S (.t rfl) (wp_skip (Za (hK4 _ _ (wp_seq_k fun _ hK4 => wp_block (wp_seq_k fun _ hK5 => Yc S (by kernel_rfl) (by kernel_rfl) fun a S => qrun S (.mv rfl <| .mv rfl <| .ix underlying84 sizeOf96 (by omega) rfl rfl <| .yy (Zy (FieldT.mk underlying96 rfl sizeOf3 rfl) (.t rfl)) rfl <| .yy (Yv ⟨isAgg3, sizeOf3⟩ (.t rfl) (fun _ => hyc _ _ rfl)) rfl <| .yy (Yu (by omega) (Ye (.t rfl) Ev.c)) rfl <| .mv rfl <| .gy rfl rfl (Zi (.t rfl)) <| .gy rfl rfl (Zi (.t rfl)) <| .gy rfl rfl (Ym underlying84 sizeOf96 (.t rfl) (.t rfl) (fun _ => by omega)) <| .gy rfl rfl (Zy (FieldT.mk underlying96 rfl sizeOf77 rfl) (.t rfl)) <| .gy rfl rfl (Zy (FieldT.mk underlying77 rfl sizeOf9 rfl) (.t rfl)) <| .gy rfl rfl (Yv ⟨isAgg9, sizeOf9⟩ (.t rfl) (fun _ => hkey)) <| .gy rfl rfl (Zc (FieldT.mk underlying77 rfl sizeOf9 rfl) (.t rfl) (i' := 0) rfl) <| .gy rfl rfl (Zt ⟨isAgg9, sizeOf9⟩ (.t rfl) (k := 0) rfl rfl) <| .gy rfl rfl (Xa (.t rfl) (.t rfl)) <| .z) fun a S => ?_)))))
           rw [rw_2] at S
           refine qrun S (.yy (Zv (.t rfl) (.t rfl)) rfl <| .mv rfl <| .gy rfl rfl (Zi (.t rfl)) <| .gy rfl rfl (Zi (.t rfl)) <| .gy rfl rfl (Ym underlying84 sizeOf96 (.t rfl) (.t rfl) (fun _ => by omega)) <| .gy rfl rfl (Zy (FieldT.mk underlying96 rfl sizeOf77 rfl) (.t rfl)) <| .gy rfl rfl (Zy (FieldT.mk underlying77 rfl sizeOf74 rfl) (.t rfl)) <| .gy rfl rfl (Zp ⟨isAgg74, sizeOf74⟩ (.t rfl) (vs := [_, _, _]) rfl (fun _ => hdot)) <| .gy rfl rfl (Zc (FieldT.mk underlying77 rfl sizeOf74 rfl) (.t rfl) (i' := 1) rfl) <| .gy rfl rfl (Zz ⟨isAgg74, sizeOf74⟩ (.t rfl) (k := 0) rfl rfl) <| .gy rfl rfl (Wa (.t rfl) (.t rfl) eq74) <| .z) fun a S => ?_
           rw [rw_d] at S
           rw [rw_3] at S
           refine qrun S (.yy (Zv (.t rfl) (.t rfl)) rfl <| .z) fun a S => ?_
           (refine Yt ?_; intro w W; replace S := St.mk S W; clear W)
           refine Za (hK5 _ _ (Ze S (.t rfl) (wp_skip (Zk (Za (hK4 _ _ (wp_region_lit (run S (.mv rfl <| .ad (by unfold I64; omega) rfl <| .as rfl <| .z) fun a w S => Zb (Za ?_)))))))))
           exact ⟨k + 1, ⟨by omega, by rw [hsn, hno, hh]; rfl⟩, by omega, S.pk⟩
       · have rw_2 := decide_eq_false h2
         have hh : dupB x.u.1 y = false := by unfold dupB; rw [rw_1, rw_2]; rfl
         refine wp_seq_k fun _ hK4 => sg S (.mv rfl <| .mv rfl <| .lt (by omega) rfl rfl <| .z) fun a w S => Zg S (.t rfl) (wp_skip (Za (hK4 _ _ (wp_seq_k fun _ hK4 => wp_block (wp_seq_k fun _ hK5 => Yc S (by kernel_rfl) (by kernel_rfl) fun a S => qrun S (.mv rfl <| .mv rfl <| .ix underlying84 sizeOf96 (by omega) rfl rfl <| .yy (Zy (FieldT.mk underlying96 rfl sizeOf3 rfl) (.t rfl)) rfl <| .yy (Yv ⟨isAgg3, sizeOf3⟩ (.t rfl) (fun _ => hyc _ _ rfl)) rfl <| .yy (Yu (by omega) (Ye (.t rfl) Ev.c)) rfl <| .mv rfl <| .gy rfl rfl (Zi (.t rfl)) <| .gy rfl rfl (Zi (.t rfl)) <| .gy rfl rfl (Ym underlying84 sizeOf96 (.t rfl) (.t rfl) (fun _ => by omega)) <| .gy rfl rfl (Zy (FieldT.mk underlying96 rfl sizeOf77 rfl) (.t rfl)) <| .gy rfl rfl (Zy (FieldT.mk underlying77 rfl sizeOf9 rfl) (.t rfl)) <| .gy rfl rfl (Yv ⟨isAgg9, sizeOf9⟩ (.t rfl) (fun _ => hkey)) <| .gy rfl rfl (Zc (FieldT.mk underlying77 rfl sizeOf9 rfl) (.t rfl) (i' := 0) rfl) <| .gy rfl rfl (Zt ⟨isAgg9, sizeOf9⟩ (.t rfl) (k := 0) rfl rfl) <| .gy rfl rfl (Xa (.t rfl) (.t rfl)) <| .z) fun a S => ?_)))))
         rw [rw_2] at S
         refine qrun S (.yy (Zv (.t rfl) (.t rfl)) rfl <| .mv rfl <| .sk rfl rfl rfl <| .sk rfl rfl rfl <| .sk rfl rfl rfl <| .sk rfl rfl rfl <| .sk rfl rfl rfl <| .sk rfl rfl rfl <| .sk rfl rfl rfl <| .sk rfl rfl rfl <| .sk rfl rfl rfl <| .yy (Zu (.t rfl) Ev.c) rfl <| .z) fun a S => ?_
         (refine Yt ?_; intro w W; replace S := St.mk S W; clear W)
         refine Za (hK5 _ _ (Ze S (.t rfl) (wp_skip (Zk (Za (hK4 _ _ (wp_region_lit (run S (.mv rfl <| .ad (by unfold I64; omega) rfl <| .as rfl <| .z) fun a w S => Zb (Za ?_)))))))))
         exact ⟨k + 1, ⟨by omega, by rw [hsn, hno, hh]; rfl⟩, by omega, S.pk⟩
     · have rw_1 := decide_eq_false h1
       have hh : dupB x.u.1 y = false := by unfold dupB; rw [rw_1]; rfl
       refine wp_seq_k fun _ hK4 => sg S (.mv rfl <| .mv rfl <| .lt (by omega) rfl rfl <| .z) fun a w S => Zg S (.t rfl) (wp_skip (Za (hK4 _ _ (wp_seq_k fun _ hK4 => wp_block (wp_seq_k fun _ hK5 => Yc S (by kernel_rfl) (by kernel_rfl) fun a S => qrun S (.mv rfl <| .mv rfl <| .ix underlying84 sizeOf96 (by omega) rfl rfl <| .yy (Zy (FieldT.mk underlying96 rfl sizeOf3 rfl) (.t rfl)) rfl <| .yy (Yv ⟨isAgg3, sizeOf3⟩ (.t rfl) (fun _ => hyc _ _ rfl)) rfl <| .yy (Yq (by omega) (Ye (.t rfl) Ev.c)) rfl <| .mv rfl <| .sk rfl rfl rfl <| .sk rfl rfl rfl <| .sk rfl rfl rfl <| .sk rfl rfl rfl <| .sk rfl rfl rfl <| .sk rfl rfl rfl <| .sk rfl rfl rfl <| .sk rfl rfl rfl <| .sk rfl rfl rfl <| .yy (Zu (.t rfl) Ev.c) rfl <| .mv rfl <| .sk rfl rfl rfl <| .sk rfl rfl rfl <| .sk rfl rfl rfl <| .sk rfl rfl rfl <| .sk rfl rfl rfl <| .sk rfl rfl rfl <| .sk rfl rfl rfl <| .sk rfl rfl rfl <| .sk rfl rfl rfl <| .yy (Zu (.t rfl) Ev.c) rfl <| .z) fun a S => ?_)))))
       (refine Yt ?_; intro w W; replace S := St.mk S W; clear W)
       refine Za (hK5 _ _ (Ze S (.t rfl) (wp_skip (Zk (Za (hK4 _ _ (wp_region_lit (run S (.mv rfl <| .ad (by unfold I64; omega) rfl <| .as rfl <| .z) fun a w S => Zb (Za ?_)))))))))
       exact ⟨k + 1, ⟨by omega, by rw [hsn, hno, hh]; rfl⟩, by omega, S.pk⟩
   obtain rfl : k = q := by omega
   rw [List.take_take, Nat.min_self] at hno
   by_cases hm : mayE x.u.1 = 0
   · have rw_hm := hm
     rw [if_pos ⟨hno, hm⟩] at hF
     refine wp_seq_k fun _ hK4 => sg S (.mv rfl <| .mv rfl <| .ge (by omega) rfl rfl <| .z) fun a w S => Ze S (.t rfl) (wp_exit (Zh (Zh (Ya (Za (hK3 _ _ (wp_seq_k fun _ hK3 => wp_region_lit (run S (.la gt77 0 rfl rfl rfl <| .xx (Zf call128 (.cons (.t rfl) .nil) (fun hp w W => c128 _ _ _ _ _ (by exact .old W (by assumption)) (by exact .old W (by assumption)))) rfl <| .z) fun a w S => ?_))))))))
     rw [rw_hm] at S
     refine run S (.yy (Yq (by omega) (Yh (.t rfl) Ev.c)) rfl <| .z) fun a w S => Zb (Za (hK3 _ _ (Ze S (.t rfl) (wp_skip (Zk (Za (hK2 _ _ (wp_region_lit (run S (.mv rfl <| .ad (by unfold I64; omega) rfl <| .as rfl <| .z) fun a w S => Zb (Za ?_))))))))))
     exact ⟨k + 1, ⟨by omega, hF⟩, by omega, S.pk⟩
   · have rw_hm : decide (mayE x.u.1 ≠ 0) = true := decide_eq_true hm
     rw [if_neg (fun e => hm e.2)] at hF
     refine wp_seq_k fun _ hK4 => sg S (.mv rfl <| .mv rfl <| .ge (by omega) rfl rfl <| .z) fun a w S => Ze S (.t rfl) (wp_exit (Zh (Zh (Ya (Za (hK3 _ _ (sg S (.la gt77 0 rfl rfl rfl <| .xx (Zf call128 (.cons (.t rfl) .nil) (fun hp w W => c128 _ _ _ _ _ (by exact .old W (by assumption)) (by exact .old W (by assumption)))) rfl <| .yy (Yu (by omega) (Yh (.t rfl) Ev.c)) rfl <| .z) fun a w S => Zg S (.t rfl) (sg S (.mv rfl <| .as rfl <| .ac rfl <| .z) fun a w S => wp_ret (Zr (Zd (Zd (Zr (Zd (Zm S (results2 S results53 (Rv.tmp rfl) (Rv.tmp rfl)) ?_))))))))))))))
     rw [← hF]
     exact ⟨rfl, S.wd.below⟩
 obtain rfl : q = l.length := by omega
 rw [List.drop_length] at hF
 refine wp_seq_k fun _ hK2 => sg S (.mv rfl <| .mv rfl <| .ln underlying84 rfl <| .ge (by omega) rfl rfl <| .z) fun a w S => Ze S (.t rfl) (wp_exit (Zh (Zh (Ya (Za (hK1 _ _ (sg S (.ac rfl <| .ac rfl <| .z) fun a w S => wp_ret (Zm S (results2 S results53 (Rv.tmp rfl) (Rv.tmp rfl)) ?_))))))))
 rw [← hF]
 exact ⟨rfl, S.wd.below⟩
end Go.Proofs.YtakpdbmdfnialaaGreat
namespace Go.Fw
open Go.RowKit
def sawB (item : List UInt8) (d : Dot) (y : SUpd) : Bool := decide (y.1.item = item) && y.1.seen.ctx.covers d
end Go.Fw
namespace Go.Proofs.YtakpdbmdfnialaaGreat
open Go.Fw Go.Proofs Go.RowKit Go.Proofs.Tryz
theorem c230 (w0 : World) (a b : Ent) : Calls Tryz.prog 230 #[.agg (Ent.enc a).toArray, .agg (Ent.enc b).toArray] w0 fun e w' => e = .returned (.bool (decide (ltE a b))) ∧ Bel w0.heap.size w0 w' := by
 obtain ⟨s, ⟨d1, d2, d3⟩, q, p⟩ := a
 obtain ⟨s', ⟨e1, e2, e3⟩, q', p'⟩ := b
 dsimp only [Ent.enc]
 by_cases h : s = s'
 · have hh : ∀ c : Prop, [Decidable c] → (ltC ⟨d1, d2, d3⟩ ⟨e1, e2, e3⟩ ↔ c) → decide (ltE ⟨s, ⟨d1, d2, d3⟩, q, p⟩ ⟨s', ⟨e1, e2, e3⟩, q', p'⟩) = decide c := fun c _ hc => by
     subst h
     rw [Bool.eq_iff_iff, decide_eq_true_eq, decide_eq_true_eq, ← hc]
     unfold ltE
     simp [We]
   have rw_0 : decide (s ≠ s') = false := decide_eq_false (fun e => e h)
   by_cases h1 : d1 = e1
   · have rw_1 : decide (d1 ≠ e1) = false := decide_eq_false (fun e => e h1)
     by_cases h2 : d2 = e2
     · have rw_2 : decide (d2 ≠ e2) = false := decide_eq_false (fun e => e h2)
       rw [hh (d3 < e3) (by unfold ltC; dsimp only; omega)]
       refine enter2 func230 rfl ntmps230 rfl fun a S => wp_seq_k fun _ hK1 => wp_region_lit (Zj (Zw S (.t rfl) rfl fun g1 a w S => Zj (Zw S (.t rfl) rfl fun g2 a w S => run S (.ac rfl <| .z) fun a w S => Zb (Za (hK1 _ _ (wp_seq_k fun _ hK1 => wp_seq_k fun _ hK2 => wp_region_lit (run S (.fa underlying100 sizeOf9 0 rfl rfl rfl <| .ld gt9 1 rfl rfl rfl <| .fa underlying100 sizeOf9 0 rfl rfl rfl <| .ld gt9 0 rfl rfl rfl <| .yy (Xs (.t rfl) (.t rfl)) rfl <| .z) fun a w S => ?_)))))))
       rw [rw_0] at S
       refine Zb (Za (hK2 _ _ (Ze S (.t rfl) (wp_skip (Za (hK1 _ _ (wp_seq_k fun _ hK1 => sg S (.fa underlying100 sizeOf74 1 rfl rfl rfl <| .fa underlying74 sizeOf3 1 rfl rfl rfl <| .ld gt3 1 rfl rfl rfl <| .fa underlying100 sizeOf74 1 rfl rfl rfl <| .fa underlying74 sizeOf3 1 rfl rfl rfl <| .ld gt3 0 rfl rfl rfl <| .yy (Yq (by omega) (Yh (.t rfl) (.t rfl))) rfl <| .z) fun a w S => Ze S (.t rfl) (wp_skip (Za (hK1 _ _ (wp_seq_k fun _ hK1 => sg S (.fa underlying100 sizeOf74 1 rfl rfl rfl <| .fa underlying74 sizeOf3 2 rfl rfl rfl <| .ld gt3 1 rfl rfl rfl <| .fa underlying100 sizeOf74 1 rfl rfl rfl <| .fa underlying74 sizeOf3 2 rfl rfl rfl <| .ld gt3 0 rfl rfl rfl <| .yy (Yq (by omega) (Yh (.t rfl) (.t rfl))) rfl <| .z) fun a w S => Ze S (.t rfl) (wp_skip (Za (hK1 _ _ (sg S (.fa underlying100 sizeOf74 1 rfl rfl rfl <| .fa underlying74 sizeOf3 3 rfl rfl rfl <| .ld gt3 1 rfl rfl rfl <| .fa underlying100 sizeOf74 1 rfl rfl rfl <| .fa underlying74 sizeOf3 3 rfl rfl rfl <| .ld gt3 0 rfl rfl rfl <| .yy (Yy (.t rfl) (.t rfl)) rfl <| .as rfl <| .z) fun a w S => ?_)))))))))))))))
       refine wp_ret (Zm S (results1 S results230 (Rv.tmp rfl)) ?_)
       exact ⟨rfl, S.wd.below⟩
     · have rw_2 : decide (d2 ≠ e2) = true := decide_eq_true h2
       rw [hh (d2 < e2) (by unfold ltC; dsimp only; omega)]
       refine enter2 func230 rfl ntmps230 rfl fun a S => wp_seq_k fun _ hK1 => wp_region_lit (Zj (Zw S (.t rfl) rfl fun g1 a w S => Zj (Zw S (.t rfl) rfl fun g2 a w S => run S (.ac rfl <| .z) fun a w S => Zb (Za (hK1 _ _ (wp_seq_k fun _ hK1 => wp_seq_k fun _ hK2 => wp_region_lit (run S (.fa underlying100 sizeOf9 0 rfl rfl rfl <| .ld gt9 1 rfl rfl rfl <| .fa underlying100 sizeOf9 0 rfl rfl rfl <| .ld gt9 0 rfl rfl rfl <| .yy (Xs (.t rfl) (.t rfl)) rfl <| .z) fun a w S => ?_)))))))
       rw [rw_0] at S
       refine Zb (Za (hK2 _ _ (Ze S (.t rfl) (wp_skip (Za (hK1 _ _ (wp_seq_k fun _ hK1 => sg S (.fa underlying100 sizeOf74 1 rfl rfl rfl <| .fa underlying74 sizeOf3 1 rfl rfl rfl <| .ld gt3 1 rfl rfl rfl <| .fa underlying100 sizeOf74 1 rfl rfl rfl <| .fa underlying74 sizeOf3 1 rfl rfl rfl <| .ld gt3 0 rfl rfl rfl <| .yy (Yq (by omega) (Yh (.t rfl) (.t rfl))) rfl <| .z) fun a w S => Ze S (.t rfl) (wp_skip (Za (hK1 _ _ (wp_seq_k fun _ hK1 => sg S (.fa underlying100 sizeOf74 1 rfl rfl rfl <| .fa underlying74 sizeOf3 2 rfl rfl rfl <| .ld gt3 1 rfl rfl rfl <| .fa underlying100 sizeOf74 1 rfl rfl rfl <| .fa underlying74 sizeOf3 2 rfl rfl rfl <| .ld gt3 0 rfl rfl rfl <| .yy (Yu (by omega) (Yh (.t rfl) (.t rfl))) rfl <| .z) fun a w S => Zg S (.t rfl) (sg S (.fa underlying100 sizeOf74 1 rfl rfl rfl <| .fa underlying74 sizeOf3 2 rfl rfl rfl <| .ld gt3 1 rfl rfl rfl <| .fa underlying100 sizeOf74 1 rfl rfl rfl <| .fa underlying74 sizeOf3 2 rfl rfl rfl <| .ld gt3 0 rfl rfl rfl <| .yy (Yy (.t rfl) (.t rfl)) rfl <| .as rfl <| .z) fun a w S => wp_ret (Zd ?_)))))))))))))
       refine Zm S (results1 S results230 (Rv.tmp rfl)) ?_
       exact ⟨rfl, S.wd.below⟩
   · have rw_1 : decide (d1 ≠ e1) = true := decide_eq_true h1
     rw [hh (d1 < e1) (by unfold ltC; dsimp only; omega)]
     refine enter2 func230 rfl ntmps230 rfl fun a S => wp_seq_k fun _ hK1 => wp_region_lit (Zj (Zw S (.t rfl) rfl fun g1 a w S => Zj (Zw S (.t rfl) rfl fun g2 a w S => run S (.ac rfl <| .z) fun a w S => Zb (Za (hK1 _ _ (wp_seq_k fun _ hK1 => wp_seq_k fun _ hK2 => wp_region_lit (run S (.fa underlying100 sizeOf9 0 rfl rfl rfl <| .ld gt9 1 rfl rfl rfl <| .fa underlying100 sizeOf9 0 rfl rfl rfl <| .ld gt9 0 rfl rfl rfl <| .yy (Xs (.t rfl) (.t rfl)) rfl <| .z) fun a w S => ?_)))))))
     rw [rw_0] at S
     refine Zb (Za (hK2 _ _ (Ze S (.t rfl) (wp_skip (Za (hK1 _ _ (wp_seq_k fun _ hK1 => sg S (.fa underlying100 sizeOf74 1 rfl rfl rfl <| .fa underlying74 sizeOf3 1 rfl rfl rfl <| .ld gt3 1 rfl rfl rfl <| .fa underlying100 sizeOf74 1 rfl rfl rfl <| .fa underlying74 sizeOf3 1 rfl rfl rfl <| .ld gt3 0 rfl rfl rfl <| .yy (Yu (by omega) (Yh (.t rfl) (.t rfl))) rfl <| .z) fun a w S => Zg S (.t rfl) (sg S (.fa underlying100 sizeOf74 1 rfl rfl rfl <| .fa underlying74 sizeOf3 1 rfl rfl rfl <| .ld gt3 1 rfl rfl rfl <| .fa underlying100 sizeOf74 1 rfl rfl rfl <| .fa underlying74 sizeOf3 1 rfl rfl rfl <| .ld gt3 0 rfl rfl rfl <| .yy (Yy (.t rfl) (.t rfl)) rfl <| .as rfl <| .z) fun a w S => wp_ret (Zd (Zm S (results1 S results230 (Rv.tmp rfl)) ?_))))))))))
     exact ⟨rfl, S.wd.below⟩
 · have e : decide (ltE ⟨s, ⟨d1, d2, d3⟩, q, p⟩ ⟨s', ⟨e1, e2, e3⟩, q', p'⟩) = Op.bytesLess s s' := by
     rw [Bool.eq_iff_iff, decide_eq_true_eq]
     unfold ltE
     simp [h]
   have rw_0 : decide (s ≠ s') = true := decide_eq_true h
   rw [e]
   refine enter2 func230 rfl ntmps230 rfl fun a S => wp_seq_k fun _ hK1 => wp_region_lit (Zj (Zw S (.t rfl) rfl fun g1 a w S => Zj (Zw S (.t rfl) rfl fun g2 a w S => run S (.ac rfl <| .z) fun a w S => Zb (Za (hK1 _ _ (wp_seq_k fun _ hK1 => wp_seq_k fun _ hK2 => wp_region_lit (run S (.fa underlying100 sizeOf9 0 rfl rfl rfl <| .ld gt9 1 rfl rfl rfl <| .fa underlying100 sizeOf9 0 rfl rfl rfl <| .ld gt9 0 rfl rfl rfl <| .yy (Xs (.t rfl) (.t rfl)) rfl <| .z) fun a w S => ?_)))))))
   rw [rw_0] at S
   refine Zb (Za (hK2 _ _ (Zg S (.t rfl) (sg S (.fa underlying100 sizeOf9 0 rfl rfl rfl <| .ld gt9 1 rfl rfl rfl <| .fa underlying100 sizeOf9 0 rfl rfl rfl <| .ld gt9 0 rfl rfl rfl <| .yy (ys_lssStr (.t rfl) (.t rfl)) rfl <| .as rfl <| .z) fun a w S => wp_ret (Zd (Zm S (results1 S results230 (Rv.tmp rfl)) ?_))))))
   exact ⟨rfl, S.wd.below⟩
theorem c208 (w0 : World) (v : Value) (l : List Ent) (e : Ent) (h : Sl Ent.enc 6 w0 w0.heap.size v l) (hn : l.length ≤ 1048576) :
   Rets Tryz.prog 208 #[v, .agg (Ent.enc e).toArray] w0 fun u L => ∃ A1 r1, u = .slice A1 (insE e l).length r1 ∧ L = [rowOf 100 6 Ent.enc A1 r1 (insE e l)] := by
 obtain ⟨A, cap, rfl, hl, hcap, hA⟩ := h
 have hil : ∀ m, (insE e m).length = m.length + 1 := fun m => insE_len e m
 unfold Go.Fw.Rets
 refine enter2 func208 rfl ntmps208 rfl fun a S => wp_seq_k fun _ hK1 => wp_region_lit (Zj (Zw S (.t rfl) rfl fun g1 a w S => run S (.ac rfl <| .z) fun a w S => Zb (Za (hK1 _ _ (sg S (.ac rfl <| .z) fun a w S => sg S (.ac rfl <| .z) fun a w S => wp_seq_k fun _ hK1 => sg S (.ac rfl <| .z) fun a w S => wp_block ?_)))))
 replace S := S.nil_ 100 6 Ent.enc none
 refine Xb S [5, 6, 7] (X := Nat × Bool × Option Addr × Nat) (fun q => [(5, true, .slice q.2.2.1 (outE e (l.take q.1) q.2.1).length q.2.2.2), (6, true, .bool q.2.1), (7, true, .int .i64 (q.1 : Int))])
   (fun q => [rowOf 100 6 Ent.enc q.2.2.1 q.2.2.2 (outE e (l.take q.1) q.2.1), .blk g1 (.cells (Ent.enc e).toArray 100)])
   (fun q => q.1 ≤ l.length ∧ (q.2.1 = true → ∃ y ∈ l.take q.1, ltE e y) ∧ (q.2.1 = false → ∀ y ∈ l.take q.1, ¬ ltE e y)) (fun q => l.length - q.1) (0, false, none, 0) ⟨Nat.zero_le _, by simp, by simp⟩ ?_
 clear S
 rintro ⟨k, put, B, cB⟩ a w ⟨hk, hp1, hp2⟩ S
 dsimp only at hk hp1 hp2 S
 have hol : (outE e (l.take k) put).length ≤ k + 1 := by
   unfold outE
   split
   · rw [hil, List.length_take]; omega
   · rw [List.length_take]; omega
 by_cases hlt : k < l.length
 · obtain ⟨g, o, x, rfl, hx, hd, hc⟩ := Yg hA hlt
   have ht : l.take (k + 1) = l.take k ++ [x] := by rw [List.take_add_one, hx, Option.toList_some]
   cases put with
   | true =>
     have hst : outE e (l.take (k + 1)) true = outE e (l.take k) true ++ [x] := by unfold outE; rw [ht, if_pos rfl, if_pos rfl, insE_put (hp1 rfl)]
     generalize outE e (l.take k) true = O at *
     refine wp_seq_k fun _ hK2 => sg S (.mv rfl <| .mv rfl <| .ln underlying31 rfl <| .lt (by omega) rfl rfl <| .z) fun a w S => Zg S (.t rfl) (wp_skip (Za (hK2 _ _ (wp_seq_k fun _ hK2 => wp_block (wp_seq_k fun _ hK3 => wp_seq_k fun _ hK4 => Yc S (by kernel_rfl) (by kernel_rfl) fun a S => qrun S (.mv rfl <| .nt rfl <| .mv rfl <| .sk rfl rfl rfl <| .sk rfl rfl rfl <| .sk rfl rfl rfl <| .sk rfl rfl rfl <| .sk rfl rfl rfl <| .sk rfl rfl rfl <| .yy (Zu (.t rfl) Ev.c) rfl <| .z) fun a S => ?_)))))
     (refine Yt ?_; intro w W; replace S := St.mk S W; clear W)
     refine Za (hK4 _ _ (Ze S (.t rfl) (wp_skip (Za (hK3 _ _ (wp_region_lit (run S (.mv rfl <| .mv rfl <| .mv rfl <| .ix underlying31 sizeOf100 (by omega) rfl rfl <| .yy (Zp ⟨isAgg100, sizeOf100⟩ (.t rfl) (vs := [_, _, _, _, _, _]) rfl (fun _ => hc)) rfl <| .z) fun a w S => Zj (Yf S underlying31 inf100 rfl rfl rfl (.t rfl) rfl rfl rfl fun g2 a w S => Zj (Yw S underlying31 inf100 rfl (k := 1) (j := 0) rfl (.t rfl) (.t rfl) rfl rfl rfl rfl (by first | omega | (simp only [List.length_append, List.length_cons, List.length_nil]; omega)) rfl rfl rfl fun A1 cap1 a w S => run S (.as rfl <| .z) fun a w S => Zb (Zk (Za (hK2 _ _ (wp_region_lit (run S (.mv rfl <| .ad (by unfold I64; omega) rfl <| .as rfl <| .z) fun a w S => Zb (Za ?_)))))))))))))))
     refine ⟨(k + 1, true, A1, cap1), ⟨by dsimp only; omega, fun _ => ?_, fun h => by cases h⟩, by dsimp only; omega, ?_⟩
     · obtain ⟨y, hy, hy2⟩ := hp1 rfl
       exact ⟨y, by rw [ht]; exact List.mem_append_left _ hy, hy2⟩
     · dsimp only; rw [hst]; exact S.pk
   | false =>
     by_cases hex : ltE e x
     · have hst : outE e (l.take (k + 1)) true = outE e (l.take k) false ++ [e] ++ [x] := by unfold outE; rw [ht, if_pos rfl, if_neg (by simp), insE_new (hp2 rfl) hex]; simp
       have rw_l : decide (ltE e x) = true := decide_eq_true hex
       generalize outE e (l.take k) false = O at *
       refine wp_seq_k fun _ hK2 => sg S (.mv rfl <| .mv rfl <| .ln underlying31 rfl <| .lt (by omega) rfl rfl <| .z) fun a w S => Zg S (.t rfl) (wp_skip (Za (hK2 _ _ (wp_seq_k fun _ hK2 => wp_block (wp_seq_k fun _ hK3 => wp_seq_k fun _ hK4 => Yc S (by kernel_rfl) (by kernel_rfl) fun a S => qrun S (.mv rfl <| .nt rfl <| .mv rfl <| .gy rfl rfl (Zz ⟨isAgg100, sizeOf100⟩ (.t rfl) (k := 1) rfl rfl) <| .gy rfl rfl (Zi (.t rfl)) <| .gy rfl rfl (Zi (.t rfl)) <| .gy rfl rfl (Ym underlying31 sizeOf100 (.t rfl) (.t rfl) (fun _ => by omega)) <| .gy rfl rfl (Zp ⟨isAgg100, sizeOf100⟩ (.t rfl) (vs := [_, _, _, _, _, _]) rfl (fun _ => hc)) <| .gx rfl rfl (Zf call230 (.cons (.t rfl) (.cons (.t rfl) .nil)) (fun hp w W => c230 _ _ _)) <| .z) fun a S => ?_)))))
       rw [rw_l] at S
       refine qrun S (.yy (Zv (.t rfl) (.t rfl)) rfl <| .z) fun a S => ?_
       (refine Yt ?_; intro w W; replace S := St.mk S W; clear W)
       refine Za (hK4 _ _ (Zg S (.t rfl) (wp_seq_k fun _ hK4 => wp_region_lit (run S (.mv rfl <| .la gt100 1 rfl rfl rfl <| .z) fun a w S => Zj (Yf S underlying31 inf100 rfl rfl rfl (.t rfl) rfl rfl rfl fun g2 a w S => Zj (Yw S underlying31 inf100 rfl (k := 1) (j := 0) rfl (.t rfl) (.t rfl) rfl rfl rfl rfl (by first | omega | (simp only [List.length_append, List.length_cons, List.length_nil]; omega)) rfl rfl rfl fun A1 cap1 a w S => run S (.as rfl <| .z) fun a w S => Zb (Za (hK4 _ _ (rg S (.ac rfl <| .z) hK3 fun a w S => wp_region_lit (run S (.mv rfl <| .mv rfl <| .mv rfl <| .ix underlying31 sizeOf100 (by omega) rfl rfl <| .yy (Zp ⟨isAgg100, sizeOf100⟩ (.t rfl) (vs := [_, _, _, _, _, _]) rfl (fun _ => hc)) rfl <| .z) fun a w S => Zj (Yf S underlying31 inf100 rfl rfl rfl (.t rfl) rfl rfl rfl fun g3 a w S => Zj (Yw S underlying31 inf100 rfl (k := 2) (j := 0) rfl (.t rfl) (.t rfl) rfl rfl rfl rfl (by first | omega | (simp only [List.length_append, List.length_cons, List.length_nil]; omega)) rfl rfl rfl fun A2 cap2 a w S => run S (.as rfl <| .z) fun a w S => Zb (Zk (Za (hK2 _ _ (wp_region_lit (run S (.mv rfl <| .ad (by unfold I64; omega) rfl <| .as rfl <| .z) fun a w S => Zb (Za ?_))))))))))))))))))
       refine ⟨(k + 1, true, A2, cap2), ⟨by dsimp only; omega, fun _ => ⟨x, by rw [ht]; simp, hex⟩, fun h => by cases h⟩, by dsimp only; omega, ?_⟩
       dsimp only; rw [hst]; exact S.pk
     · have hst : outE e (l.take (k + 1)) false = outE e (l.take k) false ++ [x] := by unfold outE; rw [ht, if_neg (by simp), if_neg (by simp)]
       have rw_l : decide (ltE e x) = false := decide_eq_false hex
       generalize outE e (l.take k) false = O at *
       refine wp_seq_k fun _ hK2 => sg S (.mv rfl <| .mv rfl <| .ln underlying31 rfl <| .lt (by omega) rfl rfl <| .z) fun a w S => Zg S (.t rfl) (wp_skip (Za (hK2 _ _ (wp_seq_k fun _ hK2 => wp_block (wp_seq_k fun _ hK3 => wp_seq_k fun _ hK4 => Yc S (by kernel_rfl) (by kernel_rfl) fun a S => qrun S (.mv rfl <| .nt rfl <| .mv rfl <| .gy rfl rfl (Zz ⟨isAgg100, sizeOf100⟩ (.t rfl) (k := 1) rfl rfl) <| .gy rfl rfl (Zi (.t rfl)) <| .gy rfl rfl (Zi (.t rfl)) <| .gy rfl rfl (Ym underlying31 sizeOf100 (.t rfl) (.t rfl) (fun _ => by omega)) <| .gy rfl rfl (Zp ⟨isAgg100, sizeOf100⟩ (.t rfl) (vs := [_, _, _, _, _, _]) rfl (fun _ => hc)) <| .gx rfl rfl (Zf call230 (.cons (.t rfl) (.cons (.t rfl) .nil)) (fun hp w W => c230 _ _ _)) <| .z) fun a S => ?_)))))
       rw [rw_l] at S
       refine qrun S (.yy (Zv (.t rfl) (.t rfl)) rfl <| .z) fun a S => ?_
       (refine Yt ?_; intro w W; replace S := St.mk S W; clear W)
       refine Za (hK4 _ _ (Ze S (.t rfl) (wp_skip (Za (hK3 _ _ (wp_region_lit (run S (.mv rfl <| .mv rfl <| .mv rfl <| .ix underlying31 sizeOf100 (by omega) rfl rfl <| .yy (Zp ⟨isAgg100, sizeOf100⟩ (.t rfl) (vs := [_, _, _, _, _, _]) rfl (fun _ => hc)) rfl <| .z) fun a w S => Zj (Yf S underlying31 inf100 rfl rfl rfl (.t rfl) rfl rfl rfl fun g2 a w S => Zj (Yw S underlying31 inf100 rfl (k := 1) (j := 0) rfl (.t rfl) (.t rfl) rfl rfl rfl rfl (by first | omega | (simp only [List.length_append, List.length_cons, List.length_nil]; omega)) rfl rfl rfl fun A1 cap1 a w S => run S (.as rfl <| .z) fun a w S => Zb (Zk (Za (hK2 _ _ (wp_region_lit (run S (.mv rfl <| .ad (by unfold I64; omega) rfl <| .as rfl <| .z) fun a w S => Zb (Za ?_)))))))))))))))
       refine ⟨(k + 1, false, A1, cap1), ⟨by dsimp only; omega, (fun h => by cases h), fun _ y hy => ?_⟩, by dsimp only; omega, ?_⟩
       · rw [ht] at hy
         rcases List.mem_append.1 hy with hy | hy
         · exact hp2 rfl y hy
         · simp at hy; exact hy ▸ hex
       · dsimp only; rw [hst]; exact S.pk
 · obtain rfl : k = l.length := by omega
   rw [List.take_length] at S hp1 hp2 hol
   cases put with
   | true =>
     have hst : outE e l true = insE e l := by unfold outE; rw [if_pos rfl]
     rw [hst] at S
     refine wp_seq_k fun _ hK2 => sg S (.mv rfl <| .mv rfl <| .ln underlying31 rfl <| .ge (by omega) rfl rfl <| .z) fun a w S => Ze S (.t rfl) (wp_exit (Zh (Zh (Ya (Za (hK1 _ _ (wp_seq_k fun _ hK1 => sg S (.mv rfl <| .nt rfl <| .z) fun a w S => Ze S (.t rfl) (wp_skip (Za (hK1 _ _ (sg S (.mv rfl <| .as rfl <| .z) fun a w S => wp_ret (Zm S (results1 S results208 (Rv.tmp rfl)) ?_))))))))))))
     exact ⟨_, _, rfl, S.wd.picks (L' := [rowOf 100 6 Ent.enc B cB (insE e l)]) (by repeat (first | exact Picks.nil | (refine Picks.rest ?_; (repeat (first | exact List.Sublist.refl _ | refine List.Sublist.cons_cons _ ?_ | refine List.Sublist.cons _ ?_)); done) | refine Picks.take 0 rfl ?_ | refine Picks.take 1 rfl ?_ | refine Picks.take 2 rfl ?_ | refine Picks.take 3 rfl ?_ | refine Picks.take 4 rfl ?_ | refine Picks.take 5 rfl ?_ | refine Picks.take 6 rfl ?_ | refine Picks.take 7 rfl ?_ | refine Picks.take 8 rfl ?_ | refine Picks.take 9 rfl ?_ | refine Picks.take 10 rfl ?_ | refine Picks.take 11 rfl ?_)), _, _, rfl, rfl⟩
   | false =>
     have hst : insE e l = outE e l false ++ [e] := by unfold outE; rw [if_neg (by simp), insE_none (hp2 rfl)]
     generalize outE e l false = O at *
     refine wp_seq_k fun _ hK2 => sg S (.mv rfl <| .mv rfl <| .ln underlying31 rfl <| .ge (by omega) rfl rfl <| .z) fun a w S => Ze S (.t rfl) (wp_exit (Zh (Zh (Ya (Za (hK1 _ _ (wp_seq_k fun _ hK1 => sg S (.mv rfl <| .nt rfl <| .z) fun a w S => Zg S (.t rfl) (wp_region_lit (run S (.mv rfl <| .la gt100 1 rfl rfl rfl <| .z) fun a w S => Zj (Yf S underlying31 inf100 rfl rfl rfl (.t rfl) rfl rfl rfl fun g2 a w S => Zj (Yw S underlying31 inf100 rfl (k := 1) (j := 0) rfl (.t rfl) (.t rfl) rfl rfl rfl rfl (by first | omega | (simp only [List.length_append, List.length_cons, List.length_nil]; omega)) rfl rfl rfl fun A1 cap1 a w S => run S (.as rfl <| .z) fun a w S => Zb (Za (hK1 _ _ (sg S (.mv rfl <| .as rfl <| .z) fun a w S => wp_ret (Zm S (results1 S results208 (Rv.tmp rfl)) ?_)))))))))))))))
     exact ⟨_, _, rfl, S.wd.picks (L' := [rowOf 100 6 Ent.enc A1 cap1 (O ++ [e])]) (by repeat (first | exact Picks.nil | (refine Picks.rest ?_; (repeat (first | exact List.Sublist.refl _ | refine List.Sublist.cons_cons _ ?_ | refine List.Sublist.cons _ ?_)); done) | refine Picks.take 0 rfl ?_ | refine Picks.take 1 rfl ?_ | refine Picks.take 2 rfl ?_ | refine Picks.take 3 rfl ?_ | refine Picks.take 4 rfl ?_ | refine Picks.take 5 rfl ?_ | refine Picks.take 6 rfl ?_ | refine Picks.take 7 rfl ?_ | refine Picks.take 8 rfl ?_ | refine Picks.take 9 rfl ?_ | refine Picks.take 10 rfl ?_ | refine Picks.take 11 rfl ?_)), A1, cap1, by rw [hst], by rw [hst]⟩
theorem c207 (w0 : World) (v : Value) (l : List SUpd) (item : List UInt8) (x y z : Int) (h : Sl SUpd.enc 10 w0 w0.heap.size v l) (hr : UpdsRd w0 l) (hok : ∀ p ∈ l, CartOk p.1.seen) :
   Calls Tryz.prog 207 #[v, .string (bs item), .agg #[.int .i64 x, .int .i64 y, .int .i64 z]] w0 fun e w' => e = .returned (.bool (l.any (sawB item ⟨x, y, z⟩))) ∧ Bel w0.heap.size w0 w' := by
 obtain ⟨A, cap, rfl, hl0, hcap, hA⟩ := h
 refine enter3 func207 rfl ntmps207 rfl fun a S => wp_seq_k fun _ hK1 => wp_region_lit (Zj (Zw S (.t rfl) rfl fun g1 a w S => run S (.ac rfl <| .z) fun a w S => Zb (Za (hK1 _ _ (wp_seq_k fun _ hK1 => sg S (.ac rfl <| .z) fun a w S => wp_block ?_)))))
 refine Xb S [7] (X := Nat) (fun k => [(7, true, .int .i64 (k : Int))]) (fun _ => [.blk g1 (.cells (Dot.enc ⟨x, y, z⟩).toArray 74)])
   (fun k => k ≤ l.length ∧ (l.take k).any (sawB item ⟨x, y, z⟩) = false) (fun k => l.length - k) 0 ⟨Nat.zero_le _, rfl⟩ ?_
 clear S
 intro k a w ⟨hk, hno⟩ S
 by_cases hlt : k < l.length
 · obtain ⟨gq, oq, p, rfl, hx, hd, hcc⟩ := Yg hA hlt
   have hpr := (hr p (List.mem_of_getElem? hx)).ctx
   have rw_R := (hok p (List.mem_of_getElem? hx)).coversR ⟨x, y, z⟩
   have hctx := Wi (m := 8) (n := 2) (vs := [.slice p.2.a2 p.2.n2 p.2.c2, .slice p.2.a3 p.2.n3 p.2.c3]) hcc rfl
   by_cases h1 : p.1.item = item
   · have rw_1 := decide_eq_true h1
     have hh : sawB item ⟨x, y, z⟩ p = p.1.seen.ctx.covers ⟨x, y, z⟩ := by unfold sawB; rw [rw_1]; rfl
     cases hcv : p.1.seen.ctx.covers ⟨x, y, z⟩ with
     | true =>
       have rw_c := hcv
       rw [hcv] at hh
       refine wp_seq_k fun _ hK2 => sg S (.mv rfl <| .mv rfl <| .ln underlying72 rfl <| .lt (by omega) rfl rfl <| .z) fun a w S => Zg S (.t rfl) (wp_skip (Za (hK2 _ _ (wp_seq_k fun _ hK2 => wp_block (wp_seq_k fun _ hK3 => Yc S (by kernel_rfl) (by kernel_rfl) fun a S => qrun S (.mv rfl <| .mv rfl <| .ix underlying72 sizeOf77 (by omega) rfl rfl <| .yy (Zy (FieldT.mk underlying77 rfl sizeOf9 rfl) (.t rfl)) rfl <| .yy (Yv ⟨isAgg9, sizeOf9⟩ (.t rfl) (fun _ => hcc _ _ rfl)) rfl <| .mv rfl <| .yy (Xa (.t rfl) (.t rfl)) rfl <| .z) fun a S => ?_)))))
       rw [rw_1] at S
       refine qrun S (.mv rfl <| .gy rfl rfl (Zi (.t rfl)) <| .gy rfl rfl (Zi (.t rfl)) <| .gy rfl rfl (Ym underlying72 sizeOf77 (.t rfl) (.t rfl) (fun _ => by omega)) <| .gy rfl rfl (Zy (FieldT.mk underlying77 rfl sizeOf37 rfl) (.t rfl)) <| .gy rfl rfl (Zy (FieldT.mk underlying37 rfl sizeOf35 rfl) (.t rfl)) <| .gy rfl rfl (Zp ⟨isAgg35, sizeOf35⟩ (.t rfl) (vs := [_, _]) rfl (fun _ => hctx)) <| .gy rfl rfl (Zz ⟨isAgg74, sizeOf74⟩ (.t rfl) (k := 0) rfl rfl) <| .gx rfl rfl (Zf call77 (.cons (.t rfl) (.cons (.t rfl) .nil)) (fun hp w W => c77 _ _ _ _ _ _ _ (by exact .old W (by assumption)))) <| .z) fun a S => ?_
       simp only [List.nil_append] at S
       rw [rw_R] at S
       rw [rw_c] at S
       refine qrun S (.yy (Zv (.t rfl) (.t rfl)) rfl <| .z) fun a S => ?_
       (refine Yt ?_; intro w W; replace S := St.mk S W; clear W)
       refine Za (hK3 _ _ (Zg S (.t rfl) (sg S (.ac rfl <| .z) fun a w S => wp_ret (Zr (Zd (Zd (Zr (Zd (Zm S (results1 S results207 (Rv.tmp rfl)) ?_)))))))))
       exact ⟨by rw [List.any_eq_true.2 ⟨p, List.mem_of_getElem? hx, hh⟩], S.wd.below⟩
     | false =>
       have rw_c := hcv
       rw [hcv] at hh
       refine wp_seq_k fun _ hK2 => sg S (.mv rfl <| .mv rfl <| .ln underlying72 rfl <| .lt (by omega) rfl rfl <| .z) fun a w S => Zg S (.t rfl) (wp_skip (Za (hK2 _ _ (wp_seq_k fun _ hK2 => wp_block (wp_seq_k fun _ hK3 => Yc S (by kernel_rfl) (by kernel_rfl) fun a S => qrun S (.mv rfl <| .mv rfl <| .ix underlying72 sizeOf77 (by omega) rfl rfl <| .yy (Zy (FieldT.mk underlying77 rfl sizeOf9 rfl) (.t rfl)) rfl <| .yy (Yv ⟨isAgg9, sizeOf9⟩ (.t rfl) (fun _ => hcc _ _ rfl)) rfl <| .mv rfl <| .yy (Xa (.t rfl) (.t rfl)) rfl <| .z) fun a S => ?_)))))
       rw [rw_1] at S
       refine qrun S (.mv rfl <| .gy rfl rfl (Zi (.t rfl)) <| .gy rfl rfl (Zi (.t rfl)) <| .gy rfl rfl (Ym underlying72 sizeOf77 (.t rfl) (.t rfl) (fun _ => by omega)) <| .gy rfl rfl (Zy (FieldT.mk underlying77 rfl sizeOf37 rfl) (.t rfl)) <| .gy rfl rfl (Zy (FieldT.mk underlying37 rfl sizeOf35 rfl) (.t rfl)) <| .gy rfl rfl (Zp ⟨isAgg35, sizeOf35⟩ (.t rfl) (vs := [_, _]) rfl (fun _ => hctx)) <| .gy rfl rfl (Zz ⟨isAgg74, sizeOf74⟩ (.t rfl) (k := 0) rfl rfl) <| .gx rfl rfl (Zf call77 (.cons (.t rfl) (.cons (.t rfl) .nil)) (fun hp w W => c77 _ _ _ _ _ _ _ (by exact .old W (by assumption)))) <| .z) fun a S => ?_
       simp only [List.nil_append] at S
       rw [rw_R] at S
       rw [rw_c] at S
       refine qrun S (.yy (Zv (.t rfl) (.t rfl)) rfl <| .z) fun a S => ?_
       (refine Yt ?_; intro w W; replace S := St.mk S W; clear W)
       refine Za (hK3 _ _ (Ze S (.t rfl) (wp_skip (Zk (Za (hK2 _ _ (wp_region_lit (run S (.mv rfl <| .ad (by unfold I64; omega) rfl <| .as rfl <| .z) fun a w S => Zb (Za ?_)))))))))
       exact ⟨k + 1, ⟨by omega, by rw [any_snoc' hx, hno, hh]; rfl⟩, by omega, S.pk⟩
   · have rw_1 := decide_eq_false h1
     have hh : sawB item ⟨x, y, z⟩ p = false := by unfold sawB; rw [rw_1]; rfl
     refine wp_seq_k fun _ hK2 => sg S (.mv rfl <| .mv rfl <| .ln underlying72 rfl <| .lt (by omega) rfl rfl <| .z) fun a w S => Zg S (.t rfl) (wp_skip (Za (hK2 _ _ (wp_seq_k fun _ hK2 => wp_block (wp_seq_k fun _ hK3 => Yc S (by kernel_rfl) (by kernel_rfl) fun a S => qrun S (.mv rfl <| .mv rfl <| .ix underlying72 sizeOf77 (by omega) rfl rfl <| .yy (Zy (FieldT.mk underlying77 rfl sizeOf9 rfl) (.t rfl)) rfl <| .yy (Yv ⟨isAgg9, sizeOf9⟩ (.t rfl) (fun _ => hcc _ _ rfl)) rfl <| .mv rfl <| .yy (Xa (.t rfl) (.t rfl)) rfl <| .z) fun a S => ?_)))))
     rw [rw_1] at S
     refine qrun S (.mv rfl <| .sk rfl rfl rfl <| .sk rfl rfl rfl <| .sk rfl rfl rfl <| .sk rfl rfl rfl <| .sk rfl rfl rfl <| .sk rfl rfl rfl <| .sk rfl rfl rfl <| .sk rfl rfl rfl <| .yy (Zu (.t rfl) Ev.c) rfl <| .z) fun a S => ?_
     (refine Yt ?_; intro w W; replace S := St.mk S W; clear W)
     refine Za (hK3 _ _ (Ze S (.t rfl) (wp_skip (Zk (Za (hK2 _ _ (wp_region_lit (run S (.mv rfl <| .ad (by unfold I64; omega) rfl <| .as rfl <| .z) fun a w S => Zb (Za ?_)))))))))
     exact ⟨k + 1, ⟨by omega, by rw [any_snoc' hx, hno, hh]; rfl⟩, by omega, S.pk⟩
 obtain rfl : k = l.length := by omega
 rw [List.take_length] at hno
 refine wp_seq_k fun _ hK2 => sg S (.mv rfl <| .mv rfl <| .ln underlying72 rfl <| .ge (by omega) rfl rfl <| .z) fun a w S => Ze S (.t rfl) (wp_exit (Zh (Zh (Ya (Za (hK1 _ _ (sg S (.ac rfl <| .z) fun a w S => wp_ret (Zm S (results1 S results207 (Rv.tmp rfl)) ?_))))))))
 exact ⟨by rw [hno], S.wd.below⟩
theorem c209 (w0 : World) (v : Value) (l : List SUpd) (h : Sl SUpd.enc 10 w0 w0.heap.size v l) (hr : UpdsRd w0 l) (hn : l.length ≤ 1048576) (hB : (marksU (l.map (·.1))).length ≤ 1900000 ∧ (dotsU (l.map (·.1))).length ≤ 1900000) :
   Rets Tryz.prog 209 #[v] w0 fun u L => ∃ A1 c1 A2 c2, u = .tuple #[.agg #[.slice A1 (knownU (l.map (·.1))).1.marks.length c1, .slice A2 (knownU (l.map (·.1))).1.cloud.length c2], .int .i64 (knownU (l.map (·.1))).2] ∧
     L = [rowOf 30 3 Dot.enc A1 c1 (knownU (l.map (·.1))).1.marks, rowOf 74 3 Dot.enc A2 c2 (knownU (l.map (·.1))).1.cloud] := by
 have hs := h
 obtain ⟨A, cap, rfl, hl, hcap, hA⟩ := h
 have hUl : (l.map (·.1)).length = l.length := List.length_map ..
 have hUg : ∀ (i : Nat) (x : SUpd), l[i]? = some x → (l.map (·.1))[i]? = some x.1 := fun i x hx => by rw [List.getElem?_map, hx]; rfl
 obtain ⟨hB1, hB2⟩ := hB
 unfold Go.Fw.Rets
 refine enter1 func209 rfl ntmps209 rfl fun a S => wp_seq_k fun _ hK1 => wp_region_lit (Zj (Zn S zeroValue35 (cs := _) rfl rfl fun g1 a w S => run S (.ac rfl <| .z) fun a w S => Zb (Za (hK1 _ _ (sg S (.ac rfl <| .z) fun a w S => sg S (.ac rfl <| .z) fun a w S => wp_seq_k fun _ hK1 => sg S (.ac rfl <| .z) fun a w S => wp_block ?_)))))
 replace S := (S.nil_ 74 3 Dot.enc none).nil_ 30 3 Dot.enc none
 refine Xb S [4, 5, 6] (X := Nat × (Option Addr × Nat) × (Option Addr × Nat)) (fun q => [(4, true, .slice q.2.1.1 (marksU ((l.map (·.1)).take q.1)).length q.2.1.2), (5, true, .slice q.2.2.1 (dotsU ((l.map (·.1)).take q.1)).length q.2.2.2), (6, true, .int .i64 (q.1 : Int))])
   (fun q => [rowOf 30 3 Dot.enc q.2.1.1 q.2.1.2 (marksU ((l.map (·.1)).take q.1)), rowOf 74 3 Dot.enc q.2.2.1 q.2.2.2 (dotsU ((l.map (·.1)).take q.1)), .blk g1 (.cells #[.slice none 0 0, .slice none 0 0] 35)])
   (fun q => q.1 ≤ l.length) (fun q => l.length - q.1) (0, (none, 0), (none, 0)) (Nat.zero_le _) ?_
 clear S
 rintro ⟨q, ⟨Am, cm⟩, ⟨Ad, cd⟩⟩ a w hq S
 dsimp only at hq S
 have hml := marks_le (l.map (·.1)) q
 have hdl := dots_le (l.map (·.1)) q
 by_cases hlt : q < l.length
 · obtain ⟨gq, oq, x, rfl, hx, hd, hc⟩ := Yg hA hlt
   have r3 := (hr x (List.mem_of_getElem? hx)).marks
   have r4 := (hr x (List.mem_of_getElem? hx)).cloud
   have hcm : w0.cell? ⟨gq, oq + q * 10 + 8, none⟩ = some (.slice x.2.a2 x.2.n2 x.2.c2) := hc 8 _ rfl
   have hcc : w0.cell? ⟨gq, oq + q * 10 + 9, none⟩ = some (.slice x.2.a3 x.2.n3 x.2.c3) := hc 9 _ rfl
   have hcd := Wi (m := 1) (n := 3) (vs := Dot.enc x.1.dot) hc rfl
   have rw_n2 : x.2.n2 = x.1.seen.ctx.marks.length := Sl.len_is r3
   have rw_n3 : x.2.n3 = x.1.seen.ctx.cloud.length := Sl.len_is r4
   rw [rw_n2] at r3
   rw [rw_n3] at r4
   have hst1 := marks_take (hUg q x hx)
   have hst2 := dots_take (hUg q x hx)
   have hml2 := marks_le (l.map (·.1)) (q + 1)
   have hdl2 := dots_le (l.map (·.1)) (q + 1)
   rw [hst1, List.length_append] at hml2
   rw [hst2, List.length_append, List.length_append] at hdl2
   generalize marksU ((l.map (·.1)).take q) = M at *
   generalize dotsU ((l.map (·.1)).take q) = D at *
   refine wp_seq_k fun _ hK2 => sg S (.mv rfl <| .mv rfl <| .ln underlying72 rfl <| .lt (by omega) rfl rfl <| .z) fun a w S => Zg S (.t rfl) (wp_skip (Za (hK2 _ _ (wp_seq_k fun _ hK2 => wp_block (wp_seq_k fun _ hK3 => wp_region_lit (run S (.mv rfl <| .mv rfl <| .mv rfl <| .ix underlying72 sizeOf77 (by omega) rfl rfl <| .yy (Zy (FieldT.mk underlying77 rfl sizeOf37 rfl) (.t rfl)) rfl <| .yy (Zy (FieldT.mk underlying37 rfl sizeOf35 rfl) (.t rfl)) rfl <| .yy (Zy (FieldT.mk underlying35 rfl sizeOf32 rfl) (.t rfl)) rfl <| .yy (Yv ⟨isAgg32, sizeOf32⟩ (.t rfl) (fun _ => hcm)) rfl <| .z) fun a w S => ?_))))))
   rw [rw_n2] at S
   refine Zj (Xy _ S underlying32 underlying32 (.inr ⟨_, rfl⟩) inf30 rfl (k := 0) rfl (.t rfl) (.t rfl) (Src.sl (Sl.old S.wd r3) (by decide) Go.Fw.Dot.enc_len Go.Fw.Dot.enc_one) (by first | omega | (simp only [List.length_append, List.length_cons, List.length_nil]; omega) | (simp; omega)) rfl rfl rfl fun A1 cap1 a w S => run S (.as rfl <| .z) fun a w S => Zb (Za (hK3 _ _ (wp_seq_k fun _ hK3 => wp_region_lit (run S (.mv rfl <| .mv rfl <| .mv rfl <| .ix underlying72 sizeOf77 (by omega) rfl rfl <| .yy (Zy (FieldT.mk underlying77 rfl sizeOf37 rfl) (.t rfl)) rfl <| .yy (Zy (FieldT.mk underlying37 rfl sizeOf35 rfl) (.t rfl)) rfl <| .yy (Zy (FieldT.mk underlying35 rfl sizeOf33 rfl) (.t rfl)) rfl <| .yy (Yv ⟨isAgg33, sizeOf33⟩ (.t rfl) (fun _ => hcc)) rfl <| .z) fun a w S => ?_)))))
   rw [rw_n3] at S
   refine Zj (Xy _ S underlying33 underlying33 (.inr ⟨_, rfl⟩) inf74 rfl (k := 1) rfl (.t rfl) (.t rfl) (Src.sl (Sl.old S.wd r4) (by decide) Go.Fw.Dot.enc_len Go.Fw.Dot.enc_one) (by first | omega | (simp only [List.length_append, List.length_cons, List.length_nil]; omega) | (simp; omega)) rfl rfl rfl fun A2 cap2 a w S => run S (.as rfl <| .z) fun a w S => Zb (Za (hK3 _ _ (wp_region_lit (run S (.mv rfl <| .mv rfl <| .mv rfl <| .ix underlying72 sizeOf77 (by omega) rfl rfl <| .yy (Zy (FieldT.mk underlying77 rfl sizeOf74 rfl) (.t rfl)) rfl <| .yy (Zp ⟨isAgg74, sizeOf74⟩ (.t rfl) (vs := [_, _, _]) rfl (fun _ => hcd)) rfl <| .z) fun a w S => Zj (Yf S underlying33 inf74 rfl rfl rfl (.t rfl) rfl rfl rfl fun g2 a w S => Zj (Yw S underlying33 inf74 rfl (k := 2) (j := 0) rfl (.t rfl) (.t rfl) rfl rfl rfl rfl (by first | omega | (simp only [List.length_append, List.length_cons, List.length_nil]; omega)) rfl rfl rfl fun A3 cap3 a w S => run S (.as rfl <| .z) fun a w S => Zb (Zk (Za (hK2 _ _ (wp_region_lit (run S (.mv rfl <| .ad (by unfold I64; omega) rfl <| .as rfl <| .z) fun a w S => Zb (Za ?_)))))))))))))
   exact ⟨(q + 1, (A1, cap1), (A3, cap3)), by dsimp only; omega, by dsimp only; omega, by dsimp only; rw [hst1, hst2]; exact S.pk⟩
 obtain rfl : q = l.length := by omega
 rw [List.take_of_length_le (by rw [hUl]; exact Nat.le_refl _)] at S
 have hKn : knownU (l.map (·.1)) = normalL (marksU (l.map (·.1))) (dotsU (l.map (·.1))) := rfl
 generalize marksU (l.map (·.1)) = M at *
 generalize dotsU (l.map (·.1)) = D at *
 refine wp_seq_k fun _ hK2 => sg S (.mv rfl <| .mv rfl <| .ln underlying72 rfl <| .ge (by omega) rfl rfl <| .z) fun a w S => Ze S (.t rfl) (wp_exit (Zh (Zh (Ya (Za (hK1 _ _ (wp_seq_k fun _ hK1 => wp_region_lit (run S (.mv rfl <| .mv rfl <| .z) fun a w S => ?_))))))))
 (refine Zj (Yb S call145 (.cons (.t rfl) (.cons (.t rfl) .nil)) (c145 _ _ _ _ _ (by exact Sl.of_own S.wd (k := 0) rfl (fun _ => rfl)) (by exact Sl.of_own S.wd (k := 1) rfl (fun _ => rfl)) (by assumption) (by assumption)) rfl ?_); clear S a w; rintro _ _ ⟨A11, c11, A21, c21, rfl, rfl⟩ a w S)
 refine run S (.ex rfl rfl <| .ex rfl rfl <| .z) fun a w S => Zj (Zq S sizeOf35 (.t rfl) (.t rfl) (k := 4) rfl rfl rfl (by simp [Value.oneCell']) fun a w S => run S (.as rfl <| .z) fun a w S => Zb (Za (hK1 _ _ (wp_ret (Zm S (results2 S results209 (Rv.cell (k := 4) ⟨isAgg35, sizeOf35⟩ rfl rfl rfl) (Rv.tmp rfl)) ?_)))))
 rw [hKn]
 exact ⟨_, _, rfl, S.wd.pk, _, _, _, _, rfl, rfl⟩
end Go.Proofs.YtakpdbmdfnialaaGreat
namespace Go.Fw
open Go.RowKit
theorem saw_seen (l : List SUpd) (u : Upd) : l.any (sawB u.item u.dot) = seenB (l.map (·.1)) u := by
 unfold seenB
 rw [List.any_map]
 rfl
end Go.Fw
namespace Go.Proofs.YtakpdbmdfnialaaGreat
open Go.Fw Go.Proofs Go.RowKit Go.Proofs.Tryz
theorem c174 (w0 : World) (v : Value) (l : List SUpd) (h : Sl SUpd.enc 10 w0 w0.heap.size v l) (hr : UpdsRd w0 l) (hn : l.length ≤ 1048576) (hB : RoomU (l.map (·.1))) (hok : ∀ p ∈ l, CartOk p.1.seen) :
   Rets Tryz.prog 174 #[v] w0 fun u L => ∃ A1 r1 A2 r2 A3 r3, u = .tuple #[.agg #[.slice A1 (meantK (l.map (·.1))).1.ents.length r1, .slice A2 (meantK (l.map (·.1))).1.ctx.marks.length r2, .slice A3 (meantK (l.map (·.1))).1.ctx.cloud.length r3], .int .i64 (meantK (l.map (·.1))).2] ∧
     L = [rowOf 100 6 Ent.enc A1 r1 (meantK (l.map (·.1))).1.ents, rowOf 30 3 Dot.enc A2 r2 (meantK (l.map (·.1))).1.ctx.marks, rowOf 74 3 Dot.enc A3 r3 (meantK (l.map (·.1))).1.ctx.cloud] := by
 have hs := h
 obtain ⟨A, cap, rfl, hl, hcap, hA⟩ := h
 have hUl : (l.map (·.1)).length = l.length := List.length_map ..
 have hUg : ∀ (i : Nat) (x : SUpd), l[i]? = some x → (l.map (·.1))[i]? = some x.1 := fun i x hx => by rw [List.getElem?_map, hx]; rfl
 have hUm : ∀ x ∈ l, x.1 ∈ l.map (·.1) := fun x hx => List.mem_map.2 ⟨x, hx, rfl⟩
 unfold Go.Fw.Rets
 refine enter1 func174 rfl ntmps174 rfl fun a S => wp_seq_k fun _ hK1 => wp_region_lit (Zj (Zn S zeroValue37 (cs := _) rfl rfl fun g1 a w S => run S (.ac rfl <| .z) fun a w S => Zb (Za (hK1 _ _ (wp_seq_k fun _ hK1 => sg S (.ac rfl <| .z) fun a w S => wp_block ?_)))))
 refine Xb S [4] (X := Nat) (fun q => [(4, true, .int .i64 (q : Int))]) (fun q => [.blk g1 (.cells #[.slice none 0 0, .slice none 0 0, .slice none 0 0] 37)])
   (fun q => q ≤ l.length ∧ ∀ (i k : Nat) (u v : SUpd), i < q → k < i → l[i]? = some u → l[k]? = some v → badB u.1 v.1 = false) (fun q => l.length - q) 0 ⟨Nat.zero_le _, fun i k u v h => absurd h (Nat.not_lt_zero _)⟩ ?_
 clear S
 intro q a w ⟨hq, hsame⟩ S
 by_cases hlt : q < l.length
 · obtain ⟨gq, oq, x, rfl, hx, hd, hc⟩ := Yg hA hlt
   refine wp_seq_k fun _ hK2 => sg S (.mv rfl <| .mv rfl <| .ln underlying72 rfl <| .lt (by omega) rfl rfl <| .z) fun a w S => Zg S (.t rfl) (wp_skip (Za (hK2 _ _ (wp_seq_k fun _ hK2 => wp_block (sg S (.ac rfl <| .z) fun a w S => wp_block ?_)))))
   refine Xb S [5] (X := Nat) (fun k => [(5, true, .int .i64 (k : Int))]) (fun _ => [.blk g1 (.cells #[.slice none 0 0, .slice none 0 0, .slice none 0 0] 37)])
     (fun k => k ≤ q ∧ ∀ (k' : Nat) (v : SUpd), k' < k → l[k']? = some v → badB x.1 v.1 = false) (fun k => q - k) 0 ⟨Nat.zero_le _, fun k' v h => absurd h (Nat.not_lt_zero _)⟩ ?_
   clear S
   intro k a w ⟨hk, hno⟩ S
   by_cases hlt2 : k < q
   · obtain ⟨g2, o2, y, e0, hy, hyd, hyc⟩ := Yg hA (show k < l.length by omega)
     cases e0
     have rw_d := dot_dec y.1.dot x.1.dot
     have hyk : w0.cell? ⟨gq, oq + k * 10 + 0, none⟩ = some (.string (bs y.1.key)) := hyc 0 _ rfl
     have hxk : w0.cell? ⟨gq, oq + q * 10 + 0, none⟩ = some (.string (bs x.1.key)) := hc 0 _ rfl
     have hyd2 := Wi (m := 1) (n := 3) (vs := Dot.enc y.1.dot) hyc rfl
     have hxd2 := Wi (m := 1) (n := 3) (vs := Dot.enc x.1.dot) hc rfl
     have hbad : badB x.1 y.1 = true → meantK (l.map (·.1)) = (Cart.zero, 260) := fun e => not_okU hlt2 (hUg q x hx) (hUg k y hy) e
     have hgood : badB x.1 y.1 = false → ∀ (k' : Nat) (v : SUpd), k' < k + 1 → l[k']? = some v → badB x.1 v.1 = false := fun e k' v h1 h2 => by
       by_cases h3 : k' < k
       · exact hno k' v h3 h2
       · obtain rfl : k' = k := by omega
         rw [hy] at h2
         rw [← Option.some.inj h2]; exact e
     by_cases h1 : y.1.dot = x.1.dot
     · have rw_1 := decide_eq_true h1
       have hh : badB x.1 y.1 = true := by unfold badB; rw [rw_1]; rfl
       have hM := hbad hh
       rw [hM]
       refine wp_seq_k fun _ hK3 => sg S (.mv rfl <| .mv rfl <| .lt (by omega) rfl rfl <| .z) fun a w S => Zg S (.t rfl) (wp_skip (Za (hK3 _ _ (wp_seq_k fun _ hK3 => wp_block (wp_seq_k fun _ hK4 => Yc S (by kernel_rfl) (by kernel_rfl) fun a S => qrun S (.mv rfl <| .mv rfl <| .ix underlying72 sizeOf77 (by omega) rfl rfl <| .yy (Zy (FieldT.mk underlying77 rfl sizeOf74 rfl) (.t rfl)) rfl <| .yy (Zp ⟨isAgg74, sizeOf74⟩ (.t rfl) (vs := [_, _, _]) rfl (fun _ => hyd2)) rfl <| .mv rfl <| .mv rfl <| .ix underlying72 sizeOf77 (by omega) rfl rfl <| .yy (Zy (FieldT.mk underlying77 rfl sizeOf74 rfl) (.t rfl)) rfl <| .yy (Zp ⟨isAgg74, sizeOf74⟩ (.t rfl) (vs := [_, _, _]) rfl (fun _ => hxd2)) rfl <| .yy (Wa (.t rfl) (.t rfl) eq74) rfl <| .z) fun a S => ?_)))))
       rw [rw_d] at S
       rw [rw_1] at S
       refine qrun S (.mv rfl <| .sk rfl rfl rfl <| .sk rfl rfl rfl <| .sk rfl rfl rfl <| .sk rfl rfl rfl <| .sk rfl rfl rfl <| .sk rfl rfl rfl <| .sk rfl rfl rfl <| .sk rfl rfl rfl <| .sk rfl rfl rfl <| .sk rfl rfl rfl <| .sk rfl rfl rfl <| .yy (Zv (.t rfl) Ev.c) rfl <| .z) fun a S => ?_
       (refine Yt ?_; intro w W; replace S := St.mk S W; clear W)
       refine Za (hK4 _ _ (Zg S (.t rfl) (wp_seq_k fun _ hK4 => wp_region_lit (run S (.yy (Xd (ps := []) (us := [_, _, _]) bld37 .nil rfl) rfl <| .z) fun a w S => Zj (Zq S sizeOf37 (.t rfl) (.t rfl) (k := 0) rfl rfl rfl (by simp [Value.oneCell']) fun a w S => run S (.ac rfl <| .z) fun a w S => Zb (Za (hK4 _ _ (wp_ret (Zr (Zd (Zd (Zr (Zr (Zd (Zd (Zr (Zd (Zm S (results2 S results174 (Rv.cell (k := 0) ⟨isAgg37, sizeOf37⟩ rfl rfl rfl) (Rv.tmp rfl)) ?_))))))))))))))))))
       replace S := ((S.nil_ 74 3 Dot.enc none).nil_ 30 3 Dot.enc none).nil_ 100 6 Ent.enc none
       exact ⟨_, _, rfl, S.wd.pk, none, 0, none, 0, none, 0, rfl, rfl⟩
     · have rw_1 := decide_eq_false h1
       by_cases h2 : y.1.key = x.1.key
       · have rw_2 := decide_eq_true h2
         have rw_3 : decide (y.1.key ≠ x.1.key) = false := decide_eq_false (fun e => e h2)
         have hh : badB x.1 y.1 = false := by unfold badB; rw [rw_1, rw_2]; rfl
         have hG := hgood hh
         refine wp_seq_k fun _ hK3 => sg S (.mv rfl <| .mv rfl <| .lt (by omega) rfl rfl <| .z) fun a w S => Zg S (.t rfl) (wp_skip (Za (hK3 _ _ (wp_seq_k fun _ hK3 => wp_block (wp_seq_k fun _ hK4 => Yc S (by kernel_rfl) (by kernel_rfl) fun a S => qrun S (.mv rfl <| .mv rfl <| .ix underlying72 sizeOf77 (by omega) rfl rfl <| .yy (Zy (FieldT.mk underlying77 rfl sizeOf74 rfl) (.t rfl)) rfl <| .yy (Zp ⟨isAgg74, sizeOf74⟩ (.t rfl) (vs := [_, _, _]) rfl (fun _ => hyd2)) rfl <| .mv rfl <| .mv rfl <| .ix underlying72 sizeOf77 (by omega) rfl rfl <| .yy (Zy (FieldT.mk underlying77 rfl sizeOf74 rfl) (.t rfl)) rfl <| .yy (Zp ⟨isAgg74, sizeOf74⟩ (.t rfl) (vs := [_, _, _]) rfl (fun _ => hxd2)) rfl <| .yy (Wa (.t rfl) (.t rfl) eq74) rfl <| .z) fun a S => ?_)))))
         rw [rw_d] at S
         rw [rw_1] at S
         refine qrun S (.mv rfl <| .gy rfl rfl (Zi (.t rfl)) <| .gy rfl rfl (Zi (.t rfl)) <| .gy rfl rfl (Ym underlying72 sizeOf77 (.t rfl) (.t rfl) (fun _ => by omega)) <| .gy rfl rfl (Zy (FieldT.mk underlying77 rfl sizeOf9 rfl) (.t rfl)) <| .gy rfl rfl (Yv ⟨isAgg9, sizeOf9⟩ (.t rfl) (fun _ => hyc _ _ rfl)) <| .gy rfl rfl (Zi (.t rfl)) <| .gy rfl rfl (Zi (.t rfl)) <| .gy rfl rfl (Ym underlying72 sizeOf77 (.t rfl) (.t rfl) (fun _ => by omega)) <| .gy rfl rfl (Zy (FieldT.mk underlying77 rfl sizeOf9 rfl) (.t rfl)) <| .gy rfl rfl (Yv ⟨isAgg9, sizeOf9⟩ (.t rfl) (fun _ => hc _ _ rfl)) <| .gy rfl rfl (Xs (.t rfl) (.t rfl)) <| .z) fun a S => ?_
         rw [rw_3] at S
         refine qrun S (.yy (Zu (.t rfl) (.t rfl)) rfl <| .z) fun a S => ?_
         (refine Yt ?_; intro w W; replace S := St.mk S W; clear W)
         refine Za (hK4 _ _ (Ze S (.t rfl) (wp_skip (Zk (Za (hK3 _ _ (wp_region_lit (run S (.mv rfl <| .ad (by unfold I64; omega) rfl <| .as rfl <| .z) fun a w S => Zb (Za ?_)))))))))
         exact ⟨k + 1, ⟨by omega, hG⟩, by omega, S.pk⟩
       · have rw_2 := decide_eq_false h2
         have rw_3 : decide (y.1.key ≠ x.1.key) = true := decide_eq_true h2
         have hh : badB x.1 y.1 = true := by unfold badB; rw [rw_1, rw_2]; rfl
         have hM := hbad hh
         rw [hM]
         refine wp_seq_k fun _ hK3 => sg S (.mv rfl <| .mv rfl <| .lt (by omega) rfl rfl <| .z) fun a w S => Zg S (.t rfl) (wp_skip (Za (hK3 _ _ (wp_seq_k fun _ hK3 => wp_block (wp_seq_k fun _ hK4 => Yc S (by kernel_rfl) (by kernel_rfl) fun a S => qrun S (.mv rfl <| .mv rfl <| .ix underlying72 sizeOf77 (by omega) rfl rfl <| .yy (Zy (FieldT.mk underlying77 rfl sizeOf74 rfl) (.t rfl)) rfl <| .yy (Zp ⟨isAgg74, sizeOf74⟩ (.t rfl) (vs := [_, _, _]) rfl (fun _ => hyd2)) rfl <| .mv rfl <| .mv rfl <| .ix underlying72 sizeOf77 (by omega) rfl rfl <| .yy (Zy (FieldT.mk underlying77 rfl sizeOf74 rfl) (.t rfl)) rfl <| .yy (Zp ⟨isAgg74, sizeOf74⟩ (.t rfl) (vs := [_, _, _]) rfl (fun _ => hxd2)) rfl <| .yy (Wa (.t rfl) (.t rfl) eq74) rfl <| .z) fun a S => ?_)))))
         rw [rw_d] at S
         rw [rw_1] at S
         refine qrun S (.mv rfl <| .gy rfl rfl (Zi (.t rfl)) <| .gy rfl rfl (Zi (.t rfl)) <| .gy rfl rfl (Ym underlying72 sizeOf77 (.t rfl) (.t rfl) (fun _ => by omega)) <| .gy rfl rfl (Zy (FieldT.mk underlying77 rfl sizeOf9 rfl) (.t rfl)) <| .gy rfl rfl (Yv ⟨isAgg9, sizeOf9⟩ (.t rfl) (fun _ => hyc _ _ rfl)) <| .gy rfl rfl (Zi (.t rfl)) <| .gy rfl rfl (Zi (.t rfl)) <| .gy rfl rfl (Ym underlying72 sizeOf77 (.t rfl) (.t rfl) (fun _ => by omega)) <| .gy rfl rfl (Zy (FieldT.mk underlying77 rfl sizeOf9 rfl) (.t rfl)) <| .gy rfl rfl (Yv ⟨isAgg9, sizeOf9⟩ (.t rfl) (fun _ => hc _ _ rfl)) <| .gy rfl rfl (Xs (.t rfl) (.t rfl)) <| .z) fun a S => ?_
         rw [rw_3] at S
         refine qrun S (.yy (Zu (.t rfl) (.t rfl)) rfl <| .z) fun a S => ?_
         (refine Yt ?_; intro w W; replace S := St.mk S W; clear W)
         refine Za (hK4 _ _ (Zg S (.t rfl) (wp_seq_k fun _ hK4 => wp_region_lit (run S (.yy (Xd (ps := []) (us := [_, _, _]) bld37 .nil rfl) rfl <| .z) fun a w S => Zj (Zq S sizeOf37 (.t rfl) (.t rfl) (k := 0) rfl rfl rfl (by simp [Value.oneCell']) fun a w S => run S (.ac rfl <| .z) fun a w S => Zb (Za (hK4 _ _ (wp_ret (Zr (Zd (Zd (Zr (Zr (Zd (Zd (Zr (Zd (Zm S (results2 S results174 (Rv.cell (k := 0) ⟨isAgg37, sizeOf37⟩ rfl rfl rfl) (Rv.tmp rfl)) ?_))))))))))))))))))
         replace S := ((S.nil_ 74 3 Dot.enc none).nil_ 30 3 Dot.enc none).nil_ 100 6 Ent.enc none
         exact ⟨_, _, rfl, S.wd.pk, none, 0, none, 0, none, 0, rfl, rfl⟩
   obtain rfl : k = q := by omega
   refine wp_seq_k fun _ hK3 => sg S (.mv rfl <| .mv rfl <| .ge (by omega) rfl rfl <| .z) fun a w S => Ze S (.t rfl) (wp_exit (Zh (Zh (Ya (Zk (Za (hK2 _ _ (wp_region_lit (run S (.mv rfl <| .ad (by unfold I64; omega) rfl <| .as rfl <| .z) fun a w S => Zb (Za ?_))))))))))
   refine ⟨k + 1, ⟨by omega, fun i k2 u v h1 h2 h3 h4 => ?_⟩, by omega, S.pk⟩
   by_cases h5 : i < k
   · exact hsame i k2 u v h5 h2 h3 h4
   · obtain rfl : i = k := by omega
     rw [hx] at h3
     rw [← Option.some.inj h3]
     exact hno k2 v h2 h4
 obtain rfl : q = l.length := by omega
 have hokU : okU (l.map (·.1)) := okU_of fun i k u v hk hu hv => by
   rw [List.getElem?_map] at hu hv
   obtain ⟨u', hu', rfl⟩ := Option.map_eq_some_iff.1 hu
   obtain ⟨v', hv', rfl⟩ := Option.map_eq_some_iff.1 hv
   exact hsame i k u' v' (List.getElem?_eq_some_iff.1 hu').1 hk hu' hv'
 clear hsame hq
 refine wp_seq_k fun _ hK2 => sg S (.mv rfl <| .mv rfl <| .ln underlying72 rfl <| .ge (by omega) rfl rfl <| .z) fun a w S => Ze S (.t rfl) (wp_exit (Zh (Zh (Ya (Za (hK1 _ _ (wp_seq_k fun _ hK1 => sg S (.ac rfl <| .z) fun a w S => wp_block ?_)))))))
 refine Xb S [6] (X := Nat) (fun q => [(6, true, .int .i64 (q : Int))]) (fun q => [.blk g1 (.cells #[.slice none 0 0, .slice none 0 0, .slice none 0 0] 37)])
   (fun q => q ≤ l.length ∧ firstE ((l.map (·.1)).drop q) = firstE (l.map (·.1))) (fun q => l.length - q) 0 ⟨Nat.zero_le _, rfl⟩ ?_
 clear S
 intro q a w ⟨hq, hfe⟩ S
 by_cases hlt : q < l.length
 · obtain ⟨gq, oq, x, rfl, hx, hd, hc⟩ := Yg hA hlt
   have r1 := (hr x (List.mem_of_getElem? hx)).ents
   have r2 := (hr x (List.mem_of_getElem? hx)).ctx
   rw [firstE_at (hUg q x hx)] at hfe
   by_cases hm : mayE x.1 = 0
   · have rw_hm := hm
     rw [if_pos hm] at hfe
     refine wp_seq_k fun _ hK3 => sg S (.mv rfl <| .mv rfl <| .ln underlying72 rfl <| .lt (by omega) rfl rfl <| .z) fun a w S => Zg S (.t rfl) (wp_skip (Za (hK3 _ _ (wp_seq_k fun _ hK3 => wp_block (wp_seq_k fun _ hK4 => wp_region_lit (run S (.mv rfl <| .mv rfl <| .ix underlying72 sizeOf77 (by omega) rfl rfl <| .yy (Zp ⟨isAgg77, sizeOf77⟩ (.t rfl) (vs := [_, _, _, _, _, _, _, _, _, _]) rfl (fun _ => hc)) rfl <| .xx (Zf call128 (.cons (.t rfl) .nil) (fun hp w W => c128 _ _ _ _ _ (by exact .old W (by assumption)) (by exact .old W (by assumption)))) rfl <| .z) fun a w S => ?_))))))
     rw [rw_hm] at S
     refine run S (.as rfl <| .z) fun a w S => Zb (Za (hK4 _ _ (sg S (.mv rfl <| .yy (Yq (by omega) (Yh (.t rfl) Ev.c)) rfl <| .z) fun a w S => Ze S (.t rfl) (wp_skip (Zk (Za (hK3 _ _ (wp_region_lit (run S (.mv rfl <| .ad (by unfold I64; omega) rfl <| .as rfl <| .z) fun a w S => Zb (Za ?_))))))))))
     exact ⟨q + 1, ⟨by omega, hfe⟩, by omega, S.pk⟩
   · have rw_hm : decide (mayE x.1 ≠ 0) = true := decide_eq_true hm
     rw [if_neg hm] at hfe
     have hk := meant_first hokU (by rw [← hfe]; exact hm)
     rw [← hfe] at hk
     refine wp_seq_k fun _ hK3 => sg S (.mv rfl <| .mv rfl <| .ln underlying72 rfl <| .lt (by omega) rfl rfl <| .z) fun a w S => Zg S (.t rfl) (wp_skip (Za (hK3 _ _ (wp_seq_k fun _ hK3 => wp_block (sg S (.mv rfl <| .mv rfl <| .ix underlying72 sizeOf77 (by omega) rfl rfl <| .yy (Zp ⟨isAgg77, sizeOf77⟩ (.t rfl) (vs := [_, _, _, _, _, _, _, _, _, _]) rfl (fun _ => hc)) rfl <| .xx (Zf call128 (.cons (.t rfl) .nil) (fun hp w W => c128 _ _ _ _ _ (by exact .old W (by assumption)) (by exact .old W (by assumption)))) rfl <| .as rfl <| .z) fun a w S => sg S (.mv rfl <| .yy (Yu (by omega) (Yh (.t rfl) Ev.c)) rfl <| .z) fun a w S => Zg S (.t rfl) (wp_seq_k fun _ hK4 => wp_region_lit (run S (.yy (Xd (ps := []) (us := [_, _, _]) bld37 .nil rfl) rfl <| .mv rfl <| .z) fun a w S => Zj (Zq S sizeOf37 (.t rfl) (.t rfl) (k := 0) rfl rfl rfl (by simp [Value.oneCell']) fun a w S => run S (.as rfl <| .z) fun a w S => Zb (Za (hK4 _ _ (wp_ret (Zr (Zd (Zd (Zr (Zd (Zm S (results2 S results174 (Rv.cell (k := 0) ⟨isAgg37, sizeOf37⟩ rfl rfl rfl) (Rv.tmp rfl)) ?_)))))))))))))))))
     rw [hk]
     replace S := ((S.nil_ 74 3 Dot.enc none).nil_ 30 3 Dot.enc none).nil_ 100 6 Ent.enc none
     exact ⟨_, _, rfl, S.wd.pk, none, 0, none, 0, none, 0, rfl, rfl⟩
 obtain rfl : q = l.length := by omega
 rw [List.drop_of_length_le (by simp)] at hfe
 have hfe0 : firstE (l.map (·.1)) = 0 := hfe.symm
 have hmay := firstE_ok.1 hfe0
 have hBB := hB hmay
 clear hfe hq
 refine wp_seq_k fun _ hK3 => sg S (.mv rfl <| .mv rfl <| .ln underlying72 rfl <| .ge (by omega) rfl rfl <| .z) fun a w S => Ze S (.t rfl) (wp_exit (Zh (Zh (Ya (Za (hK1 _ _ (wp_seq_k fun _ hK1 => wp_region_lit (Zj (Zn S zeroValue37 (cs := _) rfl rfl fun g2 a w S => Zb (Za (hK1 _ _ (wp_seq_k fun _ hK1 => sg S (.ac rfl <| .z) fun a w S => wp_block ?_))))))))))))
 replace S := S.nil_ 100 6 Ent.enc none
 refine Xb S [9] (X := Nat × (Option Addr × Nat)) (fun q => [(9, true, .int .i64 (q.1 : Int))])
   (fun q => [rowOf 100 6 Ent.enc q.2.1 q.2.2 (sortI (keptU (l.map (·.1)) ((l.map (·.1)).take q.1))), .blk g1 (.cells #[.slice none 0 0, .slice none 0 0, .slice none 0 0] 37),
     .blk g2 (.cells #[.slice q.2.1 (sortI (keptU (l.map (·.1)) ((l.map (·.1)).take q.1))).length q.2.2, .slice none 0 0, .slice none 0 0] 37)])
   (fun q => q.1 ≤ l.length) (fun q => l.length - q.1) (0, (none, 0)) (Nat.zero_le _) ?_
 clear S
 rintro ⟨q, ⟨Ae, ce⟩⟩ a w hq S
 dsimp only at hq S
 have hel := kept_len (l.map (·.1)) ((l.map (·.1)).take q)
 rw [List.length_take, hUl] at hel
 have hsl := sortI_len (keptU (l.map (·.1)) ((l.map (·.1)).take q))
 by_cases hlt : q < l.length
 · obtain ⟨gq, oq, x, rfl, hx, hd, hc⟩ := Yg hA hlt
   have hst3 := kept_take (U := l.map (·.1)) (hUg q x hx)
   have rw_sb := saw_seen l x.1
   generalize keptU (l.map (·.1)) ((l.map (·.1)).take q) = E at *
   by_cases hqt : 0 < x.1.qty
   · have rw_q := decide_eq_true hqt
     cases hsb : seenB (l.map (·.1)) x.1 with
     | true =>
       rw [hsb] at rw_sb
       rw [hsb, Bool.not_true, Bool.and_false, if_neg (by decide), List.append_nil] at hst3
       refine wp_seq_k fun _ hK4 => sg S (.mv rfl <| .mv rfl <| .ln underlying72 rfl <| .lt (by omega) rfl rfl <| .z) fun a w S => Zg S (.t rfl) (wp_skip (Za (hK4 _ _ (wp_seq_k fun _ hK4 => wp_block (wp_seq_k fun _ hK5 => wp_region_lit (run S (.mv rfl <| .mv rfl <| .ix underlying72 sizeOf77 (by omega) rfl rfl <| .yy (Zp ⟨isAgg77, sizeOf77⟩ (.t rfl) (vs := [_, _, _, _, _, _, _, _, _, _]) rfl (fun _ => hc)) rfl <| .z) fun a w S => Zj (Zn S zeroValue77 (cs := _) rfl rfl fun g3 a w S => Zj (Zq S sizeOf77 (.t rfl) (.t rfl) (k := 0) rfl rfl rfl (by simp [Value.oneCell']) fun a w S => Zb (Za (hK5 _ _ (wp_seq_k fun _ hK5 => wp_region_lit ?_)))))))))))
       refine run S (.fa underlying77 sizeOf3 5 rfl rfl rfl <| .ld gt3 0 rfl rfl rfl <| .yy (Yu (by omega) (Yn (.t rfl) Ev.c)) rfl <| .mv rfl <| .gy rfl rfl (Zi (.t rfl)) <| .gy rfl rfl (Zc (FieldT.mk underlying77 rfl sizeOf9 rfl) (.t rfl) (i' := 4) rfl) <| .gy rfl rfl (Zt ⟨isAgg9, sizeOf9⟩ (.t rfl) (k := 0) rfl rfl) <| .gy rfl rfl (Zc (FieldT.mk underlying77 rfl sizeOf74 rfl) (.t rfl) (i' := 1) rfl) <| .gy rfl rfl (Zz ⟨isAgg74, sizeOf74⟩ (.t rfl) (k := 0) rfl rfl) <| .gx rfl rfl (Zf call207 (.cons (.t rfl) (.cons (.t rfl) (.cons (.t rfl) .nil))) (fun hp w W => c207 _ _ _ _ _ _ _ (by exact .old W (by assumption)) (by exact .old W (by assumption)) (by assumption))) <| .z) fun a w S => ?_
       rw [rw_sb] at S
       refine run S (.gy rfl rfl (Xh (.t rfl)) <| .yy (Zv (.t rfl) (.t rfl)) rfl <| .z) fun a w S => Zb (Za (hK5 _ _ (Ze S (.t rfl) (wp_skip (Zk (Za (hK4 _ _ (wp_region_lit (run S (.mv rfl <| .ad (by unfold I64; omega) rfl <| .as rfl <| .z) fun a w S => Zb (Za ?_))))))))))
       exact ⟨(q + 1, (Ae, ce)), by dsimp only; omega, by dsimp only; omega, by dsimp only; rw [hst3]; exact S.pk⟩
     | false =>
       rw [hsb] at rw_sb
       rw [hsb, rw_q, Bool.not_false, Bool.and_true, if_pos rfl] at hst3
       have hst4 : sortI (E ++ [x.1.ent]) = insE x.1.ent (sortI E) := sortI_snoc _ _
       have rw_ent : #[Value.string (bs x.1.item), .int .i64 x.1.dot.node, .int .i64 x.1.dot.life, .int .i64 x.1.dot.count, .int .i64 x.1.qty, .int .u64 (x.1.price.toNat : Int)] = (Ent.enc x.1.ent).toArray := rfl
       generalize sortI E = F at *
       refine wp_seq_k fun _ hK4 => sg S (.mv rfl <| .mv rfl <| .ln underlying72 rfl <| .lt (by omega) rfl rfl <| .z) fun a w S => Zg S (.t rfl) (wp_skip (Za (hK4 _ _ (wp_seq_k fun _ hK4 => wp_block (wp_seq_k fun _ hK5 => wp_region_lit (run S (.mv rfl <| .mv rfl <| .ix underlying72 sizeOf77 (by omega) rfl rfl <| .yy (Zp ⟨isAgg77, sizeOf77⟩ (.t rfl) (vs := [_, _, _, _, _, _, _, _, _, _]) rfl (fun _ => hc)) rfl <| .z) fun a w S => Zj (Zn S zeroValue77 (cs := _) rfl rfl fun g3 a w S => Zj (Zq S sizeOf77 (.t rfl) (.t rfl) (k := 0) rfl rfl rfl (by simp [Value.oneCell']) fun a w S => Zb (Za (hK5 _ _ (wp_seq_k fun _ hK5 => wp_region_lit ?_)))))))))))
       refine run S (.fa underlying77 sizeOf3 5 rfl rfl rfl <| .ld gt3 0 rfl rfl rfl <| .yy (Yu (by omega) (Yn (.t rfl) Ev.c)) rfl <| .mv rfl <| .gy rfl rfl (Zi (.t rfl)) <| .gy rfl rfl (Zc (FieldT.mk underlying77 rfl sizeOf9 rfl) (.t rfl) (i' := 4) rfl) <| .gy rfl rfl (Zt ⟨isAgg9, sizeOf9⟩ (.t rfl) (k := 0) rfl rfl) <| .gy rfl rfl (Zc (FieldT.mk underlying77 rfl sizeOf74 rfl) (.t rfl) (i' := 1) rfl) <| .gy rfl rfl (Zz ⟨isAgg74, sizeOf74⟩ (.t rfl) (k := 0) rfl rfl) <| .gx rfl rfl (Zf call207 (.cons (.t rfl) (.cons (.t rfl) (.cons (.t rfl) .nil))) (fun hp w W => c207 _ _ _ _ _ _ _ (by exact .old W (by assumption)) (by exact .old W (by assumption)) (by assumption))) <| .z) fun a w S => ?_
       rw [rw_sb] at S
       refine run S (.gy rfl rfl (Xh (.t rfl)) <| .yy (Zv (.t rfl) (.t rfl)) rfl <| .z) fun a w S => Zb (Za (hK5 _ _ (Zg S (.t rfl) (wp_region_lit (run S (.fa underlying37 sizeOf31 0 rfl rfl rfl <| .ld gt31 3 rfl rfl rfl <| .fa underlying77 sizeOf9 4 rfl rfl rfl <| .ld gt9 0 rfl rfl rfl <| .fa underlying77 sizeOf74 1 rfl rfl rfl <| .la gt74 0 rfl rfl rfl <| .fa underlying77 sizeOf3 5 rfl rfl rfl <| .ld gt3 0 rfl rfl rfl <| .fa underlying77 sizeOf75 6 rfl rfl rfl <| .ld gt75 0 rfl rfl rfl <| .yy (Xd (ps := [(0, Go.Operand.tmp 89), (1, Go.Operand.tmp 91), (2, Go.Operand.tmp 93), (3, Go.Operand.tmp 95)]) (us := [_, _, _, _, _, _]) bld100 (.cons (.t rfl) (.cons (.t rfl) (.cons (.t rfl) (.cons (.t rfl) .nil)))) rfl) rfl <| .z) fun a w S => ?_)))))
       rw [rw_ent] at S
       (refine Zj (Yb S call208 (.cons (.t rfl) (.cons (.t rfl) .nil)) (c208 _ _ _ _ (by exact Sl.of_own S.wd (k := 1) rfl (fun _ => rfl)) (by omega)) rfl ?_); clear S a w; rintro _ _ ⟨A11, r11, rfl, rfl⟩ a w S)
       rw [rw_ent] at S
       refine run S (.fa underlying37 sizeOf31 0 rfl rfl rfl <| .z) fun a w S => ?_
       rw [rw_ent] at S
       refine Zj (op_st S sizeOf31 (.t rfl) (.t rfl) (k := 4) rfl rfl (by simp) fun a w S => ?_)
       rw [rw_ent] at S
       refine Zb ?_
       rw [rw_ent] at S
       refine Zk (Za (hK4 _ _ ?_))
       rw [rw_ent] at S
       refine wp_region_lit ?_
       rw [rw_ent] at S
       refine run S (.mv rfl <| .z) fun a w S => ?_
       rw [rw_ent] at S
       refine run S (.ad (by unfold I64; omega) rfl <| .z) fun a w S => ?_
       rw [rw_ent] at S
       refine run S (.as rfl <| .z) fun a w S => ?_
       rw [rw_ent] at S
       refine Zb ?_
       rw [rw_ent] at S
       refine Za ?_
       rw [rw_ent] at S
       exact ⟨(q + 1, (A11, r11)), by dsimp only; omega, by dsimp only; omega, by dsimp only; rw [hst3, hst4]; exact S.pk⟩
   · have rw_q := decide_eq_false hqt
     rw [rw_q, Bool.false_and, if_neg (by decide), List.append_nil] at hst3
     refine wp_seq_k fun _ hK4 => sg S (.mv rfl <| .mv rfl <| .ln underlying72 rfl <| .lt (by omega) rfl rfl <| .z) fun a w S => Zg S (.t rfl) (wp_skip (Za (hK4 _ _ (wp_seq_k fun _ hK4 => wp_block (wp_seq_k fun _ hK5 => wp_region_lit (run S (.mv rfl <| .mv rfl <| .ix underlying72 sizeOf77 (by omega) rfl rfl <| .yy (Zp ⟨isAgg77, sizeOf77⟩ (.t rfl) (vs := [_, _, _, _, _, _, _, _, _, _]) rfl (fun _ => hc)) rfl <| .z) fun a w S => Zj (Zn S zeroValue77 (cs := _) rfl rfl fun g3 a w S => Zj (Zq S sizeOf77 (.t rfl) (.t rfl) (k := 0) rfl rfl rfl (by simp [Value.oneCell']) fun a w S => Zb (Za (hK5 _ _ (sg S (.fa underlying77 sizeOf3 5 rfl rfl rfl <| .ld gt3 0 rfl rfl rfl <| .yy (Yq (by omega) (Yn (.t rfl) Ev.c)) rfl <| .mv rfl <| .sk rfl rfl rfl <| .sk rfl rfl rfl <| .sk rfl rfl rfl <| .sk rfl rfl rfl <| .sk rfl rfl rfl <| .sk rfl rfl rfl <| .sk rfl rfl rfl <| .yy (Zu (.t rfl) Ev.c) rfl <| .z) fun a w S => Ze S (.t rfl) (wp_skip (Zk (Za (hK4 _ _ (wp_region_lit (run S (.mv rfl <| .ad (by unfold I64; omega) rfl <| .as rfl <| .z) fun a w S => Zb (Za ?_))))))))))))))))))
     exact ⟨(q + 1, (Ae, ce)), by dsimp only; omega, by dsimp only; omega, by dsimp only; rw [hst3]; exact S.pk⟩
 obtain rfl : q = l.length := by omega
 rw [List.take_of_length_le (by rw [hUl]; exact Nat.le_refl _)] at S
 have hC : meantC (l.map (·.1)) = ⟨sortI (keptU (l.map (·.1)) (l.map (·.1))), (knownU (l.map (·.1))).1⟩ := rfl
 have ho1 := meant_known hokU hfe0
 have ho2 := meant_can hokU hfe0
 have ho3 := meant_ok hokU hfe0
 rw [hC] at ho2 ho3
 generalize meantK (l.map (·.1)) = R at *
 generalize sortI (keptU (l.map (·.1)) (l.map (·.1))) = F at *
 obtain ⟨N, rw_N⟩ : ∃ N, knownU (l.map (·.1)) = N := ⟨_, rfl⟩
 rw [rw_N] at ho1 ho2 ho3
 by_cases hN : N.2 = 0
 rotate_left
 · have rw_N2 : decide (N.2 ≠ 0) = true := decide_eq_true hN
   have hk := ho1 hN
   refine wp_seq_k fun _ hK4 => sg S (.mv rfl <| .mv rfl <| .ln underlying72 rfl <| .ge (by omega) rfl rfl <| .z) fun a w S => Ze S (.t rfl) (wp_exit (Zh (Zh (Ya (Za (hK1 _ _ (wp_seq_k fun _ hK1 => wp_region_lit (run S (.mv rfl <| .z) fun a w S => ?_))))))))
   (refine Zj (Yb S call209 (.cons (.t rfl) .nil) (c209 _ _ _ (by exact .old S.wd (by assumption)) (by exact .old S.wd (by assumption)) (by assumption) (by assumption)) rfl ?_); clear S a w; rintro _ _ ⟨A11, c11, A21, c21, rfl, rfl⟩ a w S)
   simp only [List.nil_append] at S
   rw [rw_N] at S
   refine run S (.mv rfl <| .ex rfl rfl <| .ex rfl rfl <| .z) fun a w S => Zj (Zn S zeroValue35 (cs := _) rfl rfl fun g3 a w S => Zj (Zq S sizeOf35 (.t rfl) (.t rfl) (k := 0) rfl rfl rfl (by simp [Value.oneCell']) fun a w S => run S (.as rfl <| .z) fun a w S => Zb (Za (hK1 _ _ (wp_seq_k fun _ hK1 => sg S (.mv rfl <| .yy (Yu (by omega) (Yh (.t rfl) Ev.c)) rfl <| .z) fun a w S => Zg S (.t rfl) (wp_seq_k fun _ hK5 => wp_region_lit (run S (.yy (Xd (ps := []) (us := [_, _, _]) bld37 .nil rfl) rfl <| .mv rfl <| .z) fun a w S => Zj (Zq S sizeOf37 (.t rfl) (.t rfl) (k := 4) rfl rfl rfl (by simp [Value.oneCell']) fun a w S => run S (.as rfl <| .z) fun a w S => Zb (Za (hK5 _ _ (wp_ret (Zd (Zm S (results2 S results174 (Rv.cell (k := 4) ⟨isAgg37, sizeOf37⟩ rfl rfl rfl) (Rv.tmp rfl)) ?_)))))))))))))
   rw [hk]
   replace S := ((S.nil_ 74 3 Dot.enc none).nil_ 30 3 Dot.enc none).nil_ 100 6 Ent.enc none
   exact ⟨_, _, rfl, S.wd.pk, none, 0, none, 0, none, 0, rfl, rfl⟩
 have rw_N2 := hN
 refine wp_seq_k fun _ hK4 => sg S (.mv rfl <| .mv rfl <| .ln underlying72 rfl <| .ge (by omega) rfl rfl <| .z) fun a w S => Ze S (.t rfl) (wp_exit (Zh (Zh (Ya (Za (hK1 _ _ (wp_seq_k fun _ hK1 => wp_region_lit (run S (.mv rfl <| .z) fun a w S => ?_))))))))
 (refine Zj (Yb S call209 (.cons (.t rfl) .nil) (c209 _ _ _ (by exact .old S.wd (by assumption)) (by exact .old S.wd (by assumption)) (by assumption) (by assumption)) rfl ?_); clear S a w; rintro _ _ ⟨A11, c11, A21, c21, rfl, rfl⟩ a w S)
 simp only [List.nil_append] at S
 rw [rw_N] at S
 rw [rw_N2] at S
 refine run S (.mv rfl <| .ex rfl rfl <| .ex rfl rfl <| .z) fun a w S => Zj (Zn S zeroValue35 (cs := _) rfl rfl fun g3 a w S => Zj (Zq S sizeOf35 (.t rfl) (.t rfl) (k := 0) rfl rfl rfl (by simp [Value.oneCell']) fun a w S => run S (.as rfl <| .z) fun a w S => Zb (Za (hK1 _ _ (wp_seq_k fun _ hK1 => sg S (.mv rfl <| .yy (Yq (by omega) (Yh (.t rfl) Ev.c)) rfl <| .z) fun a w S => Ze S (.t rfl) (wp_skip (Za (hK1 _ _ (wp_seq_k fun _ hK1 => wp_region_lit (run S (.la gt35 0 rfl rfl rfl <| .fa underlying37 sizeOf35 1 rfl rfl rfl <| .z) fun a w S => Zj (Yz S sizeOf35 (.t rfl) (.t rfl) (k := 5) rfl rfl (by simp [Value.oneCell']) (by simp) fun a w S => Zb (Za (hK1 _ _ (wp_seq_k fun _ hK1 => wp_region_lit (run S (.la gt37 5 rfl rfl rfl <| .z) fun a w S => Yk S (Zf call32 (.cons (.t rfl) .nil) (fun _ w' W' => c32 w' _ _ _ ⟨F, N.1⟩ (Sl.of_own W' (k := 3) rfl (fun _ => rfl)) ⟨Sl.of_own W' (k := 1) rfl (fun _ => rfl), Sl.of_own W' (k := 2) rfl (fun _ => rfl)⟩)) rfl ?_)))))))))))))))
 clear S a w
 intro a w S
 by_cases hcn : canE ⟨F, N.1⟩ = 0
 · have rw_cn := hcn
   have hk := ho3 hN hcn
   refine run S (.as rfl <| .z) fun a w S => ?_
   rw [rw_cn] at S
   refine Zb (Za (hK1 _ _ (wp_seq_k fun _ hK1 => sg S (.mv rfl <| .yy (Yq (by omega) (Yh (.t rfl) Ev.c)) rfl <| .z) fun a w S => Ze S (.t rfl) (wp_skip (Za (hK1 _ _ (wp_seq_k fun _ hK1 => wp_region_lit (run S (.la gt37 5 rfl rfl rfl <| .z) fun a w S => Zj (Zq S sizeOf37 (.t rfl) (.t rfl) (k := 4) rfl rfl rfl (by simp [Value.oneCell']) fun a w S => run S (.ac rfl <| .z) fun a w S => Zb (Za (hK1 _ _ (wp_ret (Zm S (results2 S results174 (Rv.cell (k := 4) ⟨isAgg37, sizeOf37⟩ rfl rfl rfl) (Rv.tmp rfl)) ?_)))))))))))))
   rw [hk]
   exact ⟨_, _, rfl, S.wd.pk, Ae, ce, A11, c11, A21, c21, rfl, rfl⟩
 · have rw_cn : decide (canE ⟨F, N.1⟩ ≠ 0) = true := decide_eq_true hcn
   have hk := ho2 hN hcn
   refine run S (.as rfl <| .z) fun a w S => Zb (Za (hK1 _ _ (wp_seq_k fun _ hK1 => sg S (.mv rfl <| .yy (Yu (by omega) (Yh (.t rfl) Ev.c)) rfl <| .z) fun a w S => Zg S (.t rfl) (wp_seq_k fun _ hK5 => wp_region_lit (run S (.yy (Xd (ps := []) (us := [_, _, _]) bld37 .nil rfl) rfl <| .mv rfl <| .z) fun a w S => Zj (Zq S sizeOf37 (.t rfl) (.t rfl) (k := 4) rfl rfl rfl (by simp [Value.oneCell']) fun a w S => run S (.as rfl <| .z) fun a w S => Zb (Za (hK5 _ _ (wp_ret (Zd (Zm S (results2 S results174 (Rv.cell (k := 4) ⟨isAgg37, sizeOf37⟩ rfl rfl rfl) (Rv.tmp rfl)) ?_)))))))))))
   rw [hk]
   replace S := ((S.nil_ 74 3 Dot.enc none).nil_ 30 3 Dot.enc none).nil_ 100 6 Ent.enc none
   exact ⟨_, _, rfl, S.wd.pk, none, 0, none, 0, none, 0, rfl, rfl⟩
end Go.Proofs.YtakpdbmdfnialaaGreat
namespace Go.Fw
open Go.RowKit
theorem keep_nf {T : Ctx} (h : Nf T) (p : SLog) : Nf (keepC T p) := prune_nf h _ _
end Go.Fw
namespace Go.Proofs.YtakpdbmdfnialaaGreat
open Go.Fw Go.Proofs Go.RowKit Go.Proofs.Tryz
theorem c129 (w0 : World) (v : Value) (l : List SLog) (m : Nat) (x : SLog) (h : Sl SLog.enc 22 w0 w0.heap.size v l) (hm : l[m]? = some x) (hl : LogsRd w0 l) (hn : l.length ≤ 1048576) (hB : RoomU ((toldU (goneK (l.take m) x.key) x (l.take m)).map (·.1))) (hok : ∀ p ∈ l, logOk p = true) :
   Calls Tryz.prog 129 #[v, .int .i64 (m : Int)] w0 fun e w' => e = .returned (.bool (rightK (l.take m) x)) ∧ Bel w0.heap.size w0 w' := by
 have hs := h
 obtain ⟨A, cap, rfl, hl0, hcap, hA⟩ := h
 have hml := (List.getElem?_eq_some_iff.1 hm).1
 obtain ⟨gq, oq, x', rfl, hx', hd, hc⟩ := Yg hA hml
 obtain rfl := Option.some.inj (hm.symm.trans hx')
 have hxr := hl x (List.mem_of_getElem? hm)
 obtain ⟨okS, okC, okV⟩ := logOk_is (hok x (List.mem_of_getElem? hm))
 have rw_R := fun d => okC.coversR d
 have hpl := gone_len (l.take m) x.key
 have hlp : LogsRd w0 (goneK (l.take m) x.key) := fun y hy9 => hl y (List.mem_of_mem_take (List.mem_filter.1 hy9).1)
 have hkp : ∀ p ∈ goneK (l.take m) x.key, CartOk p.c.1 := fun y hy9 => (logOk_is (hok y (List.mem_of_mem_take (List.mem_filter.1 hy9).1))).2.1
 have q1 := hxr.c.ctx
 have q2 := hxr.s.ctx
 have q3 := hxr.c.ents
 rw [List.length_take] at hpl
 refine enter2 func129 rfl ntmps129 rfl fun a S => sg S (.ac rfl <| .z) fun a w S => wp_seq_k fun _ hK1 => wp_region_lit (run S (.mv rfl <| .mv rfl <| .ix underlying84 sizeOf96 (by omega) rfl rfl <| .yy (Zp ⟨isAgg96, sizeOf96⟩ (.t rfl) (vs := [_, _, _, _, _, _, _, _, _, _, _, _, _, _, _, _, _, _, _, _, _, _]) rfl (fun _ => hc)) rfl <| .z) fun a w S => Zj (Zn S zeroValue96 (cs := _) rfl rfl fun g1 a w S => Zj (Zq S sizeOf96 (.t rfl) (.t rfl) (k := 0) rfl rfl rfl (by simp [Value.oneCell']) fun a w S => Zb (Za (hK1 _ _ (wp_seq_k fun _ hK1 => wp_region_lit (run S (.mv rfl <| .mv rfl <| .fa underlying96 sizeOf9 15 rfl rfl rfl <| .ld gt9 0 rfl rfl rfl <| .z) fun a w S => ?_)))))))
 (refine Zj (Yb S call122 (.cons (.t rfl) (.cons (.t rfl) (.cons (.t rfl) .nil))) (c122 _ _ _ _ _ (by exact .old S.wd (by assumption)) (by assumption) (by omega)) rfl ?_); clear S a w; rintro _ _ ⟨A1, r1, rfl, rfl⟩ a w S)
 refine run S (.as rfl <| .z) fun a w S => Zb (Za (hK1 _ _ (sg S (.ac rfl <| .z) fun a w S => wp_seq_k fun _ hK1 => sg S (.ac rfl <| .z) fun a w S => wp_block ?_)))
 replace S := S.nil_ 77 10 SUpd.enc none
 refine Xb S [7, 8] (X := Nat × Option Addr × Nat) (fun q => [(7, true, .slice q.2.1 (toldU (goneK (l.take m) x.key) x (l.take q.1)).length q.2.2), (8, true, .int .i64 (q.1 : Int))])
   (fun q => [rowOf 77 10 SUpd.enc q.2.1 q.2.2 (toldU (goneK (l.take m) x.key) x (l.take q.1)), rowOf 96 22 SLog.enc A1 r1 (goneK (l.take m) x.key), .blk g1 (.cells (SLog.enc x).toArray 96)]) (fun q => q.1 ≤ m) (fun q => m - q.1) (0, none, 0) (Nat.zero_le _) ?_
 clear S
 rintro ⟨i, B, cB⟩ a w hi S
 dsimp only at hi S
 have htl := told_len (goneK (l.take m) x.key) (l.take i) x
 rw [List.length_take] at htl
 by_cases hlt : i < m
 · obtain ⟨gq2, oq2, y, e0, hy9, hyd, hyc⟩ := Yg hA (show i < l.length by omega)
   cases e0
   have hst := told_snoc (pr := goneK (l.take m) x.key) (x := x) hy9
   have hupd := Wi (m := 3) (n := 10) (vs := SUpd.enc y.u) hyc rfl
   generalize toldU (goneK (l.take m) x.key) x (l.take i) = G at *
   generalize hpr : goneK (l.take m) x.key = pr at *
   by_cases hk : y.kind = 1
   · have rw_k := decide_eq_true hk
     by_cases hky : y.u.1.key = x.key
     · have rw_y := decide_eq_true hky
       cases hcv : x.c.1.ctx.covers y.u.1.dot with
       | true =>
         have rw_c := hcv
         have ht : toldB pr x y = true := by unfold toldB; rw [rw_k, rw_y, hcv]; rfl
         rw [ht, if_pos rfl] at hst
         have rw_e := upd_enc y.u
         refine wp_seq_k fun _ hK2 => sg S (.mv rfl <| .mv rfl <| .lt (by omega) rfl rfl <| .z) fun a w S => Zg S (.t rfl) (wp_skip (Za (hK2 _ _ (wp_seq_k fun _ hK2 => wp_block (wp_seq_k fun _ hK3 => wp_region_lit (run S (.mv rfl <| .mv rfl <| .ix underlying84 sizeOf96 (by omega) rfl rfl <| .yy (Zy (FieldT.mk underlying96 rfl sizeOf77 rfl) (.t rfl)) rfl <| .yy (Zp ⟨isAgg77, sizeOf77⟩ (.t rfl) (vs := [_, _, _, _, _, _, _, _, _, _]) rfl (fun _ => hupd)) rfl <| .z) fun a w S => ?_))))))
         rw [rw_e] at S
         refine Zj (Zn S zeroValue77 (cs := _) rfl rfl fun g2 a w S => ?_)
         rw [rw_e] at S
         refine Zj (Zq S sizeOf77 (.t rfl) (.t rfl) (k := 0) rfl rfl rfl (by simp [Value.oneCell']) fun a w S => ?_)
         rw [rw_e] at S
         refine Zb ?_
         rw [rw_e] at S
         refine Za (hK3 _ _ ?_)
         rw [rw_e] at S
         refine wp_seq_k fun _ hK3 => ?_
         rw [rw_e] at S
         refine wp_region_lit ?_
         rw [rw_e] at S
         refine run S (.mv rfl <| .z) fun a w S => ?_
         rw [rw_e] at S
         refine run S (.mv rfl <| .z) fun a w S => ?_
         rw [rw_e] at S
         refine run S (.ix underlying84 sizeOf96 (by omega) rfl rfl <| .z) fun a w S => ?_
         rw [rw_e] at S
         refine run S (.yy (Zy (FieldT.mk underlying96 rfl sizeOf3 rfl) (.t rfl)) rfl <| .z) fun a w S => ?_
         rw [rw_e] at S
         refine run S (.yy (Yv ⟨isAgg3, sizeOf3⟩ (.t rfl) (fun _ => hyc _ _ rfl)) rfl <| .z) fun a w S => ?_
         rw [rw_e] at S
         refine run S (.yy (Yu (by omega) (Ye (.t rfl) Ev.c)) rfl <| .z) fun a w S => ?_
         rw [rw_e] at S
         refine run S (.mv rfl <| .z) fun a w S => ?_
         rw [rw_e] at S
         refine run S (.gy rfl rfl (Zc (FieldT.mk underlying77 rfl sizeOf9 rfl) (.t rfl) (i' := 0) rfl) <| .z) fun a w S => ?_
         rw [rw_e] at S
         refine run S (.gy rfl rfl (Zt ⟨isAgg9, sizeOf9⟩ (.t rfl) (k := 0) rfl rfl) <| .z) fun a w S => ?_
         rw [rw_e] at S
         refine run S (.gy rfl rfl (Zc (FieldT.mk underlying96 rfl sizeOf9 rfl) (.t rfl) (i' := 15) rfl) <| .z) fun a w S => ?_
         rw [rw_e] at S
         refine run S (.gy rfl rfl (Zt ⟨isAgg9, sizeOf9⟩ (.t rfl) (k := 3) rfl rfl) <| .z) fun a w S => ?_
         rw [rw_e] at S
         refine run S (.gy rfl rfl (Xa (.t rfl) (.t rfl)) <| .z) fun a w S => ?_
         rw [rw_y] at S
         rw [rw_e] at S
         refine run S (.yy (Zv (.t rfl) (.t rfl)) rfl <| .z) fun a w S => ?_
         rw [rw_e] at S
         refine run S (.mv rfl <| .z) fun a w S => ?_
         rw [rw_e] at S
         refine run S (.gy rfl rfl (Zc (FieldT.mk underlying96 rfl sizeOf37 rfl) (.t rfl) (i' := 19) rfl) <| .z) fun a w S => ?_
         rw [rw_e] at S
         refine run S (.gy rfl rfl (Zc (FieldT.mk underlying37 rfl sizeOf35 rfl) (.t rfl) (i' := 20) rfl) <| .z) fun a w S => ?_
         rw [rw_e] at S
         refine run S (.gy rfl rfl (Zz ⟨isAgg35, sizeOf35⟩ (.t rfl) (k := 3) rfl rfl) <| .z) fun a w S => ?_
         rw [rw_e] at S
         refine run S (.gy rfl rfl (Zc (FieldT.mk underlying77 rfl sizeOf74 rfl) (.t rfl) (i' := 1) rfl) <| .z) fun a w S => ?_
         rw [rw_e] at S
         refine run S (.gy rfl rfl (Zz ⟨isAgg74, sizeOf74⟩ (.t rfl) (k := 0) rfl rfl) <| .z) fun a w S => ?_
         rw [rw_e] at S
         refine run S (.gx rfl rfl (Zf call77 (.cons (.t rfl) (.cons (.t rfl) .nil)) (fun hp w W => c77 _ _ _ _ _ _ _ (by exact .old W (by assumption)))) <| .z) fun a w S => ?_
         rw [rw_R] at S
         rw [rw_c] at S
         rw [rw_e] at S
         refine run S (.gy rfl rfl (Zi (.t rfl)) <| .z) fun a w S => ?_
         rw [rw_e] at S
         refine run S (.sk rfl rfl rfl <| .z) fun a w S => ?_
         rw [rw_e] at S
         refine run S (.sk rfl rfl rfl <| .z) fun a w S => ?_
         rw [rw_e] at S
         refine run S (.sk rfl rfl rfl <| .z) fun a w S => ?_
         rw [rw_e] at S
         refine run S (.sk rfl rfl rfl <| .z) fun a w S => ?_
         rw [rw_e] at S
         refine run S (.gy rfl rfl (Zv (.t rfl) Ev.c) <| .z) fun a w S => ?_
         rw [rw_e] at S
         refine run S (.yy (Zv (.t rfl) (.t rfl)) rfl <| .z) fun a w S => ?_
         rw [rw_e] at S
         refine Zb ?_
         rw [rw_e] at S
         refine Za (hK3 _ _ ?_)
         rw [rw_e] at S
         refine Zg S (.t rfl) ?_
         rw [rw_e] at S
         refine wp_region_lit ?_
         rw [rw_e] at S
         refine run S (.mv rfl <| .z) fun a w S => ?_
         rw [rw_e] at S
         refine run S (.la gt77 0 rfl rfl rfl <| .z) fun a w S => ?_
         rw [rw_e] at S
         refine Zj (Yf S underlying72 inf77 rfl rfl rfl (.t rfl) rfl rfl rfl fun g3 a w S => ?_)
         rw [rw_e] at S
         refine Zj (Yw S underlying72 inf77 rfl (k := 2) (j := 0) rfl (.t rfl) (.t rfl) rfl rfl rfl rfl (by first | omega | (simp only [List.length_append, List.length_cons, List.length_nil]; omega)) rfl rfl rfl fun A2 cap1 a w S => ?_)
         rw [rw_e] at S
         refine run S (.as rfl <| .z) fun a w S => ?_
         rw [rw_e] at S
         refine Zb ?_
         rw [rw_e] at S
         refine Zk (Za (hK2 _ _ ?_))
         rw [rw_e] at S
         refine wp_region_lit ?_
         rw [rw_e] at S
         refine run S (.mv rfl <| .z) fun a w S => ?_
         rw [rw_e] at S
         refine run S (.ad (by unfold I64; omega) rfl <| .z) fun a w S => ?_
         rw [rw_e] at S
         refine run S (.as rfl <| .z) fun a w S => ?_
         rw [rw_e] at S
         refine Zb ?_
         rw [rw_e] at S
         refine Za ?_
         rw [rw_e] at S
         exact ⟨(i + 1, A2, cap1), by dsimp only; omega, by dsimp only; omega, by dsimp only; rw [hst]; exact S.pk⟩
       | false =>
         have rw_c := hcv
         cases hfg : forgotK pr y.u.1.dot with
         | true =>
           have rw_f := hfg
           have ht : toldB pr x y = true := by unfold toldB; rw [rw_k, rw_y, hcv, hfg]; rfl
           rw [ht, if_pos rfl] at hst
           have rw_e := upd_enc y.u
           refine wp_seq_k fun _ hK2 => sg S (.mv rfl <| .mv rfl <| .lt (by omega) rfl rfl <| .z) fun a w S => Zg S (.t rfl) (wp_skip (Za (hK2 _ _ (wp_seq_k fun _ hK2 => wp_block (wp_seq_k fun _ hK3 => wp_region_lit (run S (.mv rfl <| .mv rfl <| .ix underlying84 sizeOf96 (by omega) rfl rfl <| .yy (Zy (FieldT.mk underlying96 rfl sizeOf77 rfl) (.t rfl)) rfl <| .yy (Zp ⟨isAgg77, sizeOf77⟩ (.t rfl) (vs := [_, _, _, _, _, _, _, _, _, _]) rfl (fun _ => hupd)) rfl <| .z) fun a w S => ?_))))))
           rw [rw_e] at S
           refine Zj (Zn S zeroValue77 (cs := _) rfl rfl fun g2 a w S => ?_)
           rw [rw_e] at S
           refine Zj (Zq S sizeOf77 (.t rfl) (.t rfl) (k := 0) rfl rfl rfl (by simp [Value.oneCell']) fun a w S => ?_)
           rw [rw_e] at S
           refine Zb ?_
           rw [rw_e] at S
           refine Za (hK3 _ _ ?_)
           rw [rw_e] at S
           refine wp_seq_k fun _ hK3 => ?_
           rw [rw_e] at S
           refine wp_region_lit ?_
           rw [rw_e] at S
           refine run S (.mv rfl <| .z) fun a w S => ?_
           rw [rw_e] at S
           refine run S (.mv rfl <| .z) fun a w S => ?_
           rw [rw_e] at S
           refine run S (.ix underlying84 sizeOf96 (by omega) rfl rfl <| .z) fun a w S => ?_
           rw [rw_e] at S
           refine run S (.yy (Zy (FieldT.mk underlying96 rfl sizeOf3 rfl) (.t rfl)) rfl <| .z) fun a w S => ?_
           rw [rw_e] at S
           refine run S (.yy (Yv ⟨isAgg3, sizeOf3⟩ (.t rfl) (fun _ => hyc _ _ rfl)) rfl <| .z) fun a w S => ?_
           rw [rw_e] at S
           refine run S (.yy (Yu (by omega) (Ye (.t rfl) Ev.c)) rfl <| .z) fun a w S => ?_
           rw [rw_e] at S
           refine run S (.mv rfl <| .z) fun a w S => ?_
           rw [rw_e] at S
           refine run S (.gy rfl rfl (Zc (FieldT.mk underlying77 rfl sizeOf9 rfl) (.t rfl) (i' := 0) rfl) <| .z) fun a w S => ?_
           rw [rw_e] at S
           refine run S (.gy rfl rfl (Zt ⟨isAgg9, sizeOf9⟩ (.t rfl) (k := 0) rfl rfl) <| .z) fun a w S => ?_
           rw [rw_e] at S
           refine run S (.gy rfl rfl (Zc (FieldT.mk underlying96 rfl sizeOf9 rfl) (.t rfl) (i' := 15) rfl) <| .z) fun a w S => ?_
           rw [rw_e] at S
           refine run S (.gy rfl rfl (Zt ⟨isAgg9, sizeOf9⟩ (.t rfl) (k := 3) rfl rfl) <| .z) fun a w S => ?_
           rw [rw_e] at S
           refine run S (.gy rfl rfl (Xa (.t rfl) (.t rfl)) <| .z) fun a w S => ?_
           rw [rw_y] at S
           rw [rw_e] at S
           refine run S (.yy (Zv (.t rfl) (.t rfl)) rfl <| .z) fun a w S => ?_
           rw [rw_e] at S
           refine run S (.mv rfl <| .z) fun a w S => ?_
           rw [rw_e] at S
           refine run S (.gy rfl rfl (Zc (FieldT.mk underlying96 rfl sizeOf37 rfl) (.t rfl) (i' := 19) rfl) <| .z) fun a w S => ?_
           rw [rw_e] at S
           refine run S (.gy rfl rfl (Zc (FieldT.mk underlying37 rfl sizeOf35 rfl) (.t rfl) (i' := 20) rfl) <| .z) fun a w S => ?_
           rw [rw_e] at S
           refine run S (.gy rfl rfl (Zz ⟨isAgg35, sizeOf35⟩ (.t rfl) (k := 3) rfl rfl) <| .z) fun a w S => ?_
           rw [rw_e] at S
           refine run S (.gy rfl rfl (Zc (FieldT.mk underlying77 rfl sizeOf74 rfl) (.t rfl) (i' := 1) rfl) <| .z) fun a w S => ?_
           rw [rw_e] at S
           refine run S (.gy rfl rfl (Zz ⟨isAgg74, sizeOf74⟩ (.t rfl) (k := 0) rfl rfl) <| .z) fun a w S => ?_
           rw [rw_e] at S
           refine run S (.gx rfl rfl (Zf call77 (.cons (.t rfl) (.cons (.t rfl) .nil)) (fun hp w W => c77 _ _ _ _ _ _ _ (by exact .old W (by assumption)))) <| .z) fun a w S => ?_
           rw [rw_R] at S
           rw [rw_c] at S
           rw [rw_e] at S
           refine run S (.gy rfl rfl (Zi (.t rfl)) <| .z) fun a w S => ?_
           rw [rw_e] at S
           refine run S (.gy rfl rfl (Zi (.t rfl)) <| .z) fun a w S => ?_
           rw [rw_e] at S
           refine run S (.gy rfl rfl (Zc (FieldT.mk underlying77 rfl sizeOf74 rfl) (.t rfl) (i' := 1) rfl) <| .z) fun a w S => ?_
           rw [rw_e] at S
           refine run S (.gy rfl rfl (Zz ⟨isAgg74, sizeOf74⟩ (.t rfl) (k := 0) rfl rfl) <| .z) fun a w S => ?_
           rw [rw_e] at S
           refine run S (.gx rfl rfl (Zf call121 (.cons (.t rfl) (.cons (.t rfl) .nil)) (fun hp w W => c121 _ _ _ _ _ _ (by exact Sl.of_own W (k := 2) rfl (fun _ => rfl)) (by exact .old W (by assumption)) (by assumption))) <| .z) fun a w S => ?_
           rw [rw_f] at S
           rw [rw_e] at S
           refine run S (.gy rfl rfl (Zu (.t rfl) (.t rfl)) <| .z) fun a w S => ?_
           rw [rw_e] at S
           refine run S (.yy (Zv (.t rfl) (.t rfl)) rfl <| .z) fun a w S => ?_
           rw [rw_e] at S
           refine Zb ?_
           rw [rw_e] at S
           refine Za (hK3 _ _ ?_)
           rw [rw_e] at S
           refine Zg S (.t rfl) ?_
           rw [rw_e] at S
           refine wp_region_lit ?_
           rw [rw_e] at S
           refine run S (.mv rfl <| .z) fun a w S => ?_
           rw [rw_e] at S
           refine run S (.la gt77 0 rfl rfl rfl <| .z) fun a w S => ?_
           rw [rw_e] at S
           refine Zj (Yf S underlying72 inf77 rfl rfl rfl (.t rfl) rfl rfl rfl fun g3 a w S => ?_)
           rw [rw_e] at S
           refine Zj (Yw S underlying72 inf77 rfl (k := 2) (j := 0) rfl (.t rfl) (.t rfl) rfl rfl rfl rfl (by first | omega | (simp only [List.length_append, List.length_cons, List.length_nil]; omega)) rfl rfl rfl fun A2 cap1 a w S => ?_)
           rw [rw_e] at S
           refine run S (.as rfl <| .z) fun a w S => ?_
           rw [rw_e] at S
           refine Zb ?_
           rw [rw_e] at S
           refine Zk (Za (hK2 _ _ ?_))
           rw [rw_e] at S
           refine wp_region_lit ?_
           rw [rw_e] at S
           refine run S (.mv rfl <| .z) fun a w S => ?_
           rw [rw_e] at S
           refine run S (.ad (by unfold I64; omega) rfl <| .z) fun a w S => ?_
           rw [rw_e] at S
           refine run S (.as rfl <| .z) fun a w S => ?_
           rw [rw_e] at S
           refine Zb ?_
           rw [rw_e] at S
           refine Za ?_
           rw [rw_e] at S
           exact ⟨(i + 1, A2, cap1), by dsimp only; omega, by dsimp only; omega, by dsimp only; rw [hst]; exact S.pk⟩
         | false =>
           have rw_f := hfg
           have ht : toldB pr x y = false := by unfold toldB; rw [rw_k, rw_y, hcv, hfg]; rfl
           rw [ht, if_neg (by decide), List.append_nil] at hst
           refine wp_seq_k fun _ hK2 => sg S (.mv rfl <| .mv rfl <| .lt (by omega) rfl rfl <| .z) fun a w S => Zg S (.t rfl) (wp_skip (Za (hK2 _ _ (wp_seq_k fun _ hK2 => wp_block (wp_seq_k fun _ hK3 => wp_region_lit (run S (.mv rfl <| .mv rfl <| .ix underlying84 sizeOf96 (by omega) rfl rfl <| .yy (Zy (FieldT.mk underlying96 rfl sizeOf77 rfl) (.t rfl)) rfl <| .yy (Zp ⟨isAgg77, sizeOf77⟩ (.t rfl) (vs := [_, _, _, _, _, _, _, _, _, _]) rfl (fun _ => hupd)) rfl <| .z) fun a w S => Zj (Zn S zeroValue77 (cs := _) rfl rfl fun g2 a w S => Zj (Zq S sizeOf77 (.t rfl) (.t rfl) (k := 0) rfl rfl rfl (by simp [Value.oneCell']) fun a w S => Zb (Za (hK3 _ _ (wp_seq_k fun _ hK3 => wp_region_lit ?_)))))))))))
           refine run S (.mv rfl <| .mv rfl <| .ix underlying84 sizeOf96 (by omega) rfl rfl <| .yy (Zy (FieldT.mk underlying96 rfl sizeOf3 rfl) (.t rfl)) rfl <| .yy (Yv ⟨isAgg3, sizeOf3⟩ (.t rfl) (fun _ => hyc _ _ rfl)) rfl <| .yy (Yu (by omega) (Ye (.t rfl) Ev.c)) rfl <| .mv rfl <| .gy rfl rfl (Zc (FieldT.mk underlying77 rfl sizeOf9 rfl) (.t rfl) (i' := 0) rfl) <| .gy rfl rfl (Zt ⟨isAgg9, sizeOf9⟩ (.t rfl) (k := 0) rfl rfl) <| .gy rfl rfl (Zc (FieldT.mk underlying96 rfl sizeOf9 rfl) (.t rfl) (i' := 15) rfl) <| .gy rfl rfl (Zt ⟨isAgg9, sizeOf9⟩ (.t rfl) (k := 3) rfl rfl) <| .gy rfl rfl (Xa (.t rfl) (.t rfl)) <| .z) fun a w S => ?_
           rw [rw_y] at S
           refine run S (.yy (Zv (.t rfl) (.t rfl)) rfl <| .mv rfl <| .gy rfl rfl (Zc (FieldT.mk underlying96 rfl sizeOf37 rfl) (.t rfl) (i' := 19) rfl) <| .gy rfl rfl (Zc (FieldT.mk underlying37 rfl sizeOf35 rfl) (.t rfl) (i' := 20) rfl) <| .gy rfl rfl (Zz ⟨isAgg35, sizeOf35⟩ (.t rfl) (k := 3) rfl rfl) <| .gy rfl rfl (Zc (FieldT.mk underlying77 rfl sizeOf74 rfl) (.t rfl) (i' := 1) rfl) <| .gy rfl rfl (Zz ⟨isAgg74, sizeOf74⟩ (.t rfl) (k := 0) rfl rfl) <| .gx rfl rfl (Zf call77 (.cons (.t rfl) (.cons (.t rfl) .nil)) (fun hp w W => c77 _ _ _ _ _ _ _ (by exact .old W (by assumption)))) <| .z) fun a w S => ?_
           rw [rw_R] at S
           rw [rw_c] at S
           refine run S (.gy rfl rfl (Zi (.t rfl)) <| .gy rfl rfl (Zi (.t rfl)) <| .gy rfl rfl (Zc (FieldT.mk underlying77 rfl sizeOf74 rfl) (.t rfl) (i' := 1) rfl) <| .gy rfl rfl (Zz ⟨isAgg74, sizeOf74⟩ (.t rfl) (k := 0) rfl rfl) <| .gx rfl rfl (Zf call121 (.cons (.t rfl) (.cons (.t rfl) .nil)) (fun hp w W => c121 _ _ _ _ _ _ (by exact Sl.of_own W (k := 2) rfl (fun _ => rfl)) (by exact .old W (by assumption)) (by assumption))) <| .z) fun a w S => ?_
           rw [rw_f] at S
           refine run S (.gy rfl rfl (Zu (.t rfl) (.t rfl)) <| .yy (Zv (.t rfl) (.t rfl)) rfl <| .z) fun a w S => Zb (Za (hK3 _ _ (Ze S (.t rfl) (wp_skip (Zk (Za (hK2 _ _ (wp_region_lit (run S (.mv rfl <| .ad (by unfold I64; omega) rfl <| .as rfl <| .z) fun a w S => Zb (Za ?_))))))))))
           exact ⟨(i + 1, B, cB), by dsimp only; omega, by dsimp only; omega, by dsimp only; rw [hst]; exact S.pk⟩
     · have rw_y := decide_eq_false hky
       have ht : toldB pr x y = false := by unfold toldB; rw [rw_k, rw_y]; rfl
       rw [ht, if_neg (by decide), List.append_nil] at hst
       refine wp_seq_k fun _ hK2 => sg S (.mv rfl <| .mv rfl <| .lt (by omega) rfl rfl <| .z) fun a w S => Zg S (.t rfl) (wp_skip (Za (hK2 _ _ (wp_seq_k fun _ hK2 => wp_block (wp_seq_k fun _ hK3 => wp_region_lit (run S (.mv rfl <| .mv rfl <| .ix underlying84 sizeOf96 (by omega) rfl rfl <| .yy (Zy (FieldT.mk underlying96 rfl sizeOf77 rfl) (.t rfl)) rfl <| .yy (Zp ⟨isAgg77, sizeOf77⟩ (.t rfl) (vs := [_, _, _, _, _, _, _, _, _, _]) rfl (fun _ => hupd)) rfl <| .z) fun a w S => Zj (Zn S zeroValue77 (cs := _) rfl rfl fun g2 a w S => Zj (Zq S sizeOf77 (.t rfl) (.t rfl) (k := 0) rfl rfl rfl (by simp [Value.oneCell']) fun a w S => Zb (Za (hK3 _ _ (wp_seq_k fun _ hK3 => wp_region_lit ?_)))))))))))
       refine run S (.mv rfl <| .mv rfl <| .ix underlying84 sizeOf96 (by omega) rfl rfl <| .yy (Zy (FieldT.mk underlying96 rfl sizeOf3 rfl) (.t rfl)) rfl <| .yy (Yv ⟨isAgg3, sizeOf3⟩ (.t rfl) (fun _ => hyc _ _ rfl)) rfl <| .yy (Yu (by omega) (Ye (.t rfl) Ev.c)) rfl <| .mv rfl <| .gy rfl rfl (Zc (FieldT.mk underlying77 rfl sizeOf9 rfl) (.t rfl) (i' := 0) rfl) <| .gy rfl rfl (Zt ⟨isAgg9, sizeOf9⟩ (.t rfl) (k := 0) rfl rfl) <| .gy rfl rfl (Zc (FieldT.mk underlying96 rfl sizeOf9 rfl) (.t rfl) (i' := 15) rfl) <| .gy rfl rfl (Zt ⟨isAgg9, sizeOf9⟩ (.t rfl) (k := 3) rfl rfl) <| .gy rfl rfl (Xa (.t rfl) (.t rfl)) <| .z) fun a w S => ?_
       rw [rw_y] at S
       refine run S (.yy (Zv (.t rfl) (.t rfl)) rfl <| .mv rfl <| .sk rfl rfl rfl <| .sk rfl rfl rfl <| .sk rfl rfl rfl <| .sk rfl rfl rfl <| .sk rfl rfl rfl <| .sk rfl rfl rfl <| .sk rfl rfl rfl <| .s0 rfl rfl <| .s0 rfl rfl <| .s0 rfl rfl <| .s0 rfl rfl <| .sk rfl rfl rfl <| .yy (Zu (.t rfl) Ev.c) rfl <| .z) fun a w S => Zb (Za (hK3 _ _ (Ze S (.t rfl) (wp_skip (Zk (Za (hK2 _ _ (wp_region_lit (run S (.mv rfl <| .ad (by unfold I64; omega) rfl <| .as rfl <| .z) fun a w S => Zb (Za ?_))))))))))
       exact ⟨(i + 1, B, cB), by dsimp only; omega, by dsimp only; omega, by dsimp only; rw [hst]; exact S.pk⟩
   · have rw_k := decide_eq_false hk
     have ht : toldB pr x y = false := by unfold toldB; rw [rw_k]; rfl
     rw [ht, if_neg (by decide), List.append_nil] at hst
     refine wp_seq_k fun _ hK2 => sg S (.mv rfl <| .mv rfl <| .lt (by omega) rfl rfl <| .z) fun a w S => Zg S (.t rfl) (wp_skip (Za (hK2 _ _ (wp_seq_k fun _ hK2 => wp_block (wp_seq_k fun _ hK3 => wp_region_lit (run S (.mv rfl <| .mv rfl <| .ix underlying84 sizeOf96 (by omega) rfl rfl <| .yy (Zy (FieldT.mk underlying96 rfl sizeOf77 rfl) (.t rfl)) rfl <| .yy (Zp ⟨isAgg77, sizeOf77⟩ (.t rfl) (vs := [_, _, _, _, _, _, _, _, _, _]) rfl (fun _ => hupd)) rfl <| .z) fun a w S => Zj (Zn S zeroValue77 (cs := _) rfl rfl fun g2 a w S => Zj (Zq S sizeOf77 (.t rfl) (.t rfl) (k := 0) rfl rfl rfl (by simp [Value.oneCell']) fun a w S => Zb (Za (hK3 _ _ (wp_seq_k fun _ hK3 => wp_region_lit ?_)))))))))))
     refine run S (.mv rfl <| .mv rfl <| .ix underlying84 sizeOf96 (by omega) rfl rfl <| .yy (Zy (FieldT.mk underlying96 rfl sizeOf3 rfl) (.t rfl)) rfl <| .yy (Yv ⟨isAgg3, sizeOf3⟩ (.t rfl) (fun _ => hyc _ _ rfl)) rfl <| .yy (Yq (by omega) (Ye (.t rfl) Ev.c)) rfl <| .mv rfl <| .sk rfl rfl rfl <| .sk rfl rfl rfl <| .sk rfl rfl rfl <| .sk rfl rfl rfl <| .sk rfl rfl rfl <| .yy (Zu (.t rfl) Ev.c) rfl <| .mv rfl <| .sk rfl rfl rfl <| .sk rfl rfl rfl <| .sk rfl rfl rfl <| .sk rfl rfl rfl <| .sk rfl rfl rfl <| .sk rfl rfl rfl <| .sk rfl rfl rfl <| .s0 rfl rfl <| .s0 rfl rfl <| .s0 rfl rfl <| .s0 rfl rfl <| .sk rfl rfl rfl <| .yy (Zu (.t rfl) Ev.c) rfl <| .z) fun a w S => Zb (Za (hK3 _ _ (Ze S (.t rfl) (wp_skip (Zk (Za (hK2 _ _ (wp_region_lit (run S (.mv rfl <| .ad (by unfold I64; omega) rfl <| .as rfl <| .z) fun a w S => Zb (Za ?_))))))))))
     exact ⟨(i + 1, B, cB), by dsimp only; omega, by dsimp only; omega, by dsimp only; rw [hst]; exact S.pk⟩
 obtain rfl : i = m := by omega
 have htl := told_len (goneK (l.take i) x.key) (l.take i) x
 have hur : UpdsRd w0 (toldU (goneK (l.take i) x.key) x (l.take i)) := fun u hu => by
   obtain ⟨y, hy9, rfl⟩ := List.mem_map.1 hu
   exact (hl y (List.mem_of_mem_take (List.mem_filter.1 hy9).1)).u
 have huk : ∀ u ∈ toldU (goneK (l.take i) x.key) x (l.take i), CartOk u.1.seen := fun u hu => by
   obtain ⟨y, hy9, rfl⟩ := List.mem_map.1 hu
   exact (logOk_is (hok y (List.mem_of_mem_take (List.mem_filter.1 hy9).1))).2.2
 have hR : rightK (l.take i) x = (decide ((meantK ((toldU (goneK (l.take i) x.key) x (l.take i)).map (·.1))).2 = 0) && (decide ((goneK (l.take i) x.key).foldl cutC (meantK ((toldU (goneK (l.take i) x.key) x (l.take i)).map (·.1))).1 = x.c.1) && leqL ((goneK (l.take i) x.key).foldl keepC x.s.1.ctx) x.c.1.ctx)) := rfl
 have hm1 := okS.mayM
 obtain ⟨hs0, hs1, hs2⟩ := cart_lens okS
 have hnS : Nf x.s.1.ctx := can_nf okS.ctx
 have hnC : Nf x.c.1.ctx := can_nf okC.ctx
 generalize toldU (goneK (l.take i) x.key) x (l.take i) = V at *
 generalize goneK (l.take i) x.key = pr at *
 by_cases hm0 : (meantK (V.map (·.1))).2 = 0
 rotate_left
 · have rw_m : decide ((meantK (V.map (·.1))).2 ≠ 0) = true := decide_eq_true hm0
   refine wp_seq_k fun _ hK2 => sg S (.mv rfl <| .mv rfl <| .ge (by omega) rfl rfl <| .z) fun a w S => Ze S (.t rfl) (wp_exit (Zh (Zh (Ya (Za (hK1 _ _ (wp_seq_k fun _ hK1 => wp_region_lit (run S (.mv rfl <| .z) fun a w S => ?_))))))))
   (refine Zj (Yb S call174 (.cons (.t rfl) .nil) (c174 _ _ _ (by exact Sl.of_own S.wd (k := 0) rfl (fun _ => rfl)) (by exact .old S.wd (by assumption)) (by omega) (by assumption) (by assumption)) rfl ?_); clear S a w; rintro _ _ ⟨A11, r11, A21, r21, A31, r31, rfl, rfl⟩ a w S)
   simp only [List.nil_append] at S
   refine run S (.mv rfl <| .ex rfl rfl <| .ex rfl rfl <| .z) fun a w S => Zj (Zn S zeroValue37 (cs := _) rfl rfl fun g2 a w S => Zj (Zq S sizeOf37 (.t rfl) (.t rfl) (k := 0) rfl rfl rfl (by simp [Value.oneCell']) fun a w S => run S (.as rfl <| .z) fun a w S => Zb (Za (hK1 _ _ (wp_seq_k fun _ hK1 => sg S (.mv rfl <| .yy (Yu (by omega) (Yh (.t rfl) Ev.c)) rfl <| .z) fun a w S => Zg S (.t rfl) (sg S (.ac rfl <| .z) fun a w S => wp_ret (Zd (Zm S (results1 S results129 (Rv.tmp rfl)) ?_))))))))
   exact ⟨by rw [hR, decide_eq_false hm0]; rfl, S.wd.below⟩
 have rw_m := hm0
 obtain ⟨M, rw_M⟩ : ∃ M, (meantK (V.map (·.1))).1 = M := ⟨_, rfl⟩
 have hMl := cart_lens (by rw [← rw_M]; exact meant_cart hm0 : CartOk M)
 refine wp_seq_k fun _ hK2 => sg S (.mv rfl <| .mv rfl <| .ge (by omega) rfl rfl <| .z) fun a w S => Ze S (.t rfl) (wp_exit (Zh (Zh (Ya (Za (hK1 _ _ (wp_seq_k fun _ hK1 => wp_region_lit (run S (.mv rfl <| .z) fun a w S => ?_))))))))
 (refine Zj (Yb S call174 (.cons (.t rfl) .nil) (c174 _ _ _ (by exact Sl.of_own S.wd (k := 0) rfl (fun _ => rfl)) (by exact .old S.wd (by assumption)) (by omega) (by assumption) (by assumption)) rfl ?_); clear S a w; rintro _ _ ⟨A11, r11, A21, r21, A31, r31, rfl, rfl⟩ a w S)
 simp only [List.nil_append] at S
 rw [rw_m] at S
 rw [rw_M] at S
 refine run S (.mv rfl <| .ex rfl rfl <| .ex rfl rfl <| .z) fun a w S => Zj (Zn S zeroValue37 (cs := _) rfl rfl fun g2 a w S => Zj (Zq S sizeOf37 (.t rfl) (.t rfl) (k := 0) rfl rfl rfl (by simp [Value.oneCell']) fun a w S => run S (.as rfl <| .z) fun a w S => Zb (Za (hK1 _ _ (wp_seq_k fun _ hK1 => sg S (.mv rfl <| .yy (Yq (by omega) (Yh (.t rfl) Ev.c)) rfl <| .z) fun a w S => Ze S (.t rfl) (wp_skip (Za (hK1 _ _ (wp_seq_k fun _ hK1 => wp_region_lit (run S (.fa underlying96 sizeOf37 16 rfl rfl rfl <| .fa underlying37 sizeOf35 17 rfl rfl rfl <| .la gt35 6 rfl rfl rfl <| .z) fun a w S => Zj (Zn S zeroValue35 (cs := _) rfl rfl fun g3 a w S => Zj (Zq S sizeOf35 (.t rfl) (.t rfl) (k := 0) rfl rfl rfl (by simp [Value.oneCell']) fun a w S => Zb (Za (hK1 _ _ (wp_seq_k fun _ hK1 => sg S (.ac rfl <| .z) fun a w S => wp_block ?_)))))))))))))))
 refine Xb S [13] (X := Nat × ((Option Addr × Nat) × (Option Addr × Nat) × (Option Addr × Nat)) × Cart × Option ((Option Addr × Nat) × (Option Addr × Nat)) × Ctx) (fun p => [(13, true, .int .i64 (p.1 : Int))])
   (fun p => match p.2.2.2.1 with
     | none => [rowOf 100 6 Ent.enc p.2.1.1.1 p.2.1.1.2 p.2.2.1.ents, rowOf 30 3 Dot.enc p.2.1.2.1.1 p.2.1.2.1.2 p.2.2.1.ctx.marks, rowOf 74 3 Dot.enc p.2.1.2.2.1 p.2.1.2.2.2 p.2.2.1.ctx.cloud, .blk g2 (.cells #[.slice p.2.1.1.1 p.2.2.1.ents.length p.2.1.1.2, .slice p.2.1.2.1.1 p.2.2.1.ctx.marks.length p.2.1.2.1.2, .slice p.2.1.2.2.1 p.2.2.1.ctx.cloud.length p.2.1.2.2.2] 37), .blk g3 (.cells #[.slice x.s.2.a2 x.s.2.n2 x.s.2.c2, .slice x.s.2.a3 x.s.2.n3 x.s.2.c3] 35), rowOf 77 10 SUpd.enc B cB V, rowOf 96 22 SLog.enc A1 r1 pr, .blk g1 (.cells (SLog.enc x).toArray 96)]
     | some o => [rowOf 100 6 Ent.enc p.2.1.1.1 p.2.1.1.2 p.2.2.1.ents, rowOf 30 3 Dot.enc p.2.1.2.1.1 p.2.1.2.1.2 p.2.2.1.ctx.marks, rowOf 74 3 Dot.enc p.2.1.2.2.1 p.2.1.2.2.2 p.2.2.1.ctx.cloud, .blk g2 (.cells #[.slice p.2.1.1.1 p.2.2.1.ents.length p.2.1.1.2, .slice p.2.1.2.1.1 p.2.2.1.ctx.marks.length p.2.1.2.1.2, .slice p.2.1.2.2.1 p.2.2.1.ctx.cloud.length p.2.1.2.2.2] 37), .blk g3 (.cells #[.slice o.1.1 p.2.2.2.2.marks.length o.1.2, .slice o.2.1 p.2.2.2.2.cloud.length o.2.2] 35), rowOf 30 3 Dot.enc o.1.1 o.1.2 p.2.2.2.2.marks, rowOf 74 3 Dot.enc o.2.1 o.2.2 p.2.2.2.2.cloud, rowOf 77 10 SUpd.enc B cB V, rowOf 96 22 SLog.enc A1 r1 pr, .blk g1 (.cells (SLog.enc x).toArray 96)])
   (fun p => p.1 ≤ pr.length ∧ p.2.2.1 = (pr.take p.1).foldl cutC M ∧ p.2.2.2.2 = (pr.take p.1).foldl keepC x.s.1.ctx ∧ (p.2.2.2.1 = none → p.2.2.2.2 = x.s.1.ctx) ∧ CutOk p.2.2.1 p.2.2.2.2 ∧ Nf p.2.2.2.2) (fun p => pr.length - p.1)
   (0, ((A11, r11), (A21, r21), (A31, r31)), M, none, x.s.1.ctx) ⟨Nat.zero_le _, rfl, rfl, fun _ => rfl, ⟨by dsimp only; omega, by dsimp only; omega, by dsimp only; omega, by dsimp only; omega, by dsimp only; omega, hm1⟩, hnS⟩ ?_
 clear S
 rintro ⟨j, ⟨⟨E1, e1⟩, ⟨E2, e2⟩, ⟨E3, e3⟩⟩, c, o, T⟩ a w ⟨hj, hcI, hTI, hoI, hok, hnT⟩ S
 dsimp only at hj hcI hTI hoI hok hnT S
 by_cases hlt2 : j < pr.length
 · obtain ⟨gP, rfl⟩ : ∃ gP, A1 = some ⟨gP, 0, none⟩ := by
     cases o with
     | none => exact S.wd.row_at (k := 6) rfl (by have := (S.wd.room (k := 6) rfl).1; omega)
     | some o => exact S.wd.row_at (k := 8) rfl (by have := (S.wd.room (k := 8) rfl).1; omega)
   obtain ⟨y, hy9⟩ : ∃ y, pr[j]? = some y := ⟨_, List.getElem?_eq_getElem hlt2⟩
   have hc2 : (pr.take (j + 1)).foldl cutC M = cutC c y := by rw [List.take_add_one, hy9, Option.toList_some, List.foldl_append, ← hcI]; rfl
   have hT2 : (pr.take (j + 1)).foldl keepC x.s.1.ctx = keepC T y := by rw [List.take_add_one, hy9, Option.toList_some, List.foldl_append, ← hTI]; rfl
   have hnT2 := keep_nf hnT y
   obtain ⟨k1, k2, k3, k4, k5, k6⟩ := id hok
   cases o with
   | none =>
     obtain rfl := hoI rfl
     have halt_d := trivial
     refine wp_seq_k fun _ hK3 => sg S (.mv rfl <| .mv rfl <| .ln underlying84 rfl <| .lt (by omega) rfl rfl <| .z) fun a w S => Zg S (.t rfl) (wp_skip (Za (hK3 _ _ (wp_seq_k fun _ hK3 => wp_block (wp_seq_k fun _ hK4 => Wr S (by kernel_rfl) [rowOf 100 6 Ent.enc E1 e1 c.ents, rowOf 30 3 Dot.enc E2 e2 c.ctx.marks, rowOf 74 3 Dot.enc E3 e3 c.ctx.cloud, .blk g3 (.cells #[.slice x.s.2.a2 x.s.2.n2 x.s.2.c2, .slice x.s.2.a3 x.s.2.n3 x.s.2.c3] 35), rowOf 77 10 SUpd.enc B cB V, rowOf 96 22 SLog.enc (some ⟨gP, 0, none⟩) r1 pr, .blk g1 (.cells (SLog.enc x).toArray 96)] ?_)))))
     clear S
     intro a w S
     have hold_r := trivial
     refine hy 1 S rfl (Zi (.t rfl)) rfl fun a w S => hy 2 S rfl (Zi (.t rfl)) rfl fun a w S => hy 3 S rfl (Ym underlying84 sizeOf96 (.t rfl) (.t rfl) (fun _ => by omega)) rfl fun a w S => hy 4 S rfl (Zy (FieldT.mk underlying96 rfl sizeOf66 rfl) (.t rfl)) rfl fun a w S => hy 5 S rfl (ys_ldWS ⟨isAgg66, sizeOf66⟩ (.t rfl) (vs := [_, _]) (k := 5) rfl hy9 (fun _ => rfl) rfl) rfl fun a w S => ?_
     refine h_q (i := 0) S (by repeat (first | exact List.Sublist.refl _ | exact List.nil_sublist _ | refine .cons_cons _ ?_ | refine .cons _ ?_)) rfl (by kernel_rfl) (Yr.ys (Zz ⟨isAgg37, sizeOf37⟩ (.t rfl) (k := 3) rfl rfl)) rfl fun a w S => ?_
     (refine h_m (i := 6) rfl (by kernel_rfl) (Yb S call70 (.cons (.t rfl) (.cons (.t rfl) .nil)) (c70 _ _ _ _ _ _ _ (by exact Sl.of_own S.wd (k := 0) rfl (fun _ => rfl)) (by exact ⟨(by exact Sl.of_own S.wd (k := 1) rfl (fun _ => rfl)), (by exact Sl.of_own S.wd (k := 2) rfl (fun _ => rfl))⟩) (by assumption) (by assumption) (by assumption)) rfl ?_); clear S a w; rintro _ _ ⟨A12, r12, A22, r22, A32, r32, rfl, rfl⟩ a w S; refine Yj S ?_)
     simp only [List.nil_append] at S
     (refine Xq (i := 7) rfl (by kernel_rfl) (Zq S sizeOf37 (.t rfl) (.t rfl) (k := 6) rfl rfl rfl (by simp [Value.oneCell']) ?_); clear S a w; intro a w S; refine Yj S ?_)
     refine Xf (by kernel_rfl) (Za (hK4 _ _ ?_))
     clear halt_d
     refine Wr S (by kernel_rfl) [rowOf 77 10 SUpd.enc B cB V, rowOf 96 22 SLog.enc (some ⟨gP, 0, none⟩) r1 pr, .blk g1 (.cells (SLog.enc x).toArray 96)] ?_
     clear S
     intro a w S
     have hold_r := trivial
     refine hy 1 S rfl (Zi (.t rfl)) rfl fun a w S => hy 2 S rfl (Zi (.t rfl)) rfl fun a w S => hy 3 S rfl (Ym underlying84 sizeOf96 (.t rfl) (.t rfl) (fun _ => by omega)) rfl fun a w S => hy 4 S rfl (Zy (FieldT.mk underlying96 rfl sizeOf66 rfl) (.t rfl)) rfl fun a w S => hy 5 S rfl (ys_ldWS ⟨isAgg66, sizeOf66⟩ (.t rfl) (vs := [_, _]) (k := 1) rfl hy9 (fun _ => rfl) rfl) rfl fun a w S => ?_
     refine h_q (i := 0) S (by repeat (first | exact List.Sublist.refl _ | exact List.nil_sublist _ | refine .cons_cons _ ?_ | refine .cons _ ?_)) rfl (by kernel_rfl) (Yr.ys (Zz ⟨isAgg35, sizeOf35⟩ (.t rfl) (k := 7) rfl rfl)) rfl fun a w S => ?_
     (refine h_m (i := 6) rfl (by kernel_rfl) (Yb S call144 (.cons (.t rfl) (.cons (.t rfl) .nil)) (c144 _ _ _ _ _ _ (by exact .old S.wd (by assumption)) (by assumption) (by assumption)) rfl ?_); clear S a w; rintro _ _ ⟨A13, r13, A23, r23, rfl, rfl⟩ a w S; refine Yj S ?_)
     (refine Xq (i := 7) rfl (by kernel_rfl) (Zq S sizeOf35 (.t rfl) (.t rfl) (k := 9) rfl rfl rfl (by simp [Value.oneCell']) ?_); clear S a w; intro a w S; refine Yj S ?_)
     refine Xf (by kernel_rfl) (Zk (Za (hK3 _ _ (wp_region_lit (run S (.mv rfl <| .ad (by unfold I64; omega) rfl <| .as rfl <| .z) fun a w S => Zb (Za ?_))))))
     exact ⟨(j + 1, ((A12, r12), (A22, r22), (A32, r32)), cutC c y, some ((A13, r13), (A23, r23)), keepC x.s.1.ctx y), ⟨by dsimp only; omega, hc2.symm, hT2.symm, fun h => (by cases h), hok.cut y, hnT2⟩, by dsimp only; omega, S.pk⟩
   | some o =>
     obtain ⟨⟨P1, p1⟩, ⟨P2, p2⟩⟩ := o
     dsimp only at S
     have halt_d := trivial
     refine wp_seq_k fun _ hK3 => sg S (.mv rfl <| .mv rfl <| .ln underlying84 rfl <| .lt (by omega) rfl rfl <| .z) fun a w S => Zg S (.t rfl) (wp_skip (Za (hK3 _ _ (wp_seq_k fun _ hK3 => wp_block (wp_seq_k fun _ hK4 => Wr S (by kernel_rfl) [rowOf 100 6 Ent.enc E1 e1 c.ents, rowOf 30 3 Dot.enc E2 e2 c.ctx.marks, rowOf 74 3 Dot.enc E3 e3 c.ctx.cloud, .blk g3 (.cells #[.slice P1 T.marks.length p1, .slice P2 T.cloud.length p2] 35), rowOf 30 3 Dot.enc P1 p1 T.marks, rowOf 74 3 Dot.enc P2 p2 T.cloud, rowOf 77 10 SUpd.enc B cB V, rowOf 96 22 SLog.enc (some ⟨gP, 0, none⟩) r1 pr, .blk g1 (.cells (SLog.enc x).toArray 96)] ?_)))))
     clear S
     intro a w S
     have hold_r := trivial
     refine hy 1 S rfl (Zi (.t rfl)) rfl fun a w S => hy 2 S rfl (Zi (.t rfl)) rfl fun a w S => hy 3 S rfl (Ym underlying84 sizeOf96 (.t rfl) (.t rfl) (fun _ => by omega)) rfl fun a w S => hy 4 S rfl (Zy (FieldT.mk underlying96 rfl sizeOf66 rfl) (.t rfl)) rfl fun a w S => hy 5 S rfl (ys_ldWS ⟨isAgg66, sizeOf66⟩ (.t rfl) (vs := [_, _]) (k := 7) rfl hy9 (fun _ => rfl) rfl) rfl fun a w S => ?_
     refine h_q (i := 0) S (by repeat (first | exact List.Sublist.refl _ | exact List.nil_sublist _ | refine .cons_cons _ ?_ | refine .cons _ ?_)) rfl (by kernel_rfl) (Yr.ys (Zz ⟨isAgg37, sizeOf37⟩ (.t rfl) (k := 3) rfl rfl)) rfl fun a w S => ?_
     (refine h_m (i := 6) rfl (by kernel_rfl) (Yb S call70 (.cons (.t rfl) (.cons (.t rfl) .nil)) (c70 _ _ _ _ _ _ _ (by exact Sl.of_own S.wd (k := 0) rfl (fun _ => rfl)) (by exact ⟨(by exact Sl.of_own S.wd (k := 1) rfl (fun _ => rfl)), (by exact Sl.of_own S.wd (k := 2) rfl (fun _ => rfl))⟩) (by assumption) (by assumption) (by assumption)) rfl ?_); clear S a w; rintro _ _ ⟨A12, r12, A22, r22, A32, r32, rfl, rfl⟩ a w S; refine Yj S ?_)
     (refine Xq (i := 7) rfl (by kernel_rfl) (Zq S sizeOf37 (.t rfl) (.t rfl) (k := 6) rfl rfl rfl (by simp [Value.oneCell']) ?_); clear S a w; intro a w S; refine Yj S ?_)
     refine Xf (by kernel_rfl) (Za (hK4 _ _ ?_))
     clear halt_d
     refine Wr S (by kernel_rfl) [rowOf 30 3 Dot.enc P1 p1 T.marks, rowOf 74 3 Dot.enc P2 p2 T.cloud, rowOf 77 10 SUpd.enc B cB V, rowOf 96 22 SLog.enc (some ⟨gP, 0, none⟩) r1 pr, .blk g1 (.cells (SLog.enc x).toArray 96)] ?_
     clear S
     intro a w S
     have hold_r := trivial
     refine hy 1 S rfl (Zi (.t rfl)) rfl fun a w S => hy 2 S rfl (Zi (.t rfl)) rfl fun a w S => hy 3 S rfl (Ym underlying84 sizeOf96 (.t rfl) (.t rfl) (fun _ => by omega)) rfl fun a w S => hy 4 S rfl (Zy (FieldT.mk underlying96 rfl sizeOf66 rfl) (.t rfl)) rfl fun a w S => hy 5 S rfl (ys_ldWS ⟨isAgg66, sizeOf66⟩ (.t rfl) (vs := [_, _]) (k := 3) rfl hy9 (fun _ => rfl) rfl) rfl fun a w S => ?_
     refine h_q (i := 0) S (by repeat (first | exact List.Sublist.refl _ | exact List.nil_sublist _ | refine .cons_cons _ ?_ | refine .cons _ ?_)) rfl (by kernel_rfl) (Yr.ys (Zz ⟨isAgg35, sizeOf35⟩ (.t rfl) (k := 7) rfl rfl)) rfl fun a w S => ?_
     (refine h_m (i := 6) rfl (by kernel_rfl) (Yb S call144 (.cons (.t rfl) (.cons (.t rfl) .nil)) (c144 _ _ _ _ _ _ (by exact ⟨(by exact Sl.of_own S.wd (k := 8) rfl (fun _ => rfl)), (by exact Sl.of_own S.wd (k := 9) rfl (fun _ => rfl))⟩) (by assumption) (by assumption)) rfl ?_); clear S a w; rintro _ _ ⟨A13, r13, A23, r23, rfl, rfl⟩ a w S; refine Yj S ?_)
     (refine Xq (i := 7) rfl (by kernel_rfl) (Zq S sizeOf35 (.t rfl) (.t rfl) (k := 9) rfl rfl rfl (by simp [Value.oneCell']) ?_); clear S a w; intro a w S; refine Yj S ?_)
     refine Xf (by kernel_rfl) (Zk (Za (hK3 _ _ (wp_region_lit (run S (.mv rfl <| .ad (by unfold I64; omega) rfl <| .as rfl <| .z) fun a w S => Zb (Za ?_))))))
     exact ⟨(j + 1, ((A12, r12), (A22, r22), (A32, r32)), cutC c y, some ((A13, r13), (A23, r23)), keepC T y), ⟨by dsimp only; omega, hc2.symm, hT2.symm, fun h => (by cases h), hok.cut y, hnT2⟩, by dsimp only; omega, S.pk⟩
 obtain rfl : j = pr.length := by omega
 rw [List.take_length] at hcI hTI
 have rw_L := leqR_eq hnT hnC
 have hfin : rightK (l.take i) x = (decide (c = x.c.1) && leqL T x.c.1.ctx) := by rw [hR, decide_eq_true hm0, rw_M, ← hcI, ← hTI]; rfl
 cases o with
 | none =>
   obtain rfl := hoI rfl
   refine wp_seq_k fun _ hK3 => sg S (.mv rfl <| .mv rfl <| .ln underlying84 rfl <| .ge (by omega) rfl rfl <| .z) fun a w S => Ze S (.t rfl) (wp_exit (Zh (Zh (Ya (Za (hK1 _ _ (wp_seq_k fun _ hK1 => wp_region_lit (run S (.la gt37 3 rfl rfl rfl <| .fa underlying96 sizeOf37 19 rfl rfl rfl <| .la gt37 7 rfl rfl rfl <| .xx (Zf call101 (.cons (.t rfl) (.cons (.t rfl) .nil)) (fun hp w W => c101 _ _ _ _ _ _ _ _ _ (by exact Sl.of_own W (k := 0) rfl (fun _ => rfl)) (by exact ⟨(by exact Sl.of_own W (k := 1) rfl (fun _ => rfl)), (by exact Sl.of_own W (k := 2) rfl (fun _ => rfl))⟩) (by exact .old W (by assumption)) (by exact .old W (by assumption)))) rfl <| .z) fun a w S => ?_))))))))
   simp only [List.nil_append] at S
   refine run S (.mv rfl <| .z) fun a w S => Yd S rfl rfl (Yr.ys (Zz ⟨isAgg35, sizeOf35⟩ (.t rfl) (k := 4) rfl rfl)) rfl fun a w S => Yd S rfl rfl (Yr.ys (Zc (FieldT.mk underlying96 rfl sizeOf37 rfl) (.t rfl) (i' := 19) rfl)) rfl fun a w S => Yd S rfl rfl (Yr.ys (Zc (FieldT.mk underlying37 rfl sizeOf35 rfl) (Ev.g rfl) (i' := 20) rfl)) rfl fun a w S => Yd S rfl rfl (Yr.ys (Zz ⟨isAgg35, sizeOf35⟩ (Ev.g rfl) (k := 7) rfl rfl)) rfl fun a w S => Yd S rfl rfl (Zf call175 (.cons (Ev.g rfl) (.cons (Ev.g rfl) .nil)) (fun hp w W => c175 _ _ _ _ _ _ _ (by exact .old W (by assumption)) (by exact .old W (by assumption)))) rfl fun a w S => ?_
   rw [rw_L] at S
   refine run S (.yy (Xn (.t rfl) (Ev.g rfl) Ev.c) rfl <| .as rfl <| .z) fun a w S => Zb (Za (hK1 _ _ (wp_ret (Zm S (results1 S results129 (Rv.tmp rfl)) ?_))))
   exact ⟨by rw [hfin], S.wd.below⟩
 | some o =>
   obtain ⟨⟨P1, p1⟩, ⟨P2, p2⟩⟩ := o
   dsimp only at S
   refine wp_seq_k fun _ hK3 => sg S (.mv rfl <| .mv rfl <| .ln underlying84 rfl <| .ge (by omega) rfl rfl <| .z) fun a w S => Ze S (.t rfl) (wp_exit (Zh (Zh (Ya (Za (hK1 _ _ (wp_seq_k fun _ hK1 => wp_region_lit (run S (.la gt37 3 rfl rfl rfl <| .fa underlying96 sizeOf37 19 rfl rfl rfl <| .la gt37 9 rfl rfl rfl <| .xx (Zf call101 (.cons (.t rfl) (.cons (.t rfl) .nil)) (fun hp w W => c101 _ _ _ _ _ _ _ _ _ (by exact Sl.of_own W (k := 0) rfl (fun _ => rfl)) (by exact ⟨(by exact Sl.of_own W (k := 1) rfl (fun _ => rfl)), (by exact Sl.of_own W (k := 2) rfl (fun _ => rfl))⟩) (by exact .old W (by assumption)) (by exact .old W (by assumption)))) rfl <| .mv rfl <| .z) fun a w S => Yd S rfl rfl (Yr.ys (Zz ⟨isAgg35, sizeOf35⟩ (.t rfl) (k := 4) rfl rfl)) rfl fun a w S => Yd S rfl rfl (Yr.ys (Zc (FieldT.mk underlying96 rfl sizeOf37 rfl) (.t rfl) (i' := 19) rfl)) rfl fun a w S => Yd S rfl rfl (Yr.ys (Zc (FieldT.mk underlying37 rfl sizeOf35 rfl) (Ev.g rfl) (i' := 20) rfl)) rfl fun a w S => Yd S rfl rfl (Yr.ys (Zz ⟨isAgg35, sizeOf35⟩ (Ev.g rfl) (k := 9) rfl rfl)) rfl fun a w S => ?_))))))))
   refine Yd S rfl rfl (Zf call175 (.cons (Ev.g rfl) (.cons (Ev.g rfl) .nil)) (fun hp w W => c175 _ _ _ _ _ _ _ (by exact ⟨(by exact Sl.of_own W (k := 5) rfl (fun _ => rfl)), (by exact Sl.of_own W (k := 6) rfl (fun _ => rfl))⟩) (by exact .old W (by assumption)))) rfl fun a w S => ?_
   rw [rw_L] at S
   refine run S (.yy (Xn (.t rfl) (Ev.g rfl) Ev.c) rfl <| .as rfl <| .z) fun a w S => Zb (Za (hK1 _ _ (wp_ret (Zm S (results1 S results129 (Rv.tmp rfl)) ?_))))
   exact ⟨by rw [hfin], S.wd.below⟩
theorem c54 (w0 : World) (v : Value) (l : List SLog) (h : Sl SLog.enc 22 w0 w0.heap.size v l) (hl : LogsRd w0 l) (hn : l.length ≤ 1048576) (hok : ∀ p ∈ l, logOk p = true) (hB : ∀ i x, l[i]? = some x → RoomU ((toldU (goneK (l.take i) x.key) x (l.take i)).map (·.1))) :
   Calls Tryz.prog 54 #[v] w0 fun e w' => e = .returned (.tuple #[.int .i64 (readsK l).1, .int .i64 (readsK l).2]) ∧ Bel w0.heap.size w0 w' := by
 have hs := h
 obtain ⟨A, cap, rfl, hl0, hcap, hA⟩ := h
 refine enter1 func54 rfl ntmps54 rfl fun a S => sg S (.ac rfl <| .ac rfl <| .z) fun a w S => wp_seq_k fun _ hK1 => sg S (.ac rfl <| .z) fun a w S => wp_block ?_
 refine Xb S [4] (X := Nat) (fun q => [(4, true, .int .i64 (q : Int))]) (fun q => [])
   (fun q => q ≤ l.length ∧ readsF l q (l.drop q) = readsK l) (fun q => l.length - q) 0 ⟨Nat.zero_le _, rfl⟩ ?_
 clear S
 rintro q a w ⟨hq, hF⟩ S
 by_cases hlt : q < l.length
 · obtain ⟨gq, oq, x, rfl, hx, hd, hc⟩ := Yg hA hlt
   rw [readsF_at hx] at hF
   have hroom := hB q x hx
   by_cases hk : x.kind = 3
   · have rw_k := decide_eq_true hk
     rw [if_pos hk] at hF
     cases hRB : rightK (l.take q) x with
     | true =>
       have rw_B := hRB
       rw [if_pos hRB] at hF
       refine wp_seq_k fun _ hK2 => sg S (.mv rfl <| .mv rfl <| .ln underlying84 rfl <| .lt (by omega) rfl rfl <| .z) fun a w S => Zg S (.t rfl) (wp_skip (Za (hK2 _ _ (wp_seq_k fun _ hK2 => wp_block (wp_seq_k fun _ hK3 => wp_region_lit (run S (.mv rfl <| .mv rfl <| .ix underlying84 sizeOf96 (by omega) rfl rfl <| .yy (Zy (FieldT.mk underlying96 rfl sizeOf3 rfl) (.t rfl)) rfl <| .yy (Yv ⟨isAgg3, sizeOf3⟩ (.t rfl) (fun _ => hc _ _ rfl)) rfl <| .yy (Yu (by omega) (Ye (.t rfl) Ev.c)) rfl <| .mv rfl <| .gy rfl rfl (Zi (.t rfl)) <| .gy rfl rfl (Zi (.t rfl)) <| .gx rfl rfl (Zf call129 (.cons (.t rfl) (.cons (.t rfl) .nil)) (fun hp w W => c129 _ _ _ _ _ (by exact .old W (by assumption)) (by assumption) (by exact .old W (by assumption)) (by assumption) (by assumption) (by assumption))) <| .z) fun a w S => ?_))))))
       rw [rw_B] at S
       refine run S (.gy rfl rfl (Xh (.t rfl)) <| .yy (Zv (.t rfl) (.t rfl)) rfl <| .z) fun a w S => Zb (Za (hK3 _ _ (Ze S (.t rfl) (wp_skip (Zk (Za (hK2 _ _ (wp_region_lit (run S (.mv rfl <| .ad (by unfold I64; omega) rfl <| .as rfl <| .z) fun a w S => Zb (Za ?_))))))))))
       exact ⟨q + 1, ⟨by omega, hF⟩, by omega, S.pk⟩
     | false =>
       have rw_B := hRB
       rw [if_neg (by rw [hRB]; decide)] at hF
       refine wp_seq_k fun _ hK2 => sg S (.mv rfl <| .mv rfl <| .ln underlying84 rfl <| .lt (by omega) rfl rfl <| .z) fun a w S => Zg S (.t rfl) (wp_skip (Za (hK2 _ _ (wp_seq_k fun _ hK2 => wp_block (wp_seq_k fun _ hK3 => wp_region_lit (run S (.mv rfl <| .mv rfl <| .ix underlying84 sizeOf96 (by omega) rfl rfl <| .yy (Zy (FieldT.mk underlying96 rfl sizeOf3 rfl) (.t rfl)) rfl <| .yy (Yv ⟨isAgg3, sizeOf3⟩ (.t rfl) (fun _ => hc _ _ rfl)) rfl <| .yy (Yu (by omega) (Ye (.t rfl) Ev.c)) rfl <| .mv rfl <| .gy rfl rfl (Zi (.t rfl)) <| .gy rfl rfl (Zi (.t rfl)) <| .gx rfl rfl (Zf call129 (.cons (.t rfl) (.cons (.t rfl) .nil)) (fun hp w W => c129 _ _ _ _ _ (by exact .old W (by assumption)) (by assumption) (by exact .old W (by assumption)) (by assumption) (by assumption) (by assumption))) <| .z) fun a w S => ?_))))))
       rw [rw_B] at S
       refine run S (.gy rfl rfl (Xh (.t rfl)) <| .yy (Zv (.t rfl) (.t rfl)) rfl <| .z) fun a w S => Zb (Za (hK3 _ _ (Zg S (.t rfl) (sg S (.mv rfl <| .as rfl <| .ac rfl <| .z) fun a w S => wp_ret (Zr (Zd (Zd (Zr (Zd (Zm S (results2 S results54 (Rv.tmp rfl) (Rv.tmp rfl)) ?_))))))))))
       rw [← hF]
       exact ⟨rfl, S.wd.below⟩
   · have rw_k := decide_eq_false hk
     rw [if_neg hk] at hF
     refine wp_seq_k fun _ hK2 => sg S (.mv rfl <| .mv rfl <| .ln underlying84 rfl <| .lt (by omega) rfl rfl <| .z) fun a w S => Zg S (.t rfl) (wp_skip (Za (hK2 _ _ (wp_seq_k fun _ hK2 => wp_block (sg S (.mv rfl <| .mv rfl <| .ix underlying84 sizeOf96 (by omega) rfl rfl <| .yy (Zy (FieldT.mk underlying96 rfl sizeOf3 rfl) (.t rfl)) rfl <| .yy (Yv ⟨isAgg3, sizeOf3⟩ (.t rfl) (fun _ => hc _ _ rfl)) rfl <| .yy (Yq (by omega) (Ye (.t rfl) Ev.c)) rfl <| .mv rfl <| .sk rfl rfl rfl <| .sk rfl rfl rfl <| .sk rfl rfl rfl <| .sk rfl rfl rfl <| .yy (Zu (.t rfl) Ev.c) rfl <| .z) fun a w S => Ze S (.t rfl) (wp_skip (Zk (Za (hK2 _ _ (wp_region_lit (run S (.mv rfl <| .ad (by unfold I64; omega) rfl <| .as rfl <| .z) fun a w S => Zb (Za ?_))))))))))))
     exact ⟨q + 1, ⟨by omega, hF⟩, by omega, S.pk⟩
 obtain rfl : q = l.length := by omega
 rw [List.drop_length] at hF
 refine wp_seq_k fun _ hK2 => sg S (.mv rfl <| .mv rfl <| .ln underlying84 rfl <| .ge (by omega) rfl rfl <| .z) fun a w S => Ze S (.t rfl) (wp_exit (Zh (Zh (Ya (Za (hK1 _ _ (sg S (.ac rfl <| .ac rfl <| .z) fun a w S => wp_ret (Zm S (results2 S results54 (Rv.tmp rfl) (Rv.tmp rfl)) ?_))))))))
 rw [← hF]
 exact ⟨rfl, S.wd.below⟩
end Go.Proofs.YtakpdbmdfnialaaGreat
namespace Go.Fw
open Go.RowKit
theorem issuedF_nul : ∀ (l : List SLog) (i : Nat) (met : List Nam), issuedF i met (l.map SLog.nul) = issuedF i met l
 | [], i, met => rfl
 | x :: r, i, met => by
   rw [List.map_cons, issuedF, issuedF, issuedF_nul r, issuedF_nul r]
   rfl
theorem issued_nul (l : List SLog) : issuedK (l.map SLog.nul) = issuedK l := issuedF_nul l 0 []
theorem issued_like {s l : List SLog} (h : s.map SLog.nul = l.map SLog.nul) : issuedK s = issuedK l := by rw [← issued_nul s, h, issued_nul]
theorem gone_nul (l : List SLog) (key : List UInt8) : goneK (l.map SLog.nul) key = (goneK l key).map SLog.nul := by
 unfold goneK
 rw [List.filter_map]
 rfl
theorem forgot_nul (l : List SLog) (d : Dot) : forgotK (l.map SLog.nul) d = forgotK l d := by
 unfold forgotK
 rw [List.any_map]
 rfl
theorem told_nul (pr : List SLog) (x : SLog) (l : List SLog) : (toldU (pr.map SLog.nul) x.nul (l.map SLog.nul)).map (·.1) = (toldU pr x l).map (·.1) := by
 unfold toldU
 rw [List.filter_map, List.map_map, List.map_map, List.map_map]
 have e : (toldB (pr.map SLog.nul) x.nul ∘ SLog.nul) = toldB pr x := by
   funext y
   show toldB (pr.map SLog.nul) x.nul y.nul = toldB pr x y
   unfold toldB
   rw [forgot_nul]
   rfl
 rw [e]
 rfl
theorem right_nul (l : List SLog) (x : SLog) : rightK (l.map SLog.nul) x.nul = rightK l x := by
 unfold rightK
 rw [show x.nul.key = x.key from rfl, gone_nul, told_nul, List.foldl_map, List.foldl_map]
 rfl
theorem readsF_nul (l : List SLog) : ∀ (r : List SLog) (i : Nat), readsF (l.map SLog.nul) i (r.map SLog.nul) = readsF l i r
 | [], i => rfl
 | x :: r, i => by
   rw [List.map_cons, readsF, readsF, readsF_nul l r, ← List.map_take, right_nul]
   rfl
theorem reads_nul (l : List SLog) : readsK (l.map SLog.nul) = readsK l := readsF_nul l l 0
theorem reads_like {s l : List SLog} (h : s.map SLog.nul = l.map SLog.nul) : readsK s = readsK l := by rw [← reads_nul s, h, reads_nul]
theorem nul_mem {s l : List SLog} (h : s.map SLog.nul = l.map SLog.nul) {x : SLog} (hx : x ∈ s) : ∃ y ∈ l, y.nul = x.nul := by
 have h2 : x.nul ∈ s.map SLog.nul := List.mem_map_of_mem hx
 rw [h] at h2
 exact List.mem_map.1 h2
theorem logOk_nul (x : SLog) : logOk x.nul = logOk x := rfl
theorem logOk_like {s l : List SLog} (h : s.map SLog.nul = l.map SLog.nul) (hl : l.all logOk = true) : s.all logOk = true := List.all_eq_true.2 fun x hx => by
 obtain ⟨y, hy, e⟩ := nul_mem h hx
 rw [← logOk_nul, ← e, logOk_nul]
 exact List.all_eq_true.1 hl y hy
theorem jrn_ok {s : List SLog} (hk : s.all logOk = true) : ∀ x ∈ s, CartOk x.s.1 ∧ ∀ m ∈ x.c.1.ctx.marks, mayD m = true := fun x hx => by
 obtain ⟨h1, h2, _⟩ := logOk_is (List.all_eq_true.1 hk x hx)
 exact ⟨h1, h2.mayM⟩
theorem like_len {s l : List SLog} (h : s.map SLog.nul = l.map SLog.nul) : s.length = l.length := by
 have := congrArg List.length h
 simpa using this
end Go.Fw
namespace Go.Proofs.YtakpdbmdfnialaaGreat
open Go.Fw Go.Proofs Go.RowKit Go.Proofs.Tryz
theorem c12 (w0 : World) (v : Value) (l : List SLog) (h : Sl SLog.enc 22 w0 w0.heap.size v l) (hc : LogsRd w0 l) (hb : SmallL l) (hn : l.length ≤ 1048576) (hS1 : sumMk l ≤ 1900000) (hS2 : sumCl l ≤ 1900000) :
   Calls Tryz.prog 12 #[v] w0 fun e w' => e = .returned (.bool true) ∧ Bel w0.heap.size w0 w' := by
 have hs := h
 obtain ⟨A, cap, rfl, hl, hcap, hA⟩ := h
 cases hk : l.all logOk with
 | false =>
   have rw_k := hk
   refine enter1 func12 rfl ntmps12 rfl fun a S => sg S (.ac rfl <| .z) fun a w S => wp_seq_k fun _ hK1 => wp_seq_k fun _ hK2 => wp_region_lit (run S (.mv rfl <| .xx (Zf call41 (.cons (.t rfl) .nil) (fun hp w W => c41 _ _ _ (by exact .old W (by assumption)) (by exact .old W (by assumption)))) rfl <| .z) fun a w S => ?_)
   rw [rw_k] at S
   refine run S (.nt rfl <| .z) fun a w S => Zb (Za (hK2 _ _ (Zg S (.t rfl) (sg S (.xx (Zf call38 .nil (fun hp w W => c38 _)) rfl <| .as rfl <| .z) fun a w S => wp_ret (Zd (Zm S (results1 S results12 (Rv.tmp rfl)) ?_))))))
   all_goals exact ⟨rfl, S.wd.below⟩
 | true =>
   have rw_k := hk
   have hall := List.all_eq_true.1 hk
   have hroom : ∀ i x, l[i]? = some x → RoomU ((toldU (goneK (l.take i) x.key) x (l.take i)).map (·.1)) := fun i x _ => room_sum hS1 hS2 _ _ _
   have rw_1 : ∀ x : Int, decide (x = x) = true := fun x => decide_eq_true rfl
   have rw_2 : ∀ x : Int, decide (x ≠ x) = false := fun x => decide_eq_false (fun e => e rfl)
   refine enter1 func12 rfl ntmps12 rfl fun a S => sg S (.ac rfl <| .z) fun a w S => wp_seq_k fun _ hK1 => wp_seq_k fun _ hK2 => wp_region_lit (run S (.mv rfl <| .xx (Zf call41 (.cons (.t rfl) .nil) (fun hp w W => c41 _ _ _ (by exact .old W (by assumption)) (by exact .old W (by assumption)))) rfl <| .z) fun a w S => ?_)
   rw [rw_k] at S
   refine run S (.nt rfl <| .z) fun a w S => Zb (Za (hK2 _ _ (Ze S (.t rfl) (wp_skip (Za (hK1 _ _ (wp_seq_k fun _ hK1 => wp_region_lit (run S (.mv rfl <| .z) fun a w S => ?_))))))))
   (refine Zj (Yb S call43 (.cons (.t rfl) .nil) (c43 _ _ _ (by exact .old S.wd (by assumption)) (by exact .old S.wd (by assumption)) (by assumption) (by assumption)) rfl ?_); clear S a w; rintro _ _ ⟨A1, r1, s1, w11, bs1, rfl, rfl, hr11, hr21⟩ a w S)
   refine run S (.as rfl <| .z) fun a w S => Zb (Za (hK1 _ _ (wp_seq_k fun _ hK1 => wp_region_lit (run S (.mv rfl <| .z) fun a w S => ?_))))
   have m1 : s1.map SLog.nul = l.map SLog.nul := by assumption
   have i1 : ∀ p ∈ s1, LogIn w11 bs1 p := by assumption
   have n1 := like_len m1
   have z1 := sum_like m1
   refine Yk S (Zf call52 (.cons (.t rfl) .nil) (fun _ w' W' => c52 w' _ s1 (Sl.of_own W' (k := 0) rfl (fun _ => rfl)) (fun x hx => (i1 x hx).rd W' (k := 1) rfl))) rfl ?_
   clear S a w
   intro a w S
   rw [issued_like m1] at S
   refine run S (.mv rfl <| .ex rfl rfl <| .ex rfl rfl <| .as rfl <| .as rfl <| .z) fun a w S => Zb (Za (hK1 _ _ (sg S (.mv rfl <| .xx (Zf call53 (.cons (.t rfl) .nil) (fun hp w W => c53 _ _ _ (by exact .old W (by assumption)) (by exact .old W (by assumption)) (by assumption))) rfl <| .mv rfl <| .ex rfl rfl <| .ex rfl rfl <| .as rfl <| .as rfl <| .z) fun a w S => wp_seq_k fun _ hK1 => sg S (.mv rfl <| .mv rfl <| .yy (Yq (by omega) (Yh (.t rfl) (.t rfl))) rfl <| .mv rfl <| .gy rfl rfl (Zi (.t rfl)) <| .gy rfl rfl (Zi (.t rfl)) <| .gy rfl rfl (Yq (by omega) (Yh (.t rfl) (.t rfl))) <| .yy (Zu (.t rfl) (.t rfl)) rfl <| .z) fun a w S => Ze S (.t rfl) (wp_skip (Za (hK1 _ _ (wp_seq_k fun _ hK1 => wp_region_lit (run S (.mv rfl <| .z) fun a w S => Yk S (Zf call51 (.cons (.t rfl) .nil) (fun _ w' W' => c51 w' _ s1 (Sl.of_own W' (k := 0) rfl (fun _ => rfl)) (jrn_sum (fun x hx => (i1 x hx).rd W' (k := 1) rfl) (by omega) (by omega) (by omega) (jrn_ok (logOk_like m1 hk))))) rfl ?_))))))))
   clear S a w
   intro a w S
   rw [reads_like m1] at S
   refine run S (.mv rfl <| .ex rfl rfl <| .ex rfl rfl <| .as rfl <| .as rfl <| .z) fun a w S => Zb (Za (hK1 _ _ (sg S (.mv rfl <| .xx (Zf call54 (.cons (.t rfl) .nil) (fun hp w W => c54 _ _ _ (by exact .old W (by assumption)) (by exact .old W (by assumption)) (by assumption) (by assumption) (by assumption))) rfl <| .mv rfl <| .ex rfl rfl <| .ex rfl rfl <| .as rfl <| .as rfl <| .z) fun a w S => wp_seq_k fun _ hK1 => wp_region_lit (run S (.mv rfl <| .mv rfl <| .yy (Yu (by omega) (Ye (.t rfl) (.t rfl))) rfl <| .mv rfl <| .gy rfl rfl (Zi (.t rfl)) <| .gy rfl rfl (Zi (.t rfl)) <| .gy rfl rfl (Yu (by omega) (Ye (.t rfl) (.t rfl))) <| .yy (Zv (.t rfl) (.t rfl)) rfl <| .mv rfl <| .gy rfl rfl (Zi (.t rfl)) <| .gy rfl rfl (Zi (.t rfl)) <| .z) fun a w S => st_yt S rfl rfl (Zf call49 (.cons (.t rfl) (.cons (.t rfl) .nil)) (fun _ w' W' => c49 w' _ _ s1 l (Sl.of_own W' (k := 0) rfl (fun _ => rfl)) (.old W' hs) (fun x hx => (i1 x hx).rd W' (k := 1) rfl) (fun x hx => .old W' (hc x hx)) m1)) rfl ?_))))
   clear S a w
   intro a w S
   refine run S (.yy (Zv (.t rfl) (.t rfl)) rfl <| .mv rfl <| .gx rfl rfl (Zf call38 .nil (fun hp w W => c38 _)) <| .yy (Zv (.t rfl) (.t rfl)) rfl <| .as rfl <| .z) fun a w S => Zb (Za (hK1 _ _ (wp_ret (Zm S (results1 S results12 (Rv.tmp rfl)) ?_))))
   exact ⟨rfl, S.wd.below⟩
end Go.Proofs.YtakpdbmdfnialaaGreat
