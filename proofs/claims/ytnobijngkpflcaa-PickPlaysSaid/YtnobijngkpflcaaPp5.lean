/-
  The law PickPlays of package legatelaw11 returns true for every input, and leaves its arguments as they were. No condition beyond the row's own.
-/
import Derived.Test.YtnobijngkpflcaaPp4
namespace Go.Proofs.Ytnobijngkpflcaa
open Go.Eng
set_option maxRecDepth 100000 in
theorem yTake_ok (m : ByteArray) (hm : m.size ≤ maxLen) (kd : Nat) (x : V) (hxt : x.t.size ≤ maxLen) (w : World) (S G : BSet) (cn ci : Value) (bx lo : Nat) (av : Value) (hd : Option Nat) (L : List ByteArray) (hL : L.length ≤ 100000) (hM : ∀ b ∈ bx :: (blks hd ++ []), ∀ o, ¬ S b o) (hv : Rd w S (strsD x.ns) cn) (hu : Rd w S (valsD x.xs) ci) (own_bx : Own w bx [.int .u8 x.k, .int .i64 x.n, .string x.t, cn, ci, av, .int .i64 (0)] 56) (A_ar : Arr w lo 9 1 (SA w G (bx :: (blks hd ++ []))) (List.map D.str L) av hd) (nb : bx ∉ blks hd) (hlo : lo ≤ w.heap.size) (hG : ∀ b o, G b o → Cln o) : Calls Try.prog 141 #[.pointer (some ⟨bx, 0, none⟩), .string m, .int .u8 kd] w (RetL w (bx :: (blks hd ++ [])) fun u W => RowR 56 9 w W lo S G bx (fun av => [.int .u8 x.k, .int .i64 x.n, .string x.t, cn, ci, av, .int .i64 (rtE x m kd)]) (L ++ [m]) hd (PhT (rtV x m kd) (rtB x m kd)) u) := by
 obtain ⟨cna, cnc, ev, D_cn⟩ := rdS_out (rd_argM (M := (bx :: (blks hd ++ []))) hv hM)
 subst ev
 obtain ⟨cia, cic, ev, D_ci⟩ := rdVs_out (rd_argM (M := (bx :: (blks hd ++ []))) hu hM)
 subst ev
 refine enter Try.func141 rfl Try.ntmps141 (lbr rfl) fun a0 y0 zz0 harg => ?_
 have e0 : sl a0 0 = (.pointer (some ⟨bx, 0, none⟩)) := harg 0 (lbr rfl)
 have e1 : sl a0 1 = (.string (m)) := harg 1 (lbr rfl)
 have e2 : sl a0 2 = (.int .u8 ((kd : Nat))) := harg 2 (lbr rfl)
 have kw := Keeps.refl (fun k => k ∉ (bx :: (blks hd ++ []))) w
 clear harg
 refine zq fun K1 hK1 => ?_
 refine rg mixed y0 zz0 ?_
 refine .alloc z33 ?_
 refine .ac ?_
 refine .dn fun a2 g W2 y2 zz2 hk hg hV hR hP => ?_
 obtain ⟨-, ⟨b6_2, e6, hb6, own_b6_2⟩, -⟩ := hV
 have lo_b6_2 : w.heap.size ≤ b6_2 := Nat.le_trans kw.size (hg.lo _ _ hb6)
 have ne_bx_b6_2 : bx ≠ b6_2 := Nat.ne_of_lt (Nat.lt_of_lt_of_le own_bx.lt (hg.lo _ _ hb6))
 have own_b6_2 : Own W2 b6_2 z5C 33 := own_b6_2
 replace e0 := ft hR e0
 replace e1 := ft hR e1
 replace e2 := ft hR e2
 have nb_b6_2_ar : b6_2 ∉ blks hd := nb_lt A_ar.lt (hg.lo _ _ hb6)
 replace A_ar : Arr W2 lo 9 1 (SA w G (b6_2 :: (bx :: (blks hd ++ [])))) (List.map D.str (L)) av hd := arrA_more A_ar hk [b6_2] (in_cons (hg.lo _ _ hb6) in_nil)
 replace D_cn : Rd W2 (SA w S (b6_2 :: (bx :: (blks hd ++ [])))) (strsD (x.ns)) (.slice cna (x.ns.length) cnc) := sa_more D_cn hk [b6_2] (in_cons (hg.lo _ _ hb6) in_nil)
 replace D_ci : Rd W2 (SA w S (b6_2 :: (bx :: (blks hd ++ [])))) (valsD (x.xs)) (.slice cia (x.xs.length) cic) := sa_more D_ci hk [b6_2] (in_cons (hg.lo _ _ hb6) in_nil)
 replace own_bx := own_bx.ext hk
 replace kw := kw.x hk
 clear hR hk hg hP hb6
 refine zn (hK1 _ _ ?_)
 refine zq fun K3 hK3 => ?_
 refine zq fun K4 hK4 => ?_
 refine rg mixed y2 zz2 ?_
 refine .mb rfl e0 ?_
 refine .i (sp_nilP (hlc rfl)) ?_
 refine .i (fo 6 (hlc rfl) Try.underlying56 rfl sz28 rfl) ?_
 refine .i (lo1 (hlc rfl) own_bx trivial agg28 sz28 rfl) ?_
 refine .i (sp_neq (hlc rfl) Has.cst) ?_
 refine .dn fun a5 g W5 y5 zz5 hk hg hV hR hP => ?_
 obtain ⟨e14, -, -, -, -, -⟩ := hV
 replace e0 := ft hR e0
 replace e1 := ft hR e1
 replace e2 := ft hR e2
 replace e6 := ft hR e6
 replace A_ar := A_ar.ext hk
 replace D_cn := D_cn.ext hk
 replace D_ci := D_ci.ext hk
 replace e14 := e14.q
 replace own_bx := own_bx.ext hk
 replace own_b6_2 := own_b6_2.ext hk
 replace kw := kw.x hk
 clear hR hk hg hP
 refine zn (hK4 _ _ ?_)
 refine wp_cond_false (e14.trans (congrArg Value.bool (by decide))) ?_
 refine wp_skip (hK3 _ _ ?_)
 refine zq fun K6 hK6 => ?_
 refine rg mixed y5 zz5 ?_
 refine .mb rfl e0 ?_
 refine .i (sp_nilP (hlc rfl)) ?_
 refine .i (fo 0 (hlc rfl) Try.underlying56 rfl sz33 rfl) ?_
 refine .i (v := (.agg #[(.int .u8 (x.k)), (.int .i64 (x.n)), (.string (x.t)), (.slice cna (x.ns.length) cnc), (.slice cia (x.xs.length) cic)])) (loA (hlc rfl) own_bx trivial agg33 sz33 rfl rfl) ?_
 refine .mb rfl e1 ?_
 refine .op (φ := IsT (IsD (SA w S (b6_2 :: (bx :: (blks hd ++ [])))) (V.d (grV x m))) (Is (.bool (grB x m)))) (st_t (st_d sub_all) (st_is _)) (sp_call2 (φ1 := IsD (SA w S (b6_2 :: (bx :: (blks hd ++ [])))) (V.d (x))) (φ2 := Is (.string (m))) ent140 ((hlc rfl).dat (rdV_in (x := x) hxt D_cn D_ci : Rd W5 (SA w S (b6_2 :: (bx :: (blks hd ++ [])))) (V.d (x)) _) sub_all) (hlc rfl) (fun g u1 u2 W hk hgk h1 h2 => by have h2 : u2 = _ := h2; subst u2; exact (GetR_ok (x) (m) W _ _ h1).mono (fun _ _ ⟨v, h1, h2, r1, h3, h4⟩ => ⟨v, h1, h2, r1, _, h3, rd_ar_sa kw (in_cons own_b6_2.lt (in_cons own_bx.lt (in_app A_ar.lt in_nil))) hk hgk h4, rfl⟩))) ?_
 refine .op (φ := IsT (IsD (SA w S (b6_2 :: (bx :: (blks hd ++ [])))) (V.d (grV x m))) (Is (.bool (grB x m)))) (st_t (st_d sub_all) (st_is _)) (sp_move (hlc rfl)) ?_
 refine .da (X := SA w S (b6_2 :: (bx :: (blks hd ++ [])))) (e := V.d (grV x m)) (sp_ext2 (hlc rfl) rfl) ?_
 refine .i (v := (.bool (grB x m))) (sp_ext2' (hlc rfl) rfl) ?_
 refine .alloc z33 ?_
 refine .dn fun a7 g W7 y7 zz7 hk hg hV hR hP => ?_
 obtain ⟨⟨b8_7, e8, hb8, own_b8_7⟩, e24, e23, -, -, -, -, -, -, -, -⟩ := hV
 have lo_b8_7 : w.heap.size ≤ b8_7 := Nat.le_trans kw.size (hg.lo _ _ hb8)
 have ne_bx_b8_7 : bx ≠ b8_7 := Nat.ne_of_lt (Nat.lt_of_lt_of_le own_bx.lt (hg.lo _ _ hb8))
 have ne_b6_2_b8_7 : b6_2 ≠ b8_7 := Nat.ne_of_lt (Nat.lt_of_lt_of_le own_b6_2.lt (hg.lo _ _ hb8))
 have own_b8_7 : Own W7 b8_7 z5C 33 := own_b8_7
 replace e0 := ft hR e0
 replace e1 := ft hR e1
 replace e2 := ft hR e2
 replace e6 := ft hR e6
 have hMx : ∀ b ∈ (b6_2 :: (bx :: (blks hd ++ []))), b < W5.heap.size := (in_cons own_b6_2.lt (in_cons own_bx.lt (in_app A_ar.lt in_nil)))
 have nb_b8_7_ar : b8_7 ∉ blks hd := nb_lt A_ar.lt (hg.lo _ _ hb8)
 replace A_ar : Arr W7 lo 9 1 (SA w G (b8_7 :: (b6_2 :: (bx :: (blks hd ++ []))))) (List.map D.str (L)) av hd := arrA_more A_ar hk [b8_7] (in_cons (hg.lo _ _ hb8) in_nil)
 replace D_cn : Rd W7 (SA w S (b8_7 :: (b6_2 :: (bx :: (blks hd ++ []))))) (strsD (x.ns)) (.slice cna (x.ns.length) cnc) := sa_more D_cn hk [b8_7] (in_cons (hg.lo _ _ hb8) in_nil)
 replace D_ci : Rd W7 (SA w S (b8_7 :: (b6_2 :: (bx :: (blks hd ++ []))))) (valsD (x.xs)) (.slice cia (x.xs.length) cic) := sa_more D_ci hk [b8_7] (in_cons (hg.lo _ _ hb8) in_nil)
 obtain ⟨v23_7, ev⟩ : ∃ v, sl a7 23 = v := ⟨_, rfl⟩
 rw [ev] at e23
 have D_v23_7 : Rd W7 (SA w S (b8_7 :: (b6_2 :: (bx :: (blks hd ++ []))))) (V.d (grV x m)) v23_7 := sa_end e23 hk [b8_7] (in_cons ⟨_, hb8⟩ in_nil)
 replace e23 := ev; clear ev
 obtain ⟨cn23_7a, cn23_7c, ci23_7a, ci23_7c, ev, ht_v23_7, D_cn23_7, D_ci23_7⟩ := rdV_out D_v23_7
 subst ev; clear D_v23_7
 replace e24 := e24.q
 replace own_bx := own_bx.ext hk
 replace own_b6_2 := own_b6_2.ext hk
 replace kw := kw.x hk
 clear hR hk hg hP hb8
 refine tail_store e8 e23 sz33 rfl own_b8_7 (lbr rfl) (all_cons rfl (all_cons rfl (all_cons rfl (all_cons rfl (all_cons rfl all_nil))))) (fun W8 hs own_b8_7 => ?_)
 have own_b8_7 : Own W8 b8_7 [(.int .u8 ((grV x m).k)), (.int .i64 ((grV x m).n)), (.string ((grV x m).t)), (.slice cn23_7a (((grV x m).ns).length) cn23_7c), (.slice ci23_7a (((grV x m).xs).length) ci23_7c)] 33 := own_b8_7
 replace own_bx := own_store own_bx hs ne_bx_b8_7
 replace own_b6_2 := own_store own_b6_2 hs ne_b6_2_b8_7
 replace D_cn := sa_store D_cn hs (by simp)
 replace D_ci := sa_store D_ci hs (by simp)
 replace D_cn23_7 := sa_store D_cn23_7 hs (by simp)
 replace D_ci23_7 := sa_store D_ci23_7 hs (by simp)
 replace A_ar := arrA_store A_ar hs (by simp) nb_b8_7_ar
 replace kw := keeps_store kw hs lo_b8_7
 clear hs
 refine tail_assign (v := (.bool (grB x m))) e24 (by rw [y7]; exact Nat.le_of_ble_eq_true rfl) (fun a9 y9 zz9 e9 hr => ?_)
 replace y9 := y9.trans y7; replace zz9 := zz9.trans zz7
 replace e0 := (hr 0 (by decide)).trans e0
 replace e1 := (hr 1 (by decide)).trans e1
 replace e2 := (hr 2 (by decide)).trans e2
 replace e6 := (hr 6 (by decide)).trans e6
 replace e8 := (hr 8 (by decide)).trans e8
 replace e23 := (hr 23 (by decide)).trans e23
 replace e24 := (hr 24 (by decide)).trans e24
 clear hr
 refine zn (hK6 _ _ ?_)
 refine zq fun K10 hK10 => ?_
 have hws : w.heap.size ≤ W8.heap.size := kw.size
 refine wp_reg (fun k => k ∉ blks hd) (Ψ := fun W => Arr W lo 9 1 (SA w G (b8_7 :: (b6_2 :: (bx :: (blks hd ++ []))))) (List.map D.str (L)) av hd) mixed y9 zz9 (fun W W' k h => h.ext k) A_ar ?_
 refine .mb rfl e0 ?_
 refine .mb rfl e0 ?_
 refine .i (sp_nilP (hlc rfl)) ?_
 refine .i (fo 5 (hlc rfl) Try.underlying56 rfl sz23 rfl) ?_
 refine .i (lo1 (hlc rfl) own_bx nb agg23 sz23 rfl) ?_
 refine .mb rfl e1 ?_
 refine .op (φ := IsD (SA w G (b8_7 :: (b6_2 :: (bx :: (blks hd ++ []))))) (strsD ([m]))) (st_d (sub_nb (fun b hb => List.mem_cons_of_mem _ (List.mem_cons_of_mem _ (List.mem_cons_of_mem _ (List.mem_append_left _ hb)))))) (sp_bsl (ds := [D.str (m)]) Try.underlying23 sz9 z9 (lbr rfl) (lbr rfl) ⟨rfl, ((hlc rfl).str hm), trivial⟩ rfl (by simp [width]) (fr_sa kw (in_cons own_b8_7.lt (in_cons own_b6_2.lt (in_cons own_bx.lt (in_app A_ar.lt in_nil)))))) ?_
 refine .appB (ds := List.map D.str (L)) (es := [D.str (m)]) (X := SA w G (b8_7 :: (b6_2 :: (bx :: (blks hd ++ []))))) Try.underlying23 inf9 (lbr rfl) (hlc rfl) (hlc rfl) (sub_nb (fun b hb => List.mem_cons_of_mem _ (List.mem_cons_of_mem _ (List.mem_cons_of_mem _ (List.mem_append_left _ hb))))) (by simp [maxLen]; omega) (by simp; omega) (Nat.le_trans hlo kw.size) ?_
 refine .i (sp_nilP (hlc rfl)) ?_
 refine .i (fo 5 (hlc rfl) Try.underlying56 rfl sz23 rfl) ?_
 refine .dn fun a11 g W11 y11 zz11 hk hg hV hR hP => ?_
 obtain ⟨e34, -, e32, -, -, -, -, -, -, -, -⟩ := hV
 replace e0 := ft hR e0
 replace e2 := ft hR e2
 replace e6 := ft hR e6
 replace e8 := ft hR e8
 replace e9 := ft hR e9
 obtain ⟨v32_11, ev⟩ : ∃ v, sl a11 32 = v := ⟨_, rfl⟩
 rw [ev] at e32
 obtain ⟨hd32_11, A_32_11, hf32_11⟩ := e32
 have e32 := ev; clear ev
 obtain ⟨v32_11a, v32_11n, v32_11c, ev⟩ := arr_sl A_32_11; subst ev
 replace A_32_11 := arrA_new (M' := (b8_7 :: (b6_2 :: (bx :: (blks hd32_11 ++ []))))) A_32_11 (rep_cons (rep_cons (rep_cons (rep_app (rep_q fun _ h => h) rep_nil))))
 replace A_32_11 : Arr W11 lo 9 1 (SA w G (b8_7 :: (b6_2 :: (bx :: (blks hd32_11 ++ []))))) (List.map D.str (L ++ [m])) (.slice v32_11a v32_11n v32_11c) hd32_11 := by first | exact A_32_11 | (rw [List.map_append]; exact A_32_11)
 have nb_bx_11 : bx ∉ blks hd32_11 := nb_new nb own_bx.lt hf32_11
 have nb_b6_2_11 : b6_2 ∉ blks hd32_11 := nb_new nb_b6_2_ar own_b6_2.lt hf32_11
 have nb_b8_7_11 : b8_7 ∉ blks hd32_11 := nb_new nb_b8_7_ar own_b8_7.lt hf32_11
 replace D_cn := sa_app (M' := (b8_7 :: (b6_2 :: (bx :: (blks hd32_11 ++ []))))) D_cn hk (fun b hb => List.mem_cons_of_mem _ (List.mem_cons_of_mem _ (List.mem_cons_of_mem _ (List.mem_append_left _ hb)))) (rep_cons (rep_cons (rep_cons (rep_app hf32_11 rep_nil))))
 replace D_ci := sa_app (M' := (b8_7 :: (b6_2 :: (bx :: (blks hd32_11 ++ []))))) D_ci hk (fun b hb => List.mem_cons_of_mem _ (List.mem_cons_of_mem _ (List.mem_cons_of_mem _ (List.mem_append_left _ hb)))) (rep_cons (rep_cons (rep_cons (rep_app hf32_11 rep_nil))))
 replace D_cn23_7 := sa_app (M' := (b8_7 :: (b6_2 :: (bx :: (blks hd32_11 ++ []))))) D_cn23_7 hk (fun b hb => List.mem_cons_of_mem _ (List.mem_cons_of_mem _ (List.mem_cons_of_mem _ (List.mem_append_left _ hb)))) (rep_cons (rep_cons (rep_cons (rep_app hf32_11 rep_nil))))
 replace D_ci23_7 := sa_app (M' := (b8_7 :: (b6_2 :: (bx :: (blks hd32_11 ++ []))))) D_ci23_7 hk (fun b hb => List.mem_cons_of_mem _ (List.mem_cons_of_mem _ (List.mem_cons_of_mem _ (List.mem_append_left _ hb)))) (rep_cons (rep_cons (rep_cons (rep_app hf32_11 rep_nil))))
 replace own_bx := own_app own_bx hk nb
 replace own_b6_2 := own_app own_b6_2 hk nb_b6_2_ar
 replace own_b8_7 := own_app own_b8_7 hk nb_b8_7_ar
 replace kw := keeps_appN kw hk (fun b hb hn => hn (by simp [hb]))
 have e34 : sl a11 34 = (.pointer (some ⟨bx, 5, none⟩)) := e34
 clear hR hk hg hP  A_ar
 refine tail_store e34 e32 sz23 rfl own_bx (lbr rfl) (all_cons rfl all_nil) (fun W12 hs own_bx => ?_)
 have own_bx : Own W12 bx [(.int .u8 (x.k)), (.int .i64 (x.n)), (.string (x.t)), (.slice cna (x.ns.length) cnc), (.slice cia (x.xs.length) cic), (.slice v32_11a v32_11n v32_11c), (.int .i64 (0))] 56 := own_bx
 replace own_b6_2 := own_store own_b6_2 hs ne_bx_b6_2.symm
 replace own_b8_7 := own_store own_b8_7 hs ne_bx_b8_7.symm
 replace D_cn := sa_store D_cn hs (by simp)
 replace D_ci := sa_store D_ci hs (by simp)
 replace D_cn23_7 := sa_store D_cn23_7 hs (by simp)
 replace D_ci23_7 := sa_store D_ci23_7 hs (by simp)
 replace A_32_11 := arrA_store A_32_11 hs (by simp) nb_bx_11
 replace kw := keeps_storeN kw hs (by simp)
 clear hs
 refine zn (hK10 _ _ ?_)
 refine zq fun K13 hK13 => ?_
 refine zq fun K14 hK14 => ?_
 refine rg mixed y11 zz11 ?_
 refine .mb rfl e9 ?_
 refine .i (sp_not (hlc rfl)) ?_
 refine .dn fun a15 g W15 y15 zz15 hk hg hV hR hP => ?_
 obtain ⟨e36, -, -⟩ := hV
 replace e0 := ft hR e0
 replace e2 := ft hR e2
 replace e6 := ft hR e6
 replace e8 := ft hR e8
 replace A_32_11 := A_32_11.ext hk
 replace D_cn := D_cn.ext hk
 replace D_ci := D_ci.ext hk
 replace D_cn23_7 := D_cn23_7.ext hk
 replace D_ci23_7 := D_ci23_7.ext hk
 replace e36 := e36.q
 replace own_bx := own_bx.ext hk
 replace own_b6_2 := own_b6_2.ext hk
 replace own_b8_7 := own_b8_7.ext hk
 replace kw := kw.x hk
 clear hR hk hg hP
 refine zn (hK14 _ _ ?_)
 refine zc e36 (fun hc => ?_) (fun hc => ?_)
 ·
  have hre : rtE x m kd = 6 := by rw [rtE, if_pos]; simpa using hc
  obtain ⟨hfb, hfv⟩ := rt_no hre (by decide)
  refine zq fun K16 hK16 => ?_
  refine rg mixed y15 zz15 ?_
  refine .mb rfl e0 ?_
  refine .i (sp_nilP (hlc rfl)) ?_
  refine .i (fo 6 (hlc rfl) Try.underlying56 rfl sz28 rfl) ?_
  refine .dn fun a17 g W17 y17 zz17 hk hg hV hR hP => ?_
  obtain ⟨e39, -, -, -⟩ := hV
  replace e6 := ft hR e6
  replace A_32_11 := A_32_11.ext hk
  replace D_cn := D_cn.ext hk
  replace D_ci := D_ci.ext hk
  replace D_cn23_7 := D_cn23_7.ext hk
  replace D_ci23_7 := D_ci23_7.ext hk
  have e39 : sl a17 39 = (.pointer (some ⟨bx, 6, none⟩)) := e39
  replace own_bx := own_bx.ext hk
  replace own_b6_2 := own_b6_2.ext hk
  replace own_b8_7 := own_b8_7.ext hk
  replace kw := kw.x hk
  clear hR hk hg hP
  refine tail_store (b := bx) (o := 6) (v := (.int .i64 (6))) e39 rfl sz28 rfl own_bx (lbr rfl) (all_cons rfl all_nil) (fun W18 hs own_bx => ?_)
  have own_bx : Own W18 bx [(.int .u8 (x.k)), (.int .i64 (x.n)), (.string (x.t)), (.slice cna (x.ns.length) cnc), (.slice cia (x.xs.length) cic), (.slice v32_11a v32_11n v32_11c), (.int .i64 (6))] 56 := own_bx
  replace own_b6_2 := own_store own_b6_2 hs ne_bx_b6_2.symm
  replace own_b8_7 := own_store own_b8_7 hs ne_bx_b8_7.symm
  replace D_cn := sa_store D_cn hs (by simp)
  replace D_ci := sa_store D_ci hs (by simp)
  replace D_cn23_7 := sa_store D_cn23_7 hs (by simp)
  replace D_ci23_7 := sa_store D_ci23_7 hs (by simp)
  replace A_32_11 := arrA_store A_32_11 hs (by simp) nb_bx_11
  replace kw := keeps_storeN kw hs (by simp)
  clear hs
  refine zn (hK16 _ _ ?_)
  refine zq fun K19 hK19 => ?_
  refine rg mixed y17 zz17 ?_
  refine .i (v := (.agg #[(.int .u8 (0)), (.int .i64 (0)), (.string (⟨#[]⟩)), (.slice none 0 0), (.slice none 0 0)])) (sp_build (vs := []) Try.underlying33 z33 (pl33 Try.underlying33) trivial rfl) ?_
  refine .dn fun a20 g W20 y20 zz20 hk hg hV hR hP => ?_
  obtain ⟨e40, -⟩ := hV
  replace e6 := ft hR e6
  replace A_32_11 := A_32_11.ext hk
  replace D_cn := D_cn.ext hk
  replace D_ci := D_ci.ext hk
  replace e40 := e40.q
  replace own_bx := own_bx.ext hk
  replace own_b6_2 := own_b6_2.ext hk
  replace own_b8_7 := own_b8_7.ext hk
  replace kw := kw.x hk
  clear hR hk hg hP
  refine tail_store e6 e40 sz33 rfl own_b6_2 (lbr rfl) (all_cons rfl (all_cons rfl (all_cons rfl (all_cons rfl (all_cons rfl all_nil))))) (fun W21 hs own_b6_2 => ?_)
  have own_b6_2 : Own W21 b6_2 z5C 33 := own_b6_2
  replace own_bx := own_store own_bx hs ne_bx_b6_2
  replace own_b8_7 := own_store own_b8_7 hs ne_b6_2_b8_7.symm
  replace D_cn := sa_store D_cn hs (by simp)
  replace D_ci := sa_store D_ci hs (by simp)
  replace A_32_11 := arrA_store A_32_11 hs (by simp) nb_b6_2_11
  replace kw := keeps_store kw hs lo_b6_2
  clear hs
  refine tail_assign (v := (.bool (false))) rfl (by rw [y20]; exact Nat.le_of_ble_eq_true rfl) (fun a22 y22 zz22 e7 hr => ?_)
  replace y22 := y22.trans y20; replace zz22 := zz22.trans zz20
  replace e6 := (hr 6 (by decide)).trans e6
  replace e40 := (hr 40 (by decide)).trans e40
  clear hr
  refine zn (hK19 _ _ ?_)
  refine wp_ret ?_
  refine retCT (v := (.agg #[(.int .u8 (0)), (.int .i64 (0)), (.string (⟨#[]⟩)), (.slice none 0 0), (.slice none 0 0)])) rfl zz22 e6 own_b6_2 agg33 sz33 rfl (fun h => by cases h) rfl e7 ⟨_, rfl, kw, ?_⟩
  refine ⟨_, _, ⟨_, by rw [hfb], ?_⟩, by rw [hre]; exact own_bx, (arrA_less A_32_11 (ls_skip (ls_skip (ls_keep (ls_keepA ls_nil))))), nb_bx_11, fun b hb => (hf32_11 b hb).imp id (Nat.le_trans hws)⟩
  rw [hfv]
  exact sa_less (rdV_mk (lbr rfl) (rd_nil _) (rd_nil _) : Rd W21 (SA w S (b8_7 :: (b6_2 :: (bx :: (blks hd32_11 ++ []))))) (V.d (V.mk (0) (0) (⟨#[]⟩) ([]) ([]))) _) (ls_skip (ls_skip (ls_keep (ls_keepA ls_nil))))
 have hgb : ¬ grB x m = false := by simpa using hc
 refine wp_skip (hK13 _ _ ?_)
 refine zq fun K23 hK23 => ?_
 refine zq fun K24 hK24 => ?_
 refine rg mixed y15 zz15 ?_
 refine .mb rfl e2 ?_
 refine .i (sp_neq (hlc rfl) Has.cst) ?_
 refine .i (sp_move (hlc rfl)) ?_
 refine .e rfl (hlc rfl) (fun hg => fo 0 (hbs rfl e8) Try.underlying33 rfl sz5 rfl) ?_
 refine .e rfl (hlc rfl) (fun hg => lo1 ((hlc rfl).undE hg) own_b8_7 trivial agg5 sz5 rfl) ?_
 refine .em rfl (hlc rfl) rfl e2 ?_
 refine .e rfl (hlc rfl) (fun hg => sp_neq ((hlc rfl).undE hg) ((hlc rfl).undE hg)) ?_
 refine .i (sp_and (hlc rfl) ((hlc rfl).weak fun hq => hq)) ?_
 refine .dn fun a25 g W25 y25 zz25 hk hg hV hR hP => ?_
 obtain ⟨e48, -, -, -, -, -, -, -, -⟩ := hV
 replace e0 := ft hR e0
 replace e6 := ft hR e6
 replace e8 := ft hR e8
 replace A_32_11 := A_32_11.ext hk
 replace D_cn := D_cn.ext hk
 replace D_ci := D_ci.ext hk
 replace D_cn23_7 := D_cn23_7.ext hk
 replace D_ci23_7 := D_ci23_7.ext hk
 replace e48 := e48.q
 replace own_bx := own_bx.ext hk
 replace own_b6_2 := own_b6_2.ext hk
 replace own_b8_7 := own_b8_7.ext hk
 replace kw := kw.x hk
 clear hR hk hg hP
 refine zn (hK24 _ _ ?_)
 refine zc e48 (fun hc => ?_) (fun hc => ?_)
 ·
  have hre : rtE x m kd = 10 := by rw [rtE, if_neg hgb, if_pos]; simp at hc; omega
  obtain ⟨hfb, hfv⟩ := rt_no hre (by decide)
  refine zq fun K26 hK26 => ?_
  refine rg mixed y25 zz25 ?_
  refine .mb rfl e0 ?_
  refine .i (sp_nilP (hlc rfl)) ?_
  refine .i (fo 6 (hlc rfl) Try.underlying56 rfl sz28 rfl) ?_
  refine .dn fun a27 g W27 y27 zz27 hk hg hV hR hP => ?_
  obtain ⟨e51, -, -, -⟩ := hV
  replace e6 := ft hR e6
  replace A_32_11 := A_32_11.ext hk
  replace D_cn := D_cn.ext hk
  replace D_ci := D_ci.ext hk
  replace D_cn23_7 := D_cn23_7.ext hk
  replace D_ci23_7 := D_ci23_7.ext hk
  have e51 : sl a27 51 = (.pointer (some ⟨bx, 6, none⟩)) := e51
  replace own_bx := own_bx.ext hk
  replace own_b6_2 := own_b6_2.ext hk
  replace own_b8_7 := own_b8_7.ext hk
  replace kw := kw.x hk
  clear hR hk hg hP
  refine tail_store (b := bx) (o := 6) (v := (.int .i64 (10))) e51 rfl sz28 rfl own_bx (lbr rfl) (all_cons rfl all_nil) (fun W28 hs own_bx => ?_)
  have own_bx : Own W28 bx [(.int .u8 (x.k)), (.int .i64 (x.n)), (.string (x.t)), (.slice cna (x.ns.length) cnc), (.slice cia (x.xs.length) cic), (.slice v32_11a v32_11n v32_11c), (.int .i64 (10))] 56 := own_bx
  replace own_b6_2 := own_store own_b6_2 hs ne_bx_b6_2.symm
  replace own_b8_7 := own_store own_b8_7 hs ne_bx_b8_7.symm
  replace D_cn := sa_store D_cn hs (by simp)
  replace D_ci := sa_store D_ci hs (by simp)
  replace D_cn23_7 := sa_store D_cn23_7 hs (by simp)
  replace D_ci23_7 := sa_store D_ci23_7 hs (by simp)
  replace A_32_11 := arrA_store A_32_11 hs (by simp) nb_bx_11
  replace kw := keeps_storeN kw hs (by simp)
  clear hs
  refine zn (hK26 _ _ ?_)
  refine zq fun K29 hK29 => ?_
  refine rg mixed y27 zz27 ?_
  refine .i (v := (.agg #[(.int .u8 (0)), (.int .i64 (0)), (.string (⟨#[]⟩)), (.slice none 0 0), (.slice none 0 0)])) (sp_build (vs := []) Try.underlying33 z33 (pl33 Try.underlying33) trivial rfl) ?_
  refine .dn fun a30 g W30 y30 zz30 hk hg hV hR hP => ?_
  obtain ⟨e52, -⟩ := hV
  replace e6 := ft hR e6
  replace A_32_11 := A_32_11.ext hk
  replace D_cn := D_cn.ext hk
  replace D_ci := D_ci.ext hk
  replace e52 := e52.q
  replace own_bx := own_bx.ext hk
  replace own_b6_2 := own_b6_2.ext hk
  replace own_b8_7 := own_b8_7.ext hk
  replace kw := kw.x hk
  clear hR hk hg hP
  refine tail_store e6 e52 sz33 rfl own_b6_2 (lbr rfl) (all_cons rfl (all_cons rfl (all_cons rfl (all_cons rfl (all_cons rfl all_nil))))) (fun W31 hs own_b6_2 => ?_)
  have own_b6_2 : Own W31 b6_2 z5C 33 := own_b6_2
  replace own_bx := own_store own_bx hs ne_bx_b6_2
  replace own_b8_7 := own_store own_b8_7 hs ne_b6_2_b8_7.symm
  replace D_cn := sa_store D_cn hs (by simp)
  replace D_ci := sa_store D_ci hs (by simp)
  replace A_32_11 := arrA_store A_32_11 hs (by simp) nb_b6_2_11
  replace kw := keeps_store kw hs lo_b6_2
  clear hs
  refine tail_assign (v := (.bool (false))) rfl (by rw [y30]; exact Nat.le_of_ble_eq_true rfl) (fun a32 y32 zz32 e7 hr => ?_)
  replace y32 := y32.trans y30; replace zz32 := zz32.trans zz30
  replace e6 := (hr 6 (by decide)).trans e6
  replace e52 := (hr 52 (by decide)).trans e52
  clear hr
  refine zn (hK29 _ _ ?_)
  refine wp_ret ?_
  refine retCT (v := (.agg #[(.int .u8 (0)), (.int .i64 (0)), (.string (⟨#[]⟩)), (.slice none 0 0), (.slice none 0 0)])) rfl zz32 e6 own_b6_2 agg33 sz33 rfl (fun h => by cases h) rfl e7 ⟨_, rfl, kw, ?_⟩
  refine ⟨_, _, ⟨_, by rw [hfb], ?_⟩, by rw [hre]; exact own_bx, (arrA_less A_32_11 (ls_skip (ls_skip (ls_keep (ls_keepA ls_nil))))), nb_bx_11, fun b hb => (hf32_11 b hb).imp id (Nat.le_trans hws)⟩
  rw [hfv]
  exact sa_less (rdV_mk (lbr rfl) (rd_nil _) (rd_nil _) : Rd W31 (SA w S (b8_7 :: (b6_2 :: (bx :: (blks hd32_11 ++ []))))) (V.d (V.mk (0) (0) (⟨#[]⟩) ([]) ([]))) _) (ls_skip (ls_skip (ls_keep (ls_keepA ls_nil))))
 have hre : rtE x m kd = 0 := by rw [rtE, if_neg hgb, if_neg]; simp at hc; omega
 obtain ⟨hfb, hfv⟩ := rt_ok hre
 refine wp_skip (hK23 _ _ ?_)
 refine zq fun K33 hK33 => ?_
 refine rg mixed y25 zz25 ?_
 refine .i (v := (.agg #[(.int .u8 ((grV x m).k)), (.int .i64 ((grV x m).n)), (.string ((grV x m).t)), (.slice cn23_7a (((grV x m).ns).length) cn23_7c), (.slice ci23_7a (((grV x m).xs).length) ci23_7c)])) (loA (hbs rfl e8) own_b8_7 trivial agg33 sz33 rfl rfl) ?_
 refine .dn fun a34 g W34 y34 zz34 hk hg hV hR hP => ?_
 obtain ⟨e53, -⟩ := hV
 replace e6 := ft hR e6
 replace A_32_11 := A_32_11.ext hk
 replace D_cn := D_cn.ext hk
 replace D_ci := D_ci.ext hk
 replace D_cn23_7 := D_cn23_7.ext hk
 replace D_ci23_7 := D_ci23_7.ext hk
 replace e53 := e53.q
 replace own_bx := own_bx.ext hk
 replace own_b6_2 := own_b6_2.ext hk
 replace own_b8_7 := own_b8_7.ext hk
 replace kw := kw.x hk
 clear hR hk hg hP
 refine tail_store e6 e53 sz33 rfl own_b6_2 (lbr rfl) (all_cons rfl (all_cons rfl (all_cons rfl (all_cons rfl (all_cons rfl all_nil))))) (fun W35 hs own_b6_2 => ?_)
 have own_b6_2 : Own W35 b6_2 [(.int .u8 ((grV x m).k)), (.int .i64 ((grV x m).n)), (.string ((grV x m).t)), (.slice cn23_7a (((grV x m).ns).length) cn23_7c), (.slice ci23_7a (((grV x m).xs).length) ci23_7c)] 33 := own_b6_2
 replace own_bx := own_store own_bx hs ne_bx_b6_2
 replace own_b8_7 := own_store own_b8_7 hs ne_b6_2_b8_7.symm
 replace D_cn := sa_store D_cn hs (by simp)
 replace D_ci := sa_store D_ci hs (by simp)
 replace D_cn23_7 := sa_store D_cn23_7 hs (by simp)
 replace D_ci23_7 := sa_store D_ci23_7 hs (by simp)
 replace A_32_11 := arrA_store A_32_11 hs (by simp) nb_b6_2_11
 replace kw := keeps_store kw hs lo_b6_2
 clear hs
 refine tail_assign (v := (.bool (true))) rfl (by rw [y34]; exact Nat.le_of_ble_eq_true rfl) (fun a36 y36 zz36 e7 hr => ?_)
 replace y36 := y36.trans y34; replace zz36 := zz36.trans zz34
 replace e6 := (hr 6 (by decide)).trans e6
 replace e53 := (hr 53 (by decide)).trans e53
 clear hr
 refine zn (hK33 _ _ ?_)
 refine wp_ret ?_
 refine retCT (v := (.agg #[(.int .u8 ((grV x m).k)), (.int .i64 ((grV x m).n)), (.string ((grV x m).t)), (.slice cn23_7a (((grV x m).ns).length) cn23_7c), (.slice ci23_7a (((grV x m).xs).length) ci23_7c)])) rfl zz36 e6 own_b6_2 agg33 sz33 rfl (fun h => by cases h) rfl e7 ⟨_, rfl, kw, ?_⟩
 refine ⟨_, _, ⟨_, by rw [hfb], ?_⟩, by rw [hre]; exact own_bx, (arrA_less A_32_11 (ls_skip (ls_skip (ls_keep (ls_keepA ls_nil))))), nb_bx_11, fun b hb => (hf32_11 b hb).imp id (Nat.le_trans hws)⟩
 rw [hfv]
 exact sa_less (rdV_in (x := (grV x m)) ht_v23_7 D_cn23_7 D_ci23_7 : Rd W35 (SA w S (b8_7 :: (b6_2 :: (bx :: (blks hd32_11 ++ []))))) (V.d ((grV x m))) _) (ls_skip (ls_skip (ls_keep (ls_keepA ls_nil))))
end Go.Proofs.Ytnobijngkpflcaa
namespace Go.Proofs.Ytnobijngkpflcaa
open Go.Eng
set_option maxRecDepth 100000 in
theorem yText_ok (m : ByteArray) (hm : m.size ≤ maxLen) (x : V) (hxt : x.t.size ≤ maxLen) (w : World) (S G : BSet) (cn ci : Value) (bx lo : Nat) (av : Value) (hd : Option Nat) (L : List ByteArray) (hL : L.length ≤ 100000) (hM : ∀ b ∈ bx :: (blks hd ++ []), ∀ o, ¬ S b o) (hv : Rd w S (strsD x.ns) cn) (hu : Rd w S (valsD x.xs) ci) (own_bx : Own w bx [.int .u8 x.k, .int .i64 x.n, .string x.t, cn, ci, av, .int .i64 (0)] 56) (A_ar : Arr w lo 9 1 (SA w G (bx :: (blks hd ++ []))) (List.map D.str L) av hd) (nb : bx ∉ blks hd) (hlo : lo ≤ w.heap.size) (hG : ∀ b o, G b o → Cln o) : Calls Try.prog 83 #[.pointer (some ⟨bx, 0, none⟩), .string m] w (RetL w (bx :: (blks hd ++ [])) fun u W => RowR 56 9 w W lo S G bx (fun av => [.int .u8 x.k, .int .i64 x.n, .string x.t, cn, ci, av, .int .i64 (rtE x m 3)]) (L ++ [m]) hd (PhI (.string (rtV x m 3).t)) u) := by
 obtain ⟨cna, cnc, ev, D_cn⟩ := rdS_out (rd_argM (M := (bx :: (blks hd ++ []))) hv hM)
 subst ev
 obtain ⟨cia, cic, ev, D_ci⟩ := rdVs_out (rd_argM (M := (bx :: (blks hd ++ []))) hu hM)
 subst ev
 refine enter Try.func83 rfl Try.ntmps83 (lbr rfl) fun a0 y0 zz0 harg => ?_
 have e0 : sl a0 0 = (.pointer (some ⟨bx, 0, none⟩)) := harg 0 (lbr rfl)
 have e1 : sl a0 1 = (.string (m)) := harg 1 (lbr rfl)
 have kw := Keeps.refl (fun k => k ∉ (bx :: (blks hd ++ []))) w
 clear harg
 refine zq fun K1 hK1 => ?_
 refine rg mixed y0 zz0 ?_
 refine .ac ?_
 refine .dn fun a2 g W2 y2 zz2 hk hg hV hR hP => ?_
 obtain ⟨-, -⟩ := hV
 replace e0 := ft hR e0
 replace e1 := ft hR e1
 replace A_ar := A_ar.ext hk
 replace D_cn := D_cn.ext hk
 replace D_ci := D_ci.ext hk
 replace own_bx := own_bx.ext hk
 replace kw := kw.x hk
 clear hR hk hg hP
 refine zn (hK1 _ _ ?_)
 refine zq fun K3 hK3 => ?_
 have hws : w.heap.size ≤ W2.heap.size := kw.size
 have hmR : ∀ b, b ∈ (bx :: (blks hd ++ [])) → b ∈ (bx :: (blks hd ++ [])) := (fun b hb => by first | exact hb | (simp only [List.mem_cons, List.mem_append, List.not_mem_nil, or_false] at hb ⊢; rcases hb with h | h <;> simp [h]))
 refine wp_reg (fun k => k ∉ (bx :: (blks hd ++ []))) (Ψ := fun W => Own W bx [(.int .u8 (x.k)), (.int .i64 (x.n)), (.string (x.t)), (.slice cna (x.ns.length) cnc), (.slice cia (x.xs.length) cic), av, (.int .i64 (0))] 56 ∧ Arr W lo 9 1 (SA w G (bx :: (blks hd ++ []))) (List.map D.str (L)) av hd) mixed y2 zz2 stE_boxR ⟨own_bx, A_ar⟩ ?_
 refine .mb rfl e0 ?_
 refine .mb rfl e1 ?_
 refine .callZ3 (φ1 := Is (.pointer (some ⟨bx, 0, none⟩))) (φ2 := Is (.string (m))) (φ3 := Is (.int .u8 (3))) (φ := IsRow 56 9 W2 lo (SA w S (bx :: (blks hd ++ []))) (SA w G (bx :: (blks hd ++ []))) bx (fun av => [(.int .u8 (x.k)), (.int .i64 (x.n)), (.string (x.t)), (.slice cna (x.ns.length) cnc), (.slice cia (x.xs.length) cic), av, (.int .i64 (rtE x m 3))]) (L ++ [m]) hd (PhT (rtV x m 3) (rtB x m 3))) ent141 (hlc rfl) (hlc rfl) Has.cst (st_row stp_T) (fun g u1 u2 u3 W hk hg h1 h2 h3 hP => by have h1 : u1 = _ := h1; subst u1; have h2 : u2 = _ := h2; subst u2; have h3 : u3 = _ := h3; subst u3; exact (yTake_ok m hm 3 (x) hxt W (SA w S (bx :: (blks hd ++ []))) (SA w G (bx :: (blks hd ++ []))) _ _ bx lo _ hd L hL (fun b hb o h => h.2.2 (hmR b hb)) (D_cn.keeps hk (fun b o h hm => h.2.2 (hmR b hm))) (D_ci.keeps hk (fun b o h hm => h.2.2 (hmR b hm))) hP.1 (row_inA hG hP.2 hmR) nb (Nat.le_trans hlo (Nat.le_trans kw.size hk.size)) (sa_cln hG)).mono fun e W' ⟨u, h1, h2, h3⟩ => ⟨u, h1, h2, W, hk.size, h3⟩) ?_
 refine .dn fun a4 g W4 y4 zz4 hk hg hV hR hP => ?_
 obtain ⟨e10, -, -, -⟩ := hV
 have hMlt : ∀ b ∈ (bx :: (blks hd ++ [])), b < W2.heap.size := (in_cons own_bx.lt (in_app A_ar.lt in_nil))
 obtain ⟨W1, hW1, v_4, hd_4, hphi, own_bx, A_4, nb_4, hf_4⟩ := e10
 replace hf_4 : ∀ b ∈ blks hd_4, b ∈ blks hd ∨ W2.heap.size ≤ b := fun b hb => (hf_4 b hb).imp id (Nat.le_trans hW1)
 obtain ⟨v_4a, v_4n, v_4c, ev⟩ := arr_sl A_4; subst ev
 replace A_4 : Arr W4 lo 9 1 (SA w G (bx :: (blks hd_4 ++ []))) (List.map D.str (L ++ [m])) (.slice v_4a v_4n v_4c) hd_4 := row_outA A_4 (Nat.le_trans kw.size hW1) (fun b hb => Nat.lt_of_lt_of_le (hMlt b hb) hW1) (fun b hb => by simp only [List.mem_cons, List.mem_append, List.not_mem_nil, or_false] at hb ⊢; rcases hb with h | h <;> simp [h])
 obtain ⟨u10_4, ev, D_u10_4⟩ := hphi
 replace D_u10_4 : Rd W4 (SA w S (bx :: (blks hd_4 ++ []))) (V.d (rtV x m 3)) u10_4 := rd_outA D_u10_4 (Nat.le_trans kw.size hW1) (fun b hb => Nat.lt_of_lt_of_le (hMlt b hb) hW1) (fun b hb => by simp only [List.mem_cons, List.mem_append, List.not_mem_nil, or_false] at hb ⊢; rcases hb with h | h <;> simp [h])
 obtain ⟨cn10_4a, cn10_4c, ci10_4a, ci10_4c, ev, ht_u10_4, D_cn10_4, D_ci10_4⟩ := rdV_out D_u10_4
 subst ev; clear D_u10_4
 have e10 : sl a4 10 = (.tuple #[(.agg #[(.int .u8 ((rtV x m 3).k)), (.int .i64 ((rtV x m 3).n)), (.string ((rtV x m 3).t)), (.slice cn10_4a (((rtV x m 3).ns).length) cn10_4c), (.slice ci10_4a (((rtV x m 3).xs).length) ci10_4c)]), (.bool (rtB x m 3))]) := ev; clear ev
 replace D_cn := sa_appL (M' := (bx :: (blks hd_4 ++ []))) D_cn hk hmR (rep_cons (rep_app hf_4 rep_nil))
 replace D_ci := sa_appL (M' := (bx :: (blks hd_4 ++ []))) D_ci hk hmR (rep_cons (rep_app hf_4 rep_nil))
 replace own_bx : Own W4 bx [(.int .u8 (x.k)), (.int .i64 (x.n)), (.string (x.t)), (.slice cna (x.ns.length) cnc), (.slice cia (x.xs.length) cic), (.slice v_4a v_4n v_4c), (.int .i64 (rtE x m 3))] 56 := own_bx
 replace kw := keeps_L kw hk (fun b hb => .inr (fun hn => hn (by first | exact hb | (simp only [List.mem_cons, List.mem_append, List.not_mem_nil, or_false] at hb ⊢; rcases hb with h | h <;> simp [h]))))
 clear hmR hR hk hg hMlt hW1 hP A_ar
 refine tail_reg 3 All y4 zz4 st_tr trivial rfl ?_
 refine .mb rfl e10 ?_
 refine .i (v := (.agg #[(.int .u8 ((rtV x m 3).k)), (.int .i64 ((rtV x m 3).n)), (.string ((rtV x m 3).t)), (.slice cn10_4a (((rtV x m 3).ns).length) cn10_4c), (.slice ci10_4a (((rtV x m 3).xs).length) ci10_4c)])) (sp_extT (hlc rfl) rfl) ?_
 refine .i (v := (.bool (rtB x m 3))) (sp_extT (hlc rfl) rfl) ?_
 refine .dn fun a5 g W5 y5 zz5 hk hg hV hR hP => ?_
 refine tail_nil ?_
 show runTail _ _ _ _ _ _
 obtain ⟨e12, e11, -, -⟩ := hV
 replace A_4 := A_4.ext hk
 replace D_cn := D_cn.ext hk
 replace D_ci := D_ci.ext hk
 replace D_cn10_4 := D_cn10_4.ext hk
 replace D_ci10_4 := D_ci10_4.ext hk
 replace e11 := e11.q
 replace e12 := e12.q
 replace own_bx := own_bx.ext hk
 replace kw := kw.x hk
 clear hR hk hg hP
 refine tail_reg 1 All y5 zz5 st_tr trivial rfl ?_
 refine .alloc z33 ?_
 refine .dn fun a6 g W6 y6 zz6 hk hg hV hR hP => ?_
 refine tail_nil ?_
 show runTail _ _ _ _ _ _
 obtain ⟨⟨b5_6, e5, hb5, own_b5_6⟩, -⟩ := hV
 have lo_b5_6 : w.heap.size ≤ b5_6 := Nat.le_trans kw.size (hg.lo _ _ hb5)
 have ne_bx_b5_6 : bx ≠ b5_6 := Nat.ne_of_lt (Nat.lt_of_lt_of_le own_bx.lt (hg.lo _ _ hb5))
 have own_b5_6 : Own W6 b5_6 z5C 33 := own_b5_6
 replace e11 := ft hR e11
 replace e12 := ft hR e12
 have nb_b5_6_ar : b5_6 ∉ blks hd_4 := nb_lt A_4.lt (hg.lo _ _ hb5)
 replace A_4 : Arr W6 lo 9 1 (SA w G (b5_6 :: (bx :: (blks hd_4 ++ [])))) (List.map D.str (L ++ [m])) (.slice v_4a v_4n v_4c) hd_4 := arrA_more A_4 hk [b5_6] (in_cons (hg.lo _ _ hb5) in_nil)
 replace D_cn : Rd W6 (SA w S (b5_6 :: (bx :: (blks hd_4 ++ [])))) (strsD (x.ns)) (.slice cna (x.ns.length) cnc) := sa_more D_cn hk [b5_6] (in_cons (hg.lo _ _ hb5) in_nil)
 replace D_ci : Rd W6 (SA w S (b5_6 :: (bx :: (blks hd_4 ++ [])))) (valsD (x.xs)) (.slice cia (x.xs.length) cic) := sa_more D_ci hk [b5_6] (in_cons (hg.lo _ _ hb5) in_nil)
 replace D_cn10_4 : Rd W6 (SA w S (b5_6 :: (bx :: (blks hd_4 ++ [])))) (strsD ((rtV x m 3).ns)) (.slice cn10_4a (((rtV x m 3).ns).length) cn10_4c) := sa_more D_cn10_4 hk [b5_6] (in_cons (hg.lo _ _ hb5) in_nil)
 replace D_ci10_4 : Rd W6 (SA w S (b5_6 :: (bx :: (blks hd_4 ++ [])))) (valsD ((rtV x m 3).xs)) (.slice ci10_4a (((rtV x m 3).xs).length) ci10_4c) := sa_more D_ci10_4 hk [b5_6] (in_cons (hg.lo _ _ hb5) in_nil)
 replace own_bx := own_bx.ext hk
 replace kw := kw.x hk
 clear hR hk hg hP hb5
 refine tail_store e5 e11 sz33 rfl own_b5_6 (lbr rfl) (all_cons rfl (all_cons rfl (all_cons rfl (all_cons rfl (all_cons rfl all_nil))))) (fun W7 hs own_b5_6 => ?_)
 have own_b5_6 : Own W7 b5_6 [(.int .u8 ((rtV x m 3).k)), (.int .i64 ((rtV x m 3).n)), (.string ((rtV x m 3).t)), (.slice cn10_4a (((rtV x m 3).ns).length) cn10_4c), (.slice ci10_4a (((rtV x m 3).xs).length) ci10_4c)] 33 := own_b5_6
 replace own_bx := own_store own_bx hs ne_bx_b5_6
 replace D_cn := sa_store D_cn hs (by simp)
 replace D_ci := sa_store D_ci hs (by simp)
 replace D_cn10_4 := sa_store D_cn10_4 hs (by simp)
 replace D_ci10_4 := sa_store D_ci10_4 hs (by simp)
 replace A_4 := arrA_store A_4 hs (by simp) nb_b5_6_ar
 replace kw := keeps_store kw hs lo_b5_6
 clear hs
 refine tail_assign (v := (.bool (rtB x m 3))) e12 (by rw [y6]; exact Nat.le_of_ble_eq_true rfl) (fun a8 y8 zz8 e6 hr => ?_)
 replace y8 := y8.trans y6; replace zz8 := zz8.trans zz6
 replace e11 := (hr 11 (by decide)).trans e11
 replace e12 := (hr 12 (by decide)).trans e12
 replace e5 := (hr 5 (by decide)).trans e5
 clear hr
 refine zn (hK3 _ _ ?_)
 refine zq fun K9 hK9 => ?_
 refine rg mixed y8 zz8 ?_
 refine .i (fo 2 (hbs rfl e5) Try.underlying33 rfl sz9 rfl) ?_
 refine .i (lo1 (hlc rfl) own_b5_6 trivial agg9 sz9 rfl) ?_
 refine .al rfl ?_
 refine .dn fun a10 g W10 y10 zz10 hk hg hV hR hP => ?_
 obtain ⟨e4, -, -, -⟩ := hV
 replace A_4 := A_4.ext hk
 replace D_cn := D_cn.ext hk
 replace D_ci := D_ci.ext hk
 replace D_cn10_4 := D_cn10_4.ext hk
 replace D_ci10_4 := D_ci10_4.ext hk
 replace e4 := e4.q
 replace own_bx := own_bx.ext hk
 replace own_b5_6 := own_b5_6.ext hk
 replace kw := kw.x hk
 clear hR hk hg hP
 refine zn (hK9 _ _ ?_)
 refine wp_ret ?_
 refine ret1 rfl zz10 e4 ⟨_, rfl, kw, ?_⟩
 refine ⟨_, _, rfl, own_bx, (arrA_less A_4 (ls_skip (ls_keep (ls_keepA ls_nil)))), nb_4, fun b hb => (hf_4 b hb).imp id (Nat.le_trans hws)⟩
set_option maxRecDepth 100000 in
theorem yBool_ok (m : ByteArray) (hm : m.size ≤ maxLen) (x : V) (hxt : x.t.size ≤ maxLen) (w : World) (S G : BSet) (cn ci : Value) (bx lo : Nat) (av : Value) (hd : Option Nat) (L : List ByteArray) (hL : L.length ≤ 100000) (hM : ∀ b ∈ bx :: (blks hd ++ []), ∀ o, ¬ S b o) (hv : Rd w S (strsD x.ns) cn) (hu : Rd w S (valsD x.xs) ci) (own_bx : Own w bx [.int .u8 x.k, .int .i64 x.n, .string x.t, cn, ci, av, .int .i64 (0)] 56) (A_ar : Arr w lo 9 1 (SA w G (bx :: (blks hd ++ []))) (List.map D.str L) av hd) (nb : bx ∉ blks hd) (hlo : lo ≤ w.heap.size) (hG : ∀ b o, G b o → Cln o) : Calls Try.prog 85 #[.pointer (some ⟨bx, 0, none⟩), .string m] w (RetL w (bx :: (blks hd ++ [])) fun u W => RowR 56 9 w W lo S G bx (fun av => [.int .u8 x.k, .int .i64 x.n, .string x.t, cn, ci, av, .int .i64 (rtE x m 1)]) (L ++ [m]) hd (PhI (.bool ((rtV x m 1).n == 1))) u) := by
 obtain ⟨cna, cnc, ev, D_cn⟩ := rdS_out (rd_argM (M := (bx :: (blks hd ++ []))) hv hM)
 subst ev
 obtain ⟨cia, cic, ev, D_ci⟩ := rdVs_out (rd_argM (M := (bx :: (blks hd ++ []))) hu hM)
 subst ev
 refine enter Try.func85 rfl Try.ntmps85 (lbr rfl) fun a0 y0 zz0 harg => ?_
 have e0 : sl a0 0 = (.pointer (some ⟨bx, 0, none⟩)) := harg 0 (lbr rfl)
 have e1 : sl a0 1 = (.string (m)) := harg 1 (lbr rfl)
 have kw := Keeps.refl (fun k => k ∉ (bx :: (blks hd ++ []))) w
 clear harg
 refine zq fun K1 hK1 => ?_
 refine rg mixed y0 zz0 ?_
 refine .ac ?_
 refine .dn fun a2 g W2 y2 zz2 hk hg hV hR hP => ?_
 obtain ⟨-, -⟩ := hV
 replace e0 := ft hR e0
 replace e1 := ft hR e1
 replace A_ar := A_ar.ext hk
 replace D_cn := D_cn.ext hk
 replace D_ci := D_ci.ext hk
 replace own_bx := own_bx.ext hk
 replace kw := kw.x hk
 clear hR hk hg hP
 refine zn (hK1 _ _ ?_)
 refine zq fun K3 hK3 => ?_
 have hws : w.heap.size ≤ W2.heap.size := kw.size
 have hmR : ∀ b, b ∈ (bx :: (blks hd ++ [])) → b ∈ (bx :: (blks hd ++ [])) := (fun b hb => by first | exact hb | (simp only [List.mem_cons, List.mem_append, List.not_mem_nil, or_false] at hb ⊢; rcases hb with h | h <;> simp [h]))
 refine wp_reg (fun k => k ∉ (bx :: (blks hd ++ []))) (Ψ := fun W => Own W bx [(.int .u8 (x.k)), (.int .i64 (x.n)), (.string (x.t)), (.slice cna (x.ns.length) cnc), (.slice cia (x.xs.length) cic), av, (.int .i64 (0))] 56 ∧ Arr W lo 9 1 (SA w G (bx :: (blks hd ++ []))) (List.map D.str (L)) av hd) mixed y2 zz2 stE_boxR ⟨own_bx, A_ar⟩ ?_
 refine .mb rfl e0 ?_
 refine .mb rfl e1 ?_
 refine .callZ3 (φ1 := Is (.pointer (some ⟨bx, 0, none⟩))) (φ2 := Is (.string (m))) (φ3 := Is (.int .u8 (1))) (φ := IsRow 56 9 W2 lo (SA w S (bx :: (blks hd ++ []))) (SA w G (bx :: (blks hd ++ []))) bx (fun av => [(.int .u8 (x.k)), (.int .i64 (x.n)), (.string (x.t)), (.slice cna (x.ns.length) cnc), (.slice cia (x.xs.length) cic), av, (.int .i64 (rtE x m 1))]) (L ++ [m]) hd (PhT (rtV x m 1) (rtB x m 1))) ent141 (hlc rfl) (hlc rfl) Has.cst (st_row stp_T) (fun g u1 u2 u3 W hk hg h1 h2 h3 hP => by have h1 : u1 = _ := h1; subst u1; have h2 : u2 = _ := h2; subst u2; have h3 : u3 = _ := h3; subst u3; exact (yTake_ok m hm 1 (x) hxt W (SA w S (bx :: (blks hd ++ []))) (SA w G (bx :: (blks hd ++ []))) _ _ bx lo _ hd L hL (fun b hb o h => h.2.2 (hmR b hb)) (D_cn.keeps hk (fun b o h hm => h.2.2 (hmR b hm))) (D_ci.keeps hk (fun b o h hm => h.2.2 (hmR b hm))) hP.1 (row_inA hG hP.2 hmR) nb (Nat.le_trans hlo (Nat.le_trans kw.size hk.size)) (sa_cln hG)).mono fun e W' ⟨u, h1, h2, h3⟩ => ⟨u, h1, h2, W, hk.size, h3⟩) ?_
 refine .dn fun a4 g W4 y4 zz4 hk hg hV hR hP => ?_
 obtain ⟨e10, -, -, -⟩ := hV
 have hMlt : ∀ b ∈ (bx :: (blks hd ++ [])), b < W2.heap.size := (in_cons own_bx.lt (in_app A_ar.lt in_nil))
 obtain ⟨W1, hW1, v_4, hd_4, hphi, own_bx, A_4, nb_4, hf_4⟩ := e10
 replace hf_4 : ∀ b ∈ blks hd_4, b ∈ blks hd ∨ W2.heap.size ≤ b := fun b hb => (hf_4 b hb).imp id (Nat.le_trans hW1)
 obtain ⟨v_4a, v_4n, v_4c, ev⟩ := arr_sl A_4; subst ev
 replace A_4 : Arr W4 lo 9 1 (SA w G (bx :: (blks hd_4 ++ []))) (List.map D.str (L ++ [m])) (.slice v_4a v_4n v_4c) hd_4 := row_outA A_4 (Nat.le_trans kw.size hW1) (fun b hb => Nat.lt_of_lt_of_le (hMlt b hb) hW1) (fun b hb => by simp only [List.mem_cons, List.mem_append, List.not_mem_nil, or_false] at hb ⊢; rcases hb with h | h <;> simp [h])
 obtain ⟨u10_4, ev, D_u10_4⟩ := hphi
 replace D_u10_4 : Rd W4 (SA w S (bx :: (blks hd_4 ++ []))) (V.d (rtV x m 1)) u10_4 := rd_outA D_u10_4 (Nat.le_trans kw.size hW1) (fun b hb => Nat.lt_of_lt_of_le (hMlt b hb) hW1) (fun b hb => by simp only [List.mem_cons, List.mem_append, List.not_mem_nil, or_false] at hb ⊢; rcases hb with h | h <;> simp [h])
 obtain ⟨cn10_4a, cn10_4c, ci10_4a, ci10_4c, ev, ht_u10_4, D_cn10_4, D_ci10_4⟩ := rdV_out D_u10_4
 subst ev; clear D_u10_4
 have e10 : sl a4 10 = (.tuple #[(.agg #[(.int .u8 ((rtV x m 1).k)), (.int .i64 ((rtV x m 1).n)), (.string ((rtV x m 1).t)), (.slice cn10_4a (((rtV x m 1).ns).length) cn10_4c), (.slice ci10_4a (((rtV x m 1).xs).length) ci10_4c)]), (.bool (rtB x m 1))]) := ev; clear ev
 replace D_cn := sa_appL (M' := (bx :: (blks hd_4 ++ []))) D_cn hk hmR (rep_cons (rep_app hf_4 rep_nil))
 replace D_ci := sa_appL (M' := (bx :: (blks hd_4 ++ []))) D_ci hk hmR (rep_cons (rep_app hf_4 rep_nil))
 replace own_bx : Own W4 bx [(.int .u8 (x.k)), (.int .i64 (x.n)), (.string (x.t)), (.slice cna (x.ns.length) cnc), (.slice cia (x.xs.length) cic), (.slice v_4a v_4n v_4c), (.int .i64 (rtE x m 1))] 56 := own_bx
 replace kw := keeps_L kw hk (fun b hb => .inr (fun hn => hn (by first | exact hb | (simp only [List.mem_cons, List.mem_append, List.not_mem_nil, or_false] at hb ⊢; rcases hb with h | h <;> simp [h]))))
 clear hmR hR hk hg hMlt hW1 hP A_ar
 refine tail_reg 3 All y4 zz4 st_tr trivial rfl ?_
 refine .mb rfl e10 ?_
 refine .i (v := (.agg #[(.int .u8 ((rtV x m 1).k)), (.int .i64 ((rtV x m 1).n)), (.string ((rtV x m 1).t)), (.slice cn10_4a (((rtV x m 1).ns).length) cn10_4c), (.slice ci10_4a (((rtV x m 1).xs).length) ci10_4c)])) (sp_extT (hlc rfl) rfl) ?_
 refine .i (v := (.bool (rtB x m 1))) (sp_extT (hlc rfl) rfl) ?_
 refine .dn fun a5 g W5 y5 zz5 hk hg hV hR hP => ?_
 refine tail_nil ?_
 show runTail _ _ _ _ _ _
 obtain ⟨e12, e11, -, -⟩ := hV
 replace A_4 := A_4.ext hk
 replace D_cn := D_cn.ext hk
 replace D_ci := D_ci.ext hk
 replace D_cn10_4 := D_cn10_4.ext hk
 replace D_ci10_4 := D_ci10_4.ext hk
 replace e11 := e11.q
 replace e12 := e12.q
 replace own_bx := own_bx.ext hk
 replace kw := kw.x hk
 clear hR hk hg hP
 refine tail_reg 1 All y5 zz5 st_tr trivial rfl ?_
 refine .alloc z33 ?_
 refine .dn fun a6 g W6 y6 zz6 hk hg hV hR hP => ?_
 refine tail_nil ?_
 show runTail _ _ _ _ _ _
 obtain ⟨⟨b5_6, e5, hb5, own_b5_6⟩, -⟩ := hV
 have lo_b5_6 : w.heap.size ≤ b5_6 := Nat.le_trans kw.size (hg.lo _ _ hb5)
 have ne_bx_b5_6 : bx ≠ b5_6 := Nat.ne_of_lt (Nat.lt_of_lt_of_le own_bx.lt (hg.lo _ _ hb5))
 have own_b5_6 : Own W6 b5_6 z5C 33 := own_b5_6
 replace e11 := ft hR e11
 replace e12 := ft hR e12
 have nb_b5_6_ar : b5_6 ∉ blks hd_4 := nb_lt A_4.lt (hg.lo _ _ hb5)
 replace A_4 : Arr W6 lo 9 1 (SA w G (b5_6 :: (bx :: (blks hd_4 ++ [])))) (List.map D.str (L ++ [m])) (.slice v_4a v_4n v_4c) hd_4 := arrA_more A_4 hk [b5_6] (in_cons (hg.lo _ _ hb5) in_nil)
 replace D_cn : Rd W6 (SA w S (b5_6 :: (bx :: (blks hd_4 ++ [])))) (strsD (x.ns)) (.slice cna (x.ns.length) cnc) := sa_more D_cn hk [b5_6] (in_cons (hg.lo _ _ hb5) in_nil)
 replace D_ci : Rd W6 (SA w S (b5_6 :: (bx :: (blks hd_4 ++ [])))) (valsD (x.xs)) (.slice cia (x.xs.length) cic) := sa_more D_ci hk [b5_6] (in_cons (hg.lo _ _ hb5) in_nil)
 replace D_cn10_4 : Rd W6 (SA w S (b5_6 :: (bx :: (blks hd_4 ++ [])))) (strsD ((rtV x m 1).ns)) (.slice cn10_4a (((rtV x m 1).ns).length) cn10_4c) := sa_more D_cn10_4 hk [b5_6] (in_cons (hg.lo _ _ hb5) in_nil)
 replace D_ci10_4 : Rd W6 (SA w S (b5_6 :: (bx :: (blks hd_4 ++ [])))) (valsD ((rtV x m 1).xs)) (.slice ci10_4a (((rtV x m 1).xs).length) ci10_4c) := sa_more D_ci10_4 hk [b5_6] (in_cons (hg.lo _ _ hb5) in_nil)
 replace own_bx := own_bx.ext hk
 replace kw := kw.x hk
 clear hR hk hg hP hb5
 refine tail_store e5 e11 sz33 rfl own_b5_6 (lbr rfl) (all_cons rfl (all_cons rfl (all_cons rfl (all_cons rfl (all_cons rfl all_nil))))) (fun W7 hs own_b5_6 => ?_)
 have own_b5_6 : Own W7 b5_6 [(.int .u8 ((rtV x m 1).k)), (.int .i64 ((rtV x m 1).n)), (.string ((rtV x m 1).t)), (.slice cn10_4a (((rtV x m 1).ns).length) cn10_4c), (.slice ci10_4a (((rtV x m 1).xs).length) ci10_4c)] 33 := own_b5_6
 replace own_bx := own_store own_bx hs ne_bx_b5_6
 replace D_cn := sa_store D_cn hs (by simp)
 replace D_ci := sa_store D_ci hs (by simp)
 replace D_cn10_4 := sa_store D_cn10_4 hs (by simp)
 replace D_ci10_4 := sa_store D_ci10_4 hs (by simp)
 replace A_4 := arrA_store A_4 hs (by simp) nb_b5_6_ar
 replace kw := keeps_store kw hs lo_b5_6
 clear hs
 refine tail_assign (v := (.bool (rtB x m 1))) e12 (by rw [y6]; exact Nat.le_of_ble_eq_true rfl) (fun a8 y8 zz8 e6 hr => ?_)
 replace y8 := y8.trans y6; replace zz8 := zz8.trans zz6
 replace e11 := (hr 11 (by decide)).trans e11
 replace e12 := (hr 12 (by decide)).trans e12
 replace e5 := (hr 5 (by decide)).trans e5
 clear hr
 refine zn (hK3 _ _ ?_)
 refine zq fun K9 hK9 => ?_
 refine rg mixed y8 zz8 ?_
 refine .i (fo 1 (hbs rfl e5) Try.underlying33 rfl sz2 rfl) ?_
 refine .i (lo1 (hlc rfl) own_b5_6 trivial agg2 sz2 rfl) ?_
 refine .i (sp_eql (hlc rfl) Has.cst) ?_
 refine .al rfl ?_
 refine .dn fun a10 g W10 y10 zz10 hk hg hV hR hP => ?_
 obtain ⟨e4, -, -, -, -⟩ := hV
 replace A_4 := A_4.ext hk
 replace D_cn := D_cn.ext hk
 replace D_ci := D_ci.ext hk
 replace D_cn10_4 := D_cn10_4.ext hk
 replace D_ci10_4 := D_ci10_4.ext hk
 replace e4 := e4.q
 replace own_bx := own_bx.ext hk
 replace own_b5_6 := own_b5_6.ext hk
 replace kw := kw.x hk
 clear hR hk hg hP
 refine zn (hK9 _ _ ?_)
 refine wp_ret ?_
 refine ret1 rfl zz10 e4 ⟨_, rfl, kw, ?_⟩
 refine ⟨_, _, rfl, own_bx, (arrA_less A_4 (ls_skip (ls_keep (ls_keepA ls_nil)))), nb_4, fun b hb => (hf_4 b hb).imp id (Nat.le_trans hws)⟩
set_option maxRecDepth 100000 in
theorem yNum_ok (m : ByteArray) (hm : m.size ≤ maxLen) (lw hi : Int) (x : V) (hxt : x.t.size ≤ maxLen) (w : World) (S G : BSet) (cn ci : Value) (bx lo : Nat) (av : Value) (hd : Option Nat) (L : List ByteArray) (hL : L.length ≤ 100000) (hM : ∀ b ∈ bx :: (blks hd ++ []), ∀ o, ¬ S b o) (hv : Rd w S (strsD x.ns) cn) (hu : Rd w S (valsD x.xs) ci) (own_bx : Own w bx [.int .u8 x.k, .int .i64 x.n, .string x.t, cn, ci, av, .int .i64 (0)] 56) (A_ar : Arr w lo 9 1 (SA w G (bx :: (blks hd ++ []))) (List.map D.str L) av hd) (nb : bx ∉ blks hd) (hlo : lo ≤ w.heap.size) (hG : ∀ b o, G b o → Cln o) : Calls Try.prog 84 #[.pointer (some ⟨bx, 0, none⟩), .string m, .int .i64 lw, .int .i64 hi] w (RetL w (bx :: (blks hd ++ [])) fun u W => RowR 56 9 w W lo S G bx (fun av => [.int .u8 x.k, .int .i64 x.n, .string x.t, cn, ci, av, .int .i64 (rnE x m lw hi)]) (L ++ [m]) hd (PhI (.int .i64 (rnN' x m lw hi))) u) := by
 obtain ⟨cna, cnc, ev, D_cn⟩ := rdS_out (rd_argM (M := (bx :: (blks hd ++ []))) hv hM)
 subst ev
 obtain ⟨cia, cic, ev, D_ci⟩ := rdVs_out (rd_argM (M := (bx :: (blks hd ++ []))) hu hM)
 subst ev
 refine enter Try.func84 rfl Try.ntmps84 (lbr rfl) fun a0 y0 zz0 harg => ?_
 have e0 : sl a0 0 = (.pointer (some ⟨bx, 0, none⟩)) := harg 0 (lbr rfl)
 have e1 : sl a0 1 = (.string (m)) := harg 1 (lbr rfl)
 have e2 : sl a0 2 = (.int .i64 (lw)) := harg 2 (lbr rfl)
 have e3 : sl a0 3 = (.int .i64 (hi)) := harg 3 (lbr rfl)
 have kw := Keeps.refl (fun k => k ∉ (bx :: (blks hd ++ []))) w
 clear harg
 refine zq fun K1 hK1 => ?_
 refine rg mixed y0 zz0 ?_
 refine .ac ?_
 refine .dn fun a2 g W2 y2 zz2 hk hg hV hR hP => ?_
 obtain ⟨-, -⟩ := hV
 replace e0 := ft hR e0
 replace e1 := ft hR e1
 replace e2 := ft hR e2
 replace e3 := ft hR e3
 replace A_ar := A_ar.ext hk
 replace D_cn := D_cn.ext hk
 replace D_ci := D_ci.ext hk
 replace own_bx := own_bx.ext hk
 replace kw := kw.x hk
 clear hR hk hg hP
 refine zn (hK1 _ _ ?_)
 refine zq fun K3 hK3 => ?_
 have hws : w.heap.size ≤ W2.heap.size := kw.size
 have hmR : ∀ b, b ∈ (bx :: (blks hd ++ [])) → b ∈ (bx :: (blks hd ++ [])) := (fun b hb => by first | exact hb | (simp only [List.mem_cons, List.mem_append, List.not_mem_nil, or_false] at hb ⊢; rcases hb with h | h <;> simp [h]))
 refine wp_reg (fun k => k ∉ (bx :: (blks hd ++ []))) (Ψ := fun W => Own W bx [(.int .u8 (x.k)), (.int .i64 (x.n)), (.string (x.t)), (.slice cna (x.ns.length) cnc), (.slice cia (x.xs.length) cic), av, (.int .i64 (0))] 56 ∧ Arr W lo 9 1 (SA w G (bx :: (blks hd ++ []))) (List.map D.str (L)) av hd) mixed y2 zz2 stE_boxR ⟨own_bx, A_ar⟩ ?_
 refine .mb rfl e0 ?_
 refine .mb rfl e1 ?_
 refine .callZ3 (φ1 := Is (.pointer (some ⟨bx, 0, none⟩))) (φ2 := Is (.string (m))) (φ3 := Is (.int .u8 (2))) (φ := IsRow 56 9 W2 lo (SA w S (bx :: (blks hd ++ []))) (SA w G (bx :: (blks hd ++ []))) bx (fun av => [(.int .u8 (x.k)), (.int .i64 (x.n)), (.string (x.t)), (.slice cna (x.ns.length) cnc), (.slice cia (x.xs.length) cic), av, (.int .i64 (rtE x m 2))]) (L ++ [m]) hd (PhT (rtV x m 2) (rtB x m 2))) ent141 (hlc rfl) (hlc rfl) Has.cst (st_row stp_T) (fun g u1 u2 u3 W hk hg h1 h2 h3 hP => by have h1 : u1 = _ := h1; subst u1; have h2 : u2 = _ := h2; subst u2; have h3 : u3 = _ := h3; subst u3; exact (yTake_ok m hm 2 (x) hxt W (SA w S (bx :: (blks hd ++ []))) (SA w G (bx :: (blks hd ++ []))) _ _ bx lo _ hd L hL (fun b hb o h => h.2.2 (hmR b hb)) (D_cn.keeps hk (fun b o h hm => h.2.2 (hmR b hm))) (D_ci.keeps hk (fun b o h hm => h.2.2 (hmR b hm))) hP.1 (row_inA hG hP.2 hmR) nb (Nat.le_trans hlo (Nat.le_trans kw.size hk.size)) (sa_cln hG)).mono fun e W' ⟨u, h1, h2, h3⟩ => ⟨u, h1, h2, W, hk.size, h3⟩) ?_
 refine .dn fun a4 g W4 y4 zz4 hk hg hV hR hP => ?_
 obtain ⟨e14, -, -, -⟩ := hV
 replace e0 := ft hR e0
 replace e2 := ft hR e2
 replace e3 := ft hR e3
 have hMlt : ∀ b ∈ (bx :: (blks hd ++ [])), b < W2.heap.size := (in_cons own_bx.lt (in_app A_ar.lt in_nil))
 obtain ⟨W1, hW1, v_4, hd_4, hphi, own_bx, A_4, nb_4, hf_4⟩ := e14
 replace hf_4 : ∀ b ∈ blks hd_4, b ∈ blks hd ∨ W2.heap.size ≤ b := fun b hb => (hf_4 b hb).imp id (Nat.le_trans hW1)
 obtain ⟨v_4a, v_4n, v_4c, ev⟩ := arr_sl A_4; subst ev
 replace A_4 : Arr W4 lo 9 1 (SA w G (bx :: (blks hd_4 ++ []))) (List.map D.str (L ++ [m])) (.slice v_4a v_4n v_4c) hd_4 := row_outA A_4 (Nat.le_trans kw.size hW1) (fun b hb => Nat.lt_of_lt_of_le (hMlt b hb) hW1) (fun b hb => by simp only [List.mem_cons, List.mem_append, List.not_mem_nil, or_false] at hb ⊢; rcases hb with h | h <;> simp [h])
 obtain ⟨u14_4, ev, D_u14_4⟩ := hphi
 replace D_u14_4 : Rd W4 (SA w S (bx :: (blks hd_4 ++ []))) (V.d (rtV x m 2)) u14_4 := rd_outA D_u14_4 (Nat.le_trans kw.size hW1) (fun b hb => Nat.lt_of_lt_of_le (hMlt b hb) hW1) (fun b hb => by simp only [List.mem_cons, List.mem_append, List.not_mem_nil, or_false] at hb ⊢; rcases hb with h | h <;> simp [h])
 obtain ⟨cn14_4a, cn14_4c, ci14_4a, ci14_4c, ev, ht_u14_4, D_cn14_4, D_ci14_4⟩ := rdV_out D_u14_4
 subst ev; clear D_u14_4
 have e14 : sl a4 14 = (.tuple #[(.agg #[(.int .u8 ((rtV x m 2).k)), (.int .i64 ((rtV x m 2).n)), (.string ((rtV x m 2).t)), (.slice cn14_4a (((rtV x m 2).ns).length) cn14_4c), (.slice ci14_4a (((rtV x m 2).xs).length) ci14_4c)]), (.bool (rtB x m 2))]) := ev; clear ev
 replace D_cn := sa_appL (M' := (bx :: (blks hd_4 ++ []))) D_cn hk hmR (rep_cons (rep_app hf_4 rep_nil))
 replace D_ci := sa_appL (M' := (bx :: (blks hd_4 ++ []))) D_ci hk hmR (rep_cons (rep_app hf_4 rep_nil))
 replace own_bx : Own W4 bx [(.int .u8 (x.k)), (.int .i64 (x.n)), (.string (x.t)), (.slice cna (x.ns.length) cnc), (.slice cia (x.xs.length) cic), (.slice v_4a v_4n v_4c), (.int .i64 (rtE x m 2))] 56 := own_bx
 replace kw := keeps_L kw hk (fun b hb => .inr (fun hn => hn (by first | exact hb | (simp only [List.mem_cons, List.mem_append, List.not_mem_nil, or_false] at hb ⊢; rcases hb with h | h <;> simp [h]))))
 clear hmR hR hk hg hMlt hW1 hP A_ar
 refine tail_reg 3 All y4 zz4 st_tr trivial rfl ?_
 refine .mb rfl e14 ?_
 refine .i (v := (.agg #[(.int .u8 ((rtV x m 2).k)), (.int .i64 ((rtV x m 2).n)), (.string ((rtV x m 2).t)), (.slice cn14_4a (((rtV x m 2).ns).length) cn14_4c), (.slice ci14_4a (((rtV x m 2).xs).length) ci14_4c)])) (sp_extT (hlc rfl) rfl) ?_
 refine .i (v := (.bool (rtB x m 2))) (sp_extT (hlc rfl) rfl) ?_
 refine .dn fun a5 g W5 y5 zz5 hk hg hV hR hP => ?_
 refine tail_nil ?_
 show runTail _ _ _ _ _ _
 obtain ⟨e16, e15, -, -⟩ := hV
 replace e0 := ft hR e0
 replace e2 := ft hR e2
 replace e3 := ft hR e3
 replace A_4 := A_4.ext hk
 replace D_cn := D_cn.ext hk
 replace D_ci := D_ci.ext hk
 replace D_cn14_4 := D_cn14_4.ext hk
 replace D_ci14_4 := D_ci14_4.ext hk
 replace e15 := e15.q
 replace e16 := e16.q
 replace own_bx := own_bx.ext hk
 replace kw := kw.x hk
 clear hR hk hg hP
 refine tail_reg 1 All y5 zz5 st_tr trivial rfl ?_
 refine .alloc z33 ?_
 refine .dn fun a6 g W6 y6 zz6 hk hg hV hR hP => ?_
 refine tail_nil ?_
 show runTail _ _ _ _ _ _
 obtain ⟨⟨b9_6, e9, hb9, own_b9_6⟩, -⟩ := hV
 have lo_b9_6 : w.heap.size ≤ b9_6 := Nat.le_trans kw.size (hg.lo _ _ hb9)
 have ne_bx_b9_6 : bx ≠ b9_6 := Nat.ne_of_lt (Nat.lt_of_lt_of_le own_bx.lt (hg.lo _ _ hb9))
 have own_b9_6 : Own W6 b9_6 z5C 33 := own_b9_6
 replace e0 := ft hR e0
 replace e2 := ft hR e2
 replace e3 := ft hR e3
 replace e15 := ft hR e15
 replace e16 := ft hR e16
 have nb_b9_6_ar : b9_6 ∉ blks hd_4 := nb_lt A_4.lt (hg.lo _ _ hb9)
 replace A_4 : Arr W6 lo 9 1 (SA w G (b9_6 :: (bx :: (blks hd_4 ++ [])))) (List.map D.str (L ++ [m])) (.slice v_4a v_4n v_4c) hd_4 := arrA_more A_4 hk [b9_6] (in_cons (hg.lo _ _ hb9) in_nil)
 replace D_cn : Rd W6 (SA w S (b9_6 :: (bx :: (blks hd_4 ++ [])))) (strsD (x.ns)) (.slice cna (x.ns.length) cnc) := sa_more D_cn hk [b9_6] (in_cons (hg.lo _ _ hb9) in_nil)
 replace D_ci : Rd W6 (SA w S (b9_6 :: (bx :: (blks hd_4 ++ [])))) (valsD (x.xs)) (.slice cia (x.xs.length) cic) := sa_more D_ci hk [b9_6] (in_cons (hg.lo _ _ hb9) in_nil)
 replace D_cn14_4 : Rd W6 (SA w S (b9_6 :: (bx :: (blks hd_4 ++ [])))) (strsD ((rtV x m 2).ns)) (.slice cn14_4a (((rtV x m 2).ns).length) cn14_4c) := sa_more D_cn14_4 hk [b9_6] (in_cons (hg.lo _ _ hb9) in_nil)
 replace D_ci14_4 : Rd W6 (SA w S (b9_6 :: (bx :: (blks hd_4 ++ [])))) (valsD ((rtV x m 2).xs)) (.slice ci14_4a (((rtV x m 2).xs).length) ci14_4c) := sa_more D_ci14_4 hk [b9_6] (in_cons (hg.lo _ _ hb9) in_nil)
 replace own_bx := own_bx.ext hk
 replace kw := kw.x hk
 clear hR hk hg hP hb9
 refine tail_store e9 e15 sz33 rfl own_b9_6 (lbr rfl) (all_cons rfl (all_cons rfl (all_cons rfl (all_cons rfl (all_cons rfl all_nil))))) (fun W7 hs own_b9_6 => ?_)
 have own_b9_6 : Own W7 b9_6 [(.int .u8 ((rtV x m 2).k)), (.int .i64 ((rtV x m 2).n)), (.string ((rtV x m 2).t)), (.slice cn14_4a (((rtV x m 2).ns).length) cn14_4c), (.slice ci14_4a (((rtV x m 2).xs).length) ci14_4c)] 33 := own_b9_6
 replace own_bx := own_store own_bx hs ne_bx_b9_6
 replace D_cn := sa_store D_cn hs (by simp)
 replace D_ci := sa_store D_ci hs (by simp)
 replace D_cn14_4 := sa_store D_cn14_4 hs (by simp)
 replace D_ci14_4 := sa_store D_ci14_4 hs (by simp)
 replace A_4 := arrA_store A_4 hs (by simp) nb_b9_6_ar
 replace kw := keeps_store kw hs lo_b9_6
 clear hs
 refine tail_assign (v := (.bool (rtB x m 2))) e16 (by rw [y6]; exact Nat.le_of_ble_eq_true rfl) (fun a8 y8 zz8 e10 hr => ?_)
 replace y8 := y8.trans y6; replace zz8 := zz8.trans zz6
 replace e0 := (hr 0 (by decide)).trans e0
 replace e2 := (hr 2 (by decide)).trans e2
 replace e3 := (hr 3 (by decide)).trans e3
 replace e15 := (hr 15 (by decide)).trans e15
 replace e16 := (hr 16 (by decide)).trans e16
 replace e9 := (hr 9 (by decide)).trans e9
 clear hr
 refine zn (hK3 _ _ ?_)
 refine zq fun K9 hK9 => ?_
 refine zq fun K10 hK10 => ?_
 refine rg mixed y8 zz8 ?_
 refine .mb rfl e10 ?_
 refine .i (sp_move (hlc rfl)) ?_
 refine .e rfl (hlc rfl) (fun hg => fo 1 (hbs rfl e9) Try.underlying33 rfl sz2 rfl) ?_
 refine .e rfl (hlc rfl) (fun hg => lo1 ((hlc rfl).undE hg) own_b9_6 trivial agg2 sz2 rfl) ?_
 refine .em rfl (hlc rfl) rfl e2 ?_
 refine .e rfl (hlc rfl) (fun hg => sp_lss ((hlc rfl).undE hg) ((hlc rfl).undE hg)) ?_
 refine .e rfl (hlc rfl) (fun hg => sp_move ((hlc rfl).undE hg)) ?_
 refine .opEE (t := 23) (x := decide (((rtV x m 2).n : Int) < (lw : Int))) (p := (rtB x m 2) = true) (φ := Is (.pointer (some ⟨b9_6, 1, none⟩))) rfl (hlc rfl) (st_is _) (fun hg => sp_fieldO (hbs rfl e9) Try.underlying33 rfl sz2 rfl) ?_
 refine .opEE (t := 23) (x := decide (((rtV x m 2).n : Int) < (lw : Int))) (p := (rtB x m 2) = true) (φ := Is (.int .i64 ((rtV x m 2).n))) rfl (hlc rfl) (st_is _) (fun hg => sp_loadO (v := (.int .i64 ((rtV x m 2).n))) ((hlc rfl).undE hg) own_b9_6 trivial agg2 sz2 (lbr rfl) (fun h => by first | rfl | cases h) rfl) ?_
 refine .opEE (t := 23) (x := decide (((rtV x m 2).n : Int) < (lw : Int))) (p := (rtB x m 2) = true) (φ := Is (.int .i64 (hi))) rfl (hlc rfl) (st_is _) (fun hg => sp_move (hbs rfl e3)) ?_
 refine .opEE (t := 23) (x := decide (((rtV x m 2).n : Int) < (lw : Int))) (p := (rtB x m 2) = true) (φ := Is (.bool (decide ((hi : Int) < ((rtV x m 2).n : Int))))) rfl (hlc rfl) (st_is _) (fun hg => sp_gtr ((hlc rfl).undE hg) ((hlc rfl).undE hg)) ?_
 refine .e rfl (hlc rfl) (fun hg => sp_or ((hlc rfl).undE hg) ((hlc rfl).weak fun hq => ⟨hg, hq⟩)) ?_
 refine .i (sp_and (hlc rfl) ((hlc rfl).weak fun hq => hq)) ?_
 refine .dn fun a11 g W11 y11 zz11 hk hg hV hR hP => ?_
 obtain ⟨e29, -, -, -, -, -, -, -, -, -, -, -, -, -⟩ := hV
 replace e0 := ft hR e0
 replace e9 := ft hR e9
 replace A_4 := A_4.ext hk
 replace D_cn := D_cn.ext hk
 replace D_ci := D_ci.ext hk
 replace D_cn14_4 := D_cn14_4.ext hk
 replace D_ci14_4 := D_ci14_4.ext hk
 replace e29 := e29.q
 replace own_bx := own_bx.ext hk
 replace own_b9_6 := own_b9_6.ext hk
 replace kw := kw.x hk
 clear hR hk hg hP
 refine zn (hK10 _ _ ?_)
 refine zc e29 (fun hc => ?_) (fun hc => ?_)
 ·
  have hfin : rnN' x m lw hi = 0 := by rw [rnN', if_pos (by simpa using hc)]
  have hfe : rnE x m lw hi = 1 := by rw [rnE, if_pos (by simpa using hc)]
  refine zq fun K12 hK12 => ?_
  refine rg mixed y11 zz11 ?_
  refine .mb rfl e0 ?_
  refine .i (sp_nilP (hlc rfl)) ?_
  refine .i (fo 6 (hlc rfl) Try.underlying56 rfl sz28 rfl) ?_
  refine .dn fun a13 g W13 y13 zz13 hk hg hV hR hP => ?_
  obtain ⟨e32, -, -, -⟩ := hV
  replace A_4 := A_4.ext hk
  replace D_cn := D_cn.ext hk
  replace D_ci := D_ci.ext hk
  replace D_cn14_4 := D_cn14_4.ext hk
  replace D_ci14_4 := D_ci14_4.ext hk
  have e32 : sl a13 32 = (.pointer (some ⟨bx, 6, none⟩)) := e32
  replace own_bx := own_bx.ext hk
  replace own_b9_6 := own_b9_6.ext hk
  replace kw := kw.x hk
  clear hR hk hg hP
  refine tail_store (b := bx) (o := 6) (v := (.int .i64 (1))) e32 rfl sz28 rfl own_bx (lbr rfl) (all_cons rfl all_nil) (fun W14 hs own_bx => ?_)
  have own_bx : Own W14 bx [(.int .u8 (x.k)), (.int .i64 (x.n)), (.string (x.t)), (.slice cna (x.ns.length) cnc), (.slice cia (x.xs.length) cic), (.slice v_4a v_4n v_4c), (.int .i64 (1))] 56 := own_bx
  replace own_b9_6 := own_store own_b9_6 hs ne_bx_b9_6.symm
  replace D_cn := sa_store D_cn hs (by simp)
  replace D_ci := sa_store D_ci hs (by simp)
  replace D_cn14_4 := sa_store D_cn14_4 hs (by simp)
  replace D_ci14_4 := sa_store D_ci14_4 hs (by simp)
  replace A_4 := arrA_store A_4 hs (by simp) nb_4
  replace kw := keeps_storeN kw hs (by simp)
  clear hs
  refine zn (hK12 _ _ ?_)
  refine zq fun K15 hK15 => ?_
  refine rg mixed y13 zz13 ?_
  refine .ac ?_
  refine .dn fun a16 g W16 y16 zz16 hk hg hV hR hP => ?_
  obtain ⟨e8, -⟩ := hV
  replace A_4 := A_4.ext hk
  replace D_cn := D_cn.ext hk
  replace D_ci := D_ci.ext hk
  replace e8 := e8.q
  replace own_bx := own_bx.ext hk
  replace own_b9_6 := own_b9_6.ext hk
  replace kw := kw.x hk
  clear hR hk hg hP
  refine zn (hK15 _ _ ?_)
  refine wp_ret ?_
  refine ret1 rfl zz16 e8 ⟨_, rfl, kw, ?_⟩
  refine ⟨_, _, by rw [hfin]; rfl, by rw [hfe]; exact own_bx, (arrA_less A_4 (ls_skip (ls_keep (ls_keepA ls_nil)))), nb_4, fun b hb => (hf_4 b hb).imp id (Nat.le_trans hws)⟩
 have hfin : rnN' x m lw hi = (rtV x m 2).n := by rw [rnN', if_neg (by simp at hc; rintro ⟨h1, h2⟩; have h3 := hc h1; omega)]
 have hfe : rnE x m lw hi = rtE x m 2 := by rw [rnE, if_neg (by simp at hc; rintro ⟨h1, h2⟩; have h3 := hc h1; omega)]
 refine wp_skip (hK9 _ _ ?_)
 refine zq fun K17 hK17 => ?_
 refine rg mixed y11 zz11 ?_
 refine .i (fo 1 (hbs rfl e9) Try.underlying33 rfl sz2 rfl) ?_
 refine .i (lo1 (hlc rfl) own_b9_6 trivial agg2 sz2 rfl) ?_
 refine .al rfl ?_
 refine .dn fun a18 g W18 y18 zz18 hk hg hV hR hP => ?_
 obtain ⟨e8, -, -, -⟩ := hV
 replace A_4 := A_4.ext hk
 replace D_cn := D_cn.ext hk
 replace D_ci := D_ci.ext hk
 replace D_cn14_4 := D_cn14_4.ext hk
 replace D_ci14_4 := D_ci14_4.ext hk
 replace e8 := e8.q
 replace own_bx := own_bx.ext hk
 replace own_b9_6 := own_b9_6.ext hk
 replace kw := kw.x hk
 clear hR hk hg hP
 refine zn (hK17 _ _ ?_)
 refine wp_ret ?_
 refine ret1 rfl zz18 e8 ⟨_, rfl, kw, ?_⟩
 refine ⟨_, _, by rw [hfin]; rfl, by rw [hfe]; exact own_bx, (arrA_less A_4 (ls_skip (ls_keep (ls_keepA ls_nil)))), nb_4, fun b hb => (hf_4 b hb).imp id (Nat.le_trans hws)⟩
set_option maxRecDepth 100000 in
theorem yList_ok (m : ByteArray) (hm : m.size ≤ maxLen) (mo : Int) (x : V) (hxt : x.t.size ≤ maxLen) (w : World) (S G : BSet) (cn ci : Value) (bx lo : Nat) (av : Value) (hd : Option Nat) (L : List ByteArray) (hL : L.length ≤ 100000) (hM : ∀ b ∈ bx :: (blks hd ++ []), ∀ o, ¬ S b o) (hv : Rd w S (strsD x.ns) cn) (hu : Rd w S (valsD x.xs) ci) (own_bx : Own w bx [.int .u8 x.k, .int .i64 x.n, .string x.t, cn, ci, av, .int .i64 (0)] 56) (A_ar : Arr w lo 9 1 (SA w G (bx :: (blks hd ++ []))) (List.map D.str L) av hd) (nb : bx ∉ blks hd) (hlo : lo ≤ w.heap.size) (hG : ∀ b o, G b o → Cln o) : Calls Try.prog 87 #[.pointer (some ⟨bx, 0, none⟩), .string m, .int .i64 mo] w (RetL w (bx :: (blks hd ++ [])) fun u W => RowR 56 9 w W lo S G bx (fun av => [.int .u8 x.k, .int .i64 x.n, .string x.t, cn, ci, av, .int .i64 (rlE x m mo)]) (L ++ [m]) hd (PhD (valsD (rlL x m mo))) u) := by
 obtain ⟨cna, cnc, ev, D_cn⟩ := rdS_out (rd_argM (M := (bx :: (blks hd ++ []))) hv hM)
 subst ev
 obtain ⟨cia, cic, ev, D_ci⟩ := rdVs_out (rd_argM (M := (bx :: (blks hd ++ []))) hu hM)
 subst ev
 refine enter Try.func87 rfl Try.ntmps87 (lbr rfl) fun a0 y0 zz0 harg => ?_
 have e0 : sl a0 0 = (.pointer (some ⟨bx, 0, none⟩)) := harg 0 (lbr rfl)
 have e1 : sl a0 1 = (.string (m)) := harg 1 (lbr rfl)
 have e2 : sl a0 2 = (.int .i64 (mo)) := harg 2 (lbr rfl)
 have kw := Keeps.refl (fun k => k ∉ (bx :: (blks hd ++ []))) w
 clear harg
 refine zq fun K1 hK1 => ?_
 refine rg mixed y0 zz0 ?_
 refine .ac ?_
 refine .dn fun a2 g W2 y2 zz2 hk hg hV hR hP => ?_
 obtain ⟨-, -⟩ := hV
 replace e0 := ft hR e0
 replace e1 := ft hR e1
 replace e2 := ft hR e2
 replace A_ar := A_ar.ext hk
 replace D_cn := D_cn.ext hk
 replace D_ci := D_ci.ext hk
 replace own_bx := own_bx.ext hk
 replace kw := kw.x hk
 clear hR hk hg hP
 refine zn (hK1 _ _ ?_)
 refine zq fun K3 hK3 => ?_
 have hws : w.heap.size ≤ W2.heap.size := kw.size
 have hmR : ∀ b, b ∈ (bx :: (blks hd ++ [])) → b ∈ (bx :: (blks hd ++ [])) := (fun b hb => by first | exact hb | (simp only [List.mem_cons, List.mem_append, List.not_mem_nil, or_false] at hb ⊢; rcases hb with h | h <;> simp [h]))
 refine wp_reg (fun k => k ∉ (bx :: (blks hd ++ []))) (Ψ := fun W => Own W bx [(.int .u8 (x.k)), (.int .i64 (x.n)), (.string (x.t)), (.slice cna (x.ns.length) cnc), (.slice cia (x.xs.length) cic), av, (.int .i64 (0))] 56 ∧ Arr W lo 9 1 (SA w G (bx :: (blks hd ++ []))) (List.map D.str (L)) av hd) mixed y2 zz2 stE_boxR ⟨own_bx, A_ar⟩ ?_
 refine .mb rfl e0 ?_
 refine .mb rfl e1 ?_
 refine .callZ3 (φ1 := Is (.pointer (some ⟨bx, 0, none⟩))) (φ2 := Is (.string (m))) (φ3 := Is (.int .u8 (4))) (φ := IsRow 56 9 W2 lo (SA w S (bx :: (blks hd ++ []))) (SA w G (bx :: (blks hd ++ []))) bx (fun av => [(.int .u8 (x.k)), (.int .i64 (x.n)), (.string (x.t)), (.slice cna (x.ns.length) cnc), (.slice cia (x.xs.length) cic), av, (.int .i64 (rtE x m 4))]) (L ++ [m]) hd (PhT (rtV x m 4) (rtB x m 4))) ent141 (hlc rfl) (hlc rfl) Has.cst (st_row stp_T) (fun g u1 u2 u3 W hk hg h1 h2 h3 hP => by have h1 : u1 = _ := h1; subst u1; have h2 : u2 = _ := h2; subst u2; have h3 : u3 = _ := h3; subst u3; exact (yTake_ok m hm 4 (x) hxt W (SA w S (bx :: (blks hd ++ []))) (SA w G (bx :: (blks hd ++ []))) _ _ bx lo _ hd L hL (fun b hb o h => h.2.2 (hmR b hb)) (D_cn.keeps hk (fun b o h hm => h.2.2 (hmR b hm))) (D_ci.keeps hk (fun b o h hm => h.2.2 (hmR b hm))) hP.1 (row_inA hG hP.2 hmR) nb (Nat.le_trans hlo (Nat.le_trans kw.size hk.size)) (sa_cln hG)).mono fun e W' ⟨u, h1, h2, h3⟩ => ⟨u, h1, h2, W, hk.size, h3⟩) ?_
 refine .dn fun a4 g W4 y4 zz4 hk hg hV hR hP => ?_
 obtain ⟨e12, -, -, -⟩ := hV
 replace e0 := ft hR e0
 replace e2 := ft hR e2
 have hMlt : ∀ b ∈ (bx :: (blks hd ++ [])), b < W2.heap.size := (in_cons own_bx.lt (in_app A_ar.lt in_nil))
 obtain ⟨W1, hW1, v_4, hd_4, hphi, own_bx, A_4, nb_4, hf_4⟩ := e12
 replace hf_4 : ∀ b ∈ blks hd_4, b ∈ blks hd ∨ W2.heap.size ≤ b := fun b hb => (hf_4 b hb).imp id (Nat.le_trans hW1)
 obtain ⟨v_4a, v_4n, v_4c, ev⟩ := arr_sl A_4; subst ev
 replace A_4 : Arr W4 lo 9 1 (SA w G (bx :: (blks hd_4 ++ []))) (List.map D.str (L ++ [m])) (.slice v_4a v_4n v_4c) hd_4 := row_outA A_4 (Nat.le_trans kw.size hW1) (fun b hb => Nat.lt_of_lt_of_le (hMlt b hb) hW1) (fun b hb => by simp only [List.mem_cons, List.mem_append, List.not_mem_nil, or_false] at hb ⊢; rcases hb with h | h <;> simp [h])
 obtain ⟨u12_4, ev, D_u12_4⟩ := hphi
 replace D_u12_4 : Rd W4 (SA w S (bx :: (blks hd_4 ++ []))) (V.d (rtV x m 4)) u12_4 := rd_outA D_u12_4 (Nat.le_trans kw.size hW1) (fun b hb => Nat.lt_of_lt_of_le (hMlt b hb) hW1) (fun b hb => by simp only [List.mem_cons, List.mem_append, List.not_mem_nil, or_false] at hb ⊢; rcases hb with h | h <;> simp [h])
 obtain ⟨cn12_4a, cn12_4c, ci12_4a, ci12_4c, ev, ht_u12_4, D_cn12_4, D_ci12_4⟩ := rdV_out D_u12_4
 subst ev; clear D_u12_4
 have e12 : sl a4 12 = (.tuple #[(.agg #[(.int .u8 ((rtV x m 4).k)), (.int .i64 ((rtV x m 4).n)), (.string ((rtV x m 4).t)), (.slice cn12_4a (((rtV x m 4).ns).length) cn12_4c), (.slice ci12_4a (((rtV x m 4).xs).length) ci12_4c)]), (.bool (rtB x m 4))]) := ev; clear ev
 replace D_cn := sa_appL (M' := (bx :: (blks hd_4 ++ []))) D_cn hk hmR (rep_cons (rep_app hf_4 rep_nil))
 replace D_ci := sa_appL (M' := (bx :: (blks hd_4 ++ []))) D_ci hk hmR (rep_cons (rep_app hf_4 rep_nil))
 replace own_bx : Own W4 bx [(.int .u8 (x.k)), (.int .i64 (x.n)), (.string (x.t)), (.slice cna (x.ns.length) cnc), (.slice cia (x.xs.length) cic), (.slice v_4a v_4n v_4c), (.int .i64 (rtE x m 4))] 56 := own_bx
 replace kw := keeps_L kw hk (fun b hb => .inr (fun hn => hn (by first | exact hb | (simp only [List.mem_cons, List.mem_append, List.not_mem_nil, or_false] at hb ⊢; rcases hb with h | h <;> simp [h]))))
 clear hmR hR hk hg hMlt hW1 hP A_ar
 refine tail_reg 3 All y4 zz4 st_tr trivial rfl ?_
 refine .mb rfl e12 ?_
 refine .i (v := (.agg #[(.int .u8 ((rtV x m 4).k)), (.int .i64 ((rtV x m 4).n)), (.string ((rtV x m 4).t)), (.slice cn12_4a (((rtV x m 4).ns).length) cn12_4c), (.slice ci12_4a (((rtV x m 4).xs).length) ci12_4c)])) (sp_extT (hlc rfl) rfl) ?_
 refine .i (v := (.bool (rtB x m 4))) (sp_extT (hlc rfl) rfl) ?_
 refine .dn fun a5 g W5 y5 zz5 hk hg hV hR hP => ?_
 refine tail_nil ?_
 show runTail _ _ _ _ _ _
 obtain ⟨e14, e13, -, -⟩ := hV
 replace e0 := ft hR e0
 replace e2 := ft hR e2
 replace A_4 := A_4.ext hk
 replace D_cn := D_cn.ext hk
 replace D_ci := D_ci.ext hk
 replace D_cn12_4 := D_cn12_4.ext hk
 replace D_ci12_4 := D_ci12_4.ext hk
 replace e13 := e13.q
 replace e14 := e14.q
 replace own_bx := own_bx.ext hk
 replace kw := kw.x hk
 clear hR hk hg hP
 refine tail_reg 1 All y5 zz5 st_tr trivial rfl ?_
 refine .alloc z33 ?_
 refine .dn fun a6 g W6 y6 zz6 hk hg hV hR hP => ?_
 refine tail_nil ?_
 show runTail _ _ _ _ _ _
 obtain ⟨⟨b7_6, e7, hb7, own_b7_6⟩, -⟩ := hV
 have lo_b7_6 : w.heap.size ≤ b7_6 := Nat.le_trans kw.size (hg.lo _ _ hb7)
 have ne_bx_b7_6 : bx ≠ b7_6 := Nat.ne_of_lt (Nat.lt_of_lt_of_le own_bx.lt (hg.lo _ _ hb7))
 have own_b7_6 : Own W6 b7_6 z5C 33 := own_b7_6
 replace e0 := ft hR e0
 replace e2 := ft hR e2
 replace e13 := ft hR e13
 replace e14 := ft hR e14
 have nb_b7_6_ar : b7_6 ∉ blks hd_4 := nb_lt A_4.lt (hg.lo _ _ hb7)
 replace A_4 : Arr W6 lo 9 1 (SA w G (b7_6 :: (bx :: (blks hd_4 ++ [])))) (List.map D.str (L ++ [m])) (.slice v_4a v_4n v_4c) hd_4 := arrA_more A_4 hk [b7_6] (in_cons (hg.lo _ _ hb7) in_nil)
 replace D_cn : Rd W6 (SA w S (b7_6 :: (bx :: (blks hd_4 ++ [])))) (strsD (x.ns)) (.slice cna (x.ns.length) cnc) := sa_more D_cn hk [b7_6] (in_cons (hg.lo _ _ hb7) in_nil)
 replace D_ci : Rd W6 (SA w S (b7_6 :: (bx :: (blks hd_4 ++ [])))) (valsD (x.xs)) (.slice cia (x.xs.length) cic) := sa_more D_ci hk [b7_6] (in_cons (hg.lo _ _ hb7) in_nil)
 replace D_cn12_4 : Rd W6 (SA w S (b7_6 :: (bx :: (blks hd_4 ++ [])))) (strsD ((rtV x m 4).ns)) (.slice cn12_4a (((rtV x m 4).ns).length) cn12_4c) := sa_more D_cn12_4 hk [b7_6] (in_cons (hg.lo _ _ hb7) in_nil)
 replace D_ci12_4 : Rd W6 (SA w S (b7_6 :: (bx :: (blks hd_4 ++ [])))) (valsD ((rtV x m 4).xs)) (.slice ci12_4a (((rtV x m 4).xs).length) ci12_4c) := sa_more D_ci12_4 hk [b7_6] (in_cons (hg.lo _ _ hb7) in_nil)
 replace own_bx := own_bx.ext hk
 replace kw := kw.x hk
 clear hR hk hg hP hb7
 refine tail_store e7 e13 sz33 rfl own_b7_6 (lbr rfl) (all_cons rfl (all_cons rfl (all_cons rfl (all_cons rfl (all_cons rfl all_nil))))) (fun W7 hs own_b7_6 => ?_)
 have own_b7_6 : Own W7 b7_6 [(.int .u8 ((rtV x m 4).k)), (.int .i64 ((rtV x m 4).n)), (.string ((rtV x m 4).t)), (.slice cn12_4a (((rtV x m 4).ns).length) cn12_4c), (.slice ci12_4a (((rtV x m 4).xs).length) ci12_4c)] 33 := own_b7_6
 replace own_bx := own_store own_bx hs ne_bx_b7_6
 replace D_cn := sa_store D_cn hs (by simp)
 replace D_ci := sa_store D_ci hs (by simp)
 replace D_cn12_4 := sa_store D_cn12_4 hs (by simp)
 replace D_ci12_4 := sa_store D_ci12_4 hs (by simp)
 replace A_4 := arrA_store A_4 hs (by simp) nb_b7_6_ar
 replace kw := keeps_store kw hs lo_b7_6
 clear hs
 refine tail_assign (v := (.bool (rtB x m 4))) e14 (by rw [y6]; exact Nat.le_of_ble_eq_true rfl) (fun a8 y8 zz8 e8 hr => ?_)
 replace y8 := y8.trans y6; replace zz8 := zz8.trans zz6
 replace e0 := (hr 0 (by decide)).trans e0
 replace e2 := (hr 2 (by decide)).trans e2
 replace e13 := (hr 13 (by decide)).trans e13
 replace e14 := (hr 14 (by decide)).trans e14
 replace e7 := (hr 7 (by decide)).trans e7
 clear hr
 refine zn (hK3 _ _ ?_)
 refine zq fun K9 hK9 => ?_
 refine zq fun K10 hK10 => ?_
 refine rg mixed y8 zz8 ?_
 refine .mb rfl e8 ?_
 refine .i (sp_move (hlc rfl)) ?_
 refine .e rfl (hlc rfl) (fun hg => fo 4 (hbs rfl e7) Try.underlying33 rfl sz31 rfl) ?_
 refine .e rfl (hlc rfl) (fun hg => lo1 ((hlc rfl).undE hg) own_b7_6 trivial agg31 sz31 rfl) ?_
 refine .e rfl (hlc rfl) (fun hg => sp_lenVs Try.underlying31 (((hlc rfl).undE hg).dat D_ci12_4 sub_all)) ?_
 refine .em rfl (hlc rfl) rfl e2 ?_
 refine .e rfl (hlc rfl) (fun hg => sp_gtr ((hlc rfl).undE hg) ((hlc rfl).undE hg)) ?_
 refine .i (sp_and (hlc rfl) ((hlc rfl).weak fun hq => hq)) ?_
 refine .dn fun a11 g W11 y11 zz11 hk hg hV hR hP => ?_
 obtain ⟨e22, -, -, -, -, -, -, -, -⟩ := hV
 replace e0 := ft hR e0
 replace e7 := ft hR e7
 replace A_4 := A_4.ext hk
 replace D_cn := D_cn.ext hk
 replace D_ci := D_ci.ext hk
 replace D_cn12_4 := D_cn12_4.ext hk
 replace D_ci12_4 := D_ci12_4.ext hk
 replace e22 := e22.q
 replace own_bx := own_bx.ext hk
 replace own_b7_6 := own_b7_6.ext hk
 replace kw := kw.x hk
 clear hR hk hg hP
 refine zn (hK10 _ _ ?_)
 refine zc e22 (fun hc => ?_) (fun hc => ?_)
 ·
  have hbg : rbig x m 4 mo = true := by unfold rbig; simpa using hc
  have hfl : rlL x m mo = [] := by rw [rlL, if_pos hbg]
  have hfe : rlE x m mo = 5 := by rw [rlE, if_pos hbg]
  refine zq fun K12 hK12 => ?_
  refine rg mixed y11 zz11 ?_
  refine .mb rfl e0 ?_
  refine .i (sp_nilP (hlc rfl)) ?_
  refine .i (fo 6 (hlc rfl) Try.underlying56 rfl sz28 rfl) ?_
  refine .dn fun a13 g W13 y13 zz13 hk hg hV hR hP => ?_
  obtain ⟨e25, -, -, -⟩ := hV
  replace A_4 := A_4.ext hk
  replace D_cn := D_cn.ext hk
  replace D_ci := D_ci.ext hk
  replace D_cn12_4 := D_cn12_4.ext hk
  replace D_ci12_4 := D_ci12_4.ext hk
  have e25 : sl a13 25 = (.pointer (some ⟨bx, 6, none⟩)) := e25
  replace own_bx := own_bx.ext hk
  replace own_b7_6 := own_b7_6.ext hk
  replace kw := kw.x hk
  clear hR hk hg hP
  refine tail_store (b := bx) (o := 6) (v := (.int .i64 (5))) e25 rfl sz28 rfl own_bx (lbr rfl) (all_cons rfl all_nil) (fun W14 hs own_bx => ?_)
  have own_bx : Own W14 bx [(.int .u8 (x.k)), (.int .i64 (x.n)), (.string (x.t)), (.slice cna (x.ns.length) cnc), (.slice cia (x.xs.length) cic), (.slice v_4a v_4n v_4c), (.int .i64 (5))] 56 := own_bx
  replace own_b7_6 := own_store own_b7_6 hs ne_bx_b7_6.symm
  replace D_cn := sa_store D_cn hs (by simp)
  replace D_ci := sa_store D_ci hs (by simp)
  replace D_cn12_4 := sa_store D_cn12_4 hs (by simp)
  replace D_ci12_4 := sa_store D_ci12_4 hs (by simp)
  replace A_4 := arrA_store A_4 hs (by simp) nb_4
  replace kw := keeps_storeN kw hs (by simp)
  clear hs
  refine zn (hK12 _ _ ?_)
  refine zq fun K15 hK15 => ?_
  refine rg mixed y13 zz13 ?_
  refine .ac ?_
  refine .dn fun a16 g W16 y16 zz16 hk hg hV hR hP => ?_
  obtain ⟨e6, -⟩ := hV
  replace A_4 := A_4.ext hk
  replace D_cn := D_cn.ext hk
  replace D_ci := D_ci.ext hk
  replace e6 := e6.q
  replace own_bx := own_bx.ext hk
  replace own_b7_6 := own_b7_6.ext hk
  replace kw := kw.x hk
  clear hR hk hg hP
  refine zn (hK15 _ _ ?_)
  refine wp_ret ?_
  refine ret1 rfl zz16 e6 ⟨_, rfl, kw, ?_⟩
  refine ⟨_, _, ?_, by rw [hfe]; exact own_bx, (arrA_less A_4 (ls_skip (ls_keep (ls_keepA ls_nil)))), nb_4, fun b hb => (hf_4 b hb).imp id (Nat.le_trans hws)⟩
  show Rd _ _ _ _
  rw [hfl]
  exact rd_nil _
 have hbg : ¬ rbig x m 4 mo = true := by unfold rbig; simpa using hc
 have hfl : rlL x m mo = (rtV x m 4).xs := by rw [rlL, if_neg hbg]
 have hfe : rlE x m mo = rtE x m 4 := by rw [rlE, if_neg hbg]
 refine wp_skip (hK9 _ _ ?_)
 refine zq fun K17 hK17 => ?_
 refine rg mixed y11 zz11 ?_
 refine .i (fo 4 (hbs rfl e7) Try.underlying33 rfl sz31 rfl) ?_
 refine .i (lo1 (hlc rfl) own_b7_6 trivial agg31 sz31 rfl) ?_
 refine .al rfl ?_
 refine .dn fun a18 g W18 y18 zz18 hk hg hV hR hP => ?_
 obtain ⟨e6, -, -, -⟩ := hV
 replace A_4 := A_4.ext hk
 replace D_cn := D_cn.ext hk
 replace D_ci := D_ci.ext hk
 replace D_cn12_4 := D_cn12_4.ext hk
 replace D_ci12_4 := D_ci12_4.ext hk
 replace e6 := e6.q
 replace own_bx := own_bx.ext hk
 replace own_b7_6 := own_b7_6.ext hk
 replace kw := kw.x hk
 clear hR hk hg hP
 refine zn (hK17 _ _ ?_)
 refine wp_ret ?_
 refine ret1 rfl zz18 e6 ⟨_, rfl, kw, ?_⟩
 refine ⟨_, _, ?_, by rw [hfe]; exact own_bx, (arrA_less A_4 (ls_skip (ls_keep (ls_keepA ls_nil)))), nb_4, fun b hb => (hf_4 b hb).imp id (Nat.le_trans hws)⟩
 show Rd _ _ _ _
 rw [hfl]
 exact sa_less D_ci12_4 (ls_skip (ls_keep (ls_keepA ls_nil)))
set_option maxRecDepth 100000 in
theorem yObject_ok (m : ByteArray) (hm : m.size ≤ maxLen) (mo : Int) (x : V) (hxt : x.t.size ≤ maxLen) (w : World) (S G : BSet) (cn ci : Value) (bx lo : Nat) (av : Value) (hd : Option Nat) (L : List ByteArray) (hL : L.length ≤ 100000) (hM : ∀ b ∈ bx :: (blks hd ++ []), ∀ o, ¬ S b o) (hv : Rd w S (strsD x.ns) cn) (hu : Rd w S (valsD x.xs) ci) (own_bx : Own w bx [.int .u8 x.k, .int .i64 x.n, .string x.t, cn, ci, av, .int .i64 (0)] 56) (A_ar : Arr w lo 9 1 (SA w G (bx :: (blks hd ++ []))) (List.map D.str L) av hd) (nb : bx ∉ blks hd) (hlo : lo ≤ w.heap.size) (hG : ∀ b o, G b o → Cln o) : Calls Try.prog 91 #[.pointer (some ⟨bx, 0, none⟩), .string m, .int .i64 mo] w (RetL w (bx :: (blks hd ++ [])) fun u W => RowR 56 9 w W lo S G bx (fun av => [.int .u8 x.k, .int .i64 x.n, .string x.t, cn, ci, av, .int .i64 (roE x m mo)]) (L ++ [m]) hd (PhD (V.d (roV x m mo))) u) := by
 obtain ⟨cna, cnc, ev, D_cn⟩ := rdS_out (rd_argM (M := (bx :: (blks hd ++ []))) hv hM)
 subst ev
 obtain ⟨cia, cic, ev, D_ci⟩ := rdVs_out (rd_argM (M := (bx :: (blks hd ++ []))) hu hM)
 subst ev
 refine enter Try.func91 rfl Try.ntmps91 (lbr rfl) fun a0 y0 zz0 harg => ?_
 have e0 : sl a0 0 = (.pointer (some ⟨bx, 0, none⟩)) := harg 0 (lbr rfl)
 have e1 : sl a0 1 = (.string (m)) := harg 1 (lbr rfl)
 have e2 : sl a0 2 = (.int .i64 (mo)) := harg 2 (lbr rfl)
 have kw := Keeps.refl (fun k => k ∉ (bx :: (blks hd ++ []))) w
 clear harg
 refine zq fun K1 hK1 => ?_
 refine rg mixed y0 zz0 ?_
 refine .alloc z33 ?_
 refine .dn fun a2 g W2 y2 zz2 hk hg hV hR hP => ?_
 obtain ⟨⟨b6_2, e6, hb6, own_b6_2⟩, -⟩ := hV
 have lo_b6_2 : w.heap.size ≤ b6_2 := Nat.le_trans kw.size (hg.lo _ _ hb6)
 have ne_bx_b6_2 : bx ≠ b6_2 := Nat.ne_of_lt (Nat.lt_of_lt_of_le own_bx.lt (hg.lo _ _ hb6))
 have own_b6_2 : Own W2 b6_2 z5C 33 := own_b6_2
 replace e0 := ft hR e0
 replace e1 := ft hR e1
 replace e2 := ft hR e2
 have nb_b6_2_ar : b6_2 ∉ blks hd := nb_lt A_ar.lt (hg.lo _ _ hb6)
 replace A_ar : Arr W2 lo 9 1 (SA w G (b6_2 :: (bx :: (blks hd ++ [])))) (List.map D.str (L)) av hd := arrA_more A_ar hk [b6_2] (in_cons (hg.lo _ _ hb6) in_nil)
 replace D_cn : Rd W2 (SA w S (b6_2 :: (bx :: (blks hd ++ [])))) (strsD (x.ns)) (.slice cna (x.ns.length) cnc) := sa_more D_cn hk [b6_2] (in_cons (hg.lo _ _ hb6) in_nil)
 replace D_ci : Rd W2 (SA w S (b6_2 :: (bx :: (blks hd ++ [])))) (valsD (x.xs)) (.slice cia (x.xs.length) cic) := sa_more D_ci hk [b6_2] (in_cons (hg.lo _ _ hb6) in_nil)
 replace own_bx := own_bx.ext hk
 replace kw := kw.x hk
 clear hR hk hg hP hb6
 refine zn (hK1 _ _ ?_)
 refine zq fun K3 hK3 => ?_
 have hws : w.heap.size ≤ W2.heap.size := kw.size
 have hmR : ∀ b, b ∈ (bx :: (blks hd ++ [])) → b ∈ (b6_2 :: (bx :: (blks hd ++ []))) := (fun b hb => by first | exact hb | (simp only [List.mem_cons, List.mem_append, List.not_mem_nil, or_false] at hb ⊢; rcases hb with h | h <;> simp [h]))
 refine wp_reg (fun k => k ∉ (bx :: (blks hd ++ []))) (Ψ := fun W => Own W bx [(.int .u8 (x.k)), (.int .i64 (x.n)), (.string (x.t)), (.slice cna (x.ns.length) cnc), (.slice cia (x.xs.length) cic), av, (.int .i64 (0))] 56 ∧ Arr W lo 9 1 (SA w G (b6_2 :: (bx :: (blks hd ++ [])))) (List.map D.str (L)) av hd) mixed y2 zz2 stE_boxR ⟨own_bx, A_ar⟩ ?_
 refine .mb rfl e0 ?_
 refine .mb rfl e1 ?_
 refine .callZ3 (φ1 := Is (.pointer (some ⟨bx, 0, none⟩))) (φ2 := Is (.string (m))) (φ3 := Is (.int .u8 (5))) (φ := IsRow 56 9 W2 lo (SA w S (b6_2 :: (bx :: (blks hd ++ [])))) (SA w G (b6_2 :: (bx :: (blks hd ++ [])))) bx (fun av => [(.int .u8 (x.k)), (.int .i64 (x.n)), (.string (x.t)), (.slice cna (x.ns.length) cnc), (.slice cia (x.xs.length) cic), av, (.int .i64 (rtE x m 5))]) (L ++ [m]) hd (PhT (rtV x m 5) (rtB x m 5))) ent141 (hlc rfl) (hlc rfl) Has.cst (st_row stp_T) (fun g u1 u2 u3 W hk hg h1 h2 h3 hP => by have h1 : u1 = _ := h1; subst u1; have h2 : u2 = _ := h2; subst u2; have h3 : u3 = _ := h3; subst u3; exact (yTake_ok m hm 5 (x) hxt W (SA w S (b6_2 :: (bx :: (blks hd ++ [])))) (SA w G (b6_2 :: (bx :: (blks hd ++ [])))) _ _ bx lo _ hd L hL (fun b hb o h => h.2.2 (hmR b hb)) (D_cn.keeps hk (fun b o h hm => h.2.2 (hmR b hm))) (D_ci.keeps hk (fun b o h hm => h.2.2 (hmR b hm))) hP.1 (row_inA hG hP.2 hmR) nb (Nat.le_trans hlo (Nat.le_trans kw.size hk.size)) (sa_cln hG)).mono fun e W' ⟨u, h1, h2, h3⟩ => ⟨u, h1, h2, W, hk.size, h3⟩) ?_
 refine .dn fun a4 g W4 y4 zz4 hk hg hV hR hP => ?_
 obtain ⟨e12, -, -, -⟩ := hV
 replace e0 := ft hR e0
 replace e2 := ft hR e2
 replace e6 := ft hR e6
 have hMlt : ∀ b ∈ (b6_2 :: (bx :: (blks hd ++ []))), b < W2.heap.size := (in_cons own_b6_2.lt (in_cons own_bx.lt (in_app A_ar.lt in_nil)))
 obtain ⟨W1, hW1, v_4, hd_4, hphi, own_bx, A_4, nb_4, hf_4⟩ := e12
 replace hf_4 : ∀ b ∈ blks hd_4, b ∈ blks hd ∨ W2.heap.size ≤ b := fun b hb => (hf_4 b hb).imp id (Nat.le_trans hW1)
 obtain ⟨v_4a, v_4n, v_4c, ev⟩ := arr_sl A_4; subst ev
 replace A_4 : Arr W4 lo 9 1 (SA w G (b6_2 :: (bx :: (blks hd_4 ++ [])))) (List.map D.str (L ++ [m])) (.slice v_4a v_4n v_4c) hd_4 := row_outA A_4 (Nat.le_trans kw.size hW1) (fun b hb => Nat.lt_of_lt_of_le (hMlt b hb) hW1) (fun b hb => by simp only [List.mem_cons, List.mem_append, List.not_mem_nil, or_false] at hb ⊢; rcases hb with h | h | h <;> simp [h])
 obtain ⟨u12_4, ev, D_u12_4⟩ := hphi
 replace D_u12_4 : Rd W4 (SA w S (b6_2 :: (bx :: (blks hd_4 ++ [])))) (V.d (rtV x m 5)) u12_4 := rd_outA D_u12_4 (Nat.le_trans kw.size hW1) (fun b hb => Nat.lt_of_lt_of_le (hMlt b hb) hW1) (fun b hb => by simp only [List.mem_cons, List.mem_append, List.not_mem_nil, or_false] at hb ⊢; rcases hb with h | h | h <;> simp [h])
 obtain ⟨cn12_4a, cn12_4c, ci12_4a, ci12_4c, ev, ht_u12_4, D_cn12_4, D_ci12_4⟩ := rdV_out D_u12_4
 subst ev; clear D_u12_4
 have e12 : sl a4 12 = (.tuple #[(.agg #[(.int .u8 ((rtV x m 5).k)), (.int .i64 ((rtV x m 5).n)), (.string ((rtV x m 5).t)), (.slice cn12_4a (((rtV x m 5).ns).length) cn12_4c), (.slice ci12_4a (((rtV x m 5).xs).length) ci12_4c)]), (.bool (rtB x m 5))]) := ev; clear ev
 replace D_cn := sa_appL (M' := (b6_2 :: (bx :: (blks hd_4 ++ [])))) D_cn hk hmR (rep_cons (rep_cons (rep_app hf_4 rep_nil)))
 replace D_ci := sa_appL (M' := (b6_2 :: (bx :: (blks hd_4 ++ [])))) D_ci hk hmR (rep_cons (rep_cons (rep_app hf_4 rep_nil)))
 have nb_b6_2_4 : b6_2 ∉ blks hd_4 := nb_new nb_b6_2_ar own_b6_2.lt hf_4
 replace own_b6_2 := own_keepL own_b6_2 hk (nin_boxA ne_bx_b6_2.symm nb_b6_2_ar)
 replace own_bx : Own W4 bx [(.int .u8 (x.k)), (.int .i64 (x.n)), (.string (x.t)), (.slice cna (x.ns.length) cnc), (.slice cia (x.xs.length) cic), (.slice v_4a v_4n v_4c), (.int .i64 (rtE x m 5))] 56 := own_bx
 replace kw := keeps_L kw hk (fun b hb => .inr (fun hn => hn (by first | exact hb | (simp only [List.mem_cons, List.mem_append, List.not_mem_nil, or_false] at hb ⊢; rcases hb with h | h <;> simp [h]))))
 clear hmR hR hk hg hMlt hW1 hP A_ar
 refine tail_reg 3 All y4 zz4 st_tr trivial rfl ?_
 refine .mb rfl e12 ?_
 refine .i (v := (.agg #[(.int .u8 ((rtV x m 5).k)), (.int .i64 ((rtV x m 5).n)), (.string ((rtV x m 5).t)), (.slice cn12_4a (((rtV x m 5).ns).length) cn12_4c), (.slice ci12_4a (((rtV x m 5).xs).length) ci12_4c)])) (sp_extT (hlc rfl) rfl) ?_
 refine .i (v := (.bool (rtB x m 5))) (sp_extT (hlc rfl) rfl) ?_
 refine .dn fun a5 g W5 y5 zz5 hk hg hV hR hP => ?_
 refine tail_nil ?_
 show runTail _ _ _ _ _ _
 obtain ⟨e14, e13, -, -⟩ := hV
 replace e0 := ft hR e0
 replace e2 := ft hR e2
 replace e6 := ft hR e6
 replace A_4 := A_4.ext hk
 replace D_cn := D_cn.ext hk
 replace D_ci := D_ci.ext hk
 replace D_cn12_4 := D_cn12_4.ext hk
 replace D_ci12_4 := D_ci12_4.ext hk
 replace e13 := e13.q
 replace e14 := e14.q
 replace own_bx := own_bx.ext hk
 replace own_b6_2 := own_b6_2.ext hk
 replace kw := kw.x hk
 clear hR hk hg hP
 refine tail_reg 1 All y5 zz5 st_tr trivial rfl ?_
 refine .alloc z33 ?_
 refine .dn fun a6 g W6 y6 zz6 hk hg hV hR hP => ?_
 refine tail_nil ?_
 show runTail _ _ _ _ _ _
 obtain ⟨⟨b7_6, e7, hb7, own_b7_6⟩, -⟩ := hV
 have lo_b7_6 : w.heap.size ≤ b7_6 := Nat.le_trans kw.size (hg.lo _ _ hb7)
 have ne_bx_b7_6 : bx ≠ b7_6 := Nat.ne_of_lt (Nat.lt_of_lt_of_le own_bx.lt (hg.lo _ _ hb7))
 have ne_b6_2_b7_6 : b6_2 ≠ b7_6 := Nat.ne_of_lt (Nat.lt_of_lt_of_le own_b6_2.lt (hg.lo _ _ hb7))
 have own_b7_6 : Own W6 b7_6 z5C 33 := own_b7_6
 replace e0 := ft hR e0
 replace e2 := ft hR e2
 replace e6 := ft hR e6
 replace e13 := ft hR e13
 replace e14 := ft hR e14
 have nb_b7_6_ar : b7_6 ∉ blks hd_4 := nb_lt A_4.lt (hg.lo _ _ hb7)
 replace A_4 : Arr W6 lo 9 1 (SA w G (b7_6 :: (b6_2 :: (bx :: (blks hd_4 ++ []))))) (List.map D.str (L ++ [m])) (.slice v_4a v_4n v_4c) hd_4 := arrA_more A_4 hk [b7_6] (in_cons (hg.lo _ _ hb7) in_nil)
 replace D_cn : Rd W6 (SA w S (b7_6 :: (b6_2 :: (bx :: (blks hd_4 ++ []))))) (strsD (x.ns)) (.slice cna (x.ns.length) cnc) := sa_more D_cn hk [b7_6] (in_cons (hg.lo _ _ hb7) in_nil)
 replace D_ci : Rd W6 (SA w S (b7_6 :: (b6_2 :: (bx :: (blks hd_4 ++ []))))) (valsD (x.xs)) (.slice cia (x.xs.length) cic) := sa_more D_ci hk [b7_6] (in_cons (hg.lo _ _ hb7) in_nil)
 replace D_cn12_4 : Rd W6 (SA w S (b7_6 :: (b6_2 :: (bx :: (blks hd_4 ++ []))))) (strsD ((rtV x m 5).ns)) (.slice cn12_4a (((rtV x m 5).ns).length) cn12_4c) := sa_more D_cn12_4 hk [b7_6] (in_cons (hg.lo _ _ hb7) in_nil)
 replace D_ci12_4 : Rd W6 (SA w S (b7_6 :: (b6_2 :: (bx :: (blks hd_4 ++ []))))) (valsD ((rtV x m 5).xs)) (.slice ci12_4a (((rtV x m 5).xs).length) ci12_4c) := sa_more D_ci12_4 hk [b7_6] (in_cons (hg.lo _ _ hb7) in_nil)
 replace own_bx := own_bx.ext hk
 replace own_b6_2 := own_b6_2.ext hk
 replace kw := kw.x hk
 clear hR hk hg hP hb7
 refine tail_store e7 e13 sz33 rfl own_b7_6 (lbr rfl) (all_cons rfl (all_cons rfl (all_cons rfl (all_cons rfl (all_cons rfl all_nil))))) (fun W7 hs own_b7_6 => ?_)
 have own_b7_6 : Own W7 b7_6 [(.int .u8 ((rtV x m 5).k)), (.int .i64 ((rtV x m 5).n)), (.string ((rtV x m 5).t)), (.slice cn12_4a (((rtV x m 5).ns).length) cn12_4c), (.slice ci12_4a (((rtV x m 5).xs).length) ci12_4c)] 33 := own_b7_6
 replace own_bx := own_store own_bx hs ne_bx_b7_6
 replace own_b6_2 := own_store own_b6_2 hs ne_b6_2_b7_6
 replace D_cn := sa_store D_cn hs (by simp)
 replace D_ci := sa_store D_ci hs (by simp)
 replace D_cn12_4 := sa_store D_cn12_4 hs (by simp)
 replace D_ci12_4 := sa_store D_ci12_4 hs (by simp)
 replace A_4 := arrA_store A_4 hs (by simp) nb_b7_6_ar
 replace kw := keeps_store kw hs lo_b7_6
 clear hs
 refine tail_assign (v := (.bool (rtB x m 5))) e14 (by rw [y6]; exact Nat.le_of_ble_eq_true rfl) (fun a8 y8 zz8 e8 hr => ?_)
 replace y8 := y8.trans y6; replace zz8 := zz8.trans zz6
 replace e0 := (hr 0 (by decide)).trans e0
 replace e2 := (hr 2 (by decide)).trans e2
 replace e6 := (hr 6 (by decide)).trans e6
 replace e13 := (hr 13 (by decide)).trans e13
 replace e14 := (hr 14 (by decide)).trans e14
 replace e7 := (hr 7 (by decide)).trans e7
 clear hr
 refine zn (hK3 _ _ ?_)
 refine zq fun K9 hK9 => ?_
 refine zq fun K10 hK10 => ?_
 refine rg mixed y8 zz8 ?_
 refine .mb rfl e8 ?_
 refine .i (sp_move (hlc rfl)) ?_
 refine .e rfl (hlc rfl) (fun hg => fo 4 (hbs rfl e7) Try.underlying33 rfl sz31 rfl) ?_
 refine .e rfl (hlc rfl) (fun hg => lo1 ((hlc rfl).undE hg) own_b7_6 trivial agg31 sz31 rfl) ?_
 refine .e rfl (hlc rfl) (fun hg => sp_lenVs Try.underlying31 (((hlc rfl).undE hg).dat D_ci12_4 sub_all)) ?_
 refine .em rfl (hlc rfl) rfl e2 ?_
 refine .e rfl (hlc rfl) (fun hg => sp_gtr ((hlc rfl).undE hg) ((hlc rfl).undE hg)) ?_
 refine .i (sp_and (hlc rfl) ((hlc rfl).weak fun hq => hq)) ?_
 refine .dn fun a11 g W11 y11 zz11 hk hg hV hR hP => ?_
 obtain ⟨e22, -, -, -, -, -, -, -, -⟩ := hV
 replace e0 := ft hR e0
 replace e6 := ft hR e6
 replace e7 := ft hR e7
 replace A_4 := A_4.ext hk
 replace D_cn := D_cn.ext hk
 replace D_ci := D_ci.ext hk
 replace D_cn12_4 := D_cn12_4.ext hk
 replace D_ci12_4 := D_ci12_4.ext hk
 replace e22 := e22.q
 replace own_bx := own_bx.ext hk
 replace own_b6_2 := own_b6_2.ext hk
 replace own_b7_6 := own_b7_6.ext hk
 replace kw := kw.x hk
 clear hR hk hg hP
 refine zn (hK10 _ _ ?_)
 refine zc e22 (fun hc => ?_) (fun hc => ?_)
 ·
  have hbg : rbig x m 5 mo = true := by unfold rbig; simpa using hc
  have hfo : roV x m mo = V.zero := by rw [roV, if_pos hbg]
  have hfe : roE x m mo = 5 := by rw [roE, if_pos hbg]
  refine zq fun K12 hK12 => ?_
  refine rg mixed y11 zz11 ?_
  refine .mb rfl e0 ?_
  refine .i (sp_nilP (hlc rfl)) ?_
  refine .i (fo 6 (hlc rfl) Try.underlying56 rfl sz28 rfl) ?_
  refine .dn fun a13 g W13 y13 zz13 hk hg hV hR hP => ?_
  obtain ⟨e25, -, -, -⟩ := hV
  replace e6 := ft hR e6
  replace A_4 := A_4.ext hk
  replace D_cn := D_cn.ext hk
  replace D_ci := D_ci.ext hk
  replace D_cn12_4 := D_cn12_4.ext hk
  replace D_ci12_4 := D_ci12_4.ext hk
  have e25 : sl a13 25 = (.pointer (some ⟨bx, 6, none⟩)) := e25
  replace own_bx := own_bx.ext hk
  replace own_b6_2 := own_b6_2.ext hk
  replace own_b7_6 := own_b7_6.ext hk
  replace kw := kw.x hk
  clear hR hk hg hP
  refine tail_store (b := bx) (o := 6) (v := (.int .i64 (5))) e25 rfl sz28 rfl own_bx (lbr rfl) (all_cons rfl all_nil) (fun W14 hs own_bx => ?_)
  have own_bx : Own W14 bx [(.int .u8 (x.k)), (.int .i64 (x.n)), (.string (x.t)), (.slice cna (x.ns.length) cnc), (.slice cia (x.xs.length) cic), (.slice v_4a v_4n v_4c), (.int .i64 (5))] 56 := own_bx
  replace own_b6_2 := own_store own_b6_2 hs ne_bx_b6_2.symm
  replace own_b7_6 := own_store own_b7_6 hs ne_bx_b7_6.symm
  replace D_cn := sa_store D_cn hs (by simp)
  replace D_ci := sa_store D_ci hs (by simp)
  replace D_cn12_4 := sa_store D_cn12_4 hs (by simp)
  replace D_ci12_4 := sa_store D_ci12_4 hs (by simp)
  replace A_4 := arrA_store A_4 hs (by simp) nb_4
  replace kw := keeps_storeN kw hs (by simp)
  clear hs
  refine zn (hK12 _ _ ?_)
  refine zq fun K15 hK15 => ?_
  refine rg mixed y13 zz13 ?_
  refine .i (v := (.agg #[(.int .u8 (0)), (.int .i64 (0)), (.string (⟨#[]⟩)), (.slice none 0 0), (.slice none 0 0)])) (sp_build (vs := []) Try.underlying33 z33 (pl33 Try.underlying33) trivial rfl) ?_
  refine .dn fun a16 g W16 y16 zz16 hk hg hV hR hP => ?_
  obtain ⟨e26, -⟩ := hV
  replace e6 := ft hR e6
  replace A_4 := A_4.ext hk
  replace D_cn := D_cn.ext hk
  replace D_ci := D_ci.ext hk
  replace e26 := e26.q
  replace own_bx := own_bx.ext hk
  replace own_b6_2 := own_b6_2.ext hk
  replace own_b7_6 := own_b7_6.ext hk
  replace kw := kw.x hk
  clear hR hk hg hP
  refine tail_store e6 e26 sz33 rfl own_b6_2 (lbr rfl) (all_cons rfl (all_cons rfl (all_cons rfl (all_cons rfl (all_cons rfl all_nil))))) (fun W17 hs own_b6_2 => ?_)
  have own_b6_2 : Own W17 b6_2 z5C 33 := own_b6_2
  replace own_bx := own_store own_bx hs ne_bx_b6_2
  replace own_b7_6 := own_store own_b7_6 hs ne_b6_2_b7_6.symm
  replace D_cn := sa_store D_cn hs (by simp)
  replace D_ci := sa_store D_ci hs (by simp)
  replace A_4 := arrA_store A_4 hs (by simp) nb_b6_2_4
  replace kw := keeps_store kw hs lo_b6_2
  clear hs
  refine zn (hK15 _ _ ?_)
  refine wp_ret ?_
  refine retC (v := (.agg #[(.int .u8 (0)), (.int .i64 (0)), (.string (⟨#[]⟩)), (.slice none 0 0), (.slice none 0 0)])) rfl zz16 e6 own_b6_2 agg33 sz33 rfl (fun h => by cases h) rfl ⟨_, rfl, kw, ?_⟩
  refine ⟨_, _, ?_, by rw [hfe]; exact own_bx, (arrA_less A_4 (ls_skip (ls_skip (ls_keep (ls_keepA ls_nil))))), nb_4, fun b hb => (hf_4 b hb).imp id (Nat.le_trans hws)⟩
  show Rd _ _ _ _
  rw [hfo]
  exact sa_less (rdV_mk (lbr rfl) (rd_nil _) (rd_nil _) : Rd W17 (SA w S (b7_6 :: (b6_2 :: (bx :: (blks hd_4 ++ []))))) (V.d (V.mk (0) (0) (⟨#[]⟩) ([]) ([]))) _) (ls_skip (ls_skip (ls_keep (ls_keepA ls_nil))))
 have hbg : ¬ rbig x m 5 mo = true := by unfold rbig; simpa using hc
 have hfo : roV x m mo = rtV x m 5 := by rw [roV, if_neg hbg]
 have hfe : roE x m mo = rtE x m 5 := by rw [roE, if_neg hbg]
 refine wp_skip (hK9 _ _ ?_)
 refine zq fun K18 hK18 => ?_
 refine rg mixed y11 zz11 ?_
 refine .i (v := (.agg #[(.int .u8 ((rtV x m 5).k)), (.int .i64 ((rtV x m 5).n)), (.string ((rtV x m 5).t)), (.slice cn12_4a (((rtV x m 5).ns).length) cn12_4c), (.slice ci12_4a (((rtV x m 5).xs).length) ci12_4c)])) (loA (hbs rfl e7) own_b7_6 trivial agg33 sz33 rfl rfl) ?_
 refine .dn fun a19 g W19 y19 zz19 hk hg hV hR hP => ?_
 obtain ⟨e27, -⟩ := hV
 replace e6 := ft hR e6
 replace A_4 := A_4.ext hk
 replace D_cn := D_cn.ext hk
 replace D_ci := D_ci.ext hk
 replace D_cn12_4 := D_cn12_4.ext hk
 replace D_ci12_4 := D_ci12_4.ext hk
 replace e27 := e27.q
 replace own_bx := own_bx.ext hk
 replace own_b6_2 := own_b6_2.ext hk
 replace own_b7_6 := own_b7_6.ext hk
 replace kw := kw.x hk
 clear hR hk hg hP
 refine tail_store e6 e27 sz33 rfl own_b6_2 (lbr rfl) (all_cons rfl (all_cons rfl (all_cons rfl (all_cons rfl (all_cons rfl all_nil))))) (fun W20 hs own_b6_2 => ?_)
 have own_b6_2 : Own W20 b6_2 [(.int .u8 ((rtV x m 5).k)), (.int .i64 ((rtV x m 5).n)), (.string ((rtV x m 5).t)), (.slice cn12_4a (((rtV x m 5).ns).length) cn12_4c), (.slice ci12_4a (((rtV x m 5).xs).length) ci12_4c)] 33 := own_b6_2
 replace own_bx := own_store own_bx hs ne_bx_b6_2
 replace own_b7_6 := own_store own_b7_6 hs ne_b6_2_b7_6.symm
 replace D_cn := sa_store D_cn hs (by simp)
 replace D_ci := sa_store D_ci hs (by simp)
 replace D_cn12_4 := sa_store D_cn12_4 hs (by simp)
 replace D_ci12_4 := sa_store D_ci12_4 hs (by simp)
 replace A_4 := arrA_store A_4 hs (by simp) nb_b6_2_4
 replace kw := keeps_store kw hs lo_b6_2
 clear hs
 refine zn (hK18 _ _ ?_)
 refine wp_ret ?_
 refine retC (v := (.agg #[(.int .u8 ((rtV x m 5).k)), (.int .i64 ((rtV x m 5).n)), (.string ((rtV x m 5).t)), (.slice cn12_4a (((rtV x m 5).ns).length) cn12_4c), (.slice ci12_4a (((rtV x m 5).xs).length) ci12_4c)])) rfl zz19 e6 own_b6_2 agg33 sz33 rfl (fun h => by cases h) rfl ⟨_, rfl, kw, ?_⟩
 refine ⟨_, _, ?_, by rw [hfe]; exact own_bx, (arrA_less A_4 (ls_skip (ls_skip (ls_keep (ls_keepA ls_nil))))), nb_4, fun b hb => (hf_4 b hb).imp id (Nat.le_trans hws)⟩
 show Rd _ _ _ _
 rw [hfo]
 exact sa_less (rdV_in (x := (rtV x m 5)) ht_u12_4 D_cn12_4 D_ci12_4 : Rd W20 (SA w S (b7_6 :: (b6_2 :: (bx :: (blks hd_4 ++ []))))) (V.d ((rtV x m 5))) _) (ls_skip (ls_skip (ls_keep (ls_keepA ls_nil))))
set_option maxRecDepth 100000 in
theorem yAny_ok (m : ByteArray) (hm : m.size ≤ maxLen) (x : V) (hxt : x.t.size ≤ maxLen) (w : World) (S G : BSet) (cn ci : Value) (bx lo : Nat) (av : Value) (hd : Option Nat) (L : List ByteArray) (hL : L.length ≤ 100000) (hM : ∀ b ∈ bx :: (blks hd ++ []), ∀ o, ¬ S b o) (hv : Rd w S (strsD x.ns) cn) (hu : Rd w S (valsD x.xs) ci) (own_bx : Own w bx [.int .u8 x.k, .int .i64 x.n, .string x.t, cn, ci, av, .int .i64 (0)] 56) (A_ar : Arr w lo 9 1 (SA w G (bx :: (blks hd ++ []))) (List.map D.str L) av hd) (nb : bx ∉ blks hd) (hlo : lo ≤ w.heap.size) (hG : ∀ b o, G b o → Cln o) : Calls Try.prog 92 #[.pointer (some ⟨bx, 0, none⟩), .string m] w (RetL w (bx :: (blks hd ++ [])) fun u W => RowR 56 9 w W lo S G bx (fun av => [.int .u8 x.k, .int .i64 x.n, .string x.t, cn, ci, av, .int .i64 (rtE x m 0)]) (L ++ [m]) hd (PhD (V.d (rtV x m 0))) u) := by
 obtain ⟨cna, cnc, ev, D_cn⟩ := rdS_out (rd_argM (M := (bx :: (blks hd ++ []))) hv hM)
 subst ev
 obtain ⟨cia, cic, ev, D_ci⟩ := rdVs_out (rd_argM (M := (bx :: (blks hd ++ []))) hu hM)
 subst ev
 refine enter Try.func92 rfl Try.ntmps92 (lbr rfl) fun a0 y0 zz0 harg => ?_
 have e0 : sl a0 0 = (.pointer (some ⟨bx, 0, none⟩)) := harg 0 (lbr rfl)
 have e1 : sl a0 1 = (.string (m)) := harg 1 (lbr rfl)
 have kw := Keeps.refl (fun k => k ∉ (bx :: (blks hd ++ []))) w
 clear harg
 refine zq fun K1 hK1 => ?_
 refine rg mixed y0 zz0 ?_
 refine .alloc z33 ?_
 refine .dn fun a2 g W2 y2 zz2 hk hg hV hR hP => ?_
 obtain ⟨⟨b4_2, e4, hb4, own_b4_2⟩, -⟩ := hV
 have lo_b4_2 : w.heap.size ≤ b4_2 := Nat.le_trans kw.size (hg.lo _ _ hb4)
 have ne_bx_b4_2 : bx ≠ b4_2 := Nat.ne_of_lt (Nat.lt_of_lt_of_le own_bx.lt (hg.lo _ _ hb4))
 have own_b4_2 : Own W2 b4_2 z5C 33 := own_b4_2
 replace e0 := ft hR e0
 replace e1 := ft hR e1
 have nb_b4_2_ar : b4_2 ∉ blks hd := nb_lt A_ar.lt (hg.lo _ _ hb4)
 replace A_ar : Arr W2 lo 9 1 (SA w G (b4_2 :: (bx :: (blks hd ++ [])))) (List.map D.str (L)) av hd := arrA_more A_ar hk [b4_2] (in_cons (hg.lo _ _ hb4) in_nil)
 replace D_cn : Rd W2 (SA w S (b4_2 :: (bx :: (blks hd ++ [])))) (strsD (x.ns)) (.slice cna (x.ns.length) cnc) := sa_more D_cn hk [b4_2] (in_cons (hg.lo _ _ hb4) in_nil)
 replace D_ci : Rd W2 (SA w S (b4_2 :: (bx :: (blks hd ++ [])))) (valsD (x.xs)) (.slice cia (x.xs.length) cic) := sa_more D_ci hk [b4_2] (in_cons (hg.lo _ _ hb4) in_nil)
 replace own_bx := own_bx.ext hk
 replace kw := kw.x hk
 clear hR hk hg hP hb4
 refine zn (hK1 _ _ ?_)
 refine zq fun K3 hK3 => ?_
 have hws : w.heap.size ≤ W2.heap.size := kw.size
 have hmR : ∀ b, b ∈ (bx :: (blks hd ++ [])) → b ∈ (b4_2 :: (bx :: (blks hd ++ []))) := (fun b hb => by first | exact hb | (simp only [List.mem_cons, List.mem_append, List.not_mem_nil, or_false] at hb ⊢; rcases hb with h | h <;> simp [h]))
 refine wp_reg (fun k => k ∉ (bx :: (blks hd ++ []))) (Ψ := fun W => Own W bx [(.int .u8 (x.k)), (.int .i64 (x.n)), (.string (x.t)), (.slice cna (x.ns.length) cnc), (.slice cia (x.xs.length) cic), av, (.int .i64 (0))] 56 ∧ Arr W lo 9 1 (SA w G (b4_2 :: (bx :: (blks hd ++ [])))) (List.map D.str (L)) av hd) mixed y2 zz2 stE_boxR ⟨own_bx, A_ar⟩ ?_
 refine .mb rfl e0 ?_
 refine .mb rfl e1 ?_
 refine .callZ3 (φ1 := Is (.pointer (some ⟨bx, 0, none⟩))) (φ2 := Is (.string (m))) (φ3 := Is (.int .u8 (0))) (φ := IsRow 56 9 W2 lo (SA w S (b4_2 :: (bx :: (blks hd ++ [])))) (SA w G (b4_2 :: (bx :: (blks hd ++ [])))) bx (fun av => [(.int .u8 (x.k)), (.int .i64 (x.n)), (.string (x.t)), (.slice cna (x.ns.length) cnc), (.slice cia (x.xs.length) cic), av, (.int .i64 (rtE x m 0))]) (L ++ [m]) hd (PhT (rtV x m 0) (rtB x m 0))) ent141 (hlc rfl) (hlc rfl) Has.cst (st_row stp_T) (fun g u1 u2 u3 W hk hg h1 h2 h3 hP => by have h1 : u1 = _ := h1; subst u1; have h2 : u2 = _ := h2; subst u2; have h3 : u3 = _ := h3; subst u3; exact (yTake_ok m hm 0 (x) hxt W (SA w S (b4_2 :: (bx :: (blks hd ++ [])))) (SA w G (b4_2 :: (bx :: (blks hd ++ [])))) _ _ bx lo _ hd L hL (fun b hb o h => h.2.2 (hmR b hb)) (D_cn.keeps hk (fun b o h hm => h.2.2 (hmR b hm))) (D_ci.keeps hk (fun b o h hm => h.2.2 (hmR b hm))) hP.1 (row_inA hG hP.2 hmR) nb (Nat.le_trans hlo (Nat.le_trans kw.size hk.size)) (sa_cln hG)).mono fun e W' ⟨u, h1, h2, h3⟩ => ⟨u, h1, h2, W, hk.size, h3⟩) ?_
 refine .dn fun a4 g W4 y4 zz4 hk hg hV hR hP => ?_
 obtain ⟨e10, -, -, -⟩ := hV
 replace e4 := ft hR e4
 have hMlt : ∀ b ∈ (b4_2 :: (bx :: (blks hd ++ []))), b < W2.heap.size := (in_cons own_b4_2.lt (in_cons own_bx.lt (in_app A_ar.lt in_nil)))
 obtain ⟨W1, hW1, v_4, hd_4, hphi, own_bx, A_4, nb_4, hf_4⟩ := e10
 replace hf_4 : ∀ b ∈ blks hd_4, b ∈ blks hd ∨ W2.heap.size ≤ b := fun b hb => (hf_4 b hb).imp id (Nat.le_trans hW1)
 obtain ⟨v_4a, v_4n, v_4c, ev⟩ := arr_sl A_4; subst ev
 replace A_4 : Arr W4 lo 9 1 (SA w G (b4_2 :: (bx :: (blks hd_4 ++ [])))) (List.map D.str (L ++ [m])) (.slice v_4a v_4n v_4c) hd_4 := row_outA A_4 (Nat.le_trans kw.size hW1) (fun b hb => Nat.lt_of_lt_of_le (hMlt b hb) hW1) (fun b hb => by simp only [List.mem_cons, List.mem_append, List.not_mem_nil, or_false] at hb ⊢; rcases hb with h | h | h <;> simp [h])
 obtain ⟨u10_4, ev, D_u10_4⟩ := hphi
 replace D_u10_4 : Rd W4 (SA w S (b4_2 :: (bx :: (blks hd_4 ++ [])))) (V.d (rtV x m 0)) u10_4 := rd_outA D_u10_4 (Nat.le_trans kw.size hW1) (fun b hb => Nat.lt_of_lt_of_le (hMlt b hb) hW1) (fun b hb => by simp only [List.mem_cons, List.mem_append, List.not_mem_nil, or_false] at hb ⊢; rcases hb with h | h | h <;> simp [h])
 obtain ⟨cn10_4a, cn10_4c, ci10_4a, ci10_4c, ev, ht_u10_4, D_cn10_4, D_ci10_4⟩ := rdV_out D_u10_4
 subst ev; clear D_u10_4
 have e10 : sl a4 10 = (.tuple #[(.agg #[(.int .u8 ((rtV x m 0).k)), (.int .i64 ((rtV x m 0).n)), (.string ((rtV x m 0).t)), (.slice cn10_4a (((rtV x m 0).ns).length) cn10_4c), (.slice ci10_4a (((rtV x m 0).xs).length) ci10_4c)]), (.bool (rtB x m 0))]) := ev; clear ev
 replace D_cn := sa_appL (M' := (b4_2 :: (bx :: (blks hd_4 ++ [])))) D_cn hk hmR (rep_cons (rep_cons (rep_app hf_4 rep_nil)))
 replace D_ci := sa_appL (M' := (b4_2 :: (bx :: (blks hd_4 ++ [])))) D_ci hk hmR (rep_cons (rep_cons (rep_app hf_4 rep_nil)))
 have nb_b4_2_4 : b4_2 ∉ blks hd_4 := nb_new nb_b4_2_ar own_b4_2.lt hf_4
 replace own_b4_2 := own_keepL own_b4_2 hk (nin_boxA ne_bx_b4_2.symm nb_b4_2_ar)
 replace own_bx : Own W4 bx [(.int .u8 (x.k)), (.int .i64 (x.n)), (.string (x.t)), (.slice cna (x.ns.length) cnc), (.slice cia (x.xs.length) cic), (.slice v_4a v_4n v_4c), (.int .i64 (rtE x m 0))] 56 := own_bx
 replace kw := keeps_L kw hk (fun b hb => .inr (fun hn => hn (by first | exact hb | (simp only [List.mem_cons, List.mem_append, List.not_mem_nil, or_false] at hb ⊢; rcases hb with h | h <;> simp [h]))))
 clear hmR hR hk hg hMlt hW1 hP A_ar
 refine tail_reg 3 All y4 zz4 st_tr trivial rfl ?_
 refine .mb rfl e10 ?_
 refine .i (v := (.agg #[(.int .u8 ((rtV x m 0).k)), (.int .i64 ((rtV x m 0).n)), (.string ((rtV x m 0).t)), (.slice cn10_4a (((rtV x m 0).ns).length) cn10_4c), (.slice ci10_4a (((rtV x m 0).xs).length) ci10_4c)])) (sp_extT (hlc rfl) rfl) ?_
 refine .i (v := (.bool (rtB x m 0))) (sp_extT (hlc rfl) rfl) ?_
 refine .dn fun a5 g W5 y5 zz5 hk hg hV hR hP => ?_
 refine tail_nil ?_
 show runTail _ _ _ _ _ _
 obtain ⟨e12, e11, -, -⟩ := hV
 replace e4 := ft hR e4
 replace A_4 := A_4.ext hk
 replace D_cn := D_cn.ext hk
 replace D_ci := D_ci.ext hk
 replace D_cn10_4 := D_cn10_4.ext hk
 replace D_ci10_4 := D_ci10_4.ext hk
 replace e11 := e11.q
 replace e12 := e12.q
 replace own_bx := own_bx.ext hk
 replace own_b4_2 := own_b4_2.ext hk
 replace kw := kw.x hk
 clear hR hk hg hP
 refine tail_reg 1 All y5 zz5 st_tr trivial rfl ?_
 refine .alloc z33 ?_
 refine .dn fun a6 g W6 y6 zz6 hk hg hV hR hP => ?_
 refine tail_nil ?_
 show runTail _ _ _ _ _ _
 obtain ⟨⟨b5_6, e5, hb5, own_b5_6⟩, -⟩ := hV
 have lo_b5_6 : w.heap.size ≤ b5_6 := Nat.le_trans kw.size (hg.lo _ _ hb5)
 have ne_bx_b5_6 : bx ≠ b5_6 := Nat.ne_of_lt (Nat.lt_of_lt_of_le own_bx.lt (hg.lo _ _ hb5))
 have ne_b4_2_b5_6 : b4_2 ≠ b5_6 := Nat.ne_of_lt (Nat.lt_of_lt_of_le own_b4_2.lt (hg.lo _ _ hb5))
 have own_b5_6 : Own W6 b5_6 z5C 33 := own_b5_6
 replace e4 := ft hR e4
 replace e11 := ft hR e11
 replace e12 := ft hR e12
 have nb_b5_6_ar : b5_6 ∉ blks hd_4 := nb_lt A_4.lt (hg.lo _ _ hb5)
 replace A_4 : Arr W6 lo 9 1 (SA w G (b5_6 :: (b4_2 :: (bx :: (blks hd_4 ++ []))))) (List.map D.str (L ++ [m])) (.slice v_4a v_4n v_4c) hd_4 := arrA_more A_4 hk [b5_6] (in_cons (hg.lo _ _ hb5) in_nil)
 replace D_cn : Rd W6 (SA w S (b5_6 :: (b4_2 :: (bx :: (blks hd_4 ++ []))))) (strsD (x.ns)) (.slice cna (x.ns.length) cnc) := sa_more D_cn hk [b5_6] (in_cons (hg.lo _ _ hb5) in_nil)
 replace D_ci : Rd W6 (SA w S (b5_6 :: (b4_2 :: (bx :: (blks hd_4 ++ []))))) (valsD (x.xs)) (.slice cia (x.xs.length) cic) := sa_more D_ci hk [b5_6] (in_cons (hg.lo _ _ hb5) in_nil)
 replace D_cn10_4 : Rd W6 (SA w S (b5_6 :: (b4_2 :: (bx :: (blks hd_4 ++ []))))) (strsD ((rtV x m 0).ns)) (.slice cn10_4a (((rtV x m 0).ns).length) cn10_4c) := sa_more D_cn10_4 hk [b5_6] (in_cons (hg.lo _ _ hb5) in_nil)
 replace D_ci10_4 : Rd W6 (SA w S (b5_6 :: (b4_2 :: (bx :: (blks hd_4 ++ []))))) (valsD ((rtV x m 0).xs)) (.slice ci10_4a (((rtV x m 0).xs).length) ci10_4c) := sa_more D_ci10_4 hk [b5_6] (in_cons (hg.lo _ _ hb5) in_nil)
 replace own_bx := own_bx.ext hk
 replace own_b4_2 := own_b4_2.ext hk
 replace kw := kw.x hk
 clear hR hk hg hP hb5
 refine tail_store e5 e11 sz33 rfl own_b5_6 (lbr rfl) (all_cons rfl (all_cons rfl (all_cons rfl (all_cons rfl (all_cons rfl all_nil))))) (fun W7 hs own_b5_6 => ?_)
 have own_b5_6 : Own W7 b5_6 [(.int .u8 ((rtV x m 0).k)), (.int .i64 ((rtV x m 0).n)), (.string ((rtV x m 0).t)), (.slice cn10_4a (((rtV x m 0).ns).length) cn10_4c), (.slice ci10_4a (((rtV x m 0).xs).length) ci10_4c)] 33 := own_b5_6
 replace own_bx := own_store own_bx hs ne_bx_b5_6
 replace own_b4_2 := own_store own_b4_2 hs ne_b4_2_b5_6
 replace D_cn := sa_store D_cn hs (by simp)
 replace D_ci := sa_store D_ci hs (by simp)
 replace D_cn10_4 := sa_store D_cn10_4 hs (by simp)
 replace D_ci10_4 := sa_store D_ci10_4 hs (by simp)
 replace A_4 := arrA_store A_4 hs (by simp) nb_b5_6_ar
 replace kw := keeps_store kw hs lo_b5_6
 clear hs
 refine tail_assign (v := (.bool (rtB x m 0))) e12 (by rw [y6]; exact Nat.le_of_ble_eq_true rfl) (fun a8 y8 zz8 e6 hr => ?_)
 replace y8 := y8.trans y6; replace zz8 := zz8.trans zz6
 replace e4 := (hr 4 (by decide)).trans e4
 replace e11 := (hr 11 (by decide)).trans e11
 replace e12 := (hr 12 (by decide)).trans e12
 replace e5 := (hr 5 (by decide)).trans e5
 clear hr
 refine zn (hK3 _ _ ?_)
 refine zq fun K9 hK9 => ?_
 refine rg mixed y8 zz8 ?_
 refine .i (v := (.agg #[(.int .u8 ((rtV x m 0).k)), (.int .i64 ((rtV x m 0).n)), (.string ((rtV x m 0).t)), (.slice cn10_4a (((rtV x m 0).ns).length) cn10_4c), (.slice ci10_4a (((rtV x m 0).xs).length) ci10_4c)])) (loA (hbs rfl e5) own_b5_6 trivial agg33 sz33 rfl rfl) ?_
 refine .dn fun a10 g W10 y10 zz10 hk hg hV hR hP => ?_
 obtain ⟨e13, -⟩ := hV
 replace e4 := ft hR e4
 replace A_4 := A_4.ext hk
 replace D_cn := D_cn.ext hk
 replace D_ci := D_ci.ext hk
 replace D_cn10_4 := D_cn10_4.ext hk
 replace D_ci10_4 := D_ci10_4.ext hk
 replace e13 := e13.q
 replace own_bx := own_bx.ext hk
 replace own_b4_2 := own_b4_2.ext hk
 replace own_b5_6 := own_b5_6.ext hk
 replace kw := kw.x hk
 clear hR hk hg hP
 refine tail_store e4 e13 sz33 rfl own_b4_2 (lbr rfl) (all_cons rfl (all_cons rfl (all_cons rfl (all_cons rfl (all_cons rfl all_nil))))) (fun W11 hs own_b4_2 => ?_)
 have own_b4_2 : Own W11 b4_2 [(.int .u8 ((rtV x m 0).k)), (.int .i64 ((rtV x m 0).n)), (.string ((rtV x m 0).t)), (.slice cn10_4a (((rtV x m 0).ns).length) cn10_4c), (.slice ci10_4a (((rtV x m 0).xs).length) ci10_4c)] 33 := own_b4_2
 replace own_bx := own_store own_bx hs ne_bx_b4_2
 replace own_b5_6 := own_store own_b5_6 hs ne_b4_2_b5_6.symm
 replace D_cn := sa_store D_cn hs (by simp)
 replace D_ci := sa_store D_ci hs (by simp)
 replace D_cn10_4 := sa_store D_cn10_4 hs (by simp)
 replace D_ci10_4 := sa_store D_ci10_4 hs (by simp)
 replace A_4 := arrA_store A_4 hs (by simp) nb_b4_2_4
 replace kw := keeps_store kw hs lo_b4_2
 clear hs
 refine zn (hK9 _ _ ?_)
 refine wp_ret ?_
 refine retC (v := (.agg #[(.int .u8 ((rtV x m 0).k)), (.int .i64 ((rtV x m 0).n)), (.string ((rtV x m 0).t)), (.slice cn10_4a (((rtV x m 0).ns).length) cn10_4c), (.slice ci10_4a (((rtV x m 0).xs).length) ci10_4c)])) rfl zz10 e4 own_b4_2 agg33 sz33 rfl (fun h => by cases h) rfl ⟨_, rfl, kw, ?_⟩
 refine ⟨_, _, ?_, own_bx, (arrA_less A_4 (ls_skip (ls_skip (ls_keep (ls_keepA ls_nil))))), nb_4, fun b hb => (hf_4 b hb).imp id (Nat.le_trans hws)⟩
 show Rd _ _ _ _
 exact sa_less (rdV_in (x := (rtV x m 0)) ht_u10_4 D_cn10_4 D_ci10_4 : Rd W11 (SA w S (b5_6 :: (b4_2 :: (bx :: (blks hd_4 ++ []))))) (V.d ((rtV x m 0))) _) (ls_skip (ls_skip (ls_keep (ls_keepA ls_nil))))
end Go.Proofs.Ytnobijngkpflcaa
namespace Go.Proofs.Ytnobijngkpflcaa
open Go.Eng
set_option maxRecDepth 100000 in
theorem yTexts_ok (m : ByteArray) (hm : m.size ≤ maxLen) (mo : Int) (x : V) (hxt : x.t.size ≤ maxLen) (w : World) (S G : BSet) (cn ci : Value) (bx lo : Nat) (av : Value) (hd : Option Nat) (L : List ByteArray) (hL : L.length ≤ 100000) (hM : ∀ b ∈ bx :: (blks hd ++ []), ∀ o, ¬ S b o) (hv : Rd w S (strsD x.ns) cn) (hu : Rd w S (valsD x.xs) ci) (own_bx : Own w bx [.int .u8 x.k, .int .i64 x.n, .string x.t, cn, ci, av, .int .i64 (0)] 56) (A_ar : Arr w lo 9 1 (SA w G (bx :: (blks hd ++ []))) (List.map D.str L) av hd) (nb : bx ∉ blks hd) (hlo : lo ≤ w.heap.size) (hG : ∀ b o, G b o → Cln o) (hl : (rlL x m mo).length ≤ 1073741824): Calls Try.prog 90 #[.pointer (some ⟨bx, 0, none⟩), .string m, .int .i64 mo] w (RetL w (bx :: (blks hd ++ [])) fun u W => RowR 56 9 w W lo S G bx (fun av => [.int .u8 x.k, .int .i64 x.n, .string x.t, cn, ci, av, .int .i64 (rxE x m mo)]) (L ++ [m]) hd (PhD (strsD (rxT (rlL x m mo)))) u) := by
 obtain ⟨cna, cnc, ev, D_cn⟩ := rdS_out (rd_argM (M := (bx :: (blks hd ++ []))) hv hM)
 subst ev
 obtain ⟨cia, cic, ev, D_ci⟩ := rdVs_out (rd_argM (M := (bx :: (blks hd ++ []))) hu hM)
 subst ev
 refine enter Try.func90 rfl Try.ntmps90 (lbr rfl) fun a0 y0 zz0 harg => ?_
 have e0 : sl a0 0 = (.pointer (some ⟨bx, 0, none⟩)) := harg 0 (lbr rfl)
 have e1 : sl a0 1 = (.string (m)) := harg 1 (lbr rfl)
 have e2 : sl a0 2 = (.int .i64 (mo)) := harg 2 (lbr rfl)
 have kw := Keeps.refl (fun k => k ∉ (bx :: (blks hd ++ []))) w
 clear harg
 refine zq fun K1 hK1 => ?_
 refine rg mixed y0 zz0 ?_
 refine .ac ?_
 refine .dn fun a2 g W2 y2 zz2 hk hg hV hR hP => ?_
 obtain ⟨-, -⟩ := hV
 replace e0 := ft hR e0
 replace e1 := ft hR e1
 replace e2 := ft hR e2
 replace A_ar := A_ar.ext hk
 replace D_cn := D_cn.ext hk
 replace D_ci := D_ci.ext hk
 replace own_bx := own_bx.ext hk
 replace kw := kw.x hk
 clear hR hk hg hP
 refine zn (hK1 _ _ ?_)
 refine zq fun K3 hK3 => ?_
 have hws : w.heap.size ≤ W2.heap.size := kw.size
 have hmR : ∀ b, b ∈ (bx :: (blks hd ++ [])) → b ∈ (bx :: (blks hd ++ [])) := (fun b hb => by first | exact hb | (simp only [List.mem_cons, List.mem_append, List.not_mem_nil, or_false] at hb ⊢; rcases hb with h | h <;> simp [h]))
 refine wp_reg (fun k => k ∉ (bx :: (blks hd ++ []))) (Ψ := fun W => Own W bx [(.int .u8 (x.k)), (.int .i64 (x.n)), (.string (x.t)), (.slice cna (x.ns.length) cnc), (.slice cia (x.xs.length) cic), av, (.int .i64 (0))] 56 ∧ Arr W lo 9 1 (SA w G (bx :: (blks hd ++ []))) (List.map D.str (L)) av hd) mixed y2 zz2 stE_boxR ⟨own_bx, A_ar⟩ ?_
 refine .mb rfl e0 ?_
 refine .mb rfl e1 ?_
 refine .mb rfl e2 ?_
 refine .callZ3 (φ1 := Is (.pointer (some ⟨bx, 0, none⟩))) (φ2 := Is (.string (m))) (φ3 := Is (.int .i64 (mo))) (φ := IsRow 56 9 W2 lo (SA w S (bx :: (blks hd ++ []))) (SA w G (bx :: (blks hd ++ []))) bx (fun av => [(.int .u8 (x.k)), (.int .i64 (x.n)), (.string (x.t)), (.slice cna (x.ns.length) cnc), (.slice cia (x.xs.length) cic), av, (.int .i64 (rlE x m mo))]) (L ++ [m]) hd (PhD (valsD (rlL x m mo)))) ent87 (hlc rfl) (hlc rfl) (hlc rfl) (st_row stp_D) (fun g u1 u2 u3 W hk hg h1 h2 h3 hP => by have h1 : u1 = _ := h1; subst u1; have h2 : u2 = _ := h2; subst u2; have h3 : u3 = _ := h3; subst u3; exact (yList_ok m hm mo (x) hxt W (SA w S (bx :: (blks hd ++ []))) (SA w G (bx :: (blks hd ++ []))) _ _ bx lo _ hd L hL (fun b hb o h => h.2.2 (hmR b hb)) (D_cn.keeps hk (fun b o h hm => h.2.2 (hmR b hm))) (D_ci.keeps hk (fun b o h hm => h.2.2 (hmR b hm))) hP.1 (row_inA hG hP.2 hmR) nb (Nat.le_trans hlo (Nat.le_trans kw.size hk.size)) (sa_cln hG)).mono fun e W' ⟨u, h1, h2, h3⟩ => ⟨u, h1, h2, W, hk.size, h3⟩) ?_
 refine .dn fun a4 g W4 y4 zz4 hk hg hV hR hP => ?_
 obtain ⟨e13, -, -, -, -⟩ := hV
 replace e0 := ft hR e0
 have hMlt : ∀ b ∈ (bx :: (blks hd ++ [])), b < W2.heap.size := (in_cons own_bx.lt (in_app A_ar.lt in_nil))
 obtain ⟨W1, hW1, v_4, hd_4, hphi, own_bx, A_4, nb_4, hf_4⟩ := e13
 replace hf_4 : ∀ b ∈ blks hd_4, b ∈ blks hd ∨ W2.heap.size ≤ b := fun b hb => (hf_4 b hb).imp id (Nat.le_trans hW1)
 obtain ⟨v_4a, v_4n, v_4c, ev⟩ := arr_sl A_4; subst ev
 replace A_4 : Arr W4 lo 9 1 (SA w G (bx :: (blks hd_4 ++ []))) (List.map D.str (L ++ [m])) (.slice v_4a v_4n v_4c) hd_4 := row_outA A_4 (Nat.le_trans kw.size hW1) (fun b hb => Nat.lt_of_lt_of_le (hMlt b hb) hW1) (fun b hb => by simp only [List.mem_cons, List.mem_append, List.not_mem_nil, or_false] at hb ⊢; rcases hb with h | h <;> simp [h])
 obtain ⟨u13_4, ev⟩ : ∃ v, sl a4 13 = v := ⟨_, rfl⟩
 rw [ev] at hphi; have D_u13_4 := hphi; clear hphi; have e13 := ev; clear ev
 replace D_u13_4 : Rd W4 (SA w S (bx :: (blks hd_4 ++ []))) (valsD (rlL x m mo)) u13_4 := rd_outA D_u13_4 (Nat.le_trans kw.size hW1) (fun b hb => Nat.lt_of_lt_of_le (hMlt b hb) hW1) (fun b hb => by simp only [List.mem_cons, List.mem_append, List.not_mem_nil, or_false] at hb ⊢; rcases hb with h | h <;> simp [h])
 obtain ⟨u13_4a, u13_4c, ev, D2⟩ := rdVs_out D_u13_4
 subst ev; replace D_u13_4 := D2; clear D2
 replace D_cn := sa_appL (M' := (bx :: (blks hd_4 ++ []))) D_cn hk hmR (rep_cons (rep_app hf_4 rep_nil))
 replace D_ci := sa_appL (M' := (bx :: (blks hd_4 ++ []))) D_ci hk hmR (rep_cons (rep_app hf_4 rep_nil))
 replace own_bx : Own W4 bx [(.int .u8 (x.k)), (.int .i64 (x.n)), (.string (x.t)), (.slice cna (x.ns.length) cnc), (.slice cia (x.xs.length) cic), (.slice v_4a v_4n v_4c), (.int .i64 (rlE x m mo))] 56 := own_bx
 replace kw := keeps_L kw hk (fun b hb => .inr (fun hn => hn (by first | exact hb | (simp only [List.mem_cons, List.mem_append, List.not_mem_nil, or_false] at hb ⊢; rcases hb with h | h <;> simp [h]))))
 clear hmR hR hk hg hMlt hW1 hP A_ar
 refine tail_reg 1 All y4 zz4 st_tr trivial rfl ?_
 refine .i (sp_assign (hbs rfl e13)) ?_
 refine .dn fun a5 g W5 y5 zz5 hk hg hV hR hP => ?_
 refine tail_nil ?_
 show runTail _ _ _ _ _ _
 obtain ⟨e7, -⟩ := hV
 replace e0 := ft hR e0
 replace A_4 := A_4.ext hk
 replace D_cn := D_cn.ext hk
 replace D_ci := D_ci.ext hk
 replace D_u13_4 := D_u13_4.ext hk
 replace e7 := e7.q
 replace own_bx := own_bx.ext hk
 replace kw := kw.x hk
 clear hR hk hg hP
 have hbt : ∀ i (h : i < (rlL x m mo).length), ((rlL x m mo)[i]'h).t.size ≤ maxLen := fun i h => rd_tAt D_u13_4 h
 refine zn (hK3 _ _ ?_)
 refine zq fun K6 hK6 => ?_
 refine rg mixed y5 zz5 ?_
 refine .ac ?_
 refine .dn fun a7 g W7 y7 zz7 hk hg hV hR hP => ?_
 obtain ⟨e8, -⟩ := hV
 replace e0 := ft hR e0
 replace e7 := ft hR e7
 replace A_4 := A_4.ext hk
 replace D_cn := D_cn.ext hk
 replace D_ci := D_ci.ext hk
 replace D_u13_4 := D_u13_4.ext hk
 replace e8 := e8.q
 replace own_bx := own_bx.ext hk
 replace kw := kw.x hk
 clear hR hk hg hP
 refine zn (hK6 _ _ ?_)
 refine zq fun K8 hK8 => ?_
 refine zq fun K9 hK9 => ?_
 refine rg mixed y7 zz7 ?_
 refine .ac ?_
 refine .dn fun a10 g W10 y10 zz10 hk hg hV hR hP => ?_
 obtain ⟨e9, -⟩ := hV
 replace e0 := ft hR e0
 replace e7 := ft hR e7
 replace e8 := ft hR e8
 replace A_4 := A_4.ext hk
 replace D_cn := D_cn.ext hk
 replace D_ci := D_ci.ext hk
 replace D_u13_4 := D_u13_4.ext hk
 replace e9 := e9.q
 replace own_bx := own_bx.ext hk
 replace kw := kw.x hk
 clear hR hk hg hP
 refine zn (hK9 _ _ ?_)
 refine wp_block ?_
 have A_ar11 : Arr W10 w.heap.size 9 1 (SA w S (blks none ++ (bx :: (blks hd_4 ++ [])))) (List.map D.str ([])) (.slice none 0 0) none := arr_nil _ _ _ _ _
 replace D_cn : Rd W10 (SA w S (blks none ++ (bx :: (blks hd_4 ++ [])))) (strsD (x.ns)) (.slice cna (x.ns.length) cnc) := D_cn
 replace D_ci : Rd W10 (SA w S (blks none ++ (bx :: (blks hd_4 ++ [])))) (valsD (x.xs)) (.slice cia (x.xs.length) cic) := D_ci
 replace D_u13_4 : Rd W10 (SA w S (blks none ++ (bx :: (blks hd_4 ++ [])))) (valsD (rlL x m mo)) (.slice u13_4a ((rlL x m mo).length) u13_4c) := D_u13_4
 replace A_4 : Arr W10 lo 9 1 (SA w G (blks none ++ (bx :: (blks hd_4 ++ [])))) (List.map D.str (L ++ [m])) (.slice v_4a v_4n v_4c) hd_4 := A_4
 refine wp_for ((rlL x m mo).length) (fun k a W => ∃ (vs8_12 : Value), ∃ (hds8_12 : Option Nat), a.tmps.size = 38 ∧ a.defers = [] ∧ Keeps (fun k => k ∉ (bx :: (blks hd ++ []))) w W ∧ sl a 0 = (.pointer (some ⟨bx, 0, none⟩)) ∧ sl a 7 = (.slice u13_4a ((rlL x m mo).length) u13_4c) ∧ sl a 8 = vs8_12 ∧ sl a 9 = (.int .i64 ((k : Nat))) ∧ Own W bx [(.int .u8 (x.k)), (.int .i64 (x.n)), (.string (x.t)), (.slice cna (x.ns.length) cnc), (.slice cia (x.xs.length) cic), (.slice v_4a v_4n v_4c), (.int .i64 (rlE x m mo))] 56 ∧ Rd W (SA w S (blks hds8_12 ++ (bx :: (blks hd_4 ++ [])))) (strsD (x.ns)) (.slice cna (x.ns.length) cnc) ∧ Rd W (SA w S (blks hds8_12 ++ (bx :: (blks hd_4 ++ [])))) (valsD (x.xs)) (.slice cia (x.xs.length) cic) ∧ Rd W (SA w S (blks hds8_12 ++ (bx :: (blks hd_4 ++ [])))) (valsD (rlL x m mo)) (.slice u13_4a ((rlL x m mo).length) u13_4c) ∧ Arr W w.heap.size 9 1 (SA w S (blks hds8_12 ++ (bx :: (blks hd_4 ++ [])))) (List.map D.str (List.map V.t ((rlL x m mo).take k))) vs8_12 hds8_12 ∧ bx ∉ blks hds8_12 ∧ Arr W lo 9 1 (SA w G (blks hds8_12 ++ (bx :: (blks hd_4 ++ [])))) (List.map D.str (L ++ [m])) (.slice v_4a v_4n v_4c) hd_4 ∧ bx ∉ blks hd_4 ∧ (∀ b ∈ blks hds8_12, b ∉ blks hd_4) ∧ (∀ i (h : i < (rlL x m mo).length), i < k → ((rlL x m mo)[i]'h).k = 3)) ⟨(.slice none 0 0), none, y10, zz10, kw, e0, e7, e8, (e9.trans (congrArg (Value.int .i64) (rfl))), own_bx, D_cn, D_ci, D_u13_4, A_ar11, nb_none, A_4, nb_4, hd_nil, fun i h hi => absurd hi (by omega)⟩ ?_
 clear kw e0 e7 e8 e9 own_bx D_cn D_ci D_u13_4 A_ar11 A_4
 rintro k a12 W12 hkk ⟨vs8_12, hds8_12, y12, zz12, kw, e0, e7, e8, e9, own_bx, D_cn, D_ci, D_u13_4, As8_12, nb_bx_ar11_12, Af_ar_12, nb_bx_ar_12, dj_ar11_ar_12, hinv⟩
 refine zq fun K13 hK13 => ?_
 refine zq fun K14 hK14 => ?_
 refine rg mixed y12 zz12 ?_
 refine .mb rfl e9 ?_
 refine .mb rfl e7 ?_
 refine .i (sp_lenVs Try.underlying31 ((hlc rfl).dat D_u13_4 sub_all)) ?_
 refine .i (sp_lss (hlc rfl) (hlc rfl)) ?_
 refine .dn fun a15 g W15 y15 zz15 hk hg hV hR hP => ?_
 obtain ⟨e17, -, -, -, -⟩ := hV
 replace e0 := ft hR e0
 replace e7 := ft hR e7
 replace e8 := ft hR e8
 replace e9 := ft hR e9
 replace As8_12 := As8_12.ext hk
 replace Af_ar_12 := Af_ar_12.ext hk
 replace D_cn := D_cn.ext hk
 replace D_ci := D_ci.ext hk
 replace D_u13_4 := D_u13_4.ext hk
 replace e17 := e17.q
 replace own_bx := own_bx.ext hk
 replace kw := kw.x hk
 clear hR hk hg hP
 refine zn (hK14 _ _ ?_)
 refine zc e17 (fun hc => ?_) (fun hc => ?_)
 ·
  have hlt : k < (rlL x m mo).length := by simpa using hc
  refine wp_skip (hK13 _ _ ?_)
  refine zq fun K16 hK16 => ?_
  refine wp_block ?_
  refine zq fun K17 hK17 => ?_
  refine zq fun K18 hK18 => ?_
  refine rg mixed y15 zz15 ?_
  refine .mb rfl e7 ?_
  refine .mb rfl e9 ?_
  refine .rf (sp_indexV (i := k) ((hlc rfl).dat D_u13_4 sub_all) (hlc rfl) Try.underlying31 sz33 rfl hlt) ?_
  refine .rf (X := SA w S (blks hds8_12 ++ (bx :: (blks hd_4 ++ [])))) (e := D.int .u8 (((rlL x m mo)[k]'hlt).k)) (sp_fieldV (hlc rfl) Try.underlying33 rfl sz5 rfl rfl) ?_
  refine .i (sp_loadInt (hlc rfl) agg5 sz5) ?_
  refine .i (sp_neq (hlc rfl) Has.cst) ?_
  refine .dn fun a19 g W19 y19 zz19 hk hg hV hR hP => ?_
  obtain ⟨e25, -, -, -, -, -, -⟩ := hV
  replace e0 := ft hR e0
  replace e7 := ft hR e7
  replace e8 := ft hR e8
  replace e9 := ft hR e9
  replace As8_12 := As8_12.ext hk
  replace Af_ar_12 := Af_ar_12.ext hk
  replace D_cn := D_cn.ext hk
  replace D_ci := D_ci.ext hk
  replace D_u13_4 := D_u13_4.ext hk
  replace e25 := e25.q
  replace own_bx := own_bx.ext hk
  replace kw := kw.x hk
  clear hR hk hg hP
  refine zn (hK18 _ _ ?_)
  refine zc e25 (fun hc => ?_) (fun hc => ?_)
  ·
   have hfx : rxT (rlL x m mo) = [] := rxT_no hlt (by simp at hc; omega)
   have hfe : rxE x m mo = 10 := rxE_no hlt (by simp at hc; omega)
   refine zq fun K20 hK20 => ?_
   refine rg mixed y19 zz19 ?_
   refine .mb rfl e0 ?_
   refine .i (sp_nilP (hlc rfl)) ?_
   refine .i (fo 6 (hlc rfl) Try.underlying56 rfl sz28 rfl) ?_
   refine .dn fun a21 g W21 y21 zz21 hk hg hV hR hP => ?_
   obtain ⟨e28, -, -, -⟩ := hV
   replace As8_12 := As8_12.ext hk
   replace Af_ar_12 := Af_ar_12.ext hk
   replace D_cn := D_cn.ext hk
   replace D_ci := D_ci.ext hk
   replace D_u13_4 := D_u13_4.ext hk
   have e28 : sl a21 28 = (.pointer (some ⟨bx, 6, none⟩)) := e28
   replace own_bx := own_bx.ext hk
   replace kw := kw.x hk
   clear hR hk hg hP
   refine tail_store (b := bx) (o := 6) (v := (.int .i64 (10))) e28 rfl sz28 rfl own_bx (lbr rfl) (all_cons rfl all_nil) (fun W22 hs own_bx => ?_)
   have own_bx : Own W22 bx [(.int .u8 (x.k)), (.int .i64 (x.n)), (.string (x.t)), (.slice cna (x.ns.length) cnc), (.slice cia (x.xs.length) cic), (.slice v_4a v_4n v_4c), (.int .i64 (10))] 56 := own_bx
   replace D_cn := sa_store D_cn hs (by simp)
   replace D_ci := sa_store D_ci hs (by simp)
   replace D_u13_4 := sa_store D_u13_4 hs (by simp)
   replace As8_12 := arrA_store As8_12 hs (by simp) nb_bx_ar11_12
   replace Af_ar_12 := arrA_store Af_ar_12 hs (by simp) nb_bx_ar_12
   replace kw := keeps_storeN kw hs (by simp)
   clear hs
   refine zn (hK20 _ _ ?_)
   refine zq fun K23 hK23 => ?_
   refine rg mixed y21 zz21 ?_
   refine .ac ?_
   refine .dn fun a24 g W24 y24 zz24 hk hg hV hR hP => ?_
   obtain ⟨e6, -⟩ := hV
   replace As8_12 := As8_12.ext hk
   replace Af_ar_12 := Af_ar_12.ext hk
   replace D_cn := D_cn.ext hk
   replace D_ci := D_ci.ext hk
   replace e6 := e6.q
   replace own_bx := own_bx.ext hk
   replace kw := kw.x hk
   clear hR hk hg hP
   refine zn (hK23 _ _ ?_)
   refine wp_ret ?_
   refine ret1 rfl zz24 e6 ⟨_, rfl, kw, ?_⟩
   refine ⟨_, _, ?_, by rw [hfe]; exact own_bx, (arrA_less Af_ar_12 (ls_skipA (ls_keep (ls_keepA ls_nil)))), nb_bx_ar_12, fun b hb => (hf_4 b hb).imp id (Nat.le_trans hws)⟩
   show Rd _ _ _ _
   rw [hfx]
   exact rd_nil _
  have hk1 : ((rlL x m mo)[k]'hlt).k = 3 := by simp at hc; omega
  refine wp_skip (hK17 _ _ ?_)
  refine wp_reg (fun k => k ∉ blks hds8_12) (Ψ := fun W => Arr W w.heap.size 9 1 (SA w S (blks hds8_12 ++ (bx :: (blks hd_4 ++ [])))) (List.map D.str (List.map V.t ((rlL x m mo).take k))) vs8_12 hds8_12) mixed y19 zz19 (fun W W' k h => h.ext k) As8_12 ?_
  refine .mb rfl e8 ?_
  refine .mb rfl e7 ?_
  refine .mb rfl e9 ?_
  refine .op (φ := IsR (SA w S (blks hds8_12 ++ (bx :: (blks hd_4 ++ [])))) (V.d ((rlL x m mo)[k]'hlt))) (st_r (sub_nb (fun b hb => List.mem_append_left _ hb))) (sp_indexV (i := k) ((hlc rfl).dat D_u13_4 (sub_nb (fun b hb => List.mem_append_left _ hb))) (hlc rfl) Try.underlying31 sz33 rfl hlt) ?_
  refine .op (φ := IsR (SA w S (blks hds8_12 ++ (bx :: (blks hd_4 ++ [])))) (D.str (((rlL x m mo)[k]'hlt).t))) (st_r (sub_nb (fun b hb => List.mem_append_left _ hb))) (sp_fieldV (hlc rfl) Try.underlying33 rfl sz9 rfl rfl) ?_
  refine .i (sp_loadStr (hlc rfl) agg9 sz9) ?_
  refine .op (φ := IsD (SA w S (blks hds8_12 ++ (bx :: (blks hd_4 ++ [])))) (strsD ([((rlL x m mo)[k]'hlt).t]))) (st_d (sub_nb (fun b hb => List.mem_append_left _ hb))) (sp_bsl (ds := [D.str (((rlL x m mo)[k]'hlt).t)]) Try.underlying23 sz9 z9 (lbr rfl) (lbr rfl) ⟨rfl, ((hlc rfl).str (hbt k hlt)), trivial⟩ rfl (by simp [width]) (fr_sa kw (in_app As8_12.lt (in_cons own_bx.lt (in_app Af_ar_12.lt in_nil))))) ?_
  refine .appB (ds := List.map D.str (List.map V.t ((rlL x m mo).take k))) (es := [D.str (((rlL x m mo)[k]'hlt).t)]) (X := SA w S (blks hds8_12 ++ (bx :: (blks hd_4 ++ [])))) Try.underlying23 inf9 (lbr rfl) (hlc rfl) (hlc rfl) (sub_nb (fun b hb => List.mem_append_left _ hb)) (by simp [maxLen]; omega) (by simp; omega) kw.size ?_
  refine .dn fun a25 g W25 y25 zz25 hk hg hV hR hP => ?_
  obtain ⟨e36, -, -, -, -, -, -, -, -⟩ := hV
  replace e0 := ft hR e0
  replace e7 := ft hR e7
  replace e8 := ft hR e8
  replace e9 := ft hR e9
  obtain ⟨v36_25, ev⟩ : ∃ v, sl a25 36 = v := ⟨_, rfl⟩
  rw [ev] at e36
  obtain ⟨hd36_25, A_36_25, hf36_25⟩ := e36
  have e36 := ev; clear ev
  obtain ⟨v36_25a, v36_25n, v36_25c, ev⟩ := arr_sl A_36_25; subst ev
  replace A_36_25 := arrA_new (M' := (blks hd36_25 ++ (bx :: (blks hd_4 ++ [])))) A_36_25 (rep_app (rep_q fun _ h => h) (rep_cons (rep_app rep_refl rep_nil)))
  replace A_36_25 : Arr W25 w.heap.size 9 1 (SA w S (blks hd36_25 ++ (bx :: (blks hd_4 ++ [])))) (List.map D.str ((List.map V.t ((rlL x m mo).take k)) ++ [((rlL x m mo)[k]'hlt).t])) (.slice v36_25a v36_25n v36_25c) hd36_25 := by first | exact A_36_25 | (rw [List.map_append]; exact A_36_25)
  have nb_bx_25 : bx ∉ blks hd36_25 := nb_new nb_bx_ar11_12 own_bx.lt hf36_25
  have dj_ar_25 : ∀ b ∈ blks hd_4, b ∉ blks hd36_25 := dj_new (dj_symm dj_ar11_ar_12) Af_ar_12.lt hf36_25
  replace Af_ar_12 := arrA_app (M' := (blks hd36_25 ++ (bx :: (blks hd_4 ++ [])))) Af_ar_12 hk (fun b hb => List.mem_append_left _ hb) (rep_app hf36_25 (rep_cons (rep_app rep_refl rep_nil))) (dj_symm dj_ar11_ar_12)
  replace D_cn := sa_app (M' := (blks hd36_25 ++ (bx :: (blks hd_4 ++ [])))) D_cn hk (fun b hb => List.mem_append_left _ hb) (rep_app hf36_25 (rep_cons (rep_app rep_refl rep_nil)))
  replace D_ci := sa_app (M' := (blks hd36_25 ++ (bx :: (blks hd_4 ++ [])))) D_ci hk (fun b hb => List.mem_append_left _ hb) (rep_app hf36_25 (rep_cons (rep_app rep_refl rep_nil)))
  replace D_u13_4 := sa_app (M' := (blks hd36_25 ++ (bx :: (blks hd_4 ++ [])))) D_u13_4 hk (fun b hb => List.mem_append_left _ hb) (rep_app hf36_25 (rep_cons (rep_app rep_refl rep_nil)))
  replace own_bx := own_app own_bx hk nb_bx_ar11_12
  replace kw := keeps_app kw hk As8_12.ge
  clear hR hk hg hP  As8_12
  refine tail_assign (v := (.slice v36_25a v36_25n v36_25c)) e36 (by rw [y25]; exact Nat.le_of_ble_eq_true rfl) (fun a26 y26 zz26 e8 hr => ?_)
  replace y26 := y26.trans y25; replace zz26 := zz26.trans zz25
  replace e0 := (hr 0 (by decide)).trans e0
  replace e7 := (hr 7 (by decide)).trans e7
  replace e9 := (hr 9 (by decide)).trans e9
  replace e36 := (hr 36 (by decide)).trans e36
  clear hr
  refine zn (hK16 _ _ ?_)
  refine rg mixed y26 zz26 ?_
  refine .mb rfl e9 ?_
  refine .i (sp_add (hlc rfl) Has.cst (i64_in (by omega))) ?_
  refine .al rfl ?_
  refine .dn fun a27 g W27 y27 zz27 hk hg hV hR hP => ?_
  obtain ⟨e9, -, -, -⟩ := hV
  replace e0 := ft hR e0
  replace e7 := ft hR e7
  replace e8 := ft hR e8
  replace A_36_25 := A_36_25.ext hk
  replace Af_ar_12 := Af_ar_12.ext hk
  replace D_cn := D_cn.ext hk
  replace D_ci := D_ci.ext hk
  replace D_u13_4 := D_u13_4.ext hk
  replace e9 := e9.q
  replace own_bx := own_bx.ext hk
  replace kw := kw.x hk
  clear hR hk hg hP
  rw [show (List.map V.t ((rlL x m mo).take k)) ++ [((rlL x m mo)[k]'hlt).t] = List.map V.t ((rlL x m mo).take (k + 1)) by rw [List.take_succ_eq_append_getElem hlt, List.map_append]; rfl] at A_36_25
  exact tail_nil ⟨hlt, (.slice v36_25a v36_25n v36_25c), hd36_25, y27, zz27, kw, e0, e7, e8, (e9.trans (congrArg (Value.int .i64) (by simp))), own_bx, D_cn, D_ci, D_u13_4, A_36_25, nb_bx_25, Af_ar_12, nb_bx_ar_12, (dj_symm dj_ar_25), fun i h hi => by rcases Nat.lt_succ_iff_lt_or_eq.1 hi with h1 | h1; exact hinv i h h1; subst h1; exact hk1⟩
 have hge0 : ¬ k < (rlL x m mo).length := by simpa using hc
 have hge : k = (rlL x m mo).length := by omega
 have hfx : rxT (rlL x m mo) = List.map V.t (rlL x m mo) := rxT_yes fun i h => hinv i h (by omega)
 have hfe : rxE x m mo = rlE x m mo := rxE_yes fun i h => hinv i h (by omega)
 rw [show List.map V.t ((rlL x m mo).take k) = List.map V.t (rlL x m mo) by rw [hge, List.take_length]] at As8_12
 have D_vs8_12 : Rd W15 (SA w S (bx :: (blks hd_4 ++ []))) (strsD (List.map V.t (rlL x m mo))) vs8_12 := arrA_rd As8_12 (ls_skipA (ls_keep (ls_keepA ls_nil))) (nin_cons nb_bx_ar11_12 (nin_app dj_ar11_ar_12 nin_nil))
 obtain ⟨vs8_12a, vs8_12c, ev, D2⟩ := rdS_out D_vs8_12
 subst ev; replace D_vs8_12 := D2; clear D2
 replace D_cn := sa_less (M' := (bx :: (blks hd_4 ++ []))) D_cn (ls_skipA (ls_keep (ls_keepA ls_nil)))
 replace D_ci := sa_less (M' := (bx :: (blks hd_4 ++ []))) D_ci (ls_skipA (ls_keep (ls_keepA ls_nil)))
 replace D_u13_4 := sa_less (M' := (bx :: (blks hd_4 ++ []))) D_u13_4 (ls_skipA (ls_keep (ls_keepA ls_nil)))
 replace Af_ar_12 := arrA_less (M' := (bx :: (blks hd_4 ++ []))) Af_ar_12 (ls_skipA (ls_keep (ls_keepA ls_nil)))
 refine wp_exit (hK8 _ _ ?_)
 refine zq fun K28 hK28 => ?_
 refine rg mixed y15 zz15 ?_
 refine .mb rfl e8 ?_
 refine .al rfl ?_
 refine .dn fun a29 g W29 y29 zz29 hk hg hV hR hP => ?_
 obtain ⟨e6, -, -⟩ := hV
 replace Af_ar_12 := Af_ar_12.ext hk
 replace D_cn := D_cn.ext hk
 replace D_ci := D_ci.ext hk
 replace D_u13_4 := D_u13_4.ext hk
 replace D_vs8_12 := D_vs8_12.ext hk
 replace e6 := e6.q
 replace own_bx := own_bx.ext hk
 replace kw := kw.x hk
 clear hR hk hg hP
 refine zn (hK28 _ _ ?_)
 refine wp_ret ?_
 refine ret1 rfl zz29 e6 ⟨_, rfl, kw, ?_⟩
 refine ⟨_, _, ?_, by rw [hfe]; exact own_bx, (arrA_less Af_ar_12 (ls_keep (ls_keepA ls_nil))), nb_bx_ar_12, fun b hb => (hf_4 b hb).imp id (Nat.le_trans hws)⟩
 show Rd _ _ _ _
 rw [hfx]
 exact sa_less D_vs8_12 (ls_keep (ls_keepA ls_nil))
end Go.Proofs.Ytnobijngkpflcaa
namespace Go.Proofs.Ytnobijngkpflcaa
open Go.Eng
set_option maxRecDepth 100000 in
theorem yTakeD_ok (m : ByteArray) (kd : Nat) (k : Nat) (n : Int) (t : ByteArray) (dn di av : Value) (e : Int) (he : e ≠ 0) (w : World) (bx : Nat) (own_bx : Own w bx [.int .u8 k, .int .i64 n, .string t, dn, di, av, .int .i64 e] 56) : Calls Try.prog 141 #[.pointer (some ⟨bx, 0, none⟩), .string m, .int .u8 kd] w (Ret w fun u _ => u = .tuple #[.agg #[.int .u8 0, .int .i64 0, .string ⟨#[]⟩, .slice none 0 0, .slice none 0 0], .bool false]) := by
 refine enter Try.func141 rfl Try.ntmps141 (lbr rfl) fun a0 y0 zz0 harg => ?_
 have e0 : sl a0 0 = (.pointer (some ⟨bx, 0, none⟩)) := harg 0 (lbr rfl)
 have e1 : sl a0 1 = (.string (m)) := harg 1 (lbr rfl)
 have e2 : sl a0 2 = (.int .u8 ((kd : Nat))) := harg 2 (lbr rfl)
 have kw := Keeps.refl All w
 clear harg
 refine zq fun K1 hK1 => ?_
 refine rg mixed y0 zz0 ?_
 refine .alloc z33 ?_
 refine .ac ?_
 refine .dn fun a2 g W2 y2 zz2 hk hg hV hR hP => ?_
 obtain ⟨-, ⟨b6_2, e6, hb6, own_b6_2⟩, -⟩ := hV
 have lo_b6_2 : w.heap.size ≤ b6_2 := Nat.le_trans kw.size (hg.lo _ _ hb6)
 have ne_bx_b6_2 : bx ≠ b6_2 := Nat.ne_of_lt (Nat.lt_of_lt_of_le own_bx.lt (hg.lo _ _ hb6))
 have own_b6_2 : Own W2 b6_2 z5C 33 := own_b6_2
 replace e0 := ft hR e0
 replace e1 := ft hR e1
 replace e2 := ft hR e2
 replace own_bx := own_bx.ext hk
 replace kw := kw.x hk
 clear hR hk hg hP hb6
 refine zn (hK1 _ _ ?_)
 refine zq fun K3 hK3 => ?_
 refine zq fun K4 hK4 => ?_
 refine rg mixed y2 zz2 ?_
 refine .mb rfl e0 ?_
 refine .i (sp_nilP (hlc rfl)) ?_
 refine .i (fo 6 (hlc rfl) Try.underlying56 rfl sz28 rfl) ?_
 refine .i (lo1 (hlc rfl) own_bx trivial agg28 sz28 rfl) ?_
 refine .i (sp_neq (hlc rfl) Has.cst) ?_
 refine .dn fun a5 g W5 y5 zz5 hk hg hV hR hP => ?_
 obtain ⟨e14, -, -, -, -, -⟩ := hV
 replace e0 := ft hR e0
 replace e1 := ft hR e1
 replace e2 := ft hR e2
 replace e6 := ft hR e6
 replace e14 := e14.q
 replace own_bx := own_bx.ext hk
 replace own_b6_2 := own_b6_2.ext hk
 replace kw := kw.x hk
 clear hR hk hg hP
 refine zn (hK4 _ _ ?_)
 refine zc e14 (fun hc => ?_) (fun hc => ?_)
 ·
  refine zq fun K6 hK6 => ?_
  refine rg mixed y5 zz5 ?_
  refine .i (v := (.agg #[(.int .u8 (0)), (.int .i64 (0)), (.string (⟨#[]⟩)), (.slice none 0 0), (.slice none 0 0)])) (sp_build (vs := []) Try.underlying33 z33 (pl33 Try.underlying33) trivial rfl) ?_
  refine .dn fun a7 g W7 y7 zz7 hk hg hV hR hP => ?_
  obtain ⟨e15, -⟩ := hV
  replace e6 := ft hR e6
  replace e15 := e15.q
  replace own_bx := own_bx.ext hk
  replace own_b6_2 := own_b6_2.ext hk
  replace kw := kw.x hk
  clear hR hk hg hP
  refine tail_store e6 e15 sz33 rfl own_b6_2 (lbr rfl) (all_cons rfl (all_cons rfl (all_cons rfl (all_cons rfl (all_cons rfl all_nil))))) (fun W8 hs own_b6_2 => ?_)
  have own_b6_2 : Own W8 b6_2 z5C 33 := own_b6_2
  replace own_bx := own_store own_bx hs ne_bx_b6_2
  replace kw := keeps_store kw hs lo_b6_2
  clear hs
  refine tail_assign (v := (.bool (false))) rfl (by rw [y7]; exact Nat.le_of_ble_eq_true rfl) (fun a9 y9 zz9 e7 hr => ?_)
  replace y9 := y9.trans y7; replace zz9 := zz9.trans zz7
  replace e6 := (hr 6 (by decide)).trans e6
  replace e15 := (hr 15 (by decide)).trans e15
  clear hr
  refine zn (hK6 _ _ ?_)
  refine wp_ret ?_
  refine retCT (v := (.agg #[(.int .u8 (0)), (.int .i64 (0)), (.string (⟨#[]⟩)), (.slice none 0 0), (.slice none 0 0)])) rfl zz9 e6 own_b6_2 agg33 sz33 rfl (fun h => by cases h) rfl e7 ⟨_, rfl, kw, ?_⟩
  exact rfl
 exfalso
 simp at hc
 exact he hc
set_option maxRecDepth 100000 in
theorem yTextD_ok (m : ByteArray) (k : Nat) (n : Int) (t : ByteArray) (dn di av : Value) (e : Int) (he : e ≠ 0) (w : World) (bx : Nat) (own_bx : Own w bx [.int .u8 k, .int .i64 n, .string t, dn, di, av, .int .i64 e] 56) : Calls Try.prog 83 #[.pointer (some ⟨bx, 0, none⟩), .string m] w (Ret w fun u _ => u = .string ⟨#[]⟩) := by
 refine enter Try.func83 rfl Try.ntmps83 (lbr rfl) fun a0 y0 zz0 harg => ?_
 have e0 : sl a0 0 = (.pointer (some ⟨bx, 0, none⟩)) := harg 0 (lbr rfl)
 have e1 : sl a0 1 = (.string (m)) := harg 1 (lbr rfl)
 have kw := Keeps.refl All w
 clear harg
 refine zq fun K1 hK1 => ?_
 refine rg mixed y0 zz0 ?_
 refine .ac ?_
 refine .dn fun a2 g W2 y2 zz2 hk hg hV hR hP => ?_
 obtain ⟨-, -⟩ := hV
 replace e0 := ft hR e0
 replace e1 := ft hR e1
 replace own_bx := own_bx.ext hk
 replace kw := kw.x hk
 clear hR hk hg hP
 refine zn (hK1 _ _ ?_)
 refine zq fun K3 hK3 => ?_
 refine rg mixed y2 zz2 ?_
 refine .mb rfl e0 ?_
 refine .mb rfl e1 ?_
 refine .i (v := (.tuple #[(.agg #[(.int .u8 (0)), (.int .i64 (0)), (.string (⟨#[]⟩)), (.slice none 0 0), (.slice none 0 0)]), (.bool (false))])) (sp_call3 (φ1 := Is (.pointer (some ⟨bx, 0, none⟩))) (φ2 := Is (.string (m))) (φ3 := Is (.int .u8 (3))) ent141 (hlc rfl) (hlc rfl) Has.cst (fun g u1 u2 u3 W hk hgk h1 h2 h3 => by have h1 : u1 = _ := h1; subst u1; have h2 : u2 = _ := h2; subst u2; have h3 : u3 = _ := h3; subst u3; exact yTakeD_ok _ _ _ _ _ _ _ _ _ he W _ (own_bx.ext hk))) ?_
 refine .i (sp_move (hlc rfl)) ?_
 refine .i (v := (.agg #[(.int .u8 (0)), (.int .i64 (0)), (.string (⟨#[]⟩)), (.slice none 0 0), (.slice none 0 0)])) (sp_extT (hlc rfl) rfl) ?_
 refine .i (v := (.bool (false))) (sp_extT (hlc rfl) rfl) ?_
 refine .alloc z33 ?_
 refine .dn fun a4 g W4 y4 zz4 hk hg hV hR hP => ?_
 obtain ⟨⟨b5_4, e5, hb5, own_b5_4⟩, e12, e11, -, -, -, -, -⟩ := hV
 have lo_b5_4 : w.heap.size ≤ b5_4 := Nat.le_trans kw.size (hg.lo _ _ hb5)
 have ne_bx_b5_4 : bx ≠ b5_4 := Nat.ne_of_lt (Nat.lt_of_lt_of_le own_bx.lt (hg.lo _ _ hb5))
 have own_b5_4 : Own W4 b5_4 z5C 33 := own_b5_4
 replace e11 := e11.q
 replace e12 := e12.q
 replace own_bx := own_bx.ext hk
 replace kw := kw.x hk
 clear hR hk hg hP hb5
 refine tail_store e5 e11 sz33 rfl own_b5_4 (lbr rfl) (all_cons rfl (all_cons rfl (all_cons rfl (all_cons rfl (all_cons rfl all_nil))))) (fun W5 hs own_b5_4 => ?_)
 have own_b5_4 : Own W5 b5_4 z5C 33 := own_b5_4
 replace own_bx := own_store own_bx hs ne_bx_b5_4
 replace kw := keeps_store kw hs lo_b5_4
 clear hs
 refine tail_assign (v := (.bool (false))) e12 (by rw [y4]; exact Nat.le_of_ble_eq_true rfl) (fun a6 y6 zz6 e6 hr => ?_)
 replace y6 := y6.trans y4; replace zz6 := zz6.trans zz4
 replace e5 := (hr 5 (by decide)).trans e5
 replace e11 := (hr 11 (by decide)).trans e11
 replace e12 := (hr 12 (by decide)).trans e12
 clear hr
 refine zn (hK3 _ _ ?_)
 refine zq fun K7 hK7 => ?_
 refine rg mixed y6 zz6 ?_
 refine .i (fo 2 (hbs rfl e5) Try.underlying33 rfl sz9 rfl) ?_
 refine .i (lo1 (hlc rfl) own_b5_4 trivial agg9 sz9 rfl) ?_
 refine .al rfl ?_
 refine .dn fun a8 g W8 y8 zz8 hk hg hV hR hP => ?_
 obtain ⟨e4, -, -, -⟩ := hV
 replace e4 := e4.q
 replace own_bx := own_bx.ext hk
 replace own_b5_4 := own_b5_4.ext hk
 replace kw := kw.x hk
 clear hR hk hg hP
 refine zn (hK7 _ _ ?_)
 refine wp_ret ?_
 refine ret1 rfl zz8 e4 ⟨_, rfl, kw, ?_⟩
 exact rfl
set_option maxRecDepth 100000 in
theorem yBoolD_ok (m : ByteArray) (k : Nat) (n : Int) (t : ByteArray) (dn di av : Value) (e : Int) (he : e ≠ 0) (w : World) (bx : Nat) (own_bx : Own w bx [.int .u8 k, .int .i64 n, .string t, dn, di, av, .int .i64 e] 56) : Calls Try.prog 85 #[.pointer (some ⟨bx, 0, none⟩), .string m] w (Ret w fun u _ => u = .bool false) := by
 refine enter Try.func85 rfl Try.ntmps85 (lbr rfl) fun a0 y0 zz0 harg => ?_
 have e0 : sl a0 0 = (.pointer (some ⟨bx, 0, none⟩)) := harg 0 (lbr rfl)
 have e1 : sl a0 1 = (.string (m)) := harg 1 (lbr rfl)
 have kw := Keeps.refl All w
 clear harg
 refine zq fun K1 hK1 => ?_
 refine rg mixed y0 zz0 ?_
 refine .ac ?_
 refine .dn fun a2 g W2 y2 zz2 hk hg hV hR hP => ?_
 obtain ⟨-, -⟩ := hV
 replace e0 := ft hR e0
 replace e1 := ft hR e1
 replace own_bx := own_bx.ext hk
 replace kw := kw.x hk
 clear hR hk hg hP
 refine zn (hK1 _ _ ?_)
 refine zq fun K3 hK3 => ?_
 refine rg mixed y2 zz2 ?_
 refine .mb rfl e0 ?_
 refine .mb rfl e1 ?_
 refine .i (v := (.tuple #[(.agg #[(.int .u8 (0)), (.int .i64 (0)), (.string (⟨#[]⟩)), (.slice none 0 0), (.slice none 0 0)]), (.bool (false))])) (sp_call3 (φ1 := Is (.pointer (some ⟨bx, 0, none⟩))) (φ2 := Is (.string (m))) (φ3 := Is (.int .u8 (1))) ent141 (hlc rfl) (hlc rfl) Has.cst (fun g u1 u2 u3 W hk hgk h1 h2 h3 => by have h1 : u1 = _ := h1; subst u1; have h2 : u2 = _ := h2; subst u2; have h3 : u3 = _ := h3; subst u3; exact yTakeD_ok _ _ _ _ _ _ _ _ _ he W _ (own_bx.ext hk))) ?_
 refine .i (sp_move (hlc rfl)) ?_
 refine .i (v := (.agg #[(.int .u8 (0)), (.int .i64 (0)), (.string (⟨#[]⟩)), (.slice none 0 0), (.slice none 0 0)])) (sp_extT (hlc rfl) rfl) ?_
 refine .i (v := (.bool (false))) (sp_extT (hlc rfl) rfl) ?_
 refine .alloc z33 ?_
 refine .dn fun a4 g W4 y4 zz4 hk hg hV hR hP => ?_
 obtain ⟨⟨b5_4, e5, hb5, own_b5_4⟩, e12, e11, -, -, -, -, -⟩ := hV
 have lo_b5_4 : w.heap.size ≤ b5_4 := Nat.le_trans kw.size (hg.lo _ _ hb5)
 have ne_bx_b5_4 : bx ≠ b5_4 := Nat.ne_of_lt (Nat.lt_of_lt_of_le own_bx.lt (hg.lo _ _ hb5))
 have own_b5_4 : Own W4 b5_4 z5C 33 := own_b5_4
 replace e11 := e11.q
 replace e12 := e12.q
 replace own_bx := own_bx.ext hk
 replace kw := kw.x hk
 clear hR hk hg hP hb5
 refine tail_store e5 e11 sz33 rfl own_b5_4 (lbr rfl) (all_cons rfl (all_cons rfl (all_cons rfl (all_cons rfl (all_cons rfl all_nil))))) (fun W5 hs own_b5_4 => ?_)
 have own_b5_4 : Own W5 b5_4 z5C 33 := own_b5_4
 replace own_bx := own_store own_bx hs ne_bx_b5_4
 replace kw := keeps_store kw hs lo_b5_4
 clear hs
 refine tail_assign (v := (.bool (false))) e12 (by rw [y4]; exact Nat.le_of_ble_eq_true rfl) (fun a6 y6 zz6 e6 hr => ?_)
 replace y6 := y6.trans y4; replace zz6 := zz6.trans zz4
 replace e5 := (hr 5 (by decide)).trans e5
 replace e11 := (hr 11 (by decide)).trans e11
 replace e12 := (hr 12 (by decide)).trans e12
 clear hr
 refine zn (hK3 _ _ ?_)
 refine zq fun K7 hK7 => ?_
 refine rg mixed y6 zz6 ?_
 refine .i (fo 1 (hbs rfl e5) Try.underlying33 rfl sz2 rfl) ?_
 refine .i (lo1 (hlc rfl) own_b5_4 trivial agg2 sz2 rfl) ?_
 refine .i (sp_eql (hlc rfl) Has.cst) ?_
 refine .al rfl ?_
 refine .dn fun a8 g W8 y8 zz8 hk hg hV hR hP => ?_
 obtain ⟨e4, -, -, -, -⟩ := hV
 replace e4 := e4.q
 replace own_bx := own_bx.ext hk
 replace own_b5_4 := own_b5_4.ext hk
 replace kw := kw.x hk
 clear hR hk hg hP
 refine zn (hK7 _ _ ?_)
 refine wp_ret ?_
 refine ret1 rfl zz8 e4 ⟨_, rfl, kw, ?_⟩
 exact rfl
set_option maxRecDepth 100000 in
theorem yNumD_ok (m : ByteArray) (lw hi : Int) (k : Nat) (n : Int) (t : ByteArray) (dn di av : Value) (e : Int) (he : e ≠ 0) (w : World) (bx : Nat) (own_bx : Own w bx [.int .u8 k, .int .i64 n, .string t, dn, di, av, .int .i64 e] 56) : Calls Try.prog 84 #[.pointer (some ⟨bx, 0, none⟩), .string m, .int .i64 lw, .int .i64 hi] w (Ret w fun u _ => u = .int .i64 0) := by
 refine enter Try.func84 rfl Try.ntmps84 (lbr rfl) fun a0 y0 zz0 harg => ?_
 have e0 : sl a0 0 = (.pointer (some ⟨bx, 0, none⟩)) := harg 0 (lbr rfl)
 have e1 : sl a0 1 = (.string (m)) := harg 1 (lbr rfl)
 have e2 : sl a0 2 = (.int .i64 (lw)) := harg 2 (lbr rfl)
 have e3 : sl a0 3 = (.int .i64 (hi)) := harg 3 (lbr rfl)
 have kw := Keeps.refl All w
 clear harg
 refine zq fun K1 hK1 => ?_
 refine rg mixed y0 zz0 ?_
 refine .ac ?_
 refine .dn fun a2 g W2 y2 zz2 hk hg hV hR hP => ?_
 obtain ⟨-, -⟩ := hV
 replace e0 := ft hR e0
 replace e1 := ft hR e1
 replace e2 := ft hR e2
 replace e3 := ft hR e3
 replace own_bx := own_bx.ext hk
 replace kw := kw.x hk
 clear hR hk hg hP
 refine zn (hK1 _ _ ?_)
 refine zq fun K3 hK3 => ?_
 refine rg mixed y2 zz2 ?_
 refine .mb rfl e0 ?_
 refine .mb rfl e1 ?_
 refine .i (v := (.tuple #[(.agg #[(.int .u8 (0)), (.int .i64 (0)), (.string (⟨#[]⟩)), (.slice none 0 0), (.slice none 0 0)]), (.bool (false))])) (sp_call3 (φ1 := Is (.pointer (some ⟨bx, 0, none⟩))) (φ2 := Is (.string (m))) (φ3 := Is (.int .u8 (2))) ent141 (hlc rfl) (hlc rfl) Has.cst (fun g u1 u2 u3 W hk hgk h1 h2 h3 => by have h1 : u1 = _ := h1; subst u1; have h2 : u2 = _ := h2; subst u2; have h3 : u3 = _ := h3; subst u3; exact yTakeD_ok _ _ _ _ _ _ _ _ _ he W _ (own_bx.ext hk))) ?_
 refine .i (sp_move (hlc rfl)) ?_
 refine .i (v := (.agg #[(.int .u8 (0)), (.int .i64 (0)), (.string (⟨#[]⟩)), (.slice none 0 0), (.slice none 0 0)])) (sp_extT (hlc rfl) rfl) ?_
 refine .i (v := (.bool (false))) (sp_extT (hlc rfl) rfl) ?_
 refine .alloc z33 ?_
 refine .dn fun a4 g W4 y4 zz4 hk hg hV hR hP => ?_
 obtain ⟨⟨b9_4, e9, hb9, own_b9_4⟩, e16, e15, -, -, -, -, -⟩ := hV
 have lo_b9_4 : w.heap.size ≤ b9_4 := Nat.le_trans kw.size (hg.lo _ _ hb9)
 have ne_bx_b9_4 : bx ≠ b9_4 := Nat.ne_of_lt (Nat.lt_of_lt_of_le own_bx.lt (hg.lo _ _ hb9))
 have own_b9_4 : Own W4 b9_4 z5C 33 := own_b9_4
 replace e0 := ft hR e0
 replace e2 := ft hR e2
 replace e3 := ft hR e3
 replace e15 := e15.q
 replace e16 := e16.q
 replace own_bx := own_bx.ext hk
 replace kw := kw.x hk
 clear hR hk hg hP hb9
 refine tail_store e9 e15 sz33 rfl own_b9_4 (lbr rfl) (all_cons rfl (all_cons rfl (all_cons rfl (all_cons rfl (all_cons rfl all_nil))))) (fun W5 hs own_b9_4 => ?_)
 have own_b9_4 : Own W5 b9_4 z5C 33 := own_b9_4
 replace own_bx := own_store own_bx hs ne_bx_b9_4
 replace kw := keeps_store kw hs lo_b9_4
 clear hs
 refine tail_assign (v := (.bool (false))) e16 (by rw [y4]; exact Nat.le_of_ble_eq_true rfl) (fun a6 y6 zz6 e10 hr => ?_)
 replace y6 := y6.trans y4; replace zz6 := zz6.trans zz4
 replace e0 := (hr 0 (by decide)).trans e0
 replace e2 := (hr 2 (by decide)).trans e2
 replace e3 := (hr 3 (by decide)).trans e3
 replace e9 := (hr 9 (by decide)).trans e9
 replace e15 := (hr 15 (by decide)).trans e15
 replace e16 := (hr 16 (by decide)).trans e16
 clear hr
 refine zn (hK3 _ _ ?_)
 refine zq fun K7 hK7 => ?_
 refine zq fun K8 hK8 => ?_
 refine rg mixed y6 zz6 ?_
 refine .mb rfl e10 ?_
 refine .i (sp_move (hlc rfl)) ?_
 refine .opE (t := 18) (φ := Any) rfl (hlc rfl) st_any (fun hg => absurd hg (by decide)) ?_
 refine .opE (t := 18) (φ := Any) rfl (hlc rfl) st_any (fun hg => absurd hg (by decide)) ?_
 refine .opE (t := 18) (φ := Any) rfl (hlc rfl) st_any (fun hg => absurd hg (by decide)) ?_
 refine .opE (t := 18) (φ := Any) rfl (hlc rfl) st_any (fun hg => absurd hg (by decide)) ?_
 refine .e (v := (.bool (false))) rfl (hlc rfl) (fun hg => absurd hg (by decide)) ?_
 refine .opEE (t := 23) (x := false) (p := (false) = true) (φ := Is (.pointer (some ⟨b9_4, 1, none⟩))) rfl (hlc rfl) (st_is _) (fun hg => sp_fieldO (hbs rfl e9) Try.underlying33 rfl sz2 rfl) ?_
 refine .opEE (t := 23) (x := false) (p := (false) = true) (φ := Is (.int .i64 (0))) rfl (hlc rfl) (st_is _) (fun hg => sp_loadO (v := (.int .i64 (0))) ((hlc rfl).undE hg) own_b9_4 trivial agg2 sz2 (lbr rfl) (fun h => by first | rfl | cases h) rfl) ?_
 refine .opEE (t := 23) (x := false) (p := (false) = true) (φ := Is (.int .i64 (hi))) rfl (hlc rfl) (st_is _) (fun hg => sp_move (hbs rfl e3)) ?_
 refine .opEE (t := 23) (x := false) (p := (false) = true) (φ := Is (.bool (decide ((hi : Int) < (0 : Int))))) rfl (hlc rfl) (st_is _) (fun hg => sp_gtr ((hlc rfl).undE hg) ((hlc rfl).undE hg)) ?_
 refine .opE (t := 18) (φ := Any) rfl (hlc rfl) st_any (fun hg => absurd hg (by decide)) ?_
 refine .i (v := (.bool (false))) (sp_andF (hlc rfl)) ?_
 refine .dn fun a9 g W9 y9 zz9 hk hg hV hR hP => ?_
 obtain ⟨e29, -, -, -, -, -, -, -, -, -, -, -, -, -⟩ := hV
 replace e0 := ft hR e0
 replace e9 := ft hR e9
 replace e29 := e29.q
 replace own_bx := own_bx.ext hk
 replace own_b9_4 := own_b9_4.ext hk
 replace kw := kw.x hk
 clear hR hk hg hP
 refine zn (hK8 _ _ ?_)
 refine wp_cond_false e29 ?_
 refine wp_skip (hK7 _ _ ?_)
 refine zq fun K10 hK10 => ?_
 refine rg mixed y9 zz9 ?_
 refine .i (fo 1 (hbs rfl e9) Try.underlying33 rfl sz2 rfl) ?_
 refine .i (lo1 (hlc rfl) own_b9_4 trivial agg2 sz2 rfl) ?_
 refine .al rfl ?_
 refine .dn fun a11 g W11 y11 zz11 hk hg hV hR hP => ?_
 obtain ⟨e8, -, -, -⟩ := hV
 replace e8 := e8.q
 replace own_bx := own_bx.ext hk
 replace own_b9_4 := own_b9_4.ext hk
 replace kw := kw.x hk
 clear hR hk hg hP
 refine zn (hK10 _ _ ?_)
 refine wp_ret ?_
 refine ret1 rfl zz11 e8 ⟨_, rfl, kw, ?_⟩
 exact rfl
set_option maxRecDepth 100000 in
theorem yListD_ok (m : ByteArray) (mo : Int) (k : Nat) (n : Int) (t : ByteArray) (dn di av : Value) (e : Int) (he : e ≠ 0) (w : World) (bx : Nat) (own_bx : Own w bx [.int .u8 k, .int .i64 n, .string t, dn, di, av, .int .i64 e] 56) : Calls Try.prog 87 #[.pointer (some ⟨bx, 0, none⟩), .string m, .int .i64 mo] w (Ret w fun u _ => u = .slice none 0 0) := by
 refine enter Try.func87 rfl Try.ntmps87 (lbr rfl) fun a0 y0 zz0 harg => ?_
 have e0 : sl a0 0 = (.pointer (some ⟨bx, 0, none⟩)) := harg 0 (lbr rfl)
 have e1 : sl a0 1 = (.string (m)) := harg 1 (lbr rfl)
 have e2 : sl a0 2 = (.int .i64 (mo)) := harg 2 (lbr rfl)
 have kw := Keeps.refl All w
 clear harg
 refine zq fun K1 hK1 => ?_
 refine rg mixed y0 zz0 ?_
 refine .ac ?_
 refine .dn fun a2 g W2 y2 zz2 hk hg hV hR hP => ?_
 obtain ⟨-, -⟩ := hV
 replace e0 := ft hR e0
 replace e1 := ft hR e1
 replace e2 := ft hR e2
 replace own_bx := own_bx.ext hk
 replace kw := kw.x hk
 clear hR hk hg hP
 refine zn (hK1 _ _ ?_)
 refine zq fun K3 hK3 => ?_
 refine rg mixed y2 zz2 ?_
 refine .mb rfl e0 ?_
 refine .mb rfl e1 ?_
 refine .i (v := (.tuple #[(.agg #[(.int .u8 (0)), (.int .i64 (0)), (.string (⟨#[]⟩)), (.slice none 0 0), (.slice none 0 0)]), (.bool (false))])) (sp_call3 (φ1 := Is (.pointer (some ⟨bx, 0, none⟩))) (φ2 := Is (.string (m))) (φ3 := Is (.int .u8 (4))) ent141 (hlc rfl) (hlc rfl) Has.cst (fun g u1 u2 u3 W hk hgk h1 h2 h3 => by have h1 : u1 = _ := h1; subst u1; have h2 : u2 = _ := h2; subst u2; have h3 : u3 = _ := h3; subst u3; exact yTakeD_ok _ _ _ _ _ _ _ _ _ he W _ (own_bx.ext hk))) ?_
 refine .i (sp_move (hlc rfl)) ?_
 refine .i (v := (.agg #[(.int .u8 (0)), (.int .i64 (0)), (.string (⟨#[]⟩)), (.slice none 0 0), (.slice none 0 0)])) (sp_extT (hlc rfl) rfl) ?_
 refine .i (v := (.bool (false))) (sp_extT (hlc rfl) rfl) ?_
 refine .alloc z33 ?_
 refine .dn fun a4 g W4 y4 zz4 hk hg hV hR hP => ?_
 obtain ⟨⟨b7_4, e7, hb7, own_b7_4⟩, e14, e13, -, -, -, -, -⟩ := hV
 have lo_b7_4 : w.heap.size ≤ b7_4 := Nat.le_trans kw.size (hg.lo _ _ hb7)
 have ne_bx_b7_4 : bx ≠ b7_4 := Nat.ne_of_lt (Nat.lt_of_lt_of_le own_bx.lt (hg.lo _ _ hb7))
 have own_b7_4 : Own W4 b7_4 z5C 33 := own_b7_4
 replace e0 := ft hR e0
 replace e2 := ft hR e2
 replace e13 := e13.q
 replace e14 := e14.q
 replace own_bx := own_bx.ext hk
 replace kw := kw.x hk
 clear hR hk hg hP hb7
 refine tail_store e7 e13 sz33 rfl own_b7_4 (lbr rfl) (all_cons rfl (all_cons rfl (all_cons rfl (all_cons rfl (all_cons rfl all_nil))))) (fun W5 hs own_b7_4 => ?_)
 have own_b7_4 : Own W5 b7_4 z5C 33 := own_b7_4
 replace own_bx := own_store own_bx hs ne_bx_b7_4
 replace kw := keeps_store kw hs lo_b7_4
 clear hs
 refine tail_assign (v := (.bool (false))) e14 (by rw [y4]; exact Nat.le_of_ble_eq_true rfl) (fun a6 y6 zz6 e8 hr => ?_)
 replace y6 := y6.trans y4; replace zz6 := zz6.trans zz4
 replace e0 := (hr 0 (by decide)).trans e0
 replace e2 := (hr 2 (by decide)).trans e2
 replace e7 := (hr 7 (by decide)).trans e7
 replace e13 := (hr 13 (by decide)).trans e13
 replace e14 := (hr 14 (by decide)).trans e14
 clear hr
 refine zn (hK3 _ _ ?_)
 refine zq fun K7 hK7 => ?_
 refine zq fun K8 hK8 => ?_
 refine rg mixed y6 zz6 ?_
 refine .mb rfl e8 ?_
 refine .i (sp_move (hlc rfl)) ?_
 refine .opE (t := 16) (φ := Any) rfl (hlc rfl) st_any (fun hg => absurd hg (by decide)) ?_
 refine .opE (t := 16) (φ := Any) rfl (hlc rfl) st_any (fun hg => absurd hg (by decide)) ?_
 refine .opE (t := 16) (φ := Any) rfl (hlc rfl) st_any (fun hg => absurd hg (by decide)) ?_
 refine .opE (t := 16) (φ := Any) rfl (hlc rfl) st_any (fun hg => absurd hg (by decide)) ?_
 refine .opE (t := 16) (φ := Any) rfl (hlc rfl) st_any (fun hg => absurd hg (by decide)) ?_
 refine .i (v := (.bool (false))) (sp_andF (hlc rfl)) ?_
 refine .dn fun a9 g W9 y9 zz9 hk hg hV hR hP => ?_
 obtain ⟨e22, -, -, -, -, -, -, -, -⟩ := hV
 replace e0 := ft hR e0
 replace e7 := ft hR e7
 replace e22 := e22.q
 replace own_bx := own_bx.ext hk
 replace own_b7_4 := own_b7_4.ext hk
 replace kw := kw.x hk
 clear hR hk hg hP
 refine zn (hK8 _ _ ?_)
 refine wp_cond_false e22 ?_
 refine wp_skip (hK7 _ _ ?_)
 refine zq fun K10 hK10 => ?_
 refine rg mixed y9 zz9 ?_
 refine .i (fo 4 (hbs rfl e7) Try.underlying33 rfl sz31 rfl) ?_
 refine .i (lo1 (hlc rfl) own_b7_4 trivial agg31 sz31 rfl) ?_
 refine .al rfl ?_
 refine .dn fun a11 g W11 y11 zz11 hk hg hV hR hP => ?_
 obtain ⟨e6, -, -, -⟩ := hV
 replace e6 := e6.q
 replace own_bx := own_bx.ext hk
 replace own_b7_4 := own_b7_4.ext hk
 replace kw := kw.x hk
 clear hR hk hg hP
 refine zn (hK10 _ _ ?_)
 refine wp_ret ?_
 refine ret1 rfl zz11 e6 ⟨_, rfl, kw, ?_⟩
 exact rfl
set_option maxRecDepth 100000 in
theorem yObjectD_ok (m : ByteArray) (mo : Int) (k : Nat) (n : Int) (t : ByteArray) (dn di av : Value) (e : Int) (he : e ≠ 0) (w : World) (bx : Nat) (own_bx : Own w bx [.int .u8 k, .int .i64 n, .string t, dn, di, av, .int .i64 e] 56) : Calls Try.prog 91 #[.pointer (some ⟨bx, 0, none⟩), .string m, .int .i64 mo] w (Ret w fun u _ => u = .agg #[.int .u8 0, .int .i64 0, .string ⟨#[]⟩, .slice none 0 0, .slice none 0 0]) := by
 refine enter Try.func91 rfl Try.ntmps91 (lbr rfl) fun a0 y0 zz0 harg => ?_
 have e0 : sl a0 0 = (.pointer (some ⟨bx, 0, none⟩)) := harg 0 (lbr rfl)
 have e1 : sl a0 1 = (.string (m)) := harg 1 (lbr rfl)
 have e2 : sl a0 2 = (.int .i64 (mo)) := harg 2 (lbr rfl)
 have kw := Keeps.refl All w
 clear harg
 refine zq fun K1 hK1 => ?_
 refine rg mixed y0 zz0 ?_
 refine .alloc z33 ?_
 refine .dn fun a2 g W2 y2 zz2 hk hg hV hR hP => ?_
 obtain ⟨⟨b6_2, e6, hb6, own_b6_2⟩, -⟩ := hV
 have lo_b6_2 : w.heap.size ≤ b6_2 := Nat.le_trans kw.size (hg.lo _ _ hb6)
 have ne_bx_b6_2 : bx ≠ b6_2 := Nat.ne_of_lt (Nat.lt_of_lt_of_le own_bx.lt (hg.lo _ _ hb6))
 have own_b6_2 : Own W2 b6_2 z5C 33 := own_b6_2
 replace e0 := ft hR e0
 replace e1 := ft hR e1
 replace e2 := ft hR e2
 replace own_bx := own_bx.ext hk
 replace kw := kw.x hk
 clear hR hk hg hP hb6
 refine zn (hK1 _ _ ?_)
 refine zq fun K3 hK3 => ?_
 refine rg mixed y2 zz2 ?_
 refine .mb rfl e0 ?_
 refine .mb rfl e1 ?_
 refine .i (v := (.tuple #[(.agg #[(.int .u8 (0)), (.int .i64 (0)), (.string (⟨#[]⟩)), (.slice none 0 0), (.slice none 0 0)]), (.bool (false))])) (sp_call3 (φ1 := Is (.pointer (some ⟨bx, 0, none⟩))) (φ2 := Is (.string (m))) (φ3 := Is (.int .u8 (5))) ent141 (hlc rfl) (hlc rfl) Has.cst (fun g u1 u2 u3 W hk hgk h1 h2 h3 => by have h1 : u1 = _ := h1; subst u1; have h2 : u2 = _ := h2; subst u2; have h3 : u3 = _ := h3; subst u3; exact yTakeD_ok _ _ _ _ _ _ _ _ _ he W _ (own_bx.ext hk))) ?_
 refine .i (sp_move (hlc rfl)) ?_
 refine .i (v := (.agg #[(.int .u8 (0)), (.int .i64 (0)), (.string (⟨#[]⟩)), (.slice none 0 0), (.slice none 0 0)])) (sp_extT (hlc rfl) rfl) ?_
 refine .i (v := (.bool (false))) (sp_extT (hlc rfl) rfl) ?_
 refine .alloc z33 ?_
 refine .dn fun a4 g W4 y4 zz4 hk hg hV hR hP => ?_
 obtain ⟨⟨b7_4, e7, hb7, own_b7_4⟩, e14, e13, -, -, -, -, -⟩ := hV
 have lo_b7_4 : w.heap.size ≤ b7_4 := Nat.le_trans kw.size (hg.lo _ _ hb7)
 have ne_bx_b7_4 : bx ≠ b7_4 := Nat.ne_of_lt (Nat.lt_of_lt_of_le own_bx.lt (hg.lo _ _ hb7))
 have ne_b6_2_b7_4 : b6_2 ≠ b7_4 := Nat.ne_of_lt (Nat.lt_of_lt_of_le own_b6_2.lt (hg.lo _ _ hb7))
 have own_b7_4 : Own W4 b7_4 z5C 33 := own_b7_4
 replace e0 := ft hR e0
 replace e2 := ft hR e2
 replace e6 := ft hR e6
 replace e13 := e13.q
 replace e14 := e14.q
 replace own_bx := own_bx.ext hk
 replace own_b6_2 := own_b6_2.ext hk
 replace kw := kw.x hk
 clear hR hk hg hP hb7
 refine tail_store e7 e13 sz33 rfl own_b7_4 (lbr rfl) (all_cons rfl (all_cons rfl (all_cons rfl (all_cons rfl (all_cons rfl all_nil))))) (fun W5 hs own_b7_4 => ?_)
 have own_b7_4 : Own W5 b7_4 z5C 33 := own_b7_4
 replace own_bx := own_store own_bx hs ne_bx_b7_4
 replace own_b6_2 := own_store own_b6_2 hs ne_b6_2_b7_4
 replace kw := keeps_store kw hs lo_b7_4
 clear hs
 refine tail_assign (v := (.bool (false))) e14 (by rw [y4]; exact Nat.le_of_ble_eq_true rfl) (fun a6 y6 zz6 e8 hr => ?_)
 replace y6 := y6.trans y4; replace zz6 := zz6.trans zz4
 replace e0 := (hr 0 (by decide)).trans e0
 replace e2 := (hr 2 (by decide)).trans e2
 replace e6 := (hr 6 (by decide)).trans e6
 replace e7 := (hr 7 (by decide)).trans e7
 replace e13 := (hr 13 (by decide)).trans e13
 replace e14 := (hr 14 (by decide)).trans e14
 clear hr
 refine zn (hK3 _ _ ?_)
 refine zq fun K7 hK7 => ?_
 refine zq fun K8 hK8 => ?_
 refine rg mixed y6 zz6 ?_
 refine .mb rfl e8 ?_
 refine .i (sp_move (hlc rfl)) ?_
 refine .opE (t := 16) (φ := Any) rfl (hlc rfl) st_any (fun hg => absurd hg (by decide)) ?_
 refine .opE (t := 16) (φ := Any) rfl (hlc rfl) st_any (fun hg => absurd hg (by decide)) ?_
 refine .opE (t := 16) (φ := Any) rfl (hlc rfl) st_any (fun hg => absurd hg (by decide)) ?_
 refine .opE (t := 16) (φ := Any) rfl (hlc rfl) st_any (fun hg => absurd hg (by decide)) ?_
 refine .opE (t := 16) (φ := Any) rfl (hlc rfl) st_any (fun hg => absurd hg (by decide)) ?_
 refine .i (v := (.bool (false))) (sp_andF (hlc rfl)) ?_
 refine .dn fun a9 g W9 y9 zz9 hk hg hV hR hP => ?_
 obtain ⟨e22, -, -, -, -, -, -, -, -⟩ := hV
 replace e0 := ft hR e0
 replace e6 := ft hR e6
 replace e7 := ft hR e7
 replace e22 := e22.q
 replace own_bx := own_bx.ext hk
 replace own_b6_2 := own_b6_2.ext hk
 replace own_b7_4 := own_b7_4.ext hk
 replace kw := kw.x hk
 clear hR hk hg hP
 refine zn (hK8 _ _ ?_)
 refine wp_cond_false e22 ?_
 refine wp_skip (hK7 _ _ ?_)
 refine zq fun K10 hK10 => ?_
 refine rg mixed y9 zz9 ?_
 refine .i (v := (.agg #[(.int .u8 (0)), (.int .i64 (0)), (.string (⟨#[]⟩)), (.slice none 0 0), (.slice none 0 0)])) (loA (hbs rfl e7) own_b7_4 trivial agg33 sz33 rfl rfl) ?_
 refine .dn fun a11 g W11 y11 zz11 hk hg hV hR hP => ?_
 obtain ⟨e27, -⟩ := hV
 replace e6 := ft hR e6
 replace e27 := e27.q
 replace own_bx := own_bx.ext hk
 replace own_b6_2 := own_b6_2.ext hk
 replace own_b7_4 := own_b7_4.ext hk
 replace kw := kw.x hk
 clear hR hk hg hP
 refine tail_store e6 e27 sz33 rfl own_b6_2 (lbr rfl) (all_cons rfl (all_cons rfl (all_cons rfl (all_cons rfl (all_cons rfl all_nil))))) (fun W12 hs own_b6_2 => ?_)
 have own_b6_2 : Own W12 b6_2 z5C 33 := own_b6_2
 replace own_bx := own_store own_bx hs ne_bx_b6_2
 replace own_b7_4 := own_store own_b7_4 hs ne_b6_2_b7_4.symm
 replace kw := keeps_store kw hs lo_b6_2
 clear hs
 refine zn (hK10 _ _ ?_)
 refine wp_ret ?_
 refine retC (v := (.agg #[(.int .u8 (0)), (.int .i64 (0)), (.string (⟨#[]⟩)), (.slice none 0 0), (.slice none 0 0)])) rfl zz11 e6 own_b6_2 agg33 sz33 rfl (fun h => by cases h) rfl ⟨_, rfl, kw, ?_⟩
 exact rfl
set_option maxRecDepth 100000 in
theorem yAnyD_ok (m : ByteArray) (k : Nat) (n : Int) (t : ByteArray) (dn di av : Value) (e : Int) (he : e ≠ 0) (w : World) (bx : Nat) (own_bx : Own w bx [.int .u8 k, .int .i64 n, .string t, dn, di, av, .int .i64 e] 56) : Calls Try.prog 92 #[.pointer (some ⟨bx, 0, none⟩), .string m] w (Ret w fun u _ => u = .agg #[.int .u8 0, .int .i64 0, .string ⟨#[]⟩, .slice none 0 0, .slice none 0 0]) := by
 refine enter Try.func92 rfl Try.ntmps92 (lbr rfl) fun a0 y0 zz0 harg => ?_
 have e0 : sl a0 0 = (.pointer (some ⟨bx, 0, none⟩)) := harg 0 (lbr rfl)
 have e1 : sl a0 1 = (.string (m)) := harg 1 (lbr rfl)
 have kw := Keeps.refl All w
 clear harg
 refine zq fun K1 hK1 => ?_
 refine rg mixed y0 zz0 ?_
 refine .alloc z33 ?_
 refine .dn fun a2 g W2 y2 zz2 hk hg hV hR hP => ?_
 obtain ⟨⟨b4_2, e4, hb4, own_b4_2⟩, -⟩ := hV
 have lo_b4_2 : w.heap.size ≤ b4_2 := Nat.le_trans kw.size (hg.lo _ _ hb4)
 have ne_bx_b4_2 : bx ≠ b4_2 := Nat.ne_of_lt (Nat.lt_of_lt_of_le own_bx.lt (hg.lo _ _ hb4))
 have own_b4_2 : Own W2 b4_2 z5C 33 := own_b4_2
 replace e0 := ft hR e0
 replace e1 := ft hR e1
 replace own_bx := own_bx.ext hk
 replace kw := kw.x hk
 clear hR hk hg hP hb4
 refine zn (hK1 _ _ ?_)
 refine zq fun K3 hK3 => ?_
 refine rg mixed y2 zz2 ?_
 refine .mb rfl e0 ?_
 refine .mb rfl e1 ?_
 refine .i (v := (.tuple #[(.agg #[(.int .u8 (0)), (.int .i64 (0)), (.string (⟨#[]⟩)), (.slice none 0 0), (.slice none 0 0)]), (.bool (false))])) (sp_call3 (φ1 := Is (.pointer (some ⟨bx, 0, none⟩))) (φ2 := Is (.string (m))) (φ3 := Is (.int .u8 (0))) ent141 (hlc rfl) (hlc rfl) Has.cst (fun g u1 u2 u3 W hk hgk h1 h2 h3 => by have h1 : u1 = _ := h1; subst u1; have h2 : u2 = _ := h2; subst u2; have h3 : u3 = _ := h3; subst u3; exact yTakeD_ok _ _ _ _ _ _ _ _ _ he W _ (own_bx.ext hk))) ?_
 refine .i (sp_move (hlc rfl)) ?_
 refine .i (v := (.agg #[(.int .u8 (0)), (.int .i64 (0)), (.string (⟨#[]⟩)), (.slice none 0 0), (.slice none 0 0)])) (sp_extT (hlc rfl) rfl) ?_
 refine .i (v := (.bool (false))) (sp_extT (hlc rfl) rfl) ?_
 refine .alloc z33 ?_
 refine .dn fun a4 g W4 y4 zz4 hk hg hV hR hP => ?_
 obtain ⟨⟨b5_4, e5, hb5, own_b5_4⟩, e12, e11, -, -, -, -, -⟩ := hV
 have lo_b5_4 : w.heap.size ≤ b5_4 := Nat.le_trans kw.size (hg.lo _ _ hb5)
 have ne_bx_b5_4 : bx ≠ b5_4 := Nat.ne_of_lt (Nat.lt_of_lt_of_le own_bx.lt (hg.lo _ _ hb5))
 have ne_b4_2_b5_4 : b4_2 ≠ b5_4 := Nat.ne_of_lt (Nat.lt_of_lt_of_le own_b4_2.lt (hg.lo _ _ hb5))
 have own_b5_4 : Own W4 b5_4 z5C 33 := own_b5_4
 replace e4 := ft hR e4
 replace e11 := e11.q
 replace e12 := e12.q
 replace own_bx := own_bx.ext hk
 replace own_b4_2 := own_b4_2.ext hk
 replace kw := kw.x hk
 clear hR hk hg hP hb5
 refine tail_store e5 e11 sz33 rfl own_b5_4 (lbr rfl) (all_cons rfl (all_cons rfl (all_cons rfl (all_cons rfl (all_cons rfl all_nil))))) (fun W5 hs own_b5_4 => ?_)
 have own_b5_4 : Own W5 b5_4 z5C 33 := own_b5_4
 replace own_bx := own_store own_bx hs ne_bx_b5_4
 replace own_b4_2 := own_store own_b4_2 hs ne_b4_2_b5_4
 replace kw := keeps_store kw hs lo_b5_4
 clear hs
 refine tail_assign (v := (.bool (false))) e12 (by rw [y4]; exact Nat.le_of_ble_eq_true rfl) (fun a6 y6 zz6 e6 hr => ?_)
 replace y6 := y6.trans y4; replace zz6 := zz6.trans zz4
 replace e4 := (hr 4 (by decide)).trans e4
 replace e5 := (hr 5 (by decide)).trans e5
 replace e11 := (hr 11 (by decide)).trans e11
 replace e12 := (hr 12 (by decide)).trans e12
 clear hr
 refine zn (hK3 _ _ ?_)
 refine zq fun K7 hK7 => ?_
 refine rg mixed y6 zz6 ?_
 refine .i (v := (.agg #[(.int .u8 (0)), (.int .i64 (0)), (.string (⟨#[]⟩)), (.slice none 0 0), (.slice none 0 0)])) (loA (hbs rfl e5) own_b5_4 trivial agg33 sz33 rfl rfl) ?_
 refine .dn fun a8 g W8 y8 zz8 hk hg hV hR hP => ?_
 obtain ⟨e13, -⟩ := hV
 replace e4 := ft hR e4
 replace e13 := e13.q
 replace own_bx := own_bx.ext hk
 replace own_b4_2 := own_b4_2.ext hk
 replace own_b5_4 := own_b5_4.ext hk
 replace kw := kw.x hk
 clear hR hk hg hP
 refine tail_store e4 e13 sz33 rfl own_b4_2 (lbr rfl) (all_cons rfl (all_cons rfl (all_cons rfl (all_cons rfl (all_cons rfl all_nil))))) (fun W9 hs own_b4_2 => ?_)
 have own_b4_2 : Own W9 b4_2 z5C 33 := own_b4_2
 replace own_bx := own_store own_bx hs ne_bx_b4_2
 replace own_b5_4 := own_store own_b5_4 hs ne_b4_2_b5_4.symm
 replace kw := keeps_store kw hs lo_b4_2
 clear hs
 refine zn (hK7 _ _ ?_)
 refine wp_ret ?_
 refine retC (v := (.agg #[(.int .u8 (0)), (.int .i64 (0)), (.string (⟨#[]⟩)), (.slice none 0 0), (.slice none 0 0)])) rfl zz8 e4 own_b4_2 agg33 sz33 rfl (fun h => by cases h) rfl ⟨_, rfl, kw, ?_⟩
 exact rfl
set_option maxRecDepth 100000 in
theorem yTextsD_ok (m : ByteArray) (mo : Int) (k : Nat) (n : Int) (t : ByteArray) (dn di av : Value) (e : Int) (he : e ≠ 0) (w : World) (bx : Nat) (own_bx : Own w bx [.int .u8 k, .int .i64 n, .string t, dn, di, av, .int .i64 e] 56) : Calls Try.prog 90 #[.pointer (some ⟨bx, 0, none⟩), .string m, .int .i64 mo] w (Ret w fun u _ => u = .slice none 0 0) := by
 refine enter Try.func90 rfl Try.ntmps90 (lbr rfl) fun a0 y0 zz0 harg => ?_
 have e0 : sl a0 0 = (.pointer (some ⟨bx, 0, none⟩)) := harg 0 (lbr rfl)
 have e1 : sl a0 1 = (.string (m)) := harg 1 (lbr rfl)
 have e2 : sl a0 2 = (.int .i64 (mo)) := harg 2 (lbr rfl)
 have kw := Keeps.refl All w
 clear harg
 refine zq fun K1 hK1 => ?_
 refine rg mixed y0 zz0 ?_
 refine .ac ?_
 refine .dn fun a2 g W2 y2 zz2 hk hg hV hR hP => ?_
 obtain ⟨-, -⟩ := hV
 replace e0 := ft hR e0
 replace e1 := ft hR e1
 replace e2 := ft hR e2
 replace own_bx := own_bx.ext hk
 replace kw := kw.x hk
 clear hR hk hg hP
 refine zn (hK1 _ _ ?_)
 refine zq fun K3 hK3 => ?_
 refine rg mixed y2 zz2 ?_
 refine .mb rfl e0 ?_
 refine .mb rfl e1 ?_
 refine .mb rfl e2 ?_
 refine .i (v := (.slice none 0 0)) (sp_call3 (φ1 := Is (.pointer (some ⟨bx, 0, none⟩))) (φ2 := Is (.string (m))) (φ3 := Is (.int .i64 (mo))) ent87 (hlc rfl) (hlc rfl) (hlc rfl) (fun g u1 u2 u3 W hk hgk h1 h2 h3 => by have h1 : u1 = _ := h1; subst u1; have h2 : u2 = _ := h2; subst u2; have h3 : u3 = _ := h3; subst u3; exact yListD_ok _ _ _ _ _ _ _ _ _ he W _ (own_bx.ext hk))) ?_
 refine .al rfl ?_
 refine .dn fun a4 g W4 y4 zz4 hk hg hV hR hP => ?_
 obtain ⟨e7, -, -, -, -, -⟩ := hV
 replace e0 := ft hR e0
 replace e7 := e7.q
 replace own_bx := own_bx.ext hk
 replace kw := kw.x hk
 clear hR hk hg hP
 refine zn (hK3 _ _ ?_)
 refine zq fun K5 hK5 => ?_
 refine rg mixed y4 zz4 ?_
 refine .ac ?_
 refine .dn fun a6 g W6 y6 zz6 hk hg hV hR hP => ?_
 obtain ⟨e8, -⟩ := hV
 replace e0 := ft hR e0
 replace e7 := ft hR e7
 replace e8 := e8.q
 replace own_bx := own_bx.ext hk
 replace kw := kw.x hk
 clear hR hk hg hP
 refine zn (hK5 _ _ ?_)
 refine zq fun K7 hK7 => ?_
 refine zq fun K8 hK8 => ?_
 refine rg mixed y6 zz6 ?_
 refine .ac ?_
 refine .dn fun a9 g W9 y9 zz9 hk hg hV hR hP => ?_
 obtain ⟨e9, -⟩ := hV
 replace e0 := ft hR e0
 replace e7 := ft hR e7
 replace e8 := ft hR e8
 replace e9 := e9.q
 replace own_bx := own_bx.ext hk
 replace kw := kw.x hk
 clear hR hk hg hP
 refine zn (hK8 _ _ ?_)
 refine wp_block ?_
 refine wp_loopAt (loopAt ?_)
 refine zq fun K10 hK10 => ?_
 refine zq fun K11 hK11 => ?_
 refine rg mixed y9 zz9 ?_
 refine .mb rfl e9 ?_
 refine .mb rfl e7 ?_
 refine .i (sp_lenV Try.underlying31 (hlc rfl)) ?_
 refine .i (sp_lss (hlc rfl) (hlc rfl)) ?_
 refine .dn fun a12 g W12 y12 zz12 hk hg hV hR hP => ?_
 obtain ⟨e17, -, -, -, -⟩ := hV
 replace e0 := ft hR e0
 replace e7 := ft hR e7
 replace e8 := ft hR e8
 replace e9 := ft hR e9
 replace e17 := e17.q
 replace own_bx := own_bx.ext hk
 replace kw := kw.x hk
 clear hR hk hg hP
 refine zn (hK11 _ _ ?_)
 refine wp_cond_false (e17.trans (congrArg Value.bool (by decide))) ?_
 refine wp_exit (hK7 _ _ ?_)
 refine zq fun K13 hK13 => ?_
 refine rg mixed y12 zz12 ?_
 refine .mb rfl e8 ?_
 refine .al rfl ?_
 refine .dn fun a14 g W14 y14 zz14 hk hg hV hR hP => ?_
 obtain ⟨e6, -, -⟩ := hV
 replace e6 := e6.q
 replace own_bx := own_bx.ext hk
 replace kw := kw.x hk
 clear hR hk hg hP
 refine zn (hK13 _ _ ?_)
 refine wp_ret ?_
 refine ret1 rfl zz14 e6 ⟨_, rfl, kw, ?_⟩
 exact rfl
set_option maxRecDepth 100000 in
theorem yHasD_ok (m : ByteArray) (k : Nat) (n : Int) (t : ByteArray) (dn di av : Value) (e : Int) (he : e ≠ 0) (w : World) (bx : Nat) (own_bx : Own w bx [.int .u8 k, .int .i64 n, .string t, dn, di, av, .int .i64 e] 56) : Calls Try.prog 82 #[.pointer (some ⟨bx, 0, none⟩), .string m] w (Ret w fun u _ => u = .bool false) := by
 refine enter Try.func82 rfl Try.ntmps82 (lbr rfl) fun a0 y0 zz0 harg => ?_
 have e0 : sl a0 0 = (.pointer (some ⟨bx, 0, none⟩)) := harg 0 (lbr rfl)
 have e1 : sl a0 1 = (.string (m)) := harg 1 (lbr rfl)
 have kw := Keeps.refl All w
 clear harg
 refine zq fun K1 hK1 => ?_
 refine rg mixed y0 zz0 ?_
 refine .ac ?_
 refine .dn fun a2 g W2 y2 zz2 hk hg hV hR hP => ?_
 obtain ⟨-, -⟩ := hV
 replace e0 := ft hR e0
 replace e1 := ft hR e1
 replace own_bx := own_bx.ext hk
 replace kw := kw.x hk
 clear hR hk hg hP
 refine zn (hK1 _ _ ?_)
 refine zq fun K3 hK3 => ?_
 refine zq fun K4 hK4 => ?_
 refine rg mixed y2 zz2 ?_
 refine .mb rfl e0 ?_
 refine .i (sp_nilP (hlc rfl)) ?_
 refine .i (fo 6 (hlc rfl) Try.underlying56 rfl sz28 rfl) ?_
 refine .i (lo1 (hlc rfl) own_bx trivial agg28 sz28 rfl) ?_
 refine .i (sp_neq (hlc rfl) Has.cst) ?_
 refine .dn fun a5 g W5 y5 zz5 hk hg hV hR hP => ?_
 obtain ⟨e11, -, -, -, -, -⟩ := hV
 replace e0 := ft hR e0
 replace e1 := ft hR e1
 replace e11 := e11.q
 replace own_bx := own_bx.ext hk
 replace kw := kw.x hk
 clear hR hk hg hP
 refine zn (hK4 _ _ ?_)
 refine zc e11 (fun hc => ?_) (fun hc => ?_)
 ·
  refine zq fun K6 hK6 => ?_
  refine rg mixed y5 zz5 ?_
  refine .ac ?_
  refine .dn fun a7 g W7 y7 zz7 hk hg hV hR hP => ?_
  obtain ⟨e4, -⟩ := hV
  replace e4 := e4.q
  replace own_bx := own_bx.ext hk
  replace kw := kw.x hk
  clear hR hk hg hP
  refine zn (hK6 _ _ ?_)
  refine wp_ret ?_
  refine ret1 rfl zz7 e4 ⟨_, rfl, kw, ?_⟩
  exact rfl
 exfalso
 simp at hc
 exact he hc
set_option maxRecDepth 100000 in
theorem yFailD_ok (f : Int) (k : Nat) (n : Int) (t : ByteArray) (dn di av : Value) (e : Int) (he : e ≠ 0) (w : World) (bx : Nat) (own_bx : Own w bx [.int .u8 k, .int .i64 n, .string t, dn, di, av, .int .i64 e] 56) : Calls Try.prog 93 #[.pointer (some ⟨bx, 0, none⟩), .int .i64 f] w (Ret w fun u _ => u = .tuple #[]) := by
 refine enter Try.func93 rfl Try.ntmps93 (lbr rfl) fun a0 y0 zz0 harg => ?_
 have e0 : sl a0 0 = (.pointer (some ⟨bx, 0, none⟩)) := harg 0 (lbr rfl)
 have e1 : sl a0 1 = (.int .i64 (f)) := harg 1 (lbr rfl)
 have kw := Keeps.refl All w
 clear harg
 refine zq fun K1 hK1 => ?_
 refine rg mixed y0 zz0 ?_
 refine .mb rfl e0 ?_
 refine .i (sp_nilP (hlc rfl)) ?_
 refine .i (fo 6 (hlc rfl) Try.underlying56 rfl sz28 rfl) ?_
 refine .i (lo1 (hlc rfl) own_bx trivial agg28 sz28 rfl) ?_
 refine .i (sp_eql (hlc rfl) Has.cst) ?_
 refine .dn fun a2 g W2 y2 zz2 hk hg hV hR hP => ?_
 obtain ⟨e8, -, -, -, -, -⟩ := hV
 replace e0 := ft hR e0
 replace e1 := ft hR e1
 replace e8 := e8.q
 replace own_bx := own_bx.ext hk
 replace kw := kw.x hk
 clear hR hk hg hP
 refine zn (hK1 _ _ ?_)
 refine zc e8 (fun hc => ?_) (fun hc => ?_)
 ·
  exfalso
  simp at hc
  exact he hc
 refine wp_skip ?_
 refine ret0 rfl zz2 ⟨_, rfl, kw, ?_⟩
 exact rfl
set_option maxRecDepth 100000 in
theorem yDoneD_ok  (k : Nat) (n : Int) (t : ByteArray) (dn di av : Value) (e : Int) (he : e ≠ 0) (w : World) (bx : Nat) (own_bx : Own w bx [.int .u8 k, .int .i64 n, .string t, dn, di, av, .int .i64 e] 56) : Calls Try.prog 33 #[.pointer (some ⟨bx, 0, none⟩)] w (Ret w fun u _ => u = .int .i64 e) := by
 refine enter Try.func33 rfl Try.ntmps33 (lbr rfl) fun a0 y0 zz0 harg => ?_
 have e0 : sl a0 0 = (.pointer (some ⟨bx, 0, none⟩)) := harg 0 (lbr rfl)
 have kw := Keeps.refl All w
 clear harg
 refine zq fun K1 hK1 => ?_
 refine rg mixed y0 zz0 ?_
 refine .ac ?_
 refine .dn fun a2 g W2 y2 zz2 hk hg hV hR hP => ?_
 obtain ⟨-, -⟩ := hV
 replace e0 := ft hR e0
 replace own_bx := own_bx.ext hk
 replace kw := kw.x hk
 clear hR hk hg hP
 refine zn (hK1 _ _ ?_)
 refine zq fun K3 hK3 => ?_
 refine zq fun K4 hK4 => ?_
 refine rg mixed y2 zz2 ?_
 refine .mb rfl e0 ?_
 refine .i (sp_nilP (hlc rfl)) ?_
 refine .i (fo 6 (hlc rfl) Try.underlying56 rfl sz28 rfl) ?_
 refine .i (lo1 (hlc rfl) own_bx trivial agg28 sz28 rfl) ?_
 refine .i (sp_neq (hlc rfl) Has.cst) ?_
 refine .dn fun a5 g W5 y5 zz5 hk hg hV hR hP => ?_
 obtain ⟨e10, -, -, -, -, -⟩ := hV
 replace e0 := ft hR e0
 replace e10 := e10.q
 replace own_bx := own_bx.ext hk
 replace kw := kw.x hk
 clear hR hk hg hP
 refine zn (hK4 _ _ ?_)
 refine zc e10 (fun hc => ?_) (fun hc => ?_)
 ·
  refine zq fun K6 hK6 => ?_
  refine rg mixed y5 zz5 ?_
  refine .mb rfl e0 ?_
  refine .i (sp_nilP (hlc rfl)) ?_
  refine .i (fo 6 (hlc rfl) Try.underlying56 rfl sz28 rfl) ?_
  refine .i (lo1 (hlc rfl) own_bx trivial agg28 sz28 rfl) ?_
  refine .al rfl ?_
  refine .dn fun a7 g W7 y7 zz7 hk hg hV hR hP => ?_
  obtain ⟨e2, -, -, -, -, -⟩ := hV
  replace e2 := e2.q
  replace own_bx := own_bx.ext hk
  replace kw := kw.x hk
  clear hR hk hg hP
  refine zn (hK6 _ _ ?_)
  refine wp_ret ?_
  refine ret1 rfl zz7 e2 ⟨_, rfl, kw, ?_⟩
  exact rfl
 exfalso
 simp at hc
 exact he hc
end Go.Proofs.Ytnobijngkpflcaa
namespace Go.Proofs.Ytnobijngkpflcaa
open Go.Eng
set_option maxRecDepth 100000 in
theorem yHas_ok (m : ByteArray) (x : V) (hxt : x.t.size ≤ maxLen) (w : World) (S : BSet) (cn ci av : Value) (bx : Nat) (hv : Rd w S (strsD x.ns) cn) (hu : Rd w S (valsD x.xs) ci) (own_bx : Own w bx [.int .u8 x.k, .int .i64 x.n, .string x.t, cn, ci, av, .int .i64 (0)] 56) : Calls Try.prog 82 #[.pointer (some ⟨bx, 0, none⟩), .string m] w (Ret w fun u _ => u = .bool (grB x m)) := by
 obtain ⟨cna, cnc, ev, D_cn⟩ := rdS_out (rd_arg hv)
 subst ev
 obtain ⟨cia, cic, ev, D_ci⟩ := rdVs_out (rd_arg hu)
 subst ev
 refine enter Try.func82 rfl Try.ntmps82 (lbr rfl) fun a0 y0 zz0 harg => ?_
 have e0 : sl a0 0 = (.pointer (some ⟨bx, 0, none⟩)) := harg 0 (lbr rfl)
 have e1 : sl a0 1 = (.string (m)) := harg 1 (lbr rfl)
 have kw := Keeps.refl All w
 clear harg
 refine zq fun K1 hK1 => ?_
 refine rg mixed y0 zz0 ?_
 refine .ac ?_
 refine .dn fun a2 g W2 y2 zz2 hk hg hV hR hP => ?_
 obtain ⟨-, -⟩ := hV
 replace e0 := ft hR e0
 replace e1 := ft hR e1
 replace D_cn := D_cn.ext hk
 replace D_ci := D_ci.ext hk
 replace own_bx := own_bx.ext hk
 replace kw := kw.x hk
 clear hR hk hg hP
 refine zn (hK1 _ _ ?_)
 refine zq fun K3 hK3 => ?_
 refine zq fun K4 hK4 => ?_
 refine rg mixed y2 zz2 ?_
 refine .mb rfl e0 ?_
 refine .i (sp_nilP (hlc rfl)) ?_
 refine .i (fo 6 (hlc rfl) Try.underlying56 rfl sz28 rfl) ?_
 refine .i (lo1 (hlc rfl) own_bx trivial agg28 sz28 rfl) ?_
 refine .i (sp_neq (hlc rfl) Has.cst) ?_
 refine .dn fun a5 g W5 y5 zz5 hk hg hV hR hP => ?_
 obtain ⟨e11, -, -, -, -, -⟩ := hV
 replace e0 := ft hR e0
 replace e1 := ft hR e1
 replace D_cn := D_cn.ext hk
 replace D_ci := D_ci.ext hk
 replace e11 := e11.q
 replace own_bx := own_bx.ext hk
 replace kw := kw.x hk
 clear hR hk hg hP
 refine zn (hK4 _ _ ?_)
 refine wp_cond_false (e11.trans (congrArg Value.bool (by decide))) ?_
 refine wp_skip (hK3 _ _ ?_)
 refine zq fun K6 hK6 => ?_
 refine rg mixed y5 zz5 ?_
 refine .mb rfl e0 ?_
 refine .i (sp_nilP (hlc rfl)) ?_
 refine .i (fo 0 (hlc rfl) Try.underlying56 rfl sz33 rfl) ?_
 refine .i (v := (.agg #[(.int .u8 (x.k)), (.int .i64 (x.n)), (.string (x.t)), (.slice cna (x.ns.length) cnc), (.slice cia (x.xs.length) cic)])) (loA (hlc rfl) own_bx trivial agg33 sz33 rfl rfl) ?_
 refine .mb rfl e1 ?_
 refine .op (φ := IsT (IsD (SA w S []) (V.d (grV x m))) (Is (.bool (grB x m)))) (st_t (st_d sub_all) (st_is _)) (sp_call2 (φ1 := IsD (SA w S []) (V.d (x))) (φ2 := Is (.string (m))) ent140 ((hlc rfl).dat (rdV_in (x := x) hxt D_cn D_ci : Rd W5 (SA w S []) (V.d (x)) _) sub_all) (hlc rfl) (fun g u1 u2 W hk hgk h1 h2 => by have h2 : u2 = _ := h2; subst u2; exact (GetR_ok (x) (m) W _ _ h1).mono (fun _ _ ⟨v, h1, h2, r1, h3, h4⟩ => ⟨v, h1, h2, r1, _, h3, rd_ar_sa kw in_nil hk hgk h4, rfl⟩))) ?_
 refine .op (φ := IsT (IsD (SA w S []) (V.d (grV x m))) (Is (.bool (grB x m)))) (st_t (st_d sub_all) (st_is _)) (sp_move (hlc rfl)) ?_
 refine .da (X := SA w S []) (e := V.d (grV x m)) (sp_ext2 (hlc rfl) rfl) ?_
 refine .i (v := (.bool (grB x m))) (sp_ext2' (hlc rfl) rfl) ?_
 refine .alloc z33 ?_
 refine .dn fun a7 g W7 y7 zz7 hk hg hV hR hP => ?_
 obtain ⟨⟨b5_7, e5, hb5, own_b5_7⟩, e20, e19, -, -, -, -, -, -, -, -⟩ := hV
 have lo_b5_7 : w.heap.size ≤ b5_7 := Nat.le_trans kw.size (hg.lo _ _ hb5)
 have ne_bx_b5_7 : bx ≠ b5_7 := Nat.ne_of_lt (Nat.lt_of_lt_of_le own_bx.lt (hg.lo _ _ hb5))
 have own_b5_7 : Own W7 b5_7 z5C 33 := own_b5_7
 replace D_cn := sa_more D_cn hk [b5_7] (in_cons (hg.lo _ _ hb5) in_nil)
 replace D_ci := sa_more D_ci hk [b5_7] (in_cons (hg.lo _ _ hb5) in_nil)
 obtain ⟨v19_7, ev⟩ : ∃ v, sl a7 19 = v := ⟨_, rfl⟩
 rw [ev] at e19
 have D_v19_7 : Rd W7 (SA w S [b5_7]) (V.d (grV x m)) v19_7 := sa_end e19 hk [b5_7] (in_cons ⟨_, hb5⟩ in_nil)
 replace e19 := ev; clear ev
 obtain ⟨cn19_7a, cn19_7c, ci19_7a, ci19_7c, ev, ht_v19_7, D_cn19_7, D_ci19_7⟩ := rdV_out D_v19_7
 subst ev; clear D_v19_7
 replace e20 := e20.q
 replace own_bx := own_bx.ext hk
 replace kw := kw.x hk
 clear hR hk hg hP hb5
 refine tail_store e5 e19 sz33 rfl own_b5_7 (lbr rfl) (all_cons rfl (all_cons rfl (all_cons rfl (all_cons rfl (all_cons rfl all_nil))))) (fun W8 hs own_b5_7 => ?_)
 have own_b5_7 : Own W8 b5_7 [(.int .u8 ((grV x m).k)), (.int .i64 ((grV x m).n)), (.string ((grV x m).t)), (.slice cn19_7a (((grV x m).ns).length) cn19_7c), (.slice ci19_7a (((grV x m).xs).length) ci19_7c)] 33 := own_b5_7
 replace own_bx := own_store own_bx hs ne_bx_b5_7
 replace D_cn := sa_store D_cn hs (by simp)
 replace D_ci := sa_store D_ci hs (by simp)
 replace D_cn19_7 := sa_store D_cn19_7 hs (by simp)
 replace D_ci19_7 := sa_store D_ci19_7 hs (by simp)
 replace kw := keeps_store kw hs lo_b5_7
 clear hs
 refine tail_assign (v := (.bool (grB x m))) e20 (by rw [y7]; exact Nat.le_of_ble_eq_true rfl) (fun a9 y9 zz9 e6 hr => ?_)
 replace y9 := y9.trans y7; replace zz9 := zz9.trans zz7
 replace e5 := (hr 5 (by decide)).trans e5
 replace e19 := (hr 19 (by decide)).trans e19
 replace e20 := (hr 20 (by decide)).trans e20
 clear hr
 refine zn (hK6 _ _ ?_)
 refine zq fun K10 hK10 => ?_
 refine rg mixed y9 zz9 ?_
 refine .mb rfl e6 ?_
 refine .al rfl ?_
 refine .dn fun a11 g W11 y11 zz11 hk hg hV hR hP => ?_
 obtain ⟨e4, -, -⟩ := hV
 replace D_cn := D_cn.ext hk
 replace D_ci := D_ci.ext hk
 replace e4 := e4.q
 replace own_bx := own_bx.ext hk
 replace own_b5_7 := own_b5_7.ext hk
 replace kw := kw.x hk
 clear hR hk hg hP
 refine zn (hK10 _ _ ?_)
 refine wp_ret ?_
 refine ret1 rfl zz11 e4 ⟨_, rfl, kw, ?_⟩
 exact rfl
set_option maxRecDepth 100000 in
theorem yFail_ok (f : Int) (k : Nat) (n : Int) (t : ByteArray) (dn di av : Value) (w : World) (bx : Nat) (own_bx : Own w bx [.int .u8 k, .int .i64 n, .string t, dn, di, av, .int .i64 0] 56) : Calls Try.prog 93 #[.pointer (some ⟨bx, 0, none⟩), .int .i64 f] w (RetL w [bx] fun u W => u = .tuple #[] ∧ Own W bx [.int .u8 k, .int .i64 n, .string t, dn, di, av, .int .i64 f] 56) := by
 refine enter Try.func93 rfl Try.ntmps93 (lbr rfl) fun a0 y0 zz0 harg => ?_
 have e0 : sl a0 0 = (.pointer (some ⟨bx, 0, none⟩)) := harg 0 (lbr rfl)
 have e1 : sl a0 1 = (.int .i64 (f)) := harg 1 (lbr rfl)
 have kw := Keeps.refl (fun k => k ∉ [bx]) w
 clear harg
 refine zq fun K1 hK1 => ?_
 refine rg mixed y0 zz0 ?_
 refine .mb rfl e0 ?_
 refine .i (sp_nilP (hlc rfl)) ?_
 refine .i (fo 6 (hlc rfl) Try.underlying56 rfl sz28 rfl) ?_
 refine .i (lo1 (hlc rfl) own_bx trivial agg28 sz28 rfl) ?_
 refine .i (sp_eql (hlc rfl) Has.cst) ?_
 refine .dn fun a2 g W2 y2 zz2 hk hg hV hR hP => ?_
 obtain ⟨e8, -, -, -, -, -⟩ := hV
 replace e0 := ft hR e0
 replace e1 := ft hR e1
 replace e8 := e8.q
 replace own_bx := own_bx.ext hk
 replace kw := kw.x hk
 clear hR hk hg hP
 refine zn (hK1 _ _ ?_)
 refine wp_cond_true (e8.trans (congrArg Value.bool (by decide))) ?_
 refine rg mixed y2 zz2 ?_
 refine .mb rfl e0 ?_
 refine .mb rfl e1 ?_
 refine .i (sp_nilP (hlc rfl)) ?_
 refine .i (fo 6 (hlc rfl) Try.underlying56 rfl sz28 rfl) ?_
 refine .dn fun a3 g W3 y3 zz3 hk hg hV hR hP => ?_
 obtain ⟨e12, -, e10, -, -⟩ := hV
 replace e10 := e10.q
 have e12 : sl a3 12 = (.pointer (some ⟨bx, 6, none⟩)) := e12
 replace own_bx := own_bx.ext hk
 replace kw := kw.x hk
 clear hR hk hg hP
 refine tail_store e12 e10 sz28 rfl own_bx (lbr rfl) (all_cons rfl all_nil) (fun W4 hs own_bx => ?_)
 have own_bx : Own W4 bx [(.int .u8 (k)), (.int .i64 (n)), (.string (t)), dn, di, av, (.int .i64 (f))] 56 := own_bx
 replace kw := keeps_storeN kw hs (by simp)
 clear hs
 refine tail_nil ?_
 refine ret0 rfl zz3 ⟨_, rfl, kw, ?_⟩
 exact ⟨rfl, own_bx⟩
set_option maxRecDepth 100000 in
theorem yDone_ok (L : List ByteArray) (x : V) (hxt : x.t.size ≤ maxLen) (w : World) (S : BSet) (cn ci av : Value) (bx : Nat) (hv : Rd w S (strsD x.ns) cn) (hu : Rd w S (valsD x.xs) ci) (own_bx : Own w bx [.int .u8 x.k, .int .i64 x.n, .string x.t, cn, ci, av, .int .i64 (0)] 56) (ha : Rd w S (strsD L) av) : Calls Try.prog 33 #[.pointer (some ⟨bx, 0, none⟩)] w (Ret w fun u _ => u = .int .i64 (dnE x.ns L)) := by
 have hln : x.ns.length ≤ maxLen := rd_lenS hv
 have hla : L.length ≤ maxLen := rd_lenS ha
 simp only [maxLen] at hln hla
 obtain ⟨cna, cnc, ev, D_cn⟩ := rdS_out (rd_arg hv)
 subst ev
 obtain ⟨cia, cic, ev, D_ci⟩ := rdVs_out (rd_arg hu)
 subst ev
 obtain ⟨ava, avc, ev, D_av⟩ := rdS_out (rd_arg ha)
 subst ev
 refine enter Try.func33 rfl Try.ntmps33 (lbr rfl) fun a0 y0 zz0 harg => ?_
 have e0 : sl a0 0 = (.pointer (some ⟨bx, 0, none⟩)) := harg 0 (lbr rfl)
 have kw := Keeps.refl All w
 clear harg
 refine zq fun K1 hK1 => ?_
 refine rg mixed y0 zz0 ?_
 refine .ac ?_
 refine .dn fun a2 g W2 y2 zz2 hk hg hV hR hP => ?_
 obtain ⟨-, -⟩ := hV
 replace e0 := ft hR e0
 replace D_cn := D_cn.ext hk
 replace D_ci := D_ci.ext hk
 replace D_av := D_av.ext hk
 replace own_bx := own_bx.ext hk
 replace kw := kw.x hk
 clear hR hk hg hP
 refine zn (hK1 _ _ ?_)
 refine zq fun K3 hK3 => ?_
 refine zq fun K4 hK4 => ?_
 refine rg mixed y2 zz2 ?_
 refine .mb rfl e0 ?_
 refine .i (sp_nilP (hlc rfl)) ?_
 refine .i (fo 6 (hlc rfl) Try.underlying56 rfl sz28 rfl) ?_
 refine .i (lo1 (hlc rfl) own_bx trivial agg28 sz28 rfl) ?_
 refine .i (sp_neq (hlc rfl) Has.cst) ?_
 refine .dn fun a5 g W5 y5 zz5 hk hg hV hR hP => ?_
 obtain ⟨e10, -, -, -, -, -⟩ := hV
 replace e0 := ft hR e0
 replace D_cn := D_cn.ext hk
 replace D_ci := D_ci.ext hk
 replace D_av := D_av.ext hk
 replace e10 := e10.q
 replace own_bx := own_bx.ext hk
 replace kw := kw.x hk
 clear hR hk hg hP
 refine zn (hK4 _ _ ?_)
 refine wp_cond_false (e10.trans (congrArg Value.bool (by decide))) ?_
 refine wp_skip (hK3 _ _ ?_)
 refine zq fun K6 hK6 => ?_
 refine zq fun K7 hK7 => ?_
 refine rg mixed y5 zz5 ?_
 refine .ac ?_
 refine .dn fun a8 g W8 y8 zz8 hk hg hV hR hP => ?_
 obtain ⟨e3, -⟩ := hV
 replace e0 := ft hR e0
 replace D_cn := D_cn.ext hk
 replace D_ci := D_ci.ext hk
 replace D_av := D_av.ext hk
 replace e3 := e3.q
 replace own_bx := own_bx.ext hk
 replace kw := kw.x hk
 clear hR hk hg hP
 refine zn (hK7 _ _ ?_)
 refine wp_block ?_
 refine wp_for (x.ns.length) (fun k a W => a.tmps.size = 55 ∧ a.defers = [] ∧ Keeps All w W ∧ sl a 0 = (.pointer (some ⟨bx, 0, none⟩)) ∧ sl a 3 = (.int .i64 ((k : Nat))) ∧ Own W bx [(.int .u8 (x.k)), (.int .i64 (x.n)), (.string (x.t)), (.slice cna (x.ns.length) cnc), (.slice cia (x.xs.length) cic), (.slice ava (L.length) avc), (.int .i64 (0))] 56 ∧ Rd W (SA w S []) (strsD (x.ns)) (.slice cna (x.ns.length) cnc) ∧ Rd W (SA w S []) (valsD (x.xs)) (.slice cia (x.xs.length) cic) ∧ Rd W (SA w S []) (strsD (L)) (.slice ava (L.length) avc) ∧ (∀ i (h : i < x.ns.length), i < k → anyB L x.ns[i] = true)) ⟨y8, zz8, kw, e0, (e3.trans (congrArg (Value.int .i64) (rfl))), own_bx, D_cn, D_ci, D_av, fun i h hi => absurd hi (by omega)⟩ ?_
 clear kw e0 e3 own_bx D_cn D_ci D_av
 rintro k a9 W9 hkk ⟨y9, zz9, kw, e0, e3, own_bx, D_cn, D_ci, D_av, hinv⟩
 refine zq fun K10 hK10 => ?_
 refine zq fun K11 hK11 => ?_
 refine rg mixed y9 zz9 ?_
 refine .mb rfl e3 ?_
 refine .mb rfl e0 ?_
 refine .i (sp_nilP (hlc rfl)) ?_
 refine .i (fo 0 (hlc rfl) Try.underlying56 rfl sz33 rfl) ?_
 refine .i (fo 3 (hlc rfl) Try.underlying33 rfl sz23 rfl) ?_
 refine .i (lo1 (hlc rfl) own_bx trivial agg23 sz23 rfl) ?_
 refine .i (sp_lenSs Try.underlying23 ((hlc rfl).dat D_cn sub_all)) ?_
 refine .i (sp_lss (hlc rfl) (hlc rfl)) ?_
 refine .dn fun a12 g W12 y12 zz12 hk hg hV hR hP => ?_
 obtain ⟨e22, -, -, -, -, -, -, -, -⟩ := hV
 replace e0 := ft hR e0
 replace e3 := ft hR e3
 replace D_cn := D_cn.ext hk
 replace D_ci := D_ci.ext hk
 replace D_av := D_av.ext hk
 replace e22 := e22.q
 replace own_bx := own_bx.ext hk
 replace kw := kw.x hk
 clear hR hk hg hP
 refine zn (hK11 _ _ ?_)
 refine zc e22 (fun hc => ?_) (fun hc => ?_)
 ·
  have hlt : k < x.ns.length := by simpa using hc
  refine wp_skip (hK10 _ _ ?_)
  refine zq fun K13 hK13 => ?_
  refine wp_block ?_
  refine zq fun K14 hK14 => ?_
  refine rg mixed y12 zz12 ?_
  refine .ac ?_
  refine .dn fun a15 g W15 y15 zz15 hk hg hV hR hP => ?_
  obtain ⟨e4, -⟩ := hV
  replace e0 := ft hR e0
  replace e3 := ft hR e3
  replace D_cn := D_cn.ext hk
  replace D_ci := D_ci.ext hk
  replace D_av := D_av.ext hk
  replace e4 := e4.q
  replace own_bx := own_bx.ext hk
  replace kw := kw.x hk
  clear hR hk hg hP
  refine zn (hK14 _ _ ?_)
  refine zq fun K16 hK16 => ?_
  refine zq fun K17 hK17 => ?_
  refine rg mixed y15 zz15 ?_
  refine .ac ?_
  refine .dn fun a18 g W18 y18 zz18 hk hg hV hR hP => ?_
  obtain ⟨e5, -⟩ := hV
  replace e0 := ft hR e0
  replace e3 := ft hR e3
  replace e4 := ft hR e4
  replace D_cn := D_cn.ext hk
  replace D_ci := D_ci.ext hk
  replace D_av := D_av.ext hk
  replace e5 := e5.q
  replace own_bx := own_bx.ext hk
  replace kw := kw.x hk
  clear hR hk hg hP
  refine zn (hK17 _ _ ?_)
  refine wp_block ?_
  refine wp_for (L.length) (fun j a W => a.tmps.size = 55 ∧ a.defers = [] ∧ Keeps All w W ∧ sl a 0 = (.pointer (some ⟨bx, 0, none⟩)) ∧ sl a 3 = (.int .i64 ((k : Nat))) ∧ sl a 4 = (.bool (anyB (L.take j) (x.ns[k]'hlt))) ∧ sl a 5 = (.int .i64 ((j : Nat))) ∧ Own W bx [(.int .u8 (x.k)), (.int .i64 (x.n)), (.string (x.t)), (.slice cna (x.ns.length) cnc), (.slice cia (x.xs.length) cic), (.slice ava (L.length) avc), (.int .i64 (0))] 56 ∧ Rd W (SA w S []) (strsD (x.ns)) (.slice cna (x.ns.length) cnc) ∧ Rd W (SA w S []) (valsD (x.xs)) (.slice cia (x.xs.length) cic) ∧ Rd W (SA w S []) (strsD (L)) (.slice ava (L.length) avc)) ⟨y18, zz18, kw, e0, e3, (e4.trans (congrArg Value.bool (rfl))), (e5.trans (congrArg (Value.int .i64) (rfl))), own_bx, D_cn, D_ci, D_av⟩ ?_
  clear kw e0 e3 e4 e5 own_bx D_cn D_ci D_av
  rintro j a19 W19 hkj ⟨y19, zz19, kw, e0, e3, e4, e5, own_bx, D_cn, D_ci, D_av⟩
  refine zq fun K20 hK20 => ?_
  refine zq fun K21 hK21 => ?_
  refine rg mixed y19 zz19 ?_
  refine .mb rfl e5 ?_
  refine .mb rfl e0 ?_
  refine .i (sp_nilP (hlc rfl)) ?_
  refine .i (fo 5 (hlc rfl) Try.underlying56 rfl sz23 rfl) ?_
  refine .i (lo1 (hlc rfl) own_bx trivial agg23 sz23 rfl) ?_
  refine .i (sp_lenSs Try.underlying23 ((hlc rfl).dat D_av sub_all)) ?_
  refine .i (sp_lss (hlc rfl) (hlc rfl)) ?_
  refine .dn fun a22 g W22 y22 zz22 hk hg hV hR hP => ?_
  obtain ⟨e31, -, -, -, -, -, -, -⟩ := hV
  replace e0 := ft hR e0
  replace e3 := ft hR e3
  replace e4 := ft hR e4
  replace e5 := ft hR e5
  replace D_cn := D_cn.ext hk
  replace D_ci := D_ci.ext hk
  replace D_av := D_av.ext hk
  replace e31 := e31.q
  replace own_bx := own_bx.ext hk
  replace kw := kw.x hk
  clear hR hk hg hP
  refine zn (hK21 _ _ ?_)
  refine zc e31 (fun hc => ?_) (fun hc => ?_)
  ·
   have hltj : j < L.length := by simpa using hc
   refine wp_skip (hK20 _ _ ?_)
   refine zq fun K23 hK23 => ?_
   refine wp_block ?_
   refine rg mixed y22 zz22 ?_
   refine .mb rfl e4 ?_
   refine .i (sp_move (hlc rfl)) ?_
   refine .em rfl (hlc rfl) rfl e0 ?_
   refine .e rfl (hlc rfl) (fun hg => sp_nilP ((hlc rfl).undE hg)) ?_
   refine .e rfl (hlc rfl) (fun hg => fo 5 ((hlc rfl).undE hg) Try.underlying56 rfl sz23 rfl) ?_
   refine .e rfl (hlc rfl) (fun hg => lo1 ((hlc rfl).undE hg) own_bx trivial agg23 sz23 rfl) ?_
   refine .em rfl (hlc rfl) rfl e5 ?_
   refine .opE (t := 35) (φ := IsR (SA w S []) (D.str (L[j]'hltj))) rfl (hlc rfl) (st_r sub_all) (fun hg => sp_indexS (i := j) (((hlc rfl).undE hg).dat D_av sub_all) ((hlc rfl).undE hg) Try.underlying23 sz9 rfl hltj) ?_
   refine .e rfl (hlc rfl) (fun hg => sp_loadStr ((hlc rfl).undE hg) agg9 sz9) ?_
   refine .em rfl (hlc rfl) rfl e0 ?_
   refine .e rfl (hlc rfl) (fun hg => sp_nilP ((hlc rfl).undE hg)) ?_
   refine .e rfl (hlc rfl) (fun hg => fo 0 ((hlc rfl).undE hg) Try.underlying56 rfl sz33 rfl) ?_
   refine .e rfl (hlc rfl) (fun hg => fo 3 ((hlc rfl).undE hg) Try.underlying33 rfl sz23 rfl) ?_
   refine .e rfl (hlc rfl) (fun hg => lo1 ((hlc rfl).undE hg) own_bx trivial agg23 sz23 rfl) ?_
   refine .em rfl (hlc rfl) rfl e3 ?_
   refine .opE (t := 35) (φ := IsR (SA w S []) (D.str (x.ns[k]'hlt))) rfl (hlc rfl) (st_r sub_all) (fun hg => sp_indexS (i := k) (((hlc rfl).undE hg).dat D_cn sub_all) ((hlc rfl).undE hg) Try.underlying23 sz9 rfl hlt) ?_
   refine .e rfl (hlc rfl) (fun hg => sp_loadStr ((hlc rfl).undE hg) agg9 sz9) ?_
   refine .e rfl (hlc rfl) (fun hg => sp_sEql ((hlc rfl).undE hg) ((hlc rfl).undE hg)) ?_
   refine .i (sp_or (hlc rfl) ((hlc rfl).weak fun hq => hq)) ?_
   refine .al rfl ?_
   refine .dn fun a24 g W24 y24 zz24 hk hg hV hR hP => ?_
   obtain ⟨e4, -, -, -, -, -, -, -, -, -, -, -, -, -, -, -, -, -, -, -, -⟩ := hV
   replace e0 := ft hR e0
   replace e3 := ft hR e3
   replace e5 := ft hR e5
   replace D_cn := D_cn.ext hk
   replace D_ci := D_ci.ext hk
   replace D_av := D_av.ext hk
   replace e4 := e4.q
   replace own_bx := own_bx.ext hk
   replace kw := kw.x hk
   clear hR hk hg hP
   refine zn (hK23 _ _ ?_)
   refine rg mixed y24 zz24 ?_
   refine .mb rfl e5 ?_
   refine .i (sp_add (hlc rfl) Has.cst (i64_in (by omega))) ?_
   refine .al rfl ?_
   refine .dn fun a25 g W25 y25 zz25 hk hg hV hR hP => ?_
   obtain ⟨e5, -, -, -⟩ := hV
   replace e0 := ft hR e0
   replace e3 := ft hR e3
   replace e4 := ft hR e4
   replace D_cn := D_cn.ext hk
   replace D_ci := D_ci.ext hk
   replace D_av := D_av.ext hk
   replace e5 := e5.q
   replace own_bx := own_bx.ext hk
   replace kw := kw.x hk
   clear hR hk hg hP
   exact tail_nil ⟨hltj, y25, zz25, kw, e0, e3, (e4.trans (congrArg Value.bool ((anyB_step hltj).symm))), (e5.trans (congrArg (Value.int .i64) (by simp))), own_bx, D_cn, D_ci, D_av⟩
  have hj0 : ¬ j < L.length := by simpa using hc
  have hjj : j = L.length := by omega
  subst hjj
  rw [List.take_length] at e4
  refine wp_exit (hK16 _ _ ?_)
  refine zq fun K26 hK26 => ?_
  refine rg mixed y22 zz22 ?_
  refine .mb rfl e4 ?_
  refine .i (sp_not (hlc rfl)) ?_
  refine .dn fun a27 g W27 y27 zz27 hk hg hV hR hP => ?_
  obtain ⟨e54, -, -⟩ := hV
  replace e0 := ft hR e0
  replace e3 := ft hR e3
  replace D_cn := D_cn.ext hk
  replace D_ci := D_ci.ext hk
  replace D_av := D_av.ext hk
  replace e54 := e54.q
  replace own_bx := own_bx.ext hk
  replace kw := kw.x hk
  clear hR hk hg hP
  refine zn (hK26 _ _ ?_)
  refine zc e54 (fun hc => ?_) (fun hc => ?_)
  ·
   have hfin : dnE x.ns L = 11 := dnE_no hlt (by simpa using hc)
   refine zq fun K28 hK28 => ?_
   refine rg mixed y27 zz27 ?_
   refine .ac ?_
   refine .dn fun a29 g W29 y29 zz29 hk hg hV hR hP => ?_
   obtain ⟨e2, -⟩ := hV
   replace D_cn := D_cn.ext hk
   replace D_ci := D_ci.ext hk
   replace D_av := D_av.ext hk
   replace e2 := e2.q
   replace own_bx := own_bx.ext hk
   replace kw := kw.x hk
   clear hR hk hg hP
   refine zn (hK28 _ _ ?_)
   refine wp_ret ?_
   refine ret1 rfl zz29 e2 ⟨_, rfl, kw, ?_⟩
   rw [hfin]
  have hk1 : anyB L (x.ns[k]'hlt) = true := by simpa using hc
  refine wp_skip (hK13 _ _ ?_)
  refine rg mixed y27 zz27 ?_
  refine .mb rfl e3 ?_
  refine .i (sp_add (hlc rfl) Has.cst (i64_in (by omega))) ?_
  refine .al rfl ?_
  refine .dn fun a30 g W30 y30 zz30 hk hg hV hR hP => ?_
  obtain ⟨e3, -, -, -⟩ := hV
  replace e0 := ft hR e0
  replace D_cn := D_cn.ext hk
  replace D_ci := D_ci.ext hk
  replace D_av := D_av.ext hk
  replace e3 := e3.q
  replace own_bx := own_bx.ext hk
  replace kw := kw.x hk
  clear hR hk hg hP
  exact tail_nil ⟨hlt, y30, zz30, kw, e0, (e3.trans (congrArg (Value.int .i64) (by simp))), own_bx, D_cn, D_ci, D_av, fun i h hi => by rcases Nat.lt_succ_iff_lt_or_eq.1 hi with h1 | h1; exact hinv i h h1; subst h1; exact hk1⟩
 have hge0 : ¬ k < x.ns.length := by simpa using hc
 have hge : k = x.ns.length := by omega
 have hfin : dnE x.ns L = 0 := dnE_yes fun i h => hinv i h (by omega)
 refine wp_exit (hK6 _ _ ?_)
 refine zq fun K31 hK31 => ?_
 refine rg mixed y12 zz12 ?_
 refine .ac ?_
 refine .dn fun a32 g W32 y32 zz32 hk hg hV hR hP => ?_
 obtain ⟨e2, -⟩ := hV
 replace D_cn := D_cn.ext hk
 replace D_ci := D_ci.ext hk
 replace D_av := D_av.ext hk
 replace e2 := e2.q
 replace own_bx := own_bx.ext hk
 replace kw := kw.x hk
 clear hR hk hg hP
 refine zn (hK31 _ _ ?_)
 refine wp_ret ?_
 refine ret1 rfl zz32 e2 ⟨_, rfl, kw, ?_⟩
 rw [hfin]
end Go.Proofs.Ytnobijngkpflcaa
