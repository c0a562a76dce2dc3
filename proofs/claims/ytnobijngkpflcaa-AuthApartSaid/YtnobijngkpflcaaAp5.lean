/-
  The law AuthApart of package legatelaw15 returns true for every input, and leaves its arguments as they were. No condition beyond the row's own.
-/
import Derived.Test.YtnobijngkpflcaaAp4
import Derived.ProofKit
import Derived.Test.YtnobijngkpflcaaRows
namespace Go.Proofs.Ytnobijngkpflcaa
open Go.Eng
set_option maxRecDepth 100000 in
set_option maxHeartbeats 1000000 in
theorem AuthApart_ok (au : Au) (w : World) (S : BSet) (v : Value) (hv : Rd w S au.d v) : Calls Try.prog 7 #[v] w (Ret w fun u _ => u = .bool true) := by
  obtain ⟨p0_1a, p0_1c, ev, D_p0_1⟩ := rdAu_out (rd_arg hv)
  subst ev
  refine enter Try.func7 rfl Try.ntmps7 (lbr rfl) fun a0 y0 zz0 harg => ?_
  have e0 : sl a0 0 = (.agg #[(.int .i64 (au.th)), (.slice p0_1a (au.ids.length) p0_1c)]) := harg 0 (lbr rfl)
  have kw := Keeps.refl All w
  clear harg
  refine wp_seq_k fun K1 hK1 => ?_
  refine rg mixed y0 zz0 ?_
  refine .boxOp (v := (.agg #[(.int .i64 (au.th)), (.slice p0_1a (au.ids.length) p0_1c)])) (hbs rfl e0) ?_
  refine .i (sp_assign Has.cst) ?_
  refine .done ⟨by kernel_rfl, fun a2 g W2 y2 zz2 hk hg hV hR hP => ?_⟩
  obtain ⟨-, ⟨b1_2, e1, hb1, own_b1_2⟩, -⟩ := hV
  have lo_b1_2 : w.heap.size ≤ b1_2 := Nat.le_trans kw.size (hg.lo _ _ hb1)
  have own_b1_2 : Own W2 b1_2 [(.int .i64 (au.th)), (.slice p0_1a (au.ids.length) p0_1c)] 27 := own_b1_2
  replace D_p0_1 := sa_more D_p0_1 hk [b1_2] (in_cons (hg.lo _ _ hb1) in_nil)
  replace kw := kw.x hk
  clear hR hk hg hP hb1
  refine tail_nil (hK1 _ _ ?_)
  refine wp_seq_k fun K3 hK3 => ?_
  refine wp_seq_k fun K4 hK4 => ?_
  refine rg mixed y2 zz2 ?_
  refine .i (v := (.agg #[(.int .i64 (au.th)), (.slice p0_1a (au.ids.length) p0_1c)])) (loA (hbs rfl e1) own_b1_2 trivial agg27 sz27 rfl rfl) ?_
  refine .da (X := SA w S [b1_2]) (e := ausD ([au])) (sp_bsl (ds := [Au.d (au)]) Try.underlying153 sz27 z27 (lbr rfl) (lbr rfl) ⟨rfl, ((hlc rfl).dat (rdAu_mk D_p0_1 : Rd W2 (SA w S [b1_2]) (Au.d (au)) _) sub_all), trivial⟩ rfl (by intro e he; simp at he; rcases he with rfl <;> exact width_Au _) (fr_sa kw (in_cons own_b1_2.lt in_nil))) ?_
  refine .i (v := (.bool (decide (5000 ≤ szA ([au]) 0)))) (sp_call1 (φ1 := IsD (SA w S [b1_2]) (ausD ([au]))) ent49 (hlc rfl) (fun g u1 W hk hgk h1 => longA_ok ([au]) W _ _ h1)) ?_
  refine .i (sp_move (hlc rfl)) ?_
  refine .e (t := 14) (v := (.agg #[(.int .i64 (au.th)), (.slice p0_1a (au.ids.length) p0_1c)])) rfl (hlc rfl) (fun hg => loA (hbs rfl e1) own_b1_2 trivial agg27 sz27 rfl rfl) ?_
  refine .e (t := 14) (v := (.bool (mayA au))) rfl (hlc rfl) (fun hg => sp_call1 (φ1 := IsD (SA w S [b1_2]) (Au.d (au))) ent18 (((hlc rfl).undE hg).dat (rdAu_mk D_p0_1 : Rd W2 (SA w S [b1_2]) (Au.d (au)) _) sub_all) (fun g u1 W hk hgk h1 => mayA_ok (au) W _ _ h1)) ?_
  refine .e (t := 14) rfl (hlc rfl) (fun hg => sp_not ((hlc rfl).undE hg)) ?_
  refine .i (sp_or (hlc rfl) ((hlc rfl).weak fun hq => hq)) ?_
  refine .i (sp_move (hlc rfl)) ?_
  refine .e (t := 19) rfl (hlc rfl) (fun hg => fo 1 (hbs rfl e1) Try.underlying27 rfl sz23 rfl) ?_
  refine .e (t := 19) rfl (hlc rfl) (fun hg => lo1 ((hlc rfl).undE hg) own_b1_2 trivial agg23 sz23 rfl) ?_
  refine .e (t := 19) rfl (hlc rfl) (fun hg => sp_lenSs Try.underlying23 (((hlc rfl).undE hg).dat D_p0_1 sub_all)) ?_
  refine .e (t := 19) rfl (hlc rfl) (fun hg => sp_eql ((hlc rfl).undE hg) Has.cst) ?_
  refine .i (sp_or (hlc rfl) ((hlc rfl).weak fun hq => hq)) ?_
  refine .i (sp_move (hlc rfl)) ?_
  refine .e (t := 25) (v := (.bool (true))) rfl (hlc rfl) (fun hg => sp_call0  ent14  (fun g  W hk hgk  => awakeA_ok W)) ?_
  refine .e (t := 25) rfl (hlc rfl) (fun hg => sp_not ((hlc rfl).undE hg)) ?_
  refine .i (sp_or (hlc rfl) ((hlc rfl).weak fun hq => hq)) ?_
  refine .done ⟨by kernel_rfl, fun a5 g W5 y5 zz5 hk hg hV hR hP => ?_⟩
  obtain ⟨e28, -, -, -, -, -, -, -, -, -, -, -, -, -, -, -, -, -, -⟩ := hV
  replace e1 := (hR 1 rfl).trans e1
  replace D_p0_1 := D_p0_1.ext hk
  replace e28 := e28.q
  replace own_b1_2 := own_b1_2.ext hk
  replace kw := kw.x hk
  clear hR hk hg hP
  refine tail_nil (hK4 _ _ ?_)
  refine wp_cond_split e28 (fun hc => ?_) (fun hc => ?_)
  ·
   refine wp_seq_k fun K6 hK6 => ?_
   refine rg mixed y5 zz5 ?_
   refine .i (v := (.bool (true))) (sp_call0  ent14  (fun g  W hk hgk  => awakeA_ok W)) ?_
   refine .i (sp_assign (hlc rfl)) ?_
   refine .done ⟨by kernel_rfl, fun a7 g W7 y7 zz7 hk hg hV hR hP => ?_⟩
   obtain ⟨e2, -, -⟩ := hV
   replace D_p0_1 := D_p0_1.ext hk
   have e2 : sl a7 2 = (.bool (true)) := e2
   replace own_b1_2 := own_b1_2.ext hk
   replace kw := kw.x hk
   clear hR hk hg hP
   refine tail_nil (hK6 _ _ ?_)
   refine wp_ret ?_
   refine (show bodyPost Try.prog Try.f7 _ .ret _ _ from ret1 rfl zz7 e2 ⟨_, rfl, kw, ?_⟩)
   exact rfl
  ·
   simp only [Bool.or_eq_false_iff, decide_eq_false_iff_not, Bool.not_eq_false'] at hc
   obtain ⟨⟨⟨hlong, hmay⟩, hnz⟩, -⟩ := hc
   have hmo := mayA_out hmay
   have hvE : valE au = 0 := by rw [valE, hmay]; rfl
   have hvV : valV au = objV au.th au.ids := by rw [valV, hmay]; rfl
   have hbk := back hmay
   have hof0 : ofAE (valV au) = 0 := by rw [hvV]; exact hbk.1
   have hofv : ofAV (valV au) = au := by rw [hvV]; exact hbk.2
   have hw := authL_wt hmay
   have hvw : (valV au).wt ≤ 1073741824 := by rw [hvV]; exact objV_wt hmay
   have hpos : 0 < au.ids.length := by omega
   have hpo : 0 < (ofAV (valV au)).ids.length := by rw [hofv]; exact hpos
   have hp0 : 0 < (authL au).length := by simp [authL]
   have hp1 : 0 < (((authL au)[0]'hp0).v).xs.length := by show 0 < (au.ids.map txtV).length; simpa using hpos
   refine wp_skip (hK3 _ _ ?_)
   refine wp_seq_k fun K8 hK8 => ?_
   refine rg mixed y5 zz5 ?_
   refine .i (v := (.agg #[(.int .i64 (au.th)), (.slice p0_1a (au.ids.length) p0_1c)])) (loA (hbs rfl e1) own_b1_2 trivial agg27 sz27 rfl rfl) ?_
   refine .op (φ := IsT (IsD (Fr W5) (V.d (valV au))) (Is (.int .i64 (valE au)))) (st_t (st_d sub_all) (st_is _)) (sp_call1 (φ1 := IsD (SA w S [b1_2]) (Au.d (au))) ent50 ((hlc rfl).dat (rdAu_mk D_p0_1 : Rd W5 (SA w S [b1_2]) (Au.d (au)) _) sub_all) (fun g u1 W hk hgk h1 => (ValueA_ok (au) hw W _ _ h1).mono (fun _ _ ⟨v, h1, h2, r1, h3, h4⟩ => ⟨v, h1, h2, r1, _, h3, fresh_d hk hgk h4, rfl⟩))) ?_
   refine .op (φ := IsT (IsD (Fr W5) (V.d (valV au))) (Is (.int .i64 (valE au)))) (st_t (st_d sub_all) (st_is _)) (sp_move (hlc rfl)) ?_
   refine .da (X := Fr W5) (e := V.d (valV au)) (sp_ext2 (hlc rfl) rfl) ?_
   refine .i (v := (.int .i64 (valE au))) (sp_ext2' (hlc rfl) rfl) ?_
   refine .alloc z33 ?_
   refine .done ⟨by kernel_rfl, fun a9 g W9 y9 zz9 hk hg hV hR hP => ?_⟩
   obtain ⟨⟨b3_9, e3, hb3, own_b3_9⟩, e34, e33, -, -, -, -⟩ := hV
   have lo_b3_9 : w.heap.size ≤ b3_9 := Nat.le_trans kw.size (hg.lo _ _ hb3)
   have ne_b1_2_b3_9 : b1_2 ≠ b3_9 := Nat.ne_of_lt (Nat.lt_of_lt_of_le own_b1_2.lt (hg.lo _ _ hb3))
   have own_b3_9 : Own W9 b3_9 [(.int .u8 (0)), (.int .i64 (0)), (.string (⟨#[]⟩)), (.slice none 0 0), (.slice none 0 0)] 33 := own_b3_9
   replace e1 := (hR 1 rfl).trans e1
   replace D_p0_1 := sa_more D_p0_1 hk [b3_9] (in_cons (hg.lo _ _ hb3) in_nil)
   obtain ⟨v33_9, ev⟩ : ∃ v, sl a9 33 = v := ⟨_, rfl⟩
   rw [ev] at e33
   have D_v33_9 : Rd W9 (SF w [b3_9, b1_2]) (V.d (valV au)) v33_9 := fr_end (M := [b1_2]) e33 kw [b3_9] (in_cons ⟨_, hb3⟩ in_nil) (in_cons own_b1_2.lt in_nil)
   replace e33 := ev; clear ev
   obtain ⟨cn33_9a, cn33_9c, ci33_9a, ci33_9c, ev, ht_v33_9, D_cn33_9, D_ci33_9⟩ := rdV_out D_v33_9
   subst ev; clear D_v33_9
   have e34 : sl a9 34 = (.int .i64 (valE au)) := e34
   replace own_b1_2 := own_b1_2.ext hk
   replace kw := kw.x hk
   clear hR hk hg hP hb3
   refine tail_store (b := b3_9) (o := 0) (v := (.agg #[(.int .u8 ((valV au).k)), (.int .i64 ((valV au).n)), (.string ((valV au).t)), (.slice cn33_9a (((valV au).ns).length) cn33_9c), (.slice ci33_9a (((valV au).xs).length) ci33_9c)])) e3 e33 sz33 rfl own_b3_9 (lbr rfl) (all_cons rfl (all_cons rfl (all_cons rfl (all_cons rfl (all_cons rfl all_nil))))) (fun W10 hs own_b3_9 => ?_)
   have own_b3_9 : Own W10 b3_9 [(.int .u8 ((valV au).k)), (.int .i64 ((valV au).n)), (.string ((valV au).t)), (.slice cn33_9a (((valV au).ns).length) cn33_9c), (.slice ci33_9a (((valV au).xs).length) ci33_9c)] 33 := own_b3_9
   replace own_b1_2 := own_store own_b1_2 hs ne_b1_2_b3_9
   replace D_p0_1 := sa_store D_p0_1 hs (by simp)
   replace D_cn33_9 := sf_store D_cn33_9 hs (by simp)
   replace D_ci33_9 := sf_store D_ci33_9 hs (by simp)
   replace kw := keeps_store kw hs lo_b3_9
   clear hs
   refine tail_assign (v := (.int .i64 (valE au))) e34 (by rw [y9]; exact Nat.le_of_ble_eq_true rfl) (fun a11 y11 zz11 e4 hr => ?_)
   replace y11 := y11.trans y9; replace zz11 := zz11.trans zz9
   replace e1 := (hr 1 (by decide)).trans e1
   replace e3 := (hr 3 (by decide)).trans e3
   replace e33 := (hr 33 (by decide)).trans e33
   replace e34 := (hr 34 (by decide)).trans e34
   clear hr
   refine tail_nil (hK8 _ _ ?_)
   refine wp_seq_k fun K12 hK12 => ?_
   refine wp_seq_k fun K13 hK13 => ?_
   refine rg mixed y11 zz11 ?_
   refine .i (sp_move (hbs rfl e4)) ?_
   refine .i (sp_neq (hlc rfl) Has.cst) ?_
   refine .done ⟨by kernel_rfl, fun a14 g W14 y14 zz14 hk hg hV hR hP => ?_⟩
   obtain ⟨e36, -, -⟩ := hV
   replace e1 := (hR 1 rfl).trans e1
   replace e3 := (hR 3 rfl).trans e3
   replace D_p0_1 := D_p0_1.ext hk
   replace D_cn33_9 := D_cn33_9.ext hk
   replace D_ci33_9 := D_ci33_9.ext hk
   have e36 : sl a14 36 = (.bool ((valE au : Int) != (0 : Int))) := e36
   replace own_b1_2 := own_b1_2.ext hk
   replace own_b3_9 := own_b3_9.ext hk
   replace kw := kw.x hk
   clear hR hk hg hP
   refine tail_nil (hK13 _ _ ?_)
   refine wp_cond_split e36 (fun hc => ?_) (fun hc => ?_)
   ·
    exfalso
    rw [hvE] at hc
    simp at hc
   ·
    refine wp_skip (hK12 _ _ ?_)
    refine wp_seq_k fun K15 hK15 => ?_
    have K_p0_1 := D_p0_1
    have K_cn33_9 := D_cn33_9
    have K_ci33_9 := D_ci33_9
    have hmk : Ext W14 W14 := Keeps.refl _ _
    have kwm := kw
    refine rg mixed y14 zz14 ?_
    refine .i (v := (.agg #[(.int .u8 ((valV au).k)), (.int .i64 ((valV au).n)), (.string ((valV au).t)), (.slice cn33_9a (((valV au).ns).length) cn33_9c), (.slice ci33_9a (((valV au).xs).length) ci33_9c)])) (loA (hbs rfl e3) own_b3_9 trivial agg33 sz33 rfl rfl) ?_
    refine .op (φ := IsT (IsD (Fr W14) (Au.d (ofAV ((valV au))))) (Is (.int .i64 (ofAE ((valV au)))))) (st_t (st_d sub_all) (st_is _)) (sp_call1 (φ1 := IsD (SF w [b3_9, b1_2]) (V.d ((valV au)))) ent16 ((hlc rfl).dat (rdV_in (x := (valV au)) ht_v33_9 D_cn33_9 D_ci33_9 : Rd W14 (SF w [b3_9, b1_2]) (V.d ((valV au))) _) sub_all) (fun g u1 W hk hgk h1 => (authOf_ok ((valV au)) hvw W _ _ (fun b o h => h.1.2.1) h1).mono (fun _ _ ⟨v, h1, h2, r1, h3, h4⟩ => ⟨v, h1, h2, r1, _, h3, fresh_d hk hgk h4, rfl⟩))) ?_
    refine .op (φ := IsT (IsD (Fr W14) (Au.d (ofAV ((valV au))))) (Is (.int .i64 (ofAE ((valV au)))))) (st_t (st_d sub_all) (st_is _)) (sp_move (hlc rfl)) ?_
    refine .da (X := Fr W14) (e := Au.d (ofAV ((valV au)))) (sp_ext2 (hlc rfl) rfl) ?_
    refine .i (v := (.int .i64 (ofAE ((valV au))))) (sp_ext2' (hlc rfl) rfl) ?_
    refine .alloc z27 ?_
    refine .done ⟨by kernel_rfl, fun a16 g W16 y16 zz16 hk hg hV hR hP => ?_⟩
    obtain ⟨⟨b5_16, e5, hb5, own_b5_16⟩, e41, e40, -, -, -, -⟩ := hV
    have lo_b5_16 : w.heap.size ≤ b5_16 := Nat.le_trans kw.size (hg.lo _ _ hb5)
    have lm_b5_16 := Nat.le_trans hmk.size (hg.lo _ _ hb5)
    have ne_b1_2_b5_16 : b1_2 ≠ b5_16 := Nat.ne_of_lt (Nat.lt_of_lt_of_le own_b1_2.lt (hg.lo _ _ hb5))
    have ne_b3_9_b5_16 : b3_9 ≠ b5_16 := Nat.ne_of_lt (Nat.lt_of_lt_of_le own_b3_9.lt (hg.lo _ _ hb5))
    have own_b5_16 : Own W16 b5_16 [(.int .i64 (0)), (.slice none 0 0)] 27 := own_b5_16
    replace e1 := (hR 1 rfl).trans e1
    replace e3 := (hR 3 rfl).trans e3
    replace D_p0_1 := sa_more D_p0_1 hk [b5_16] (in_cons (hg.lo _ _ hb5) in_nil)
    replace D_cn33_9 := sf_more D_cn33_9 hk [b5_16] (in_cons (hg.lo _ _ hb5) in_nil)
    replace D_ci33_9 := sf_more D_ci33_9 hk [b5_16] (in_cons (hg.lo _ _ hb5) in_nil)
    obtain ⟨v40_16, ev⟩ : ∃ v, sl a16 40 = v := ⟨_, rfl⟩
    rw [ev] at e40
    have D_v40_16 : Rd W16 (SF W14 [b5_16, b3_9, b1_2]) (Au.d (ofAV ((valV au)))) v40_16 := fr_end (M := [b3_9, b1_2]) e40 (Keeps.refl All W14) [b5_16] (in_cons ⟨_, hb5⟩ in_nil) (in_cons own_b3_9.lt (in_cons own_b1_2.lt in_nil))
    replace e40 := ev; clear ev
    obtain ⟨v40_16_1a, v40_16_1c, ev, D_v40_16_1⟩ := rdAu_out D_v40_16
    subst ev; clear D_v40_16
    have e41 : sl a16 41 = (.int .i64 (ofAE ((valV au)))) := e41
    replace own_b1_2 := own_b1_2.ext hk
    replace own_b3_9 := own_b3_9.ext hk
    replace kw := kw.x hk
    replace hmk := hmk.trans hk
    clear hR hk hg hP hb5
    refine tail_store (b := b5_16) (o := 0) (v := (.agg #[(.int .i64 ((ofAV ((valV au))).th)), (.slice v40_16_1a (((ofAV ((valV au))).ids).length) v40_16_1c)])) e5 e40 sz27 rfl own_b5_16 (lbr rfl) (all_cons rfl (all_cons rfl all_nil)) (fun W17 hs own_b5_16 => ?_)
    replace hmk := keeps_store hmk hs lm_b5_16
    have own_b5_16 : Own W17 b5_16 [(.int .i64 ((ofAV ((valV au))).th)), (.slice v40_16_1a (((ofAV ((valV au))).ids).length) v40_16_1c)] 27 := own_b5_16
    replace own_b1_2 := own_store own_b1_2 hs ne_b1_2_b5_16
    replace own_b3_9 := own_store own_b3_9 hs ne_b3_9_b5_16
    replace D_p0_1 := sa_store D_p0_1 hs (by simp)
    replace D_cn33_9 := sf_store D_cn33_9 hs (by simp)
    replace D_ci33_9 := sf_store D_ci33_9 hs (by simp)
    replace D_v40_16_1 := sf_store D_v40_16_1 hs (by simp)
    replace kw := keeps_store kw hs lo_b5_16
    clear hs
    refine tail_assign (v := (.int .i64 (ofAE ((valV au))))) e41 (by rw [y16]; exact Nat.le_of_ble_eq_true rfl) (fun a18 y18 zz18 e6 hr => ?_)
    replace y18 := y18.trans y16; replace zz18 := zz18.trans zz16
    replace e1 := (hr 1 (by decide)).trans e1
    replace e3 := (hr 3 (by decide)).trans e3
    replace e5 := (hr 5 (by decide)).trans e5
    replace e40 := (hr 40 (by decide)).trans e40
    replace e41 := (hr 41 (by decide)).trans e41
    clear hr
    refine tail_nil (hK15 _ _ ?_)
    refine wp_seq_k fun K19 hK19 => ?_
    refine wp_seq_k fun K20 hK20 => ?_
    refine rg mixed y18 zz18 ?_
    refine .i (sp_move (hbs rfl e6)) ?_
    refine .i (sp_neq (hlc rfl) Has.cst) ?_
    refine .i (sp_move (hlc rfl)) ?_
    refine .e (t := 44) rfl (hlc rfl) (fun hg => fo 1 (hbs rfl e5) Try.underlying27 rfl sz23 rfl) ?_
    refine .e (t := 44) rfl (hlc rfl) (fun hg => lo1 ((hlc rfl).undE hg) own_b5_16 trivial agg23 sz23 rfl) ?_
    refine .e (t := 44) rfl (hlc rfl) (fun hg => sp_lenSs Try.underlying23 (((hlc rfl).undE hg).dat D_v40_16_1 sub_all)) ?_
    refine .e (t := 44) rfl (hlc rfl) (fun hg => fo 1 (hbs rfl e1) Try.underlying27 rfl sz23 rfl) ?_
    refine .e (t := 44) rfl (hlc rfl) (fun hg => lo1 ((hlc rfl).undE hg) own_b1_2 trivial agg23 sz23 rfl) ?_
    refine .e (t := 44) rfl (hlc rfl) (fun hg => sp_lenSs Try.underlying23 (((hlc rfl).undE hg).dat D_p0_1 sub_all)) ?_
    refine .e (t := 44) rfl (hlc rfl) (fun hg => sp_neq ((hlc rfl).undE hg) ((hlc rfl).undE hg)) ?_
    refine .i (sp_or (hlc rfl) ((hlc rfl).weak fun hq => hq)) ?_
    refine .done ⟨by kernel_rfl, fun a21 g W21 y21 zz21 hk hg hV hR hP => ?_⟩
    obtain ⟨e52, -, -, -, -, -, -, -, -, -, -, -⟩ := hV
    replace e1 := (hR 1 rfl).trans e1
    replace e3 := (hR 3 rfl).trans e3
    replace e5 := (hR 5 rfl).trans e5
    replace D_p0_1 := D_p0_1.ext hk
    replace D_cn33_9 := D_cn33_9.ext hk
    replace D_ci33_9 := D_ci33_9.ext hk
    replace D_v40_16_1 := D_v40_16_1.ext hk
    replace e52 := e52.q
    replace own_b1_2 := own_b1_2.ext hk
    replace own_b3_9 := own_b3_9.ext hk
    replace own_b5_16 := own_b5_16.ext hk
    replace kw := kw.x hk
    replace hmk := hmk.trans hk
    clear hR hk hg hP
    refine tail_nil (hK20 _ _ ?_)
    refine wp_cond_split e52 (fun hc => ?_) (fun hc => ?_)
    ·
     exfalso
     rw [hof0, hofv] at hc
     simp at hc
    ·
     refine wp_skip (hK19 _ _ ?_)
     refine wp_seq_k fun K22 hK22 => ?_
     refine rg mixed y21 zz21 ?_
     refine .i (fo 1 (hbs rfl e1) Try.underlying27 rfl sz23 rfl) ?_
     refine .i (lo1 (hlc rfl) own_b1_2 trivial agg23 sz23 rfl) ?_
     refine .rf (sp_indexS (i := 0) ((hlc rfl).dat D_p0_1 sub_all) Has.cst Try.underlying23 sz9 rfl hpos) ?_
     refine .i (sp_loadStr (hlc rfl) agg9 sz9) ?_
     refine .i (sp_assign (hlc rfl)) ?_
     refine .done ⟨by kernel_rfl, fun a23 g W23 y23 zz23 hk hg hV hR hP => ?_⟩
     obtain ⟨e7, -, -, -, -, -⟩ := hV
     replace e1 := (hR 1 rfl).trans e1
     replace e3 := (hR 3 rfl).trans e3
     replace e5 := (hR 5 rfl).trans e5
     replace D_p0_1 := D_p0_1.ext hk
     replace D_cn33_9 := D_cn33_9.ext hk
     replace D_ci33_9 := D_ci33_9.ext hk
     replace D_v40_16_1 := D_v40_16_1.ext hk
     have e7 : sl a23 7 = (.string (au.ids[0]'hpos)) := e7
     replace own_b1_2 := own_b1_2.ext hk
     replace own_b3_9 := own_b3_9.ext hk
     replace own_b5_16 := own_b5_16.ext hk
     replace kw := kw.x hk
     replace hmk := hmk.trans hk
     clear hR hk hg hP
     refine tail_nil (hK22 _ _ ?_)
     refine wp_seq_k fun K24 hK24 => ?_
     refine rg mixed y23 zz23 ?_
     refine .i (fo 1 (hbs rfl e5) Try.underlying27 rfl sz23 rfl) ?_
     refine .i (lo1 (hlc rfl) own_b5_16 trivial agg23 sz23 rfl) ?_
     refine .rf (sp_indexS (i := 0) ((hlc rfl).dat D_v40_16_1 sub_all) Has.cst Try.underlying23 sz9 rfl hpo) ?_
     refine .done ⟨by kernel_rfl, fun a25 g W25 y25 zz25 hk hg hV hR hP => ?_⟩
     obtain ⟨e59, -, -, -⟩ := hV
     replace e1 := (hR 1 rfl).trans e1
     replace e3 := (hR 3 rfl).trans e3
     replace e7 := (hR 7 rfl).trans e7
     replace D_p0_1 := D_p0_1.ext hk
     replace D_cn33_9 := D_cn33_9.ext hk
     replace D_ci33_9 := D_ci33_9.ext hk
     replace D_v40_16_1 := D_v40_16_1.ext hk
     obtain ⟨v59_25, ev⟩ : ∃ v, sl a25 59 = v := ⟨_, rfl⟩
     rw [ev] at e59
     have D_v59_25 : Ref W25 (SF W14 [b5_16, b3_9, b1_2]) (D.str (((ofAV ((valV au))).ids)[0]'hpo)) v59_25 := rsf_end e59 hk [] in_nil
     replace e59 := ev; clear ev
     replace own_b1_2 := own_b1_2.ext hk
     replace own_b3_9 := own_b3_9.ext hk
     replace own_b5_16 := own_b5_16.ext hk
     replace kw := kw.x hk
     replace hmk := hmk.trans hk
     clear hR hk hg hP
     obtain ⟨bq, oq, cq, evq, hbq, hltq, hcq, hrq⟩ := D_v59_25
     refine tail_storeQ (e59.trans evq) rfl sz9 hbq.2.1 (strq hcq hrq) ⟨rfl, rfl⟩ (fun W26 hs => ?_)
     have D_p0_1 : Rd W26 (SA w S [b5_16, b3_9, b1_2]) (strsD (au.ids)) (.slice p0_1a (au.ids.length) p0_1c) := sa_less (sa_store (sa_more K_p0_1 hmk [bq, b5_16] (in_cons hbq.1 (in_cons lm_b5_16 in_nil))) hs (by simp)) (fun b hb => by simp at hb ⊢; simp [hb])
     have D_cn33_9 : Rd W26 (SF w [b5_16, b3_9, b1_2]) (strsD ((valV au).ns)) (.slice cn33_9a (((valV au).ns).length) cn33_9c) := sf_less (sf_store (sf_more K_cn33_9 hmk [bq, b5_16] (in_cons hbq.1 (in_cons lm_b5_16 in_nil))) hs (by simp)) (fun b hb => by simp at hb ⊢; simp [hb])
     have D_ci33_9 : Rd W26 (SF w [b5_16, b3_9, b1_2]) (valsD ((valV au).xs)) (.slice ci33_9a (((valV au).xs).length) ci33_9c) := sf_less (sf_store (sf_more K_ci33_9 hmk [bq, b5_16] (in_cons hbq.1 (in_cons lm_b5_16 in_nil))) hs (by simp)) (fun b hb => by simp at hb ⊢; simp [hb])
     replace own_b1_2 := own_store own_b1_2 hs (fun e => hbq.2.2 (by simp [e]))
     replace own_b3_9 := own_store own_b3_9 hs (fun e => hbq.2.2 (by simp [e]))
     replace own_b5_16 := own_store own_b5_16 hs (fun e => hbq.2.2 (by simp [e]))
     replace kw := keeps_store kw hs (Nat.le_trans kwm.size hbq.1)
     clear hs hmk kwm hbq hltq hcq hrq K_p0_1 K_cn33_9 K_ci33_9
     refine tail_nil (hK24 _ _ ?_)
     refine wp_seq_k fun K27 hK27 => ?_
     refine rg mixed y25 zz25 ?_
     refine .i (v := (.agg #[(.int .u8 ((valV au).k)), (.int .i64 ((valV au).n)), (.string ((valV au).t)), (.slice cn33_9a (((valV au).ns).length) cn33_9c), (.slice ci33_9a (((valV au).xs).length) ci33_9c)])) (loA (hbs rfl e3) own_b3_9 trivial agg33 sz33 rfl rfl) ?_
     refine .op (φ := IsT (IsD (Fr W26) (Au.d (ofAV ((valV au))))) (Is (.int .i64 (ofAE ((valV au)))))) (st_t (st_d sub_all) (st_is _)) (sp_call1 (φ1 := IsD (SF w [b5_16, b3_9, b1_2]) (V.d ((valV au)))) ent16 ((hlc rfl).dat (rdV_in (x := (valV au)) ht_v33_9 D_cn33_9 D_ci33_9 : Rd W26 (SF w [b5_16, b3_9, b1_2]) (V.d ((valV au))) _) sub_all) (fun g u1 W hk hgk h1 => (authOf_ok ((valV au)) hvw W _ _ (fun b o h => h.1.2.1) h1).mono (fun _ _ ⟨v, h1, h2, r1, h3, h4⟩ => ⟨v, h1, h2, r1, _, h3, fresh_d hk hgk h4, rfl⟩))) ?_
     refine .op (φ := IsT (IsD (Fr W26) (Au.d (ofAV ((valV au))))) (Is (.int .i64 (ofAE ((valV au)))))) (st_t (st_d sub_all) (st_is _)) (sp_move (hlc rfl)) ?_
     refine .da (X := Fr W26) (e := Au.d (ofAV ((valV au)))) (sp_ext2 (hlc rfl) rfl) ?_
     refine .i (v := (.int .i64 (ofAE ((valV au))))) (sp_ext2' (hlc rfl) rfl) ?_
     refine .alloc z27 ?_
     refine .done ⟨by kernel_rfl, fun a28 g W28 y28 zz28 hk hg hV hR hP => ?_⟩
     obtain ⟨⟨b8_28, e8, hb8, own_b8_28⟩, e64, e63, -, -, -, -⟩ := hV
     have lo_b8_28 : w.heap.size ≤ b8_28 := Nat.le_trans kw.size (hg.lo _ _ hb8)
     have ne_b1_2_b8_28 : b1_2 ≠ b8_28 := Nat.ne_of_lt (Nat.lt_of_lt_of_le own_b1_2.lt (hg.lo _ _ hb8))
     have ne_b3_9_b8_28 : b3_9 ≠ b8_28 := Nat.ne_of_lt (Nat.lt_of_lt_of_le own_b3_9.lt (hg.lo _ _ hb8))
     have ne_b5_16_b8_28 : b5_16 ≠ b8_28 := Nat.ne_of_lt (Nat.lt_of_lt_of_le own_b5_16.lt (hg.lo _ _ hb8))
     have own_b8_28 : Own W28 b8_28 [(.int .i64 (0)), (.slice none 0 0)] 27 := own_b8_28
     replace e1 := (hR 1 rfl).trans e1
     replace e7 := (hR 7 rfl).trans e7
     replace D_p0_1 := sa_more D_p0_1 hk [b8_28] (in_cons (hg.lo _ _ hb8) in_nil)
     replace D_cn33_9 := sf_more D_cn33_9 hk [b8_28] (in_cons (hg.lo _ _ hb8) in_nil)
     replace D_ci33_9 := sf_more D_ci33_9 hk [b8_28] (in_cons (hg.lo _ _ hb8) in_nil)
     obtain ⟨v63_28, ev⟩ : ∃ v, sl a28 63 = v := ⟨_, rfl⟩
     rw [ev] at e63
     have D_v63_28 : Rd W28 (SF w [b8_28, b5_16, b3_9, b1_2]) (Au.d (ofAV ((valV au)))) v63_28 := fr_end (M := [b5_16, b3_9, b1_2]) e63 kw [b8_28] (in_cons ⟨_, hb8⟩ in_nil) (in_cons own_b5_16.lt (in_cons own_b3_9.lt (in_cons own_b1_2.lt in_nil)))
     replace e63 := ev; clear ev
     obtain ⟨v63_28_1a, v63_28_1c, ev, D_v63_28_1⟩ := rdAu_out D_v63_28
     subst ev; clear D_v63_28
     have e64 : sl a28 64 = (.int .i64 (ofAE ((valV au)))) := e64
     replace own_b1_2 := own_b1_2.ext hk
     replace own_b3_9 := own_b3_9.ext hk
     replace own_b5_16 := own_b5_16.ext hk
     replace kw := kw.x hk
     clear hR hk hg hP hb8
     refine tail_store (b := b8_28) (o := 0) (v := (.agg #[(.int .i64 ((ofAV ((valV au))).th)), (.slice v63_28_1a (((ofAV ((valV au))).ids).length) v63_28_1c)])) e8 e63 sz27 rfl own_b8_28 (lbr rfl) (all_cons rfl (all_cons rfl all_nil)) (fun W29 hs own_b8_28 => ?_)
     have own_b8_28 : Own W29 b8_28 [(.int .i64 ((ofAV ((valV au))).th)), (.slice v63_28_1a (((ofAV ((valV au))).ids).length) v63_28_1c)] 27 := own_b8_28
     replace own_b1_2 := own_store own_b1_2 hs ne_b1_2_b8_28
     replace own_b3_9 := own_store own_b3_9 hs ne_b3_9_b8_28
     replace own_b5_16 := own_store own_b5_16 hs ne_b5_16_b8_28
     replace D_p0_1 := sa_store D_p0_1 hs (by simp)
     replace D_cn33_9 := sf_store D_cn33_9 hs (by simp)
     replace D_ci33_9 := sf_store D_ci33_9 hs (by simp)
     replace D_v63_28_1 := sf_store D_v63_28_1 hs (by simp)
     replace kw := keeps_store kw hs lo_b8_28
     clear hs
     refine tail_assign (v := (.int .i64 (ofAE ((valV au))))) e64 (by rw [y28]; exact Nat.le_of_ble_eq_true rfl) (fun a30 y30 zz30 e9 hr => ?_)
     replace y30 := y30.trans y28; replace zz30 := zz30.trans zz28
     replace e1 := (hr 1 (by decide)).trans e1
     replace e7 := (hr 7 (by decide)).trans e7
     replace e8 := (hr 8 (by decide)).trans e8
     replace e63 := (hr 63 (by decide)).trans e63
     replace e64 := (hr 64 (by decide)).trans e64
     clear hr
     refine tail_nil (hK27 _ _ ?_)
     refine wp_seq_k fun K31 hK31 => ?_
     have K_p0_1 := D_p0_1
     have K_v63_28_1 := D_v63_28_1
     have hmk : Ext W29 W29 := Keeps.refl _ _
     have kwm := kw
     refine rg mixed y30 zz30 ?_
     refine .i (v := (.agg #[(.int .i64 (au.th)), (.slice p0_1a (au.ids.length) p0_1c)])) (loA (hbs rfl e1) own_b1_2 trivial agg27 sz27 rfl rfl) ?_
     refine .da (X := Fr W29) (e := mbsD (authL au)) (sp_call1 (φ1 := IsD (SA w S [b8_28, b5_16, b3_9, b1_2]) (Au.d (au))) ent51 ((hlc rfl).dat (rdAu_mk D_p0_1 : Rd W29 (SA w S [b8_28, b5_16, b3_9, b1_2]) (Au.d (au)) _) sub_all) (fun g u1 W hk hgk h1 => (Members_ok (au) (by omega) W _ _ h1).mono (ret_fr hk hgk))) ?_
     refine .da (X := Fr W29) (e := mbsD (authL au)) (sp_assign (hlc rfl)) ?_
     refine .done ⟨by kernel_rfl, fun a32 g W32 y32 zz32 hk hg hV hR hP => ?_⟩
     obtain ⟨e10, -, -, -⟩ := hV
     replace e1 := (hR 1 rfl).trans e1
     replace e7 := (hR 7 rfl).trans e7
     replace e8 := (hR 8 rfl).trans e8
     replace e9 := (hR 9 rfl).trans e9
     replace D_p0_1 := D_p0_1.ext hk
     replace D_v63_28_1 := D_v63_28_1.ext hk
     obtain ⟨v10_32, ev⟩ : ∃ v, sl a32 10 = v := ⟨_, rfl⟩
     rw [ev] at e10
     have D_v10_32 : Rd W32 (SF W29 [b8_28, b5_16, b3_9, b1_2]) (mbsD (authL au)) v10_32 := fr_end (M := [b8_28, b5_16, b3_9, b1_2]) e10 (Keeps.refl All W29) [] in_nil (in_cons own_b8_28.lt (in_cons own_b5_16.lt (in_cons own_b3_9.lt (in_cons own_b1_2.lt in_nil))))
     replace e10 := ev; clear ev
     obtain ⟨v10_32a, v10_32c, ev, D2⟩ := rdMbs_out D_v10_32
     subst ev; replace D_v10_32 := D2; clear D2
     replace own_b1_2 := own_b1_2.ext hk
     replace own_b3_9 := own_b3_9.ext hk
     replace own_b5_16 := own_b5_16.ext hk
     replace own_b8_28 := own_b8_28.ext hk
     replace kw := kw.x hk
     replace hmk := hmk.trans hk
     clear hR hk hg hP
     refine tail_nil (hK31 _ _ ?_)
     refine wp_seq_k fun K33 hK33 => ?_
     refine wp_seq_k fun K34 hK34 => ?_
     refine rg mixed y32 zz32 ?_
     refine .i (sp_move (hbs rfl e10)) ?_
     refine .i (sp_lenL Try.underlying82 ((hlc rfl).dat D_v10_32 sub_all)) ?_
     refine .i (sp_neq (hlc rfl) Has.cst) ?_
     refine .i (sp_move (hlc rfl)) ?_
     refine .e (t := 70) rfl (hlc rfl) (fun hg => sp_move (hbs rfl e10)) ?_
     refine .opE (t := 70) (φ := IsR (SF W29 [b8_28, b5_16, b3_9, b1_2]) (Mb.d ((authL au)[0]'hp0))) rfl (hlc rfl) (st_r sub_all) (fun hg => sp_indexL (i := 0) (((hlc rfl).undE hg).dat D_v10_32 sub_all) Has.cst Try.underlying82 sz67 rfl hp0) ?_
     refine .opE (t := 70) (φ := IsR (SF W29 [b8_28, b5_16, b3_9, b1_2]) (V.d (((authL au)[0]'hp0).v))) rfl (hlc rfl) (st_r sub_all) (fun hg => sp_fieldR ((hlc rfl).undE hg) Try.underlying67 rfl sz33 rfl (by first | rfl | simp [widths, width, hssD, width_V])) ?_
     refine .opE (t := 70) (φ := IsR (SF W29 [b8_28, b5_16, b3_9, b1_2]) (valsD ((((authL au)[0]'hp0).v).xs))) rfl (hlc rfl) (st_r sub_all) (fun hg => sp_fieldV ((hlc rfl).undE hg) Try.underlying33 rfl sz31 rfl rfl) ?_
     refine .opE (t := 70) (φ := IsD (SF W29 [b8_28, b5_16, b3_9, b1_2]) (valsD ((((authL au)[0]'hp0).v).xs))) rfl (hlc rfl) (st_d sub_all) (fun hg => sp_loadR ((hlc rfl).undE hg) agg31 sz31 rfl) ?_
     refine .e (t := 70) rfl (hlc rfl) (fun hg => sp_lenVs Try.underlying31 ((hlc rfl).undE hg)) ?_
     refine .e (t := 70) rfl (hlc rfl) (fun hg => fo 1 (hbs rfl e1) Try.underlying27 rfl sz23 rfl) ?_
     refine .e (t := 70) rfl (hlc rfl) (fun hg => lo1 ((hlc rfl).undE hg) own_b1_2 trivial agg23 sz23 rfl) ?_
     refine .e (t := 70) rfl (hlc rfl) (fun hg => sp_lenSs Try.underlying23 (((hlc rfl).undE hg).dat D_p0_1 sub_all)) ?_
     refine .e (t := 70) rfl (hlc rfl) (fun hg => sp_neq ((hlc rfl).undE hg) ((hlc rfl).undE hg)) ?_
     refine .i (sp_or (hlc rfl) ((hlc rfl).weak fun hq => hq)) ?_
     refine .done ⟨by kernel_rfl, fun a35 g W35 y35 zz35 hk hg hV hR hP => ?_⟩
     obtain ⟨e81, -, -, -, -, -, -, -, -, -, -, -, -, -, -, -⟩ := hV
     replace e1 := (hR 1 rfl).trans e1
     replace e7 := (hR 7 rfl).trans e7
     replace e8 := (hR 8 rfl).trans e8
     replace e9 := (hR 9 rfl).trans e9
     replace e10 := (hR 10 rfl).trans e10
     replace D_p0_1 := D_p0_1.ext hk
     replace D_v63_28_1 := D_v63_28_1.ext hk
     replace D_v10_32 := D_v10_32.ext hk
     replace e81 := e81.q
     replace own_b1_2 := own_b1_2.ext hk
     replace own_b3_9 := own_b3_9.ext hk
     replace own_b5_16 := own_b5_16.ext hk
     replace own_b8_28 := own_b8_28.ext hk
     replace kw := kw.x hk
     replace hmk := hmk.trans hk
     clear hR hk hg hP
     refine tail_nil (hK34 _ _ ?_)
     refine wp_cond_split e81 (fun hc => ?_) (fun hc => ?_)
     ·
      exfalso
      have h2 : (authL au).length = 2 := rfl
      have h3 : ((((authL au)[0]'hp0).v).xs).length = au.ids.length := by show (au.ids.map txtV).length = _; simp
      rw [h2, h3] at hc
      simp at hc
     ·
      refine wp_skip (hK33 _ _ ?_)
      refine wp_seq_k fun K36 hK36 => ?_
      refine rg mixed y35 zz35 ?_
      refine .i (sp_move (hbs rfl e10)) ?_
      refine .rf (X := SF W29 [b8_28, b5_16, b3_9, b1_2]) (e := Mb.d ((authL au)[0]'hp0)) (sp_indexL (i := 0) ((hlc rfl).dat D_v10_32 sub_all) Has.cst Try.underlying82 sz67 rfl hp0) ?_
      refine .rf (X := SF W29 [b8_28, b5_16, b3_9, b1_2]) (e := V.d (((authL au)[0]'hp0).v)) (sp_fieldR (hlc rfl) Try.underlying67 rfl sz33 rfl (by first | rfl | simp [widths, width, hssD, width_V])) ?_
      refine .rf (X := SF W29 [b8_28, b5_16, b3_9, b1_2]) (e := valsD ((((authL au)[0]'hp0).v).xs)) (sp_fieldV (hlc rfl) Try.underlying33 rfl sz31 rfl rfl) ?_
      refine .da (X := SF W29 [b8_28, b5_16, b3_9, b1_2]) (e := valsD ((((authL au)[0]'hp0).v).xs)) (sp_loadR (hlc rfl) agg31 sz31 rfl) ?_
      refine .rf (sp_indexV (i := 0) (hlc rfl) Has.cst Try.underlying31 sz33 rfl hp1) ?_
      refine .rf (X := SF W29 [b8_28, b5_16, b3_9, b1_2]) (e := D.str ((((((authL au)[0]'hp0).v).xs)[0]'hp1).t)) (sp_fieldV (hlc rfl) Try.underlying33 rfl sz9 rfl rfl) ?_
      refine .done ⟨by kernel_rfl, fun a37 g W37 y37 zz37 hk hg hV hR hP => ?_⟩
      obtain ⟨e88, -, -, -, -, -, -, -⟩ := hV
      replace e1 := (hR 1 rfl).trans e1
      replace e7 := (hR 7 rfl).trans e7
      replace e8 := (hR 8 rfl).trans e8
      replace e9 := (hR 9 rfl).trans e9
      replace D_p0_1 := D_p0_1.ext hk
      replace D_v63_28_1 := D_v63_28_1.ext hk
      replace D_v10_32 := D_v10_32.ext hk
      obtain ⟨v88_37, ev⟩ : ∃ v, sl a37 88 = v := ⟨_, rfl⟩
      rw [ev] at e88
      have D_v88_37 : Ref W37 (SF W29 [b8_28, b5_16, b3_9, b1_2]) (D.str ((((((authL au)[0]'hp0).v).xs)[0]'hp1).t)) v88_37 := rsf_end e88 hk [] in_nil
      replace e88 := ev; clear ev
      replace own_b1_2 := own_b1_2.ext hk
      replace own_b3_9 := own_b3_9.ext hk
      replace own_b5_16 := own_b5_16.ext hk
      replace own_b8_28 := own_b8_28.ext hk
      replace kw := kw.x hk
      replace hmk := hmk.trans hk
      clear hR hk hg hP
      obtain ⟨bq, oq, cq, evq, hbq, hltq, hcq, hrq⟩ := D_v88_37
      refine tail_storeQ (e88.trans evq) rfl sz9 hbq.2.1 (strq hcq hrq) ⟨rfl, rfl⟩ (fun W38 hs => ?_)
      have D_p0_1 : Rd W38 (SA w S [b8_28, b5_16, b3_9, b1_2]) (strsD (au.ids)) (.slice p0_1a (au.ids.length) p0_1c) := sa_less (sa_store (sa_more K_p0_1 hmk [bq] (in_cons hbq.1 in_nil)) hs (by simp)) (fun b hb => by simp at hb ⊢; simp [hb])
      have D_v63_28_1 : Rd W38 (SF w [b8_28, b5_16, b3_9, b1_2]) (strsD ((ofAV ((valV au))).ids)) (.slice v63_28_1a (((ofAV ((valV au))).ids).length) v63_28_1c) := sf_less (sf_store (sf_more K_v63_28_1 hmk [bq] (in_cons hbq.1 in_nil)) hs (by simp)) (fun b hb => by simp at hb ⊢; simp [hb])
      replace own_b1_2 := own_store own_b1_2 hs (fun e => hbq.2.2 (by simp [e]))
      replace own_b3_9 := own_store own_b3_9 hs (fun e => hbq.2.2 (by simp [e]))
      replace own_b5_16 := own_store own_b5_16 hs (fun e => hbq.2.2 (by simp [e]))
      replace own_b8_28 := own_store own_b8_28 hs (fun e => hbq.2.2 (by simp [e]))
      replace kw := keeps_store kw hs (Nat.le_trans kwm.size hbq.1)
      clear hs hmk kwm hbq hltq hcq hrq K_p0_1 K_v63_28_1
      refine tail_nil (hK36 _ _ ?_)
      refine wp_seq_k fun K39 hK39 => ?_
      refine rg mixed y37 zz37 ?_
      refine .i (sp_move (hbs rfl e9)) ?_
      refine .i (sp_eql (hlc rfl) Has.cst) ?_
      refine .i (sp_move (hlc rfl)) ?_
      refine .e (t := 91) (v := (.agg #[(.int .i64 ((ofAV ((valV au))).th)), (.slice v63_28_1a (((ofAV ((valV au))).ids).length) v63_28_1c)])) rfl (hlc rfl) (fun hg => loA (hbs rfl e8) own_b8_28 trivial agg27 sz27 rfl rfl) ?_
      refine .e (t := 91) (v := (.agg #[(.int .i64 (au.th)), (.slice p0_1a (au.ids.length) p0_1c)])) rfl (hlc rfl) (fun hg => loA (hbs rfl e1) own_b1_2 trivial agg27 sz27 rfl rfl) ?_
      refine .e (t := 91) (v := (.bool (sameA (ofAV ((valV au))) au))) rfl (hlc rfl) (fun hg => sp_call2 (φ1 := IsD (SA w S [b8_28, b5_16, b3_9, b1_2]) (Au.d ((ofAV ((valV au)))))) (φ2 := IsD (SA w S [b8_28, b5_16, b3_9, b1_2]) (Au.d (au))) ent20 ((((hlc rfl).undE hg).dat (rdAu_mk D_v63_28_1 : Rd W38 (SF w [b8_28, b5_16, b3_9, b1_2]) (Au.d ((ofAV ((valV au))))) _) sub_all).sup sf_in_sa) (((hlc rfl).undE hg).dat (rdAu_mk D_p0_1 : Rd W38 (SA w S [b8_28, b5_16, b3_9, b1_2]) (Au.d (au)) _) sub_all) (fun g u1 u2 W hk hgk h1 h2 => refSameA_ok ((ofAV ((valV au)))) (au) W _ _ _ h1 h2)) ?_
      refine .i (sp_and (hlc rfl) ((hlc rfl).weak fun hq => hq)) ?_
      refine .i (sp_move (hlc rfl)) ?_
      refine .e (t := 96) rfl (hlc rfl) (fun hg => fo 1 (hbs rfl e1) Try.underlying27 rfl sz23 rfl) ?_
      refine .e (t := 96) rfl (hlc rfl) (fun hg => lo1 ((hlc rfl).undE hg) own_b1_2 trivial agg23 sz23 rfl) ?_
      refine .opE (t := 96) (φ := IsR (SA w S [b8_28, b5_16, b3_9, b1_2]) (D.str (au.ids[0]'hpos))) rfl (hlc rfl) (st_r sub_all) (fun hg => sp_indexS (i := 0) (((hlc rfl).undE hg).dat D_p0_1 sub_all) Has.cst Try.underlying23 sz9 rfl hpos) ?_
      refine .e (t := 96) rfl (hlc rfl) (fun hg => sp_loadStr ((hlc rfl).undE hg) agg9 sz9) ?_
      refine .e (t := 96) rfl (hlc rfl) (fun hg => sp_move (hbs rfl e7)) ?_
      refine .e (t := 96) rfl (hlc rfl) (fun hg => sp_sEql ((hlc rfl).undE hg) ((hlc rfl).undE hg)) ?_
      refine .i (sp_and (hlc rfl) ((hlc rfl).weak fun hq => hq)) ?_
      refine .i (sp_move (hlc rfl)) ?_
      refine .e (t := 104) (v := (.agg #[(.int .i64 (au.th)), (.slice p0_1a (au.ids.length) p0_1c)])) rfl (hlc rfl) (fun hg => loA (hbs rfl e1) own_b1_2 trivial agg27 sz27 rfl rfl) ?_
      refine .e (t := 104) (v := (.bool (mayA au))) rfl (hlc rfl) (fun hg => sp_call1 (φ1 := IsD (SA w S [b8_28, b5_16, b3_9, b1_2]) (Au.d (au))) ent18 (((hlc rfl).undE hg).dat (rdAu_mk D_p0_1 : Rd W38 (SA w S [b8_28, b5_16, b3_9, b1_2]) (Au.d (au)) _) sub_all) (fun g u1 W hk hgk h1 => mayA_ok (au) W _ _ h1)) ?_
      refine .i (sp_and (hlc rfl) ((hlc rfl).weak fun hq => hq)) ?_
      refine .i (sp_assign (hlc rfl)) ?_
      refine .done ⟨by kernel_rfl, fun a40 g W40 y40 zz40 hk hg hV hR hP => ?_⟩
      obtain ⟨e2, -, -, -, -, -, -, -, -, -, -, -, -, -, -, -, -, -, -, -, -⟩ := hV
      replace D_p0_1 := D_p0_1.ext hk
      replace D_v63_28_1 := D_v63_28_1.ext hk
      replace e2 := e2.q
      replace own_b1_2 := own_b1_2.ext hk
      replace own_b3_9 := own_b3_9.ext hk
      replace own_b5_16 := own_b5_16.ext hk
      replace own_b8_28 := own_b8_28.ext hk
      replace kw := kw.x hk
      clear hR hk hg hP
      refine tail_nil (hK39 _ _ ?_)
      refine wp_ret ?_
      refine (show bodyPost Try.prog Try.f7 _ .ret _ _ from ret1 rfl zz40 e2 ⟨_, rfl, kw, ?_⟩)
      refine congrArg Value.bool ?_
      rw [hof0, hofv, hmay, (sameA_iff au au).2 rfl]
      simp
end Go.Proofs.Ytnobijngkpflcaa
namespace Go.Eng
open Go.ChangeShapes Go.WideShapes Go.ChangeAt Go.RowKit
def Univ : BSet := fun _ _ => True
mutual
def HasT (P : Program) : D → TypeId → Prop
  | .bool _, t => P.underlying t = some .bool
  | .int k n, t => P.underlying t = some (.int k) ∧ (Lit.int k n).wf = true
  | .str s, t => P.underlying t = some .string ∧ s.size ≤ maxLen
  | .lst sz xs, t => ∃ e, P.underlying t = some (.slice e) ∧ sz = P.cellsOf e ∧ HasTL P xs e
  | .agg xs, t => ∃ fs, P.underlying t = some (.struct fs) ∧ HasTF P xs (fs.toList.map (·.type))
def HasTL (P : Program) : List D → TypeId → Prop
  | [], _ => True
  | x :: xs, e => HasT P x e ∧ HasTL P xs e
def HasTF (P : Program) : List D → List TypeId → Prop
  | [], [] => True
  | x :: xs, t :: ts => HasT P x t ∧ HasTF P xs ts
  | _, _ => False
end
theorem hasTL_of {P : Program} {e : TypeId} : ∀ (xs : List D), (∀ i (h : i < xs.length), HasT P xs[i] e) → HasTL P xs e
  | [], _ => by simp [HasTL]
  | x :: xs, h => by
    simp only [HasTL]
    exact ⟨h 0 (by simp), hasTL_of xs fun i hi => h (i + 1) (by simpa using hi)⟩
def offs (P : Program) : List Field → Nat → Option Nat
  | [], o => some o
  | f :: r, o => if f.offset = o then offs P r (o + P.cellsOf f.type) else none
def plain1 (P : Program) (ts : List TypeId) (t : TypeId) : Bool := match P.underlying t with
  | some .bool => true
  | some (.int _) => true
  | some .string => true
  | some (.slice e) => ts.contains e && decide (0 < P.cellsOf e)
  | some (.struct fs) => (fs.toList.all fun f => ts.contains f.type) && decide (offs P fs.toList 0 = some (P.cellsOf t))
  | _ => false
theorem exists_list {α : Type} {p : Nat → α → Prop} : ∀ n : Nat, (∀ i, i < n → ∃ x, p i x) → ∃ xs : List α, xs.length = n ∧ ∀ i (h : i < xs.length), p i xs[i]
  | 0, _ => ⟨[], rfl, fun i h => by simp at h⟩
  | n + 1, h => by
    obtain ⟨xs, hl, hx⟩ := exists_list n fun i hi => h i (by omega)
    obtain ⟨x, hp⟩ := h n (by omega)
    refine ⟨xs ++ [x], by simp [hl], fun i hi => ?_⟩
    by_cases hin : i < n
    · rw [List.getElem_append_left (by omega)]; exact hx i (by omega)
    · have : i = n := by simp at hi; omega
      subst this
      rw [List.getElem_append_right (by omega)]; simpa [hl] using hp
section
variable {H : Type} {enc : TypeId × Value → H} {P : Program} {W : World}
theorem fields_rd {n : Nat} {cs : List Value} {ts : List TypeId} (ih : ∀ t c y, t ∈ ts → DataW.trod enc P W 0 (fun _ => true) true n t c = some y → ∃ d, RdC W Univ d c ∧ HasT P d t) :
    ∀ (fs : List Field) (o : Nat), offs P fs o = some cs.length → (∀ f ∈ fs, f.type ∈ ts) → (∀ f ∈ fs, ∃ y, DataW.trod enc P W 0 (fun _ => true) true n f.type ((cs.drop f.offset).take (P.cellsOf f.type)) = some y) →
      ∃ ds, RdF W Univ ds (cs.drop o) ∧ HasTF P ds (fs.map (·.type))
  | [], o, ho, _, _ => by
    simp only [offs, Option.some.injEq] at ho
    subst ho
    exact ⟨[], by simp [RdF], by simp [HasTF]⟩
  | f :: fs, o, ho, hm, hr => by
    simp only [offs] at ho
    split at ho
    · rename_i hoff
      subst hoff
      obtain ⟨ds, h1, h2⟩ := fields_rd ih fs _ ho (fun g hg => hm g (List.mem_cons_of_mem _ hg)) (fun g hg => hr g (List.mem_cons_of_mem _ hg))
      obtain ⟨y, hy⟩ := hr f List.mem_cons_self
      obtain ⟨d, h3, h4⟩ := ih _ _ _ (hm f List.mem_cons_self) hy
      refine ⟨d :: ds, ?_, by simp only [List.map_cons, HasTF]; exact ⟨h4, h2⟩⟩
      simp only [RdF]
      exact ⟨_, _, by rw [← List.drop_drop]; exact (List.take_append_drop _ _).symm, h3, h1⟩
    · cases ho
theorem trod_rd {ts : List TypeId} (hp : (ts.all (plain1 P ts)) = true) : ∀ (n : Nat) (t : TypeId) (cs : List Value) (y : DataW H × List MemPlace), t ∈ ts → DataW.trod enc P W 0 (fun _ => true) true n t cs = some y → ∃ d, RdC W Univ d cs ∧ HasT P d t := by
  intro n
  induction n with
  | zero => intro t cs y _ h; simp [DataW.trod] at h
  | succ n ih =>
    intro t cs y ht h
    have hpt := List.all_eq_true.1 hp t ht
    unfold plain1 at hpt
    split at hpt
    · rename_i hu
      obtain ⟨b, rfl, _⟩ := DataW.trod_bool hu h
      exact ⟨.bool b, by simp [RdC], by simp [HasT, hu]⟩
    · rename_i k hu
      obtain ⟨b, rfl, _, hw⟩ := DataW.trod_int hu h
      exact ⟨.int k b, by simp [RdC], by simp [HasT, hu, hw]⟩
    · rename_i hu
      obtain ⟨s, rfl, _, hw⟩ := DataW.trod_string hu h
      exact ⟨.str s, by simp [RdC, hw], by simp [HasT, hu, hw]⟩
    · rename_i e hu
      simp only [Bool.and_eq_true, decide_eq_true_eq] at hpt
      have het : e ∈ ts := by simpa using hpt.1
      rcases DataW.trod_slice hu h with ⟨rfl, _⟩ | ⟨a, len, cap, elems, rest, n', hn', rfl, _, _, hlc, hcm, hle, hel, _⟩
      · exact ⟨.lst (P.cellsOf e) [], by simp only [RdC]; exact ⟨none, 0, rfl, by simp, by simp, .inl trivial⟩, by simp only [HasT]; exact ⟨e, hu, rfl, by simp [HasTL]⟩⟩
      · have hnn : n' = n := by omega
        subst hnn
        have each : ∀ i, i < len → ∃ d, (∃ c, c.length = P.cellsOf e ∧ CellsAt W a.block (a.off + i * P.cellsOf e) c ∧ RdC W Univ d c) ∧ HasT P d e := by
          intro i hi
          have h1 := hel i hi
          rw [List.getElem?_eq_getElem (by omega), Option.bind_eq_some_iff] at h1
          obtain ⟨c, hc, hy⟩ := h1
          obtain ⟨d, h2, h3⟩ := ih e c _ het hy
          obtain ⟨_, hlen, hcell⟩ := World.cells?_some hc
          have hoff : ∀ j, W.cell? ((a.add (i * P.cellsOf e)).add j) = none ∨ (a.add (i * P.cellsOf e)).add j = ⟨a.block, a.off + i * P.cellsOf e + j, none⟩ := by
            intro j
            by_cases hsp : (a.add (i * P.cellsOf e)).spot.isSome = true ∧ j = 0
            · left
              obtain ⟨h4, rfl⟩ := hsp
              have : ((a.add (i * P.cellsOf e)).add 0) = a.add (i * P.cellsOf e) := by simp [Addr.add]
              rw [this]
              unfold World.cell?
              split <;> simp [h4]
            · right
              unfold Addr.add at hsp ⊢
              by_cases h0 : i * P.cellsOf e = 0
              · simp only [h0, if_true] at hsp ⊢
                by_cases hj : j = 0
                · subst hj
                  simp at hsp
                  cases a; simp_all
                · simp [hj]
              · simp only [h0, if_false] at hsp ⊢
                by_cases hj : j = 0 <;> simp [hj]
          refine ⟨d, ⟨c, hlen, fun j hj => ?_, h2⟩, h3⟩
          have h5 := hcell j (by omega)
          rw [List.getElem?_eq_getElem hj] at h5
          rcases hoff j with h6 | h6
          · rw [h6] at h5; cases h5
          · rw [h6] at h5; exact h5
        obtain ⟨ds, hdl, hd⟩ := exists_list len each
        refine ⟨.lst (P.cellsOf e) ds, ?_, by simp only [HasT]; exact ⟨e, hu, rfl, hasTL_of ds fun i hi => (hd i hi).2⟩⟩
        simp only [RdC]
        refine ⟨some a, cap, by rw [hdl], by omega, hcm, ?_⟩
        by_cases h0 : len = 0
        · left; exact List.length_eq_zero_iff.1 (by omega)
        · right
          obtain ⟨c, hcl, hc, _⟩ := (hd 0 (by omega)).1
          have hc0 := hc 0 (by omega)
          have hsp : a.spot = none := by
            have h1 := hel 0 (by omega)
            rw [List.getElem?_eq_getElem (by omega), Option.bind_eq_some_iff] at h1
            obtain ⟨c', hc', _⟩ := h1
            have h2 := (World.cells?_some hc').2.2 0 hpt.2
            have h3 := (World.cells?_some hc').2.1
            rw [List.getElem?_eq_getElem (by omega)] at h2
            simp only [Nat.zero_mul, Addr.add, if_true] at h2
            unfold World.cell? at h2
            split at h2
            · split at h2
              · cases h2
              · rename_i hs; simpa using hs
            · cases h2
          have hblk : a.block < W.heap.size := by
            simp only [Nat.zero_mul, Nat.add_zero] at hc0
            unfold World.cell? at hc0
            split at hc0
            · rename_i hq; exact (Array.getElem?_eq_some_iff.1 hq).1
            · cases hc0
          exact ⟨a.block, a.off, by cases a; simp_all, trivial, hblk, RdL.of fun i hi => (hd i hi).1⟩
    · rename_i fs hu
      simp only [Bool.and_eq_true, decide_eq_true_eq, List.all_eq_true] at hpt
      obtain ⟨xs, n', hn', _, hlen, hxl, hfs⟩ := DataW.trod_struct hu h
      have hnn : n' = n := by omega
      subst hnn
      obtain ⟨ds, h1, h2⟩ := fields_rd (cs := cs) ih fs.toList 0 (by rw [hlen]; exact hpt.2) (fun f hf => by simpa using hpt.1 f hf) (fun f hf => by
        obtain ⟨i, hi⟩ := List.getElem?_of_mem hf
        have hi' : fs[i]? = some f := by simpa using hi
        have hil : i < fs.size := (Array.getElem?_eq_some_iff.1 hi').1
        exact ⟨xs[i], by rw [hfs i f hi']; exact List.getElem?_eq_getElem (by omega)⟩)
      exact ⟨.agg ds, by simpa [RdC] using h1, by simp only [HasT]; exact ⟨fs, hu, h2⟩⟩
    · cases hpt
theorem arg_struct {ts : List TypeId} {t : TypeId} {fs : Array Field} {v : Value} {d : DataW H} {ps : List MemPlace} {base : Nat} (hp : (ts.all (plain1 P ts)) = true) (ht : t ∈ ts) (hu : P.underlying t = some (.struct fs)) (hval : Value.okWide P W .any base t v)
    (h : DataW.Trod enc P W 0 (fun _ => true) true t v d ps) : ∃ dd, Rd W Univ dd v ∧ HasT P dd t := by
  obtain ⟨n, h⟩ := h
  obtain ⟨dd, h1, h2⟩ := trod_rd hp n t _ _ ht h
  refine ⟨dd, ⟨_, h1, ?_⟩, h2⟩
  unfold Value.okWide at hval
  rw [hu] at hval
  obtain ⟨cs, rfl, _⟩ := hval
  cases dd with
  | agg xs => simp [asm, Value.cells]
  | bool b => simp [HasT, hu] at h2
  | int k m => simp [HasT, hu] at h2
  | str s => simp [HasT, hu] at h2
  | lst sz xs => simp [HasT, hu] at h2
theorem hasT_strs {t : TypeId} (hs : P.underlying t = some .string) : ∀ xs : List D, HasTL P xs t → ∃ ns : List ByteArray, xs = ns.map D.str
  | [], _ => ⟨[], rfl⟩
  | x :: xs, h => by
    simp only [HasTL] at h
    obtain ⟨ns, rfl⟩ := hasT_strs hs xs h.2
    cases x with
    | str s => exact ⟨s :: ns, rfl⟩
    | bool b => simp [HasT, hs] at h
    | int k m => simp [HasT, hs] at h
    | lst sz xs => simp [HasT, hs] at h
    | agg xs => simp [HasT, hs] at h
theorem hasT_int {t : TypeId} {k : IntKind} (hu : P.underlying t = some (.int k)) : ∀ d : D, HasT P d t → ∃ n, d = .int k n ∧ (Lit.int k n).wf = true
  | .int k' n, h => by simp only [HasT, hu, Option.some.injEq, TypeDesc.int.injEq] at h; obtain ⟨rfl, h⟩ := h; exact ⟨n, rfl, h⟩
  | .bool b, h => by simp [HasT, hu] at h
  | .str s, h => by simp [HasT, hu] at h
  | .lst sz xs, h => by simp [HasT, hu] at h
  | .agg xs, h => by simp [HasT, hu] at h
theorem hasT_lst {t e : TypeId} (hu : P.underlying t = some (.slice e)) : ∀ d : D, HasT P d t → ∃ xs, d = .lst (P.cellsOf e) xs ∧ HasTL P xs e
  | .lst sz xs, h => by
    simp only [HasT, hu, Option.some.injEq, TypeDesc.slice.injEq] at h
    obtain ⟨e', rfl, rfl, h⟩ := h
    exact ⟨xs, rfl, h⟩
  | .bool b, h => by simp [HasT, hu] at h
  | .int k n, h => by simp [HasT, hu] at h
  | .str s, h => by simp [HasT, hu] at h
  | .agg xs, h => by simp [HasT, hu] at h
theorem hasT_agg {t : TypeId} {ts : List TypeId} (hu : ((P.underlying t).bind fun | .struct fs => some (fs.toList.map (·.type)) | _ => none) = some ts) : ∀ d : D, HasT P d t → ∃ xs, d = .agg xs ∧ HasTF P xs ts
  | .agg xs, h => by
    simp only [HasT] at h
    obtain ⟨fs, h1, h2⟩ := h
    rw [h1] at hu
    simp only [Option.bind_some, Option.some.injEq] at hu
    subst hu
    exact ⟨xs, rfl, h2⟩
  | .bool b, h => by simp only [HasT] at h; rw [h] at hu; simp at hu
  | .int k n, h => by simp only [HasT] at h; rw [h.1] at hu; simp at hu
  | .str s, h => by simp only [HasT] at h; rw [h.1] at hu; simp at hu
  | .lst sz xs, h => by simp only [HasT] at h; obtain ⟨e, h1, _⟩ := h; rw [h1] at hu; simp at hu
theorem trodAll_stays (hl : laidOutB P = true) {W' : World} (hb : Below W.heap.size W W') : ∀ (ts : List TypeId) (vs : List Value) (ds : List (DataW H)) (ps : List MemPlace), (∀ t ∈ ts, P.readableRec t = true ∧ t < P.types.size) → (∀ x ∈ ps, x.block < W.heap.size) →
    DataW.TrodAll enc P W 0 (fun _ => true) true ts vs ds ps → DataW.TrodAll enc P W' 0 (fun b => decide (b < W.heap.size)) true ts vs ds ps
  | [], [], [], _, _, _, h => h
  | t :: ts, v :: vs, d :: ds, ps, ht, hlt, h => by
    obtain ⟨p, q, h1, h2, rfl⟩ := h
    exact ⟨p, q, Below.trod hl (ht t List.mem_cons_self).1 (ht t List.mem_cons_self).2 h1 hb (fun x hx => hlt x (List.mem_append_left _ hx)),
      trodAll_stays hl hb ts vs ds q (fun t h => ht t (List.mem_cons_of_mem _ h)) (fun x hx => hlt x (List.mem_append_right _ hx)) h2, rfl⟩
  | [], [], _ :: _, _, _, _, h => h.elim
  | [], _ :: _, _, _, _, _, h => h.elim
  | _ :: _, [], _, _, _, _, h => h.elim
  | _ :: _, _ :: _, [], _, _, _, h => h.elim
theorem law_post {f : Func} {s : ChangeSpec} {W' : World} {args : Array Value} {ds gs : List (DataW H)} {before : List MemPlace} {tb : TypeId} (hl : laidOutB P = true) (hpar : ∀ t ∈ f.params.toList, P.readableRec t = true ∧ t < P.types.size)
    (hvars : s.vars = []) (hrt : f.resultTypes = #[tb]) (hb : P.underlying tb = some .bool) (hfn : s.fn H (ds ++ gs) = { results := [.lit (.bool true)], args := ds })
    (hW : DataW.Whole enc P f.params.toList s.vars false W args.toList ds gs before) (hk : Ext W W') : s.post enc P f false true false false W args (.bool true) W' := by
  have hlt := hW.lt
  have hW' := hW
  obtain ⟨p, q, hA, hV, rfl, hfz, hnd⟩ := hW
  have hbel : Below W.heap.size W W' := ⟨hk.os, hk.tape, hk.output, hk.size, fun k h => hk.block k h trivial⟩
  refine ⟨ds, gs, p ++ q, [], p, [], hW', ?_, ?_, ?_, ?_, fun h => by cases h⟩
  · rw [hfn, hrt]
    exact ⟨[], [], ⟨1, by simp [Value.resultList, Value.cells, DataW.trod, hb]⟩, rfl, rfl⟩
  · rw [hfn]
    exact trodAll_stays hl hbel _ _ _ _ hpar (fun x hx => hlt x (List.mem_append_left _ hx)) hA
  · rw [hfn, hvars]; rfl
  · refine ⟨hk.os, hk.output, fun i hi => ?_⟩
    rw [hk.block i hi trivial]
    cases hq : W.heap[i]? with
    | none => rfl
    | some o => cases o <;> simp
end
end Go.Eng
namespace Go.Eng
open Go.ChangeShapes Go.WideShapes Go.ChangeAt Go.RowKit
structure AuT (P : Program) (tA tN tSs tS : TypeId) : Prop where
  v : ((P.underlying tA).bind fun | .struct fs => some (fs.toList.map (·.type)) | _ => none) = some [tN, tSs]
  n : P.underlying tN = some (.int .i64)
  ss : P.underlying tSs = some (.slice tS)
  s : P.underlying tS = some .string
  c1 : P.cellsOf tS = 1
theorem hasAu {P : Program} {tA tN tSs tS : TypeId} (q : AuT P tA tN tSs tS) (d : D) (h : HasT P d tA) : ∃ a : Au, d = a.d := by
  obtain ⟨xs, rfl, hf⟩ := hasT_agg q.v d h
  match xs, hf with
  | [a, b], hf =>
    simp only [HasTF] at hf
    obtain ⟨ha, hb, -⟩ := hf
    obtain ⟨m, rfl, _⟩ := hasT_int q.n _ ha
    obtain ⟨l, rfl, h1⟩ := hasT_lst q.ss _ hb
    obtain ⟨ns, rfl⟩ := hasT_strs q.s l h1
    exact ⟨⟨m, ns⟩, by simp only [Au.d, strsD, q.c1]⟩
  | [], hf => simp [HasTF] at hf
  | [_], hf => simp [HasTF] at hf
  | _ :: _ :: _ :: _, hf => simp [HasTF] at hf
theorem arg_Au {H : Type} {enc : TypeId × Value → H} {P : Program} {W : World} {tA tN tSs tS : TypeId} (q : AuT P tA tN tSs tS) {ts : List TypeId} {fs : Array Field} {v : Value} {d : DataW H} {ps : List MemPlace} {base : Nat} (hp : (ts.all (plain1 P ts)) = true) (ht : tA ∈ ts) (hu : P.underlying tA = some (.struct fs)) (hval : Value.okWide P W .any base tA v)
    (h : DataW.Trod enc P W 0 (fun _ => true) true tA v d ps) : ∃ a : Au, Rd W Univ a.d v := by
  obtain ⟨dd, h1, h2⟩ := arg_struct hp ht hu hval h
  obtain ⟨a, rfl⟩ := hasAu q dd h2
  exact ⟨a, h1⟩
end Go.Eng
namespace Go.Proofs.Ytnobijngkpflcaa
open Go.Eng Go.ChangeShapes Go.WideShapes Go.ChangeAt Go.RowKit
theorem Try.own : ownKnob Try.prog.godebug = none := by kernel_rfl
theorem Try.laidOut : laidOutB Try.prog = true := by kernel_rfl
theorem aut : AuT Try.prog 27 3 23 9 := ⟨by kernel_rfl, Try.underlying3, Try.underlying23, Try.underlying9, by kernel_rfl⟩
set_option maxRecDepth 100000 in
theorem AuthApart_lifted (os : Os) (started : os.Started) (H : Type) (enc : TypeId × Value → H) :
    ReturnsInHanded {} Try.checked os 7 .any (Rows.authApartSpec.pre6 enc Try.prog Try.f7 Rows.authApartRow.domain false) (Rows.authApartSpec.post enc Try.prog Try.f7 false true false false) := by
  refine returnsInHanded_of_change (C := Try.checked) Try.own started (by kernel_rfl) Try.func7
    (ChangeSpec.witness6 (enc := enc) (C := Try.checked) false ⟨#[], #[.agg #[(.int .i64 (0)), (.slice none 0 0)]], []⟩ 8 (by kernel_rfl) (by kernel_rfl) (by kernel_rfl) (by kernel_rfl)) ?_
  intro W base args ds gs before hval0 hW hcnd _
  have hval : ∀ (j : Nat) t v, Try.f7.params[j]? = some t → args[j]? = some v → Value.okWide Try.prog W .any base t v := hval0
  have hW' := hW
  obtain ⟨p, q, hA0, hV, rfl, hfz, hnd⟩ := hW
  have hA : DataW.TrodAll enc Try.prog W 0 (fun _ => true) true Try.f7.params.toList args.toList ds p := hA0
  rw [Try.params7] at hA hval
  obtain ⟨v0, d0, rfl, rfl, h0⟩ := trodAll_one hA
  obtain ⟨rfl, rfl⟩ := trodVars_none hV
  obtain ⟨x0, r0⟩ := arg_Au aut (ts := [27, 3, 23, 9]) (by kernel_rfl) (by decide) Try.underlying27 (hval 0 27 v0 rfl rfl) h0
  refine (AuthApart_ok x0 W Univ v0 r0).mono fun e W' ⟨v, he, hk, hv⟩ => ?_
  subst hv
  exact ⟨_, he, law_post Try.laidOut (of_decide_eq_true (by kernel_rfl)) rfl (tb := 4) (by kernel_rfl) Try.underlying4 rfl hW' hk⟩
theorem authApart_holds : Rows.AuthApartSaid :=
  OpenClaim.holds_of_wide 7 Try.f7 rfl rfl rfl rfl rfl rfl rfl ⟨rfl, rfl, rfl, rfl, rfl⟩ rfl rfl rfl rfl rfl (by kernel_rfl) Try.func7 (by kernel_rfl)
    (of_decide_eq_true (by kernel_rfl)) (by unfold Func.isWrapper; first | (rw [if_pos (by decide +kernel)]; kernel_rfl) | (rw [if_neg (by decide +kernel)]; exact ⟨rfl, rfl⟩))
    (fun os started H enc _ => AuthApart_lifted os started H enc)
end Go.Proofs.Ytnobijngkpflcaa
