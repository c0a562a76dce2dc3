import Derived.Test.YtkhnemiflpjbpaaC9
import Derived.Test.YtkhnemiflpjbpaaG1
import Derived.Test.YtkhnemiflpjbpaaEngK
import Derived.Test.YtkhnemiflpjbpaaPureN
namespace Go.Proofs.Ytkhnemiflpjbpaa
open Go.Eng
set_option maxHeartbeats 4000000 in
theorem ValueNames_ok (w : World) : Calls Try.prog 8 #[] w (Ret w fun u _ => u = .bool true) := by
  refine enter Try.func8 rfl Try.ntmps8 (Nat.le_of_ble_eq_true rfl) fun a0 hsz0 hdf0 harg => ?_
  have kw := Keeps.refl All w
  clear harg
  refine wp_seq_k fun K1 hK1 => ?_
  refine wp_reg All mixed hsz0 hdf0 st_tr trivial ?_
  refine Chain.op (φ := Is (.bool (false))) (st_is _) (sp_assign Has.cst) ?_
  refine Chain.done ⟨by kernel_rfl, fun a2 g W2 hsz2 hdf2 hk hg henv hrest hpsi => ?_⟩
  obtain ⟨-, -⟩ := henv
  replace kw := kw.trans (.of_ext hk)
  clear hrest hk hg hpsi
  refine tail_nil (hK1 _ _ ?_)
  refine wp_seq_k fun K3 hK3 => ?_
  refine wp_seq_k fun K4 hK4 => ?_
  refine wp_reg All mixed hsz2 hdf2 st_tr trivial ?_
  refine Chain.op (φ := Is (.bool (true))) (st_is _) (sp_call0  ent12  (fun g  W hk hgk  => awake_ok W)) ?_
  refine Chain.op (φ := Is (.bool (!true))) (st_is _) (sp_not (Has.loc rfl)) ?_
  refine Chain.op (φ := Is (.bool (!true))) (st_is _) (sp_move (Has.loc rfl)) ?_
  refine Chain.op (φ := Is (.bool ((!true) && true))) (st_is _) (sp_and (Has.loc rfl) (Has.cst.toU)) ?_
  refine Chain.op (φ := Is (.bool ((!true) && true))) (st_is _) (sp_move (Has.loc rfl)) ?_
  refine Chain.op (φ := Is (.bool (((!true) && true) && true))) (st_is _) (sp_and (Has.loc rfl) (Has.cst.toU)) ?_
  refine Chain.op (φ := Is (.bool (((!true) && true) && true))) (st_is _) (sp_move (Has.loc rfl)) ?_
  refine Chain.op (φ := Is (.bool ((((!true) && true) && true) && true))) (st_is _) (sp_and (Has.loc rfl) (Has.cst.toU)) ?_
  refine Chain.op (φ := Is (.bool ((((!true) && true) && true) && true))) (st_is _) (sp_move (Has.loc rfl)) ?_
  refine Chain.op (φ := Is (.bool (((((!true) && true) && true) && true) && true))) (st_is _) (sp_and (Has.loc rfl) (Has.cst.toU)) ?_
  refine Chain.op (φ := Is (.bool (((((!true) && true) && true) && true) && true))) (st_is _) (sp_move (Has.loc rfl)) ?_
  refine Chain.op (φ := Is (.bool ((((((!true) && true) && true) && true) && true) && true))) (st_is _) (sp_and (Has.loc rfl) (Has.cst.toU)) ?_
  refine Chain.done ⟨by kernel_rfl, fun a5 g W5 hsz5 hdf5 hk hg henv hrest hpsi => ?_⟩
  obtain ⟨e36, -, -, -, -, -, -, -, -, -, -, -, -⟩ := henv
  have e36 : sl a5 36 = (.bool ((((((!true) && true) && true) && true) && true) && true)) := e36
  replace kw := kw.trans (.of_ext hk)
  clear hrest hk hg hpsi
  refine tail_nil (hK4 _ _ ?_)
  refine wp_cond_false (e36.trans (congrArg Value.bool (by decide))) ?_
  refine wp_skip (hK3 _ _ ?_)
  refine wp_seq_k fun K6 hK6 => ?_
  refine wp_reg All mixed hsz5 hdf5 st_tr trivial ?_
  refine Chain.op (φ := IsD (SF w []) (V.d (V.mk 4 0 ⟨#[]⟩ [] ([])))) (st_d sub_all) (sp_call1 (φ1 := IsD (SF w []) (valsD ([]))) ent29 (Has.cst.dat (rd_nil _ : Rd W5 (SF w []) (valsD ([])) _) sub_all) (fun g u1 W hk hgk h1 => (list_ok ([]) W _ _ h1).mono (ret_arF kw in_nil hk hgk))) ?_
  refine Chain.alloc z25 ?_
  refine Chain.done ⟨by kernel_rfl, fun a7 g W7 hsz7 hdf7 hk hg henv hrest hpsi => ?_⟩
  obtain ⟨⟨b1_7, e1, hb1, own_b1_7⟩, e37, -⟩ := henv
  have lo_b1_7 : w.heap.size ≤ b1_7 := Nat.le_trans kw.size (hg.lo _ _ hb1)
  have own_b1_7 : Own W7 b1_7 [(.int .u8 (0)), (.int .i64 (0)), (.string (⟨#[]⟩)), (.slice none 0 0), (.slice none 0 0)] 25 := own_b1_7
  obtain ⟨v37_7, ev⟩ : ∃ v, sl a7 37 = v := ⟨_, rfl⟩
  rw [ev] at e37
  have D_v37_7 : Rd W7 (SF w [b1_7]) (V.d (V.mk 4 0 ⟨#[]⟩ [] ([]))) v37_7 := sf_end e37 hk [b1_7] (in_cons ⟨_, hb1⟩ in_nil)
  replace e37 := ev; clear ev
  obtain ⟨cn37_7a, cn37_7c, ci37_7a, ci37_7c, ev, ht_v37_7, D_cn37_7, D_ci37_7⟩ := rdV_out D_v37_7
  subst ev; clear D_v37_7
  replace kw := kw.trans (.of_ext hk)
  clear hrest hk hg hpsi hb1
  refine tail_store (b := b1_7) (o := 0) (v := (.agg #[(.int .u8 ((V.mk 4 0 ⟨#[]⟩ [] ([])).k)), (.int .i64 ((V.mk 4 0 ⟨#[]⟩ [] ([])).n)), (.string ((V.mk 4 0 ⟨#[]⟩ [] ([])).t)), (.slice cn37_7a (((V.mk 4 0 ⟨#[]⟩ [] ([])).ns).length) cn37_7c), (.slice ci37_7a (((V.mk 4 0 ⟨#[]⟩ [] ([])).xs).length) ci37_7c)])) e1 e37 sz25 rfl own_b1_7 (Nat.le_of_ble_eq_true rfl) (all_cons rfl (all_cons rfl (all_cons rfl (all_cons rfl (all_cons rfl all_nil))))) (fun W8 hs own_b1_7 => ?_)
  have own_b1_7 : Own W8 b1_7 [(.int .u8 ((V.mk 4 0 ⟨#[]⟩ [] ([])).k)), (.int .i64 ((V.mk 4 0 ⟨#[]⟩ [] ([])).n)), (.string ((V.mk 4 0 ⟨#[]⟩ [] ([])).t)), (.slice cn37_7a (((V.mk 4 0 ⟨#[]⟩ [] ([])).ns).length) cn37_7c), (.slice ci37_7a (((V.mk 4 0 ⟨#[]⟩ [] ([])).xs).length) ci37_7c)] 25 := own_b1_7
  replace D_cn37_7 := sf_store D_cn37_7 hs (by simp)
  replace D_ci37_7 := sf_store D_ci37_7 hs (by simp)
  replace kw := keeps_store kw hs lo_b1_7
  clear hs
  refine tail_nil (hK6 _ _ ?_)
  refine wp_seq_k fun K9 hK9 => ?_
  refine wp_seq_k fun K10 hK10 => ?_
  refine wp_reg All mixed hsz7 hdf7 st_tr trivial ?_
  refine Chain.op (φ := Is (.int .i64 (1))) (st_is _) (sp_assign Has.cst) ?_
  refine Chain.done ⟨by kernel_rfl, fun a11 g W11 hsz11 hdf11 hk hg henv hrest hpsi => ?_⟩
  obtain ⟨e2, -⟩ := henv
  replace e1 := (hrest 1 rfl).trans e1
  replace D_cn37_7 := D_cn37_7.ext hk
  replace D_ci37_7 := D_ci37_7.ext hk
  have e2 : sl a11 2 = (.int .i64 (1)) := e2
  replace own_b1_7 := own_b1_7.ext hk
  replace kw := kw.trans (.of_ext hk)
  clear hrest hk hg hpsi
  refine tail_nil (hK10 _ _ ?_)
  refine wp_block ?_
  refine wp_loopAt (loopAt ?_)
  refine wp_seq_k fun K12 hK12 => ?_
  refine wp_seq_k fun K13 hK13 => ?_
  refine wp_reg All mixed hsz11 hdf11 st_tr trivial ?_
  refine Chain.op (φ := Is (.int .i64 (1))) (st_is _) (sp_move (Has.base rfl e2)) ?_
  refine Chain.op (φ := Is (.bool (decide ((1 : Int) < (12 : Int))))) (st_is _) (sp_lss (Has.loc rfl) Has.cst) ?_
  refine Chain.done ⟨by kernel_rfl, fun a14 g W14 hsz14 hdf14 hk hg henv hrest hpsi => ?_⟩
  obtain ⟨e39, -, -⟩ := henv
  replace e1 := (hrest 1 rfl).trans e1
  replace e2 := (hrest 2 rfl).trans e2
  replace D_cn37_7 := D_cn37_7.ext hk
  replace D_ci37_7 := D_ci37_7.ext hk
  have e39 : sl a14 39 = (.bool (decide ((1 : Int) < (12 : Int)))) := e39
  replace own_b1_7 := own_b1_7.ext hk
  replace kw := kw.trans (.of_ext hk)
  clear hrest hk hg hpsi
  refine tail_nil (hK13 _ _ ?_)
  refine wp_cond_true (e39.trans (congrArg Value.bool (by decide))) ?_
  refine wp_skip (hK12 _ _ ?_)
  refine wp_seq_k fun K15 hK15 => ?_
  refine wp_block ?_
  refine wp_seq_k fun K16 hK16 => ?_
  refine wp_reg All mixed hsz14 hdf14 st_tr trivial ?_
  refine Chain.op (φ := Is (.int .i64 (1))) (st_is _) (sp_move (Has.base rfl e2)) ?_
  refine Chain.op (φ := Is (.int .i64 (Int.tmod 1 2))) (st_is _) (sp_rem (Has.loc rfl) Has.cst (by decide) (by decide)) ?_
  refine Chain.op (φ := Is (.bool ((Int.tmod 1 2 : Int) == (0 : Int)))) (st_is _) (sp_eql (Has.loc rfl) Has.cst) ?_
  refine Chain.done ⟨by kernel_rfl, fun a17 g W17 hsz17 hdf17 hk hg henv hrest hpsi => ?_⟩
  obtain ⟨e44, -, -, -⟩ := henv
  replace e1 := (hrest 1 rfl).trans e1
  replace e2 := (hrest 2 rfl).trans e2
  replace D_cn37_7 := D_cn37_7.ext hk
  replace D_ci37_7 := D_ci37_7.ext hk
  have e44 : sl a17 44 = (.bool ((Int.tmod 1 2 : Int) == (0 : Int))) := e44
  replace own_b1_7 := own_b1_7.ext hk
  replace kw := kw.trans (.of_ext hk)
  clear hrest hk hg hpsi
  refine tail_nil (hK16 _ _ ?_)
  refine wp_cond_false (e44.trans (congrArg Value.bool (by decide))) ?_
  refine wp_reg All mixed hsz17 hdf17 st_tr trivial ?_
  refine Chain.op (φ := IsD (SF w [b1_7]) (strsD ([⟨#[120]⟩]))) (st_d sub_all) (sp_bsl (ds := [D.str (⟨#[120]⟩)]) Try.underlying22 sz9 z9 (Nat.le_of_ble_eq_true rfl) (Nat.le_of_ble_eq_true rfl) ⟨rfl, (Has.cst.str (Nat.le_of_ble_eq_true rfl)), trivial⟩ rfl (by simp [width]) (fr_sf kw (in_cons own_b1_7.lt in_nil))) ?_
  refine Chain.op (φ := Is (.agg #[(.int .u8 ((V.mk 4 0 ⟨#[]⟩ [] ([])).k)), (.int .i64 ((V.mk 4 0 ⟨#[]⟩ [] ([])).n)), (.string ((V.mk 4 0 ⟨#[]⟩ [] ([])).t)), (.slice cn37_7a (((V.mk 4 0 ⟨#[]⟩ [] ([])).ns).length) cn37_7c), (.slice ci37_7a (((V.mk 4 0 ⟨#[]⟩ [] ([])).xs).length) ci37_7c)])) (st_is _) (sp_loadO (v := (.agg #[(.int .u8 ((V.mk 4 0 ⟨#[]⟩ [] ([])).k)), (.int .i64 ((V.mk 4 0 ⟨#[]⟩ [] ([])).n)), (.string ((V.mk 4 0 ⟨#[]⟩ [] ([])).t)), (.slice cn37_7a (((V.mk 4 0 ⟨#[]⟩ [] ([])).ns).length) cn37_7c), (.slice ci37_7a (((V.mk 4 0 ⟨#[]⟩ [] ([])).xs).length) ci37_7c)])) (Has.base rfl e1) own_b1_7 trivial agg25 sz25 (Nat.le_of_ble_eq_true rfl) (fun h => by first | rfl | cases h) rfl) ?_
  refine Chain.op (φ := IsD (SF w [b1_7]) (valsD ([(V.mk 4 0 ⟨#[]⟩ [] ([]))]))) (st_d sub_all) (sp_bsl (ds := [V.d ((V.mk 4 0 ⟨#[]⟩ [] ([])))]) Try.underlying23 sz25 z25 (Nat.le_of_ble_eq_true rfl) (Nat.le_of_ble_eq_true rfl) ⟨rfl, ((Has.loc rfl).dat (rdV_in (x := (V.mk 4 0 ⟨#[]⟩ [] ([]))) ht_v37_7 D_cn37_7 D_ci37_7 : Rd W17 (SF w [b1_7]) (V.d ((V.mk 4 0 ⟨#[]⟩ [] ([])))) _) sub_all), trivial⟩ rfl (by intro e he; simp at he; rcases he with rfl <;> exact width_V _) (fr_sf kw (in_cons own_b1_7.lt in_nil))) ?_
  refine Chain.op (φ := IsD (SF w [b1_7]) (V.d (dV2))) (st_d sub_all) (sp_call2 (φ1 := IsD (SF w [b1_7]) (strsD ([⟨#[120]⟩]))) (φ2 := IsD (SF w [b1_7]) (valsD ([(V.mk 4 0 ⟨#[]⟩ [] ([]))]))) ent30 (Has.loc rfl) (Has.loc rfl) (fun g u1 u2 W hk hgk h1 h2 => (obj_ok ([⟨#[120]⟩]) ([(V.mk 4 0 ⟨#[]⟩ [] ([]))]) W _ _ _ h1 h2).mono (ret_arF kw (in_cons own_b1_7.lt in_nil) hk hgk))) ?_
  refine Chain.done ⟨by kernel_rfl, fun a18 g W18 hsz18 hdf18 hk hg henv hrest hpsi => ?_⟩
  obtain ⟨e51, -, -, -, -⟩ := henv
  replace e1 := (hrest 1 rfl).trans e1
  replace e2 := (hrest 2 rfl).trans e2
  replace D_cn37_7 := D_cn37_7.ext hk
  replace D_ci37_7 := D_ci37_7.ext hk
  obtain ⟨v51_18, ev⟩ : ∃ v, sl a18 51 = v := ⟨_, rfl⟩
  rw [ev] at e51
  have D_v51_18 : Rd W18 (SF w [b1_7]) (V.d (dV2)) v51_18 := sf_end e51 hk [] in_nil
  replace e51 := ev; clear ev
  obtain ⟨cn51_18a, cn51_18c, ci51_18a, ci51_18c, ev, ht_v51_18, D_cn51_18, D_ci51_18⟩ := rdV_out D_v51_18
  subst ev; clear D_v51_18
  replace own_b1_7 := own_b1_7.ext hk
  replace kw := kw.trans (.of_ext hk)
  clear hrest hk hg hpsi
  refine tail_store (b := b1_7) (o := 0) (v := (.agg #[(.int .u8 (dV2.k)), (.int .i64 (dV2.n)), (.string (dV2.t)), (.slice cn51_18a (dV2.ns.length) cn51_18c), (.slice ci51_18a (dV2.xs.length) ci51_18c)])) e1 e51 sz25 rfl own_b1_7 (Nat.le_of_ble_eq_true rfl) (all_cons rfl (all_cons rfl (all_cons rfl (all_cons rfl (all_cons rfl all_nil))))) (fun W19 hs own_b1_7 => ?_)
  have own_b1_7 : Own W19 b1_7 [(.int .u8 (dV2.k)), (.int .i64 (dV2.n)), (.string (dV2.t)), (.slice cn51_18a (dV2.ns.length) cn51_18c), (.slice ci51_18a (dV2.xs.length) ci51_18c)] 25 := own_b1_7
  replace D_cn37_7 := sf_store D_cn37_7 hs (by simp)
  replace D_ci37_7 := sf_store D_ci37_7 hs (by simp)
  replace D_cn51_18 := sf_store D_cn51_18 hs (by simp)
  replace D_ci51_18 := sf_store D_ci51_18 hs (by simp)
  replace kw := keeps_store kw hs lo_b1_7
  clear hs
  refine tail_nil (hK15 _ _ ?_)
  refine wp_reg All mixed hsz18 hdf18 st_tr trivial ?_
  refine Chain.op (φ := Is (.int .i64 (1))) (st_is _) (sp_move (Has.base rfl e2)) ?_
  refine Chain.op (φ := Is (.int .i64 ((1 : Int) + (1 : Int)))) (st_is _) (sp_add (Has.loc rfl) Has.cst (i64_in (by omega))) ?_
  refine Chain.op (φ := Is (.int .i64 ((1 : Int) + (1 : Int)))) (st_is _) (sp_assign (Has.loc rfl)) ?_
  refine Chain.done ⟨by kernel_rfl, fun a20 g W20 hsz20 hdf20 hk hg henv hrest hpsi => ?_⟩
  obtain ⟨e2, -, -, -⟩ := henv
  replace e1 := (hrest 1 rfl).trans e1
  replace D_cn51_18 := D_cn51_18.ext hk
  replace D_ci51_18 := D_ci51_18.ext hk
  have e2 : sl a20 2 = (.int .i64 (2)) := Eq.trans e2 (congrArg (Value.int .i64) (by decide))
  replace own_b1_7 := own_b1_7.ext hk
  replace kw := kw.trans (.of_ext hk)
  clear hrest hk hg hpsi
  refine tail_nil (loopAt ?_)
  refine wp_seq_k fun K21 hK21 => ?_
  refine wp_seq_k fun K22 hK22 => ?_
  refine wp_reg All mixed hsz20 hdf20 st_tr trivial ?_
  refine Chain.op (φ := Is (.int .i64 (2))) (st_is _) (sp_move (Has.base rfl e2)) ?_
  refine Chain.op (φ := Is (.bool (decide ((2 : Int) < (12 : Int))))) (st_is _) (sp_lss (Has.loc rfl) Has.cst) ?_
  refine Chain.done ⟨by kernel_rfl, fun a23 g W23 hsz23 hdf23 hk hg henv hrest hpsi => ?_⟩
  obtain ⟨e39, -, -⟩ := henv
  replace e1 := (hrest 1 rfl).trans e1
  replace e2 := (hrest 2 rfl).trans e2
  replace D_cn51_18 := D_cn51_18.ext hk
  replace D_ci51_18 := D_ci51_18.ext hk
  have e39 : sl a23 39 = (.bool (decide ((2 : Int) < (12 : Int)))) := e39
  replace own_b1_7 := own_b1_7.ext hk
  replace kw := kw.trans (.of_ext hk)
  clear hrest hk hg hpsi
  refine tail_nil (hK22 _ _ ?_)
  refine wp_cond_true (e39.trans (congrArg Value.bool (by decide))) ?_
  refine wp_skip (hK21 _ _ ?_)
  refine wp_seq_k fun K24 hK24 => ?_
  refine wp_block ?_
  refine wp_seq_k fun K25 hK25 => ?_
  refine wp_reg All mixed hsz23 hdf23 st_tr trivial ?_
  refine Chain.op (φ := Is (.int .i64 (2))) (st_is _) (sp_move (Has.base rfl e2)) ?_
  refine Chain.op (φ := Is (.int .i64 (Int.tmod 2 2))) (st_is _) (sp_rem (Has.loc rfl) Has.cst (by decide) (by decide)) ?_
  refine Chain.op (φ := Is (.bool ((Int.tmod 2 2 : Int) == (0 : Int)))) (st_is _) (sp_eql (Has.loc rfl) Has.cst) ?_
  refine Chain.done ⟨by kernel_rfl, fun a26 g W26 hsz26 hdf26 hk hg henv hrest hpsi => ?_⟩
  obtain ⟨e44, -, -, -⟩ := henv
  replace e1 := (hrest 1 rfl).trans e1
  replace e2 := (hrest 2 rfl).trans e2
  replace D_cn51_18 := D_cn51_18.ext hk
  replace D_ci51_18 := D_ci51_18.ext hk
  have e44 : sl a26 44 = (.bool ((Int.tmod 2 2 : Int) == (0 : Int))) := e44
  replace own_b1_7 := own_b1_7.ext hk
  replace kw := kw.trans (.of_ext hk)
  clear hrest hk hg hpsi
  refine tail_nil (hK25 _ _ ?_)
  refine wp_cond_true (e44.trans (congrArg Value.bool (by decide))) ?_
  refine wp_reg All mixed hsz26 hdf26 st_tr trivial ?_
  refine Chain.op (φ := Is (.agg #[(.int .u8 (dV2.k)), (.int .i64 (dV2.n)), (.string (dV2.t)), (.slice cn51_18a (dV2.ns.length) cn51_18c), (.slice ci51_18a (dV2.xs.length) ci51_18c)])) (st_is _) (sp_loadO (v := (.agg #[(.int .u8 (dV2.k)), (.int .i64 (dV2.n)), (.string (dV2.t)), (.slice cn51_18a (dV2.ns.length) cn51_18c), (.slice ci51_18a (dV2.xs.length) ci51_18c)])) (Has.base rfl e1) own_b1_7 trivial agg25 sz25 (Nat.le_of_ble_eq_true rfl) (fun h => by first | rfl | cases h) rfl) ?_
  refine Chain.op (φ := IsD (SF w [b1_7]) (valsD ([dV2]))) (st_d sub_all) (sp_bsl (ds := [V.d (dV2)]) Try.underlying23 sz25 z25 (Nat.le_of_ble_eq_true rfl) (Nat.le_of_ble_eq_true rfl) ⟨rfl, ((Has.loc rfl).dat (rdV_in (x := dV2) ht_v51_18 D_cn51_18 D_ci51_18 : Rd W26 (SF w [b1_7]) (V.d (dV2)) _) sub_all), trivial⟩ rfl (by intro e he; simp at he; rcases he with rfl <;> exact width_V _) (fr_sf kw (in_cons own_b1_7.lt in_nil))) ?_
  refine Chain.op (φ := IsD (SF w [b1_7]) (V.d (dV3))) (st_d sub_all) (sp_call1 (φ1 := IsD (SF w [b1_7]) (valsD ([dV2]))) ent29 (Has.loc rfl) (fun g u1 W hk hgk h1 => (list_ok ([dV2]) W _ _ h1).mono (ret_arF kw (in_cons own_b1_7.lt in_nil) hk hgk))) ?_
  refine Chain.done ⟨by kernel_rfl, fun a27 g W27 hsz27 hdf27 hk hg henv hrest hpsi => ?_⟩
  obtain ⟨e47, -, -, -⟩ := henv
  replace e1 := (hrest 1 rfl).trans e1
  replace e2 := (hrest 2 rfl).trans e2
  replace D_cn51_18 := D_cn51_18.ext hk
  replace D_ci51_18 := D_ci51_18.ext hk
  obtain ⟨v47_27, ev⟩ : ∃ v, sl a27 47 = v := ⟨_, rfl⟩
  rw [ev] at e47
  have D_v47_27 : Rd W27 (SF w [b1_7]) (V.d (dV3)) v47_27 := sf_end e47 hk [] in_nil
  replace e47 := ev; clear ev
  obtain ⟨cn47_27a, cn47_27c, ci47_27a, ci47_27c, ev, ht_v47_27, D_cn47_27, D_ci47_27⟩ := rdV_out D_v47_27
  subst ev; clear D_v47_27
  replace own_b1_7 := own_b1_7.ext hk
  replace kw := kw.trans (.of_ext hk)
  clear hrest hk hg hpsi
  refine tail_store (b := b1_7) (o := 0) (v := (.agg #[(.int .u8 (dV3.k)), (.int .i64 (dV3.n)), (.string (dV3.t)), (.slice cn47_27a (dV3.ns.length) cn47_27c), (.slice ci47_27a (dV3.xs.length) ci47_27c)])) e1 e47 sz25 rfl own_b1_7 (Nat.le_of_ble_eq_true rfl) (all_cons rfl (all_cons rfl (all_cons rfl (all_cons rfl (all_cons rfl all_nil))))) (fun W28 hs own_b1_7 => ?_)
  have own_b1_7 : Own W28 b1_7 [(.int .u8 (dV3.k)), (.int .i64 (dV3.n)), (.string (dV3.t)), (.slice cn47_27a (dV3.ns.length) cn47_27c), (.slice ci47_27a (dV3.xs.length) ci47_27c)] 25 := own_b1_7
  replace D_cn51_18 := sf_store D_cn51_18 hs (by simp)
  replace D_ci51_18 := sf_store D_ci51_18 hs (by simp)
  replace D_cn47_27 := sf_store D_cn47_27 hs (by simp)
  replace D_ci47_27 := sf_store D_ci47_27 hs (by simp)
  replace kw := keeps_store kw hs lo_b1_7
  clear hs
  refine tail_nil (hK24 _ _ ?_)
  refine wp_reg All mixed hsz27 hdf27 st_tr trivial ?_
  refine Chain.op (φ := Is (.int .i64 (2))) (st_is _) (sp_move (Has.base rfl e2)) ?_
  refine Chain.op (φ := Is (.int .i64 ((2 : Int) + (1 : Int)))) (st_is _) (sp_add (Has.loc rfl) Has.cst (i64_in (by omega))) ?_
  refine Chain.op (φ := Is (.int .i64 ((2 : Int) + (1 : Int)))) (st_is _) (sp_assign (Has.loc rfl)) ?_
  refine Chain.done ⟨by kernel_rfl, fun a29 g W29 hsz29 hdf29 hk hg henv hrest hpsi => ?_⟩
  obtain ⟨e2, -, -, -⟩ := henv
  replace e1 := (hrest 1 rfl).trans e1
  replace D_cn47_27 := D_cn47_27.ext hk
  replace D_ci47_27 := D_ci47_27.ext hk
  have e2 : sl a29 2 = (.int .i64 (3)) := Eq.trans e2 (congrArg (Value.int .i64) (by decide))
  replace own_b1_7 := own_b1_7.ext hk
  replace kw := kw.trans (.of_ext hk)
  clear hrest hk hg hpsi
  refine tail_nil (loopAt ?_)
  refine wp_seq_k fun K30 hK30 => ?_
  refine wp_seq_k fun K31 hK31 => ?_
  refine wp_reg All mixed hsz29 hdf29 st_tr trivial ?_
  refine Chain.op (φ := Is (.int .i64 (3))) (st_is _) (sp_move (Has.base rfl e2)) ?_
  refine Chain.op (φ := Is (.bool (decide ((3 : Int) < (12 : Int))))) (st_is _) (sp_lss (Has.loc rfl) Has.cst) ?_
  refine Chain.done ⟨by kernel_rfl, fun a32 g W32 hsz32 hdf32 hk hg henv hrest hpsi => ?_⟩
  obtain ⟨e39, -, -⟩ := henv
  replace e1 := (hrest 1 rfl).trans e1
  replace e2 := (hrest 2 rfl).trans e2
  replace D_cn47_27 := D_cn47_27.ext hk
  replace D_ci47_27 := D_ci47_27.ext hk
  have e39 : sl a32 39 = (.bool (decide ((3 : Int) < (12 : Int)))) := e39
  replace own_b1_7 := own_b1_7.ext hk
  replace kw := kw.trans (.of_ext hk)
  clear hrest hk hg hpsi
  refine tail_nil (hK31 _ _ ?_)
  refine wp_cond_true (e39.trans (congrArg Value.bool (by decide))) ?_
  refine wp_skip (hK30 _ _ ?_)
  refine wp_seq_k fun K33 hK33 => ?_
  refine wp_block ?_
  refine wp_seq_k fun K34 hK34 => ?_
  refine wp_reg All mixed hsz32 hdf32 st_tr trivial ?_
  refine Chain.op (φ := Is (.int .i64 (3))) (st_is _) (sp_move (Has.base rfl e2)) ?_
  refine Chain.op (φ := Is (.int .i64 (Int.tmod 3 2))) (st_is _) (sp_rem (Has.loc rfl) Has.cst (by decide) (by decide)) ?_
  refine Chain.op (φ := Is (.bool ((Int.tmod 3 2 : Int) == (0 : Int)))) (st_is _) (sp_eql (Has.loc rfl) Has.cst) ?_
  refine Chain.done ⟨by kernel_rfl, fun a35 g W35 hsz35 hdf35 hk hg henv hrest hpsi => ?_⟩
  obtain ⟨e44, -, -, -⟩ := henv
  replace e1 := (hrest 1 rfl).trans e1
  replace e2 := (hrest 2 rfl).trans e2
  replace D_cn47_27 := D_cn47_27.ext hk
  replace D_ci47_27 := D_ci47_27.ext hk
  have e44 : sl a35 44 = (.bool ((Int.tmod 3 2 : Int) == (0 : Int))) := e44
  replace own_b1_7 := own_b1_7.ext hk
  replace kw := kw.trans (.of_ext hk)
  clear hrest hk hg hpsi
  refine tail_nil (hK34 _ _ ?_)
  refine wp_cond_false (e44.trans (congrArg Value.bool (by decide))) ?_
  refine wp_reg All mixed hsz35 hdf35 st_tr trivial ?_
  refine Chain.op (φ := IsD (SF w [b1_7]) (strsD ([⟨#[120]⟩]))) (st_d sub_all) (sp_bsl (ds := [D.str (⟨#[120]⟩)]) Try.underlying22 sz9 z9 (Nat.le_of_ble_eq_true rfl) (Nat.le_of_ble_eq_true rfl) ⟨rfl, (Has.cst.str (Nat.le_of_ble_eq_true rfl)), trivial⟩ rfl (by simp [width]) (fr_sf kw (in_cons own_b1_7.lt in_nil))) ?_
  refine Chain.op (φ := Is (.agg #[(.int .u8 (dV3.k)), (.int .i64 (dV3.n)), (.string (dV3.t)), (.slice cn47_27a (dV3.ns.length) cn47_27c), (.slice ci47_27a (dV3.xs.length) ci47_27c)])) (st_is _) (sp_loadO (v := (.agg #[(.int .u8 (dV3.k)), (.int .i64 (dV3.n)), (.string (dV3.t)), (.slice cn47_27a (dV3.ns.length) cn47_27c), (.slice ci47_27a (dV3.xs.length) ci47_27c)])) (Has.base rfl e1) own_b1_7 trivial agg25 sz25 (Nat.le_of_ble_eq_true rfl) (fun h => by first | rfl | cases h) rfl) ?_
  refine Chain.op (φ := IsD (SF w [b1_7]) (valsD ([dV3]))) (st_d sub_all) (sp_bsl (ds := [V.d (dV3)]) Try.underlying23 sz25 z25 (Nat.le_of_ble_eq_true rfl) (Nat.le_of_ble_eq_true rfl) ⟨rfl, ((Has.loc rfl).dat (rdV_in (x := dV3) ht_v47_27 D_cn47_27 D_ci47_27 : Rd W35 (SF w [b1_7]) (V.d (dV3)) _) sub_all), trivial⟩ rfl (by intro e he; simp at he; rcases he with rfl <;> exact width_V _) (fr_sf kw (in_cons own_b1_7.lt in_nil))) ?_
  refine Chain.op (φ := IsD (SF w [b1_7]) (V.d (dV4))) (st_d sub_all) (sp_call2 (φ1 := IsD (SF w [b1_7]) (strsD ([⟨#[120]⟩]))) (φ2 := IsD (SF w [b1_7]) (valsD ([dV3]))) ent30 (Has.loc rfl) (Has.loc rfl) (fun g u1 u2 W hk hgk h1 h2 => (obj_ok ([⟨#[120]⟩]) ([dV3]) W _ _ _ h1 h2).mono (ret_arF kw (in_cons own_b1_7.lt in_nil) hk hgk))) ?_
  refine Chain.done ⟨by kernel_rfl, fun a36 g W36 hsz36 hdf36 hk hg henv hrest hpsi => ?_⟩
  obtain ⟨e51, -, -, -, -⟩ := henv
  replace e1 := (hrest 1 rfl).trans e1
  replace e2 := (hrest 2 rfl).trans e2
  replace D_cn47_27 := D_cn47_27.ext hk
  replace D_ci47_27 := D_ci47_27.ext hk
  obtain ⟨v51_36, ev⟩ : ∃ v, sl a36 51 = v := ⟨_, rfl⟩
  rw [ev] at e51
  have D_v51_36 : Rd W36 (SF w [b1_7]) (V.d (dV4)) v51_36 := sf_end e51 hk [] in_nil
  replace e51 := ev; clear ev
  obtain ⟨cn51_36a, cn51_36c, ci51_36a, ci51_36c, ev, ht_v51_36, D_cn51_36, D_ci51_36⟩ := rdV_out D_v51_36
  subst ev; clear D_v51_36
  replace own_b1_7 := own_b1_7.ext hk
  replace kw := kw.trans (.of_ext hk)
  clear hrest hk hg hpsi
  refine tail_store (b := b1_7) (o := 0) (v := (.agg #[(.int .u8 (dV4.k)), (.int .i64 (dV4.n)), (.string (dV4.t)), (.slice cn51_36a (dV4.ns.length) cn51_36c), (.slice ci51_36a (dV4.xs.length) ci51_36c)])) e1 e51 sz25 rfl own_b1_7 (Nat.le_of_ble_eq_true rfl) (all_cons rfl (all_cons rfl (all_cons rfl (all_cons rfl (all_cons rfl all_nil))))) (fun W37 hs own_b1_7 => ?_)
  have own_b1_7 : Own W37 b1_7 [(.int .u8 (dV4.k)), (.int .i64 (dV4.n)), (.string (dV4.t)), (.slice cn51_36a (dV4.ns.length) cn51_36c), (.slice ci51_36a (dV4.xs.length) ci51_36c)] 25 := own_b1_7
  replace D_cn47_27 := sf_store D_cn47_27 hs (by simp)
  replace D_ci47_27 := sf_store D_ci47_27 hs (by simp)
  replace D_cn51_36 := sf_store D_cn51_36 hs (by simp)
  replace D_ci51_36 := sf_store D_ci51_36 hs (by simp)
  replace kw := keeps_store kw hs lo_b1_7
  clear hs
  refine tail_nil (hK33 _ _ ?_)
  refine wp_reg All mixed hsz36 hdf36 st_tr trivial ?_
  refine Chain.op (φ := Is (.int .i64 (3))) (st_is _) (sp_move (Has.base rfl e2)) ?_
  refine Chain.op (φ := Is (.int .i64 ((3 : Int) + (1 : Int)))) (st_is _) (sp_add (Has.loc rfl) Has.cst (i64_in (by omega))) ?_
  refine Chain.op (φ := Is (.int .i64 ((3 : Int) + (1 : Int)))) (st_is _) (sp_assign (Has.loc rfl)) ?_
  refine Chain.done ⟨by kernel_rfl, fun a38 g W38 hsz38 hdf38 hk hg henv hrest hpsi => ?_⟩
  obtain ⟨e2, -, -, -⟩ := henv
  replace e1 := (hrest 1 rfl).trans e1
  replace D_cn51_36 := D_cn51_36.ext hk
  replace D_ci51_36 := D_ci51_36.ext hk
  have e2 : sl a38 2 = (.int .i64 (4)) := Eq.trans e2 (congrArg (Value.int .i64) (by decide))
  replace own_b1_7 := own_b1_7.ext hk
  replace kw := kw.trans (.of_ext hk)
  clear hrest hk hg hpsi
  refine tail_nil (loopAt ?_)
  refine wp_seq_k fun K39 hK39 => ?_
  refine wp_seq_k fun K40 hK40 => ?_
  refine wp_reg All mixed hsz38 hdf38 st_tr trivial ?_
  refine Chain.op (φ := Is (.int .i64 (4))) (st_is _) (sp_move (Has.base rfl e2)) ?_
  refine Chain.op (φ := Is (.bool (decide ((4 : Int) < (12 : Int))))) (st_is _) (sp_lss (Has.loc rfl) Has.cst) ?_
  refine Chain.done ⟨by kernel_rfl, fun a41 g W41 hsz41 hdf41 hk hg henv hrest hpsi => ?_⟩
  obtain ⟨e39, -, -⟩ := henv
  replace e1 := (hrest 1 rfl).trans e1
  replace e2 := (hrest 2 rfl).trans e2
  replace D_cn51_36 := D_cn51_36.ext hk
  replace D_ci51_36 := D_ci51_36.ext hk
  have e39 : sl a41 39 = (.bool (decide ((4 : Int) < (12 : Int)))) := e39
  replace own_b1_7 := own_b1_7.ext hk
  replace kw := kw.trans (.of_ext hk)
  clear hrest hk hg hpsi
  refine tail_nil (hK40 _ _ ?_)
  refine wp_cond_true (e39.trans (congrArg Value.bool (by decide))) ?_
  refine wp_skip (hK39 _ _ ?_)
  refine wp_seq_k fun K42 hK42 => ?_
  refine wp_block ?_
  refine wp_seq_k fun K43 hK43 => ?_
  refine wp_reg All mixed hsz41 hdf41 st_tr trivial ?_
  refine Chain.op (φ := Is (.int .i64 (4))) (st_is _) (sp_move (Has.base rfl e2)) ?_
  refine Chain.op (φ := Is (.int .i64 (Int.tmod 4 2))) (st_is _) (sp_rem (Has.loc rfl) Has.cst (by decide) (by decide)) ?_
  refine Chain.op (φ := Is (.bool ((Int.tmod 4 2 : Int) == (0 : Int)))) (st_is _) (sp_eql (Has.loc rfl) Has.cst) ?_
  refine Chain.done ⟨by kernel_rfl, fun a44 g W44 hsz44 hdf44 hk hg henv hrest hpsi => ?_⟩
  obtain ⟨e44, -, -, -⟩ := henv
  replace e1 := (hrest 1 rfl).trans e1
  replace e2 := (hrest 2 rfl).trans e2
  replace D_cn51_36 := D_cn51_36.ext hk
  replace D_ci51_36 := D_ci51_36.ext hk
  have e44 : sl a44 44 = (.bool ((Int.tmod 4 2 : Int) == (0 : Int))) := e44
  replace own_b1_7 := own_b1_7.ext hk
  replace kw := kw.trans (.of_ext hk)
  clear hrest hk hg hpsi
  refine tail_nil (hK43 _ _ ?_)
  refine wp_cond_true (e44.trans (congrArg Value.bool (by decide))) ?_
  refine wp_reg All mixed hsz44 hdf44 st_tr trivial ?_
  refine Chain.op (φ := Is (.agg #[(.int .u8 (dV4.k)), (.int .i64 (dV4.n)), (.string (dV4.t)), (.slice cn51_36a (dV4.ns.length) cn51_36c), (.slice ci51_36a (dV4.xs.length) ci51_36c)])) (st_is _) (sp_loadO (v := (.agg #[(.int .u8 (dV4.k)), (.int .i64 (dV4.n)), (.string (dV4.t)), (.slice cn51_36a (dV4.ns.length) cn51_36c), (.slice ci51_36a (dV4.xs.length) ci51_36c)])) (Has.base rfl e1) own_b1_7 trivial agg25 sz25 (Nat.le_of_ble_eq_true rfl) (fun h => by first | rfl | cases h) rfl) ?_
  refine Chain.op (φ := IsD (SF w [b1_7]) (valsD ([dV4]))) (st_d sub_all) (sp_bsl (ds := [V.d (dV4)]) Try.underlying23 sz25 z25 (Nat.le_of_ble_eq_true rfl) (Nat.le_of_ble_eq_true rfl) ⟨rfl, ((Has.loc rfl).dat (rdV_in (x := dV4) ht_v51_36 D_cn51_36 D_ci51_36 : Rd W44 (SF w [b1_7]) (V.d (dV4)) _) sub_all), trivial⟩ rfl (by intro e he; simp at he; rcases he with rfl <;> exact width_V _) (fr_sf kw (in_cons own_b1_7.lt in_nil))) ?_
  refine Chain.op (φ := IsD (SF w [b1_7]) (V.d (dV5))) (st_d sub_all) (sp_call1 (φ1 := IsD (SF w [b1_7]) (valsD ([dV4]))) ent29 (Has.loc rfl) (fun g u1 W hk hgk h1 => (list_ok ([dV4]) W _ _ h1).mono (ret_arF kw (in_cons own_b1_7.lt in_nil) hk hgk))) ?_
  refine Chain.done ⟨by kernel_rfl, fun a45 g W45 hsz45 hdf45 hk hg henv hrest hpsi => ?_⟩
  obtain ⟨e47, -, -, -⟩ := henv
  replace e1 := (hrest 1 rfl).trans e1
  replace e2 := (hrest 2 rfl).trans e2
  replace D_cn51_36 := D_cn51_36.ext hk
  replace D_ci51_36 := D_ci51_36.ext hk
  obtain ⟨v47_45, ev⟩ : ∃ v, sl a45 47 = v := ⟨_, rfl⟩
  rw [ev] at e47
  have D_v47_45 : Rd W45 (SF w [b1_7]) (V.d (dV5)) v47_45 := sf_end e47 hk [] in_nil
  replace e47 := ev; clear ev
  obtain ⟨cn47_45a, cn47_45c, ci47_45a, ci47_45c, ev, ht_v47_45, D_cn47_45, D_ci47_45⟩ := rdV_out D_v47_45
  subst ev; clear D_v47_45
  replace own_b1_7 := own_b1_7.ext hk
  replace kw := kw.trans (.of_ext hk)
  clear hrest hk hg hpsi
  refine tail_store (b := b1_7) (o := 0) (v := (.agg #[(.int .u8 (dV5.k)), (.int .i64 (dV5.n)), (.string (dV5.t)), (.slice cn47_45a (dV5.ns.length) cn47_45c), (.slice ci47_45a (dV5.xs.length) ci47_45c)])) e1 e47 sz25 rfl own_b1_7 (Nat.le_of_ble_eq_true rfl) (all_cons rfl (all_cons rfl (all_cons rfl (all_cons rfl (all_cons rfl all_nil))))) (fun W46 hs own_b1_7 => ?_)
  have own_b1_7 : Own W46 b1_7 [(.int .u8 (dV5.k)), (.int .i64 (dV5.n)), (.string (dV5.t)), (.slice cn47_45a (dV5.ns.length) cn47_45c), (.slice ci47_45a (dV5.xs.length) ci47_45c)] 25 := own_b1_7
  replace D_cn51_36 := sf_store D_cn51_36 hs (by simp)
  replace D_ci51_36 := sf_store D_ci51_36 hs (by simp)
  replace D_cn47_45 := sf_store D_cn47_45 hs (by simp)
  replace D_ci47_45 := sf_store D_ci47_45 hs (by simp)
  replace kw := keeps_store kw hs lo_b1_7
  clear hs
  refine tail_nil (hK42 _ _ ?_)
  refine wp_reg All mixed hsz45 hdf45 st_tr trivial ?_
  refine Chain.op (φ := Is (.int .i64 (4))) (st_is _) (sp_move (Has.base rfl e2)) ?_
  refine Chain.op (φ := Is (.int .i64 ((4 : Int) + (1 : Int)))) (st_is _) (sp_add (Has.loc rfl) Has.cst (i64_in (by omega))) ?_
  refine Chain.op (φ := Is (.int .i64 ((4 : Int) + (1 : Int)))) (st_is _) (sp_assign (Has.loc rfl)) ?_
  refine Chain.done ⟨by kernel_rfl, fun a47 g W47 hsz47 hdf47 hk hg henv hrest hpsi => ?_⟩
  obtain ⟨e2, -, -, -⟩ := henv
  replace e1 := (hrest 1 rfl).trans e1
  replace D_cn47_45 := D_cn47_45.ext hk
  replace D_ci47_45 := D_ci47_45.ext hk
  have e2 : sl a47 2 = (.int .i64 (5)) := Eq.trans e2 (congrArg (Value.int .i64) (by decide))
  replace own_b1_7 := own_b1_7.ext hk
  replace kw := kw.trans (.of_ext hk)
  clear hrest hk hg hpsi
  refine tail_nil (loopAt ?_)
  refine wp_seq_k fun K48 hK48 => ?_
  refine wp_seq_k fun K49 hK49 => ?_
  refine wp_reg All mixed hsz47 hdf47 st_tr trivial ?_
  refine Chain.op (φ := Is (.int .i64 (5))) (st_is _) (sp_move (Has.base rfl e2)) ?_
  refine Chain.op (φ := Is (.bool (decide ((5 : Int) < (12 : Int))))) (st_is _) (sp_lss (Has.loc rfl) Has.cst) ?_
  refine Chain.done ⟨by kernel_rfl, fun a50 g W50 hsz50 hdf50 hk hg henv hrest hpsi => ?_⟩
  obtain ⟨e39, -, -⟩ := henv
  replace e1 := (hrest 1 rfl).trans e1
  replace e2 := (hrest 2 rfl).trans e2
  replace D_cn47_45 := D_cn47_45.ext hk
  replace D_ci47_45 := D_ci47_45.ext hk
  have e39 : sl a50 39 = (.bool (decide ((5 : Int) < (12 : Int)))) := e39
  replace own_b1_7 := own_b1_7.ext hk
  replace kw := kw.trans (.of_ext hk)
  clear hrest hk hg hpsi
  refine tail_nil (hK49 _ _ ?_)
  refine wp_cond_true (e39.trans (congrArg Value.bool (by decide))) ?_
  refine wp_skip (hK48 _ _ ?_)
  refine wp_seq_k fun K51 hK51 => ?_
  refine wp_block ?_
  refine wp_seq_k fun K52 hK52 => ?_
  refine wp_reg All mixed hsz50 hdf50 st_tr trivial ?_
  refine Chain.op (φ := Is (.int .i64 (5))) (st_is _) (sp_move (Has.base rfl e2)) ?_
  refine Chain.op (φ := Is (.int .i64 (Int.tmod 5 2))) (st_is _) (sp_rem (Has.loc rfl) Has.cst (by decide) (by decide)) ?_
  refine Chain.op (φ := Is (.bool ((Int.tmod 5 2 : Int) == (0 : Int)))) (st_is _) (sp_eql (Has.loc rfl) Has.cst) ?_
  refine Chain.done ⟨by kernel_rfl, fun a53 g W53 hsz53 hdf53 hk hg henv hrest hpsi => ?_⟩
  obtain ⟨e44, -, -, -⟩ := henv
  replace e1 := (hrest 1 rfl).trans e1
  replace e2 := (hrest 2 rfl).trans e2
  replace D_cn47_45 := D_cn47_45.ext hk
  replace D_ci47_45 := D_ci47_45.ext hk
  have e44 : sl a53 44 = (.bool ((Int.tmod 5 2 : Int) == (0 : Int))) := e44
  replace own_b1_7 := own_b1_7.ext hk
  replace kw := kw.trans (.of_ext hk)
  clear hrest hk hg hpsi
  refine tail_nil (hK52 _ _ ?_)
  refine wp_cond_false (e44.trans (congrArg Value.bool (by decide))) ?_
  refine wp_reg All mixed hsz53 hdf53 st_tr trivial ?_
  refine Chain.op (φ := IsD (SF w [b1_7]) (strsD ([⟨#[120]⟩]))) (st_d sub_all) (sp_bsl (ds := [D.str (⟨#[120]⟩)]) Try.underlying22 sz9 z9 (Nat.le_of_ble_eq_true rfl) (Nat.le_of_ble_eq_true rfl) ⟨rfl, (Has.cst.str (Nat.le_of_ble_eq_true rfl)), trivial⟩ rfl (by simp [width]) (fr_sf kw (in_cons own_b1_7.lt in_nil))) ?_
  refine Chain.op (φ := Is (.agg #[(.int .u8 (dV5.k)), (.int .i64 (dV5.n)), (.string (dV5.t)), (.slice cn47_45a (dV5.ns.length) cn47_45c), (.slice ci47_45a (dV5.xs.length) ci47_45c)])) (st_is _) (sp_loadO (v := (.agg #[(.int .u8 (dV5.k)), (.int .i64 (dV5.n)), (.string (dV5.t)), (.slice cn47_45a (dV5.ns.length) cn47_45c), (.slice ci47_45a (dV5.xs.length) ci47_45c)])) (Has.base rfl e1) own_b1_7 trivial agg25 sz25 (Nat.le_of_ble_eq_true rfl) (fun h => by first | rfl | cases h) rfl) ?_
  refine Chain.op (φ := IsD (SF w [b1_7]) (valsD ([dV5]))) (st_d sub_all) (sp_bsl (ds := [V.d (dV5)]) Try.underlying23 sz25 z25 (Nat.le_of_ble_eq_true rfl) (Nat.le_of_ble_eq_true rfl) ⟨rfl, ((Has.loc rfl).dat (rdV_in (x := dV5) ht_v47_45 D_cn47_45 D_ci47_45 : Rd W53 (SF w [b1_7]) (V.d (dV5)) _) sub_all), trivial⟩ rfl (by intro e he; simp at he; rcases he with rfl <;> exact width_V _) (fr_sf kw (in_cons own_b1_7.lt in_nil))) ?_
  refine Chain.op (φ := IsD (SF w [b1_7]) (V.d (dV6))) (st_d sub_all) (sp_call2 (φ1 := IsD (SF w [b1_7]) (strsD ([⟨#[120]⟩]))) (φ2 := IsD (SF w [b1_7]) (valsD ([dV5]))) ent30 (Has.loc rfl) (Has.loc rfl) (fun g u1 u2 W hk hgk h1 h2 => (obj_ok ([⟨#[120]⟩]) ([dV5]) W _ _ _ h1 h2).mono (ret_arF kw (in_cons own_b1_7.lt in_nil) hk hgk))) ?_
  refine Chain.done ⟨by kernel_rfl, fun a54 g W54 hsz54 hdf54 hk hg henv hrest hpsi => ?_⟩
  obtain ⟨e51, -, -, -, -⟩ := henv
  replace e1 := (hrest 1 rfl).trans e1
  replace e2 := (hrest 2 rfl).trans e2
  replace D_cn47_45 := D_cn47_45.ext hk
  replace D_ci47_45 := D_ci47_45.ext hk
  obtain ⟨v51_54, ev⟩ : ∃ v, sl a54 51 = v := ⟨_, rfl⟩
  rw [ev] at e51
  have D_v51_54 : Rd W54 (SF w [b1_7]) (V.d (dV6)) v51_54 := sf_end e51 hk [] in_nil
  replace e51 := ev; clear ev
  obtain ⟨cn51_54a, cn51_54c, ci51_54a, ci51_54c, ev, ht_v51_54, D_cn51_54, D_ci51_54⟩ := rdV_out D_v51_54
  subst ev; clear D_v51_54
  replace own_b1_7 := own_b1_7.ext hk
  replace kw := kw.trans (.of_ext hk)
  clear hrest hk hg hpsi
  refine tail_store (b := b1_7) (o := 0) (v := (.agg #[(.int .u8 (dV6.k)), (.int .i64 (dV6.n)), (.string (dV6.t)), (.slice cn51_54a (dV6.ns.length) cn51_54c), (.slice ci51_54a (dV6.xs.length) ci51_54c)])) e1 e51 sz25 rfl own_b1_7 (Nat.le_of_ble_eq_true rfl) (all_cons rfl (all_cons rfl (all_cons rfl (all_cons rfl (all_cons rfl all_nil))))) (fun W55 hs own_b1_7 => ?_)
  have own_b1_7 : Own W55 b1_7 [(.int .u8 (dV6.k)), (.int .i64 (dV6.n)), (.string (dV6.t)), (.slice cn51_54a (dV6.ns.length) cn51_54c), (.slice ci51_54a (dV6.xs.length) ci51_54c)] 25 := own_b1_7
  replace D_cn47_45 := sf_store D_cn47_45 hs (by simp)
  replace D_ci47_45 := sf_store D_ci47_45 hs (by simp)
  replace D_cn51_54 := sf_store D_cn51_54 hs (by simp)
  replace D_ci51_54 := sf_store D_ci51_54 hs (by simp)
  replace kw := keeps_store kw hs lo_b1_7
  clear hs
  refine tail_nil (hK51 _ _ ?_)
  refine wp_reg All mixed hsz54 hdf54 st_tr trivial ?_
  refine Chain.op (φ := Is (.int .i64 (5))) (st_is _) (sp_move (Has.base rfl e2)) ?_
  refine Chain.op (φ := Is (.int .i64 ((5 : Int) + (1 : Int)))) (st_is _) (sp_add (Has.loc rfl) Has.cst (i64_in (by omega))) ?_
  refine Chain.op (φ := Is (.int .i64 ((5 : Int) + (1 : Int)))) (st_is _) (sp_assign (Has.loc rfl)) ?_
  refine Chain.done ⟨by kernel_rfl, fun a56 g W56 hsz56 hdf56 hk hg henv hrest hpsi => ?_⟩
  obtain ⟨e2, -, -, -⟩ := henv
  replace e1 := (hrest 1 rfl).trans e1
  replace D_cn51_54 := D_cn51_54.ext hk
  replace D_ci51_54 := D_ci51_54.ext hk
  have e2 : sl a56 2 = (.int .i64 (6)) := Eq.trans e2 (congrArg (Value.int .i64) (by decide))
  replace own_b1_7 := own_b1_7.ext hk
  replace kw := kw.trans (.of_ext hk)
  clear hrest hk hg hpsi
  refine tail_nil (loopAt ?_)
  refine wp_seq_k fun K57 hK57 => ?_
  refine wp_seq_k fun K58 hK58 => ?_
  refine wp_reg All mixed hsz56 hdf56 st_tr trivial ?_
  refine Chain.op (φ := Is (.int .i64 (6))) (st_is _) (sp_move (Has.base rfl e2)) ?_
  refine Chain.op (φ := Is (.bool (decide ((6 : Int) < (12 : Int))))) (st_is _) (sp_lss (Has.loc rfl) Has.cst) ?_
  refine Chain.done ⟨by kernel_rfl, fun a59 g W59 hsz59 hdf59 hk hg henv hrest hpsi => ?_⟩
  obtain ⟨e39, -, -⟩ := henv
  replace e1 := (hrest 1 rfl).trans e1
  replace e2 := (hrest 2 rfl).trans e2
  replace D_cn51_54 := D_cn51_54.ext hk
  replace D_ci51_54 := D_ci51_54.ext hk
  have e39 : sl a59 39 = (.bool (decide ((6 : Int) < (12 : Int)))) := e39
  replace own_b1_7 := own_b1_7.ext hk
  replace kw := kw.trans (.of_ext hk)
  clear hrest hk hg hpsi
  refine tail_nil (hK58 _ _ ?_)
  refine wp_cond_true (e39.trans (congrArg Value.bool (by decide))) ?_
  refine wp_skip (hK57 _ _ ?_)
  refine wp_seq_k fun K60 hK60 => ?_
  refine wp_block ?_
  refine wp_seq_k fun K61 hK61 => ?_
  refine wp_reg All mixed hsz59 hdf59 st_tr trivial ?_
  refine Chain.op (φ := Is (.int .i64 (6))) (st_is _) (sp_move (Has.base rfl e2)) ?_
  refine Chain.op (φ := Is (.int .i64 (Int.tmod 6 2))) (st_is _) (sp_rem (Has.loc rfl) Has.cst (by decide) (by decide)) ?_
  refine Chain.op (φ := Is (.bool ((Int.tmod 6 2 : Int) == (0 : Int)))) (st_is _) (sp_eql (Has.loc rfl) Has.cst) ?_
  refine Chain.done ⟨by kernel_rfl, fun a62 g W62 hsz62 hdf62 hk hg henv hrest hpsi => ?_⟩
  obtain ⟨e44, -, -, -⟩ := henv
  replace e1 := (hrest 1 rfl).trans e1
  replace e2 := (hrest 2 rfl).trans e2
  replace D_cn51_54 := D_cn51_54.ext hk
  replace D_ci51_54 := D_ci51_54.ext hk
  have e44 : sl a62 44 = (.bool ((Int.tmod 6 2 : Int) == (0 : Int))) := e44
  replace own_b1_7 := own_b1_7.ext hk
  replace kw := kw.trans (.of_ext hk)
  clear hrest hk hg hpsi
  refine tail_nil (hK61 _ _ ?_)
  refine wp_cond_true (e44.trans (congrArg Value.bool (by decide))) ?_
  refine wp_reg All mixed hsz62 hdf62 st_tr trivial ?_
  refine Chain.op (φ := Is (.agg #[(.int .u8 (dV6.k)), (.int .i64 (dV6.n)), (.string (dV6.t)), (.slice cn51_54a (dV6.ns.length) cn51_54c), (.slice ci51_54a (dV6.xs.length) ci51_54c)])) (st_is _) (sp_loadO (v := (.agg #[(.int .u8 (dV6.k)), (.int .i64 (dV6.n)), (.string (dV6.t)), (.slice cn51_54a (dV6.ns.length) cn51_54c), (.slice ci51_54a (dV6.xs.length) ci51_54c)])) (Has.base rfl e1) own_b1_7 trivial agg25 sz25 (Nat.le_of_ble_eq_true rfl) (fun h => by first | rfl | cases h) rfl) ?_
  refine Chain.op (φ := IsD (SF w [b1_7]) (valsD ([dV6]))) (st_d sub_all) (sp_bsl (ds := [V.d (dV6)]) Try.underlying23 sz25 z25 (Nat.le_of_ble_eq_true rfl) (Nat.le_of_ble_eq_true rfl) ⟨rfl, ((Has.loc rfl).dat (rdV_in (x := dV6) ht_v51_54 D_cn51_54 D_ci51_54 : Rd W62 (SF w [b1_7]) (V.d (dV6)) _) sub_all), trivial⟩ rfl (by intro e he; simp at he; rcases he with rfl <;> exact width_V _) (fr_sf kw (in_cons own_b1_7.lt in_nil))) ?_
  refine Chain.op (φ := IsD (SF w [b1_7]) (V.d (dV7))) (st_d sub_all) (sp_call1 (φ1 := IsD (SF w [b1_7]) (valsD ([dV6]))) ent29 (Has.loc rfl) (fun g u1 W hk hgk h1 => (list_ok ([dV6]) W _ _ h1).mono (ret_arF kw (in_cons own_b1_7.lt in_nil) hk hgk))) ?_
  refine Chain.done ⟨by kernel_rfl, fun a63 g W63 hsz63 hdf63 hk hg henv hrest hpsi => ?_⟩
  obtain ⟨e47, -, -, -⟩ := henv
  replace e1 := (hrest 1 rfl).trans e1
  replace e2 := (hrest 2 rfl).trans e2
  replace D_cn51_54 := D_cn51_54.ext hk
  replace D_ci51_54 := D_ci51_54.ext hk
  obtain ⟨v47_63, ev⟩ : ∃ v, sl a63 47 = v := ⟨_, rfl⟩
  rw [ev] at e47
  have D_v47_63 : Rd W63 (SF w [b1_7]) (V.d (dV7)) v47_63 := sf_end e47 hk [] in_nil
  replace e47 := ev; clear ev
  obtain ⟨cn47_63a, cn47_63c, ci47_63a, ci47_63c, ev, ht_v47_63, D_cn47_63, D_ci47_63⟩ := rdV_out D_v47_63
  subst ev; clear D_v47_63
  replace own_b1_7 := own_b1_7.ext hk
  replace kw := kw.trans (.of_ext hk)
  clear hrest hk hg hpsi
  refine tail_store (b := b1_7) (o := 0) (v := (.agg #[(.int .u8 (dV7.k)), (.int .i64 (dV7.n)), (.string (dV7.t)), (.slice cn47_63a (dV7.ns.length) cn47_63c), (.slice ci47_63a (dV7.xs.length) ci47_63c)])) e1 e47 sz25 rfl own_b1_7 (Nat.le_of_ble_eq_true rfl) (all_cons rfl (all_cons rfl (all_cons rfl (all_cons rfl (all_cons rfl all_nil))))) (fun W64 hs own_b1_7 => ?_)
  have own_b1_7 : Own W64 b1_7 [(.int .u8 (dV7.k)), (.int .i64 (dV7.n)), (.string (dV7.t)), (.slice cn47_63a (dV7.ns.length) cn47_63c), (.slice ci47_63a (dV7.xs.length) ci47_63c)] 25 := own_b1_7
  replace D_cn51_54 := sf_store D_cn51_54 hs (by simp)
  replace D_ci51_54 := sf_store D_ci51_54 hs (by simp)
  replace D_cn47_63 := sf_store D_cn47_63 hs (by simp)
  replace D_ci47_63 := sf_store D_ci47_63 hs (by simp)
  replace kw := keeps_store kw hs lo_b1_7
  clear hs
  refine tail_nil (hK60 _ _ ?_)
  refine wp_reg All mixed hsz63 hdf63 st_tr trivial ?_
  refine Chain.op (φ := Is (.int .i64 (6))) (st_is _) (sp_move (Has.base rfl e2)) ?_
  refine Chain.op (φ := Is (.int .i64 ((6 : Int) + (1 : Int)))) (st_is _) (sp_add (Has.loc rfl) Has.cst (i64_in (by omega))) ?_
  refine Chain.op (φ := Is (.int .i64 ((6 : Int) + (1 : Int)))) (st_is _) (sp_assign (Has.loc rfl)) ?_
  refine Chain.done ⟨by kernel_rfl, fun a65 g W65 hsz65 hdf65 hk hg henv hrest hpsi => ?_⟩
  obtain ⟨e2, -, -, -⟩ := henv
  replace e1 := (hrest 1 rfl).trans e1
  replace D_cn47_63 := D_cn47_63.ext hk
  replace D_ci47_63 := D_ci47_63.ext hk
  have e2 : sl a65 2 = (.int .i64 (7)) := Eq.trans e2 (congrArg (Value.int .i64) (by decide))
  replace own_b1_7 := own_b1_7.ext hk
  replace kw := kw.trans (.of_ext hk)
  clear hrest hk hg hpsi
  refine tail_nil (loopAt ?_)
  refine wp_seq_k fun K66 hK66 => ?_
  refine wp_seq_k fun K67 hK67 => ?_
  refine wp_reg All mixed hsz65 hdf65 st_tr trivial ?_
  refine Chain.op (φ := Is (.int .i64 (7))) (st_is _) (sp_move (Has.base rfl e2)) ?_
  refine Chain.op (φ := Is (.bool (decide ((7 : Int) < (12 : Int))))) (st_is _) (sp_lss (Has.loc rfl) Has.cst) ?_
  refine Chain.done ⟨by kernel_rfl, fun a68 g W68 hsz68 hdf68 hk hg henv hrest hpsi => ?_⟩
  obtain ⟨e39, -, -⟩ := henv
  replace e1 := (hrest 1 rfl).trans e1
  replace e2 := (hrest 2 rfl).trans e2
  replace D_cn47_63 := D_cn47_63.ext hk
  replace D_ci47_63 := D_ci47_63.ext hk
  have e39 : sl a68 39 = (.bool (decide ((7 : Int) < (12 : Int)))) := e39
  replace own_b1_7 := own_b1_7.ext hk
  replace kw := kw.trans (.of_ext hk)
  clear hrest hk hg hpsi
  refine tail_nil (hK67 _ _ ?_)
  refine wp_cond_true (e39.trans (congrArg Value.bool (by decide))) ?_
  refine wp_skip (hK66 _ _ ?_)
  refine wp_seq_k fun K69 hK69 => ?_
  refine wp_block ?_
  refine wp_seq_k fun K70 hK70 => ?_
  refine wp_reg All mixed hsz68 hdf68 st_tr trivial ?_
  refine Chain.op (φ := Is (.int .i64 (7))) (st_is _) (sp_move (Has.base rfl e2)) ?_
  refine Chain.op (φ := Is (.int .i64 (Int.tmod 7 2))) (st_is _) (sp_rem (Has.loc rfl) Has.cst (by decide) (by decide)) ?_
  refine Chain.op (φ := Is (.bool ((Int.tmod 7 2 : Int) == (0 : Int)))) (st_is _) (sp_eql (Has.loc rfl) Has.cst) ?_
  refine Chain.done ⟨by kernel_rfl, fun a71 g W71 hsz71 hdf71 hk hg henv hrest hpsi => ?_⟩
  obtain ⟨e44, -, -, -⟩ := henv
  replace e1 := (hrest 1 rfl).trans e1
  replace e2 := (hrest 2 rfl).trans e2
  replace D_cn47_63 := D_cn47_63.ext hk
  replace D_ci47_63 := D_ci47_63.ext hk
  have e44 : sl a71 44 = (.bool ((Int.tmod 7 2 : Int) == (0 : Int))) := e44
  replace own_b1_7 := own_b1_7.ext hk
  replace kw := kw.trans (.of_ext hk)
  clear hrest hk hg hpsi
  refine tail_nil (hK70 _ _ ?_)
  refine wp_cond_false (e44.trans (congrArg Value.bool (by decide))) ?_
  refine wp_reg All mixed hsz71 hdf71 st_tr trivial ?_
  refine Chain.op (φ := IsD (SF w [b1_7]) (strsD ([⟨#[120]⟩]))) (st_d sub_all) (sp_bsl (ds := [D.str (⟨#[120]⟩)]) Try.underlying22 sz9 z9 (Nat.le_of_ble_eq_true rfl) (Nat.le_of_ble_eq_true rfl) ⟨rfl, (Has.cst.str (Nat.le_of_ble_eq_true rfl)), trivial⟩ rfl (by simp [width]) (fr_sf kw (in_cons own_b1_7.lt in_nil))) ?_
  refine Chain.op (φ := Is (.agg #[(.int .u8 (dV7.k)), (.int .i64 (dV7.n)), (.string (dV7.t)), (.slice cn47_63a (dV7.ns.length) cn47_63c), (.slice ci47_63a (dV7.xs.length) ci47_63c)])) (st_is _) (sp_loadO (v := (.agg #[(.int .u8 (dV7.k)), (.int .i64 (dV7.n)), (.string (dV7.t)), (.slice cn47_63a (dV7.ns.length) cn47_63c), (.slice ci47_63a (dV7.xs.length) ci47_63c)])) (Has.base rfl e1) own_b1_7 trivial agg25 sz25 (Nat.le_of_ble_eq_true rfl) (fun h => by first | rfl | cases h) rfl) ?_
  refine Chain.op (φ := IsD (SF w [b1_7]) (valsD ([dV7]))) (st_d sub_all) (sp_bsl (ds := [V.d (dV7)]) Try.underlying23 sz25 z25 (Nat.le_of_ble_eq_true rfl) (Nat.le_of_ble_eq_true rfl) ⟨rfl, ((Has.loc rfl).dat (rdV_in (x := dV7) ht_v47_63 D_cn47_63 D_ci47_63 : Rd W71 (SF w [b1_7]) (V.d (dV7)) _) sub_all), trivial⟩ rfl (by intro e he; simp at he; rcases he with rfl <;> exact width_V _) (fr_sf kw (in_cons own_b1_7.lt in_nil))) ?_
  refine Chain.op (φ := IsD (SF w [b1_7]) (V.d (dV8))) (st_d sub_all) (sp_call2 (φ1 := IsD (SF w [b1_7]) (strsD ([⟨#[120]⟩]))) (φ2 := IsD (SF w [b1_7]) (valsD ([dV7]))) ent30 (Has.loc rfl) (Has.loc rfl) (fun g u1 u2 W hk hgk h1 h2 => (obj_ok ([⟨#[120]⟩]) ([dV7]) W _ _ _ h1 h2).mono (ret_arF kw (in_cons own_b1_7.lt in_nil) hk hgk))) ?_
  refine Chain.done ⟨by kernel_rfl, fun a72 g W72 hsz72 hdf72 hk hg henv hrest hpsi => ?_⟩
  obtain ⟨e51, -, -, -, -⟩ := henv
  replace e1 := (hrest 1 rfl).trans e1
  replace e2 := (hrest 2 rfl).trans e2
  replace D_cn47_63 := D_cn47_63.ext hk
  replace D_ci47_63 := D_ci47_63.ext hk
  obtain ⟨v51_72, ev⟩ : ∃ v, sl a72 51 = v := ⟨_, rfl⟩
  rw [ev] at e51
  have D_v51_72 : Rd W72 (SF w [b1_7]) (V.d (dV8)) v51_72 := sf_end e51 hk [] in_nil
  replace e51 := ev; clear ev
  obtain ⟨cn51_72a, cn51_72c, ci51_72a, ci51_72c, ev, ht_v51_72, D_cn51_72, D_ci51_72⟩ := rdV_out D_v51_72
  subst ev; clear D_v51_72
  replace own_b1_7 := own_b1_7.ext hk
  replace kw := kw.trans (.of_ext hk)
  clear hrest hk hg hpsi
  refine tail_store (b := b1_7) (o := 0) (v := (.agg #[(.int .u8 (dV8.k)), (.int .i64 (dV8.n)), (.string (dV8.t)), (.slice cn51_72a (dV8.ns.length) cn51_72c), (.slice ci51_72a (dV8.xs.length) ci51_72c)])) e1 e51 sz25 rfl own_b1_7 (Nat.le_of_ble_eq_true rfl) (all_cons rfl (all_cons rfl (all_cons rfl (all_cons rfl (all_cons rfl all_nil))))) (fun W73 hs own_b1_7 => ?_)
  have own_b1_7 : Own W73 b1_7 [(.int .u8 (dV8.k)), (.int .i64 (dV8.n)), (.string (dV8.t)), (.slice cn51_72a (dV8.ns.length) cn51_72c), (.slice ci51_72a (dV8.xs.length) ci51_72c)] 25 := own_b1_7
  replace D_cn47_63 := sf_store D_cn47_63 hs (by simp)
  replace D_ci47_63 := sf_store D_ci47_63 hs (by simp)
  replace D_cn51_72 := sf_store D_cn51_72 hs (by simp)
  replace D_ci51_72 := sf_store D_ci51_72 hs (by simp)
  replace kw := keeps_store kw hs lo_b1_7
  clear hs
  refine tail_nil (hK69 _ _ ?_)
  refine wp_reg All mixed hsz72 hdf72 st_tr trivial ?_
  refine Chain.op (φ := Is (.int .i64 (7))) (st_is _) (sp_move (Has.base rfl e2)) ?_
  refine Chain.op (φ := Is (.int .i64 ((7 : Int) + (1 : Int)))) (st_is _) (sp_add (Has.loc rfl) Has.cst (i64_in (by omega))) ?_
  refine Chain.op (φ := Is (.int .i64 ((7 : Int) + (1 : Int)))) (st_is _) (sp_assign (Has.loc rfl)) ?_
  refine Chain.done ⟨by kernel_rfl, fun a74 g W74 hsz74 hdf74 hk hg henv hrest hpsi => ?_⟩
  obtain ⟨e2, -, -, -⟩ := henv
  replace e1 := (hrest 1 rfl).trans e1
  replace D_cn51_72 := D_cn51_72.ext hk
  replace D_ci51_72 := D_ci51_72.ext hk
  have e2 : sl a74 2 = (.int .i64 (8)) := Eq.trans e2 (congrArg (Value.int .i64) (by decide))
  replace own_b1_7 := own_b1_7.ext hk
  replace kw := kw.trans (.of_ext hk)
  clear hrest hk hg hpsi
  refine tail_nil (loopAt ?_)
  refine wp_seq_k fun K75 hK75 => ?_
  refine wp_seq_k fun K76 hK76 => ?_
  refine wp_reg All mixed hsz74 hdf74 st_tr trivial ?_
  refine Chain.op (φ := Is (.int .i64 (8))) (st_is _) (sp_move (Has.base rfl e2)) ?_
  refine Chain.op (φ := Is (.bool (decide ((8 : Int) < (12 : Int))))) (st_is _) (sp_lss (Has.loc rfl) Has.cst) ?_
  refine Chain.done ⟨by kernel_rfl, fun a77 g W77 hsz77 hdf77 hk hg henv hrest hpsi => ?_⟩
  obtain ⟨e39, -, -⟩ := henv
  replace e1 := (hrest 1 rfl).trans e1
  replace e2 := (hrest 2 rfl).trans e2
  replace D_cn51_72 := D_cn51_72.ext hk
  replace D_ci51_72 := D_ci51_72.ext hk
  have e39 : sl a77 39 = (.bool (decide ((8 : Int) < (12 : Int)))) := e39
  replace own_b1_7 := own_b1_7.ext hk
  replace kw := kw.trans (.of_ext hk)
  clear hrest hk hg hpsi
  refine tail_nil (hK76 _ _ ?_)
  refine wp_cond_true (e39.trans (congrArg Value.bool (by decide))) ?_
  refine wp_skip (hK75 _ _ ?_)
  refine wp_seq_k fun K78 hK78 => ?_
  refine wp_block ?_
  refine wp_seq_k fun K79 hK79 => ?_
  refine wp_reg All mixed hsz77 hdf77 st_tr trivial ?_
  refine Chain.op (φ := Is (.int .i64 (8))) (st_is _) (sp_move (Has.base rfl e2)) ?_
  refine Chain.op (φ := Is (.int .i64 (Int.tmod 8 2))) (st_is _) (sp_rem (Has.loc rfl) Has.cst (by decide) (by decide)) ?_
  refine Chain.op (φ := Is (.bool ((Int.tmod 8 2 : Int) == (0 : Int)))) (st_is _) (sp_eql (Has.loc rfl) Has.cst) ?_
  refine Chain.done ⟨by kernel_rfl, fun a80 g W80 hsz80 hdf80 hk hg henv hrest hpsi => ?_⟩
  obtain ⟨e44, -, -, -⟩ := henv
  replace e1 := (hrest 1 rfl).trans e1
  replace e2 := (hrest 2 rfl).trans e2
  replace D_cn51_72 := D_cn51_72.ext hk
  replace D_ci51_72 := D_ci51_72.ext hk
  have e44 : sl a80 44 = (.bool ((Int.tmod 8 2 : Int) == (0 : Int))) := e44
  replace own_b1_7 := own_b1_7.ext hk
  replace kw := kw.trans (.of_ext hk)
  clear hrest hk hg hpsi
  refine tail_nil (hK79 _ _ ?_)
  refine wp_cond_true (e44.trans (congrArg Value.bool (by decide))) ?_
  refine wp_reg All mixed hsz80 hdf80 st_tr trivial ?_
  refine Chain.op (φ := Is (.agg #[(.int .u8 (dV8.k)), (.int .i64 (dV8.n)), (.string (dV8.t)), (.slice cn51_72a (dV8.ns.length) cn51_72c), (.slice ci51_72a (dV8.xs.length) ci51_72c)])) (st_is _) (sp_loadO (v := (.agg #[(.int .u8 (dV8.k)), (.int .i64 (dV8.n)), (.string (dV8.t)), (.slice cn51_72a (dV8.ns.length) cn51_72c), (.slice ci51_72a (dV8.xs.length) ci51_72c)])) (Has.base rfl e1) own_b1_7 trivial agg25 sz25 (Nat.le_of_ble_eq_true rfl) (fun h => by first | rfl | cases h) rfl) ?_
  refine Chain.op (φ := IsD (SF w [b1_7]) (valsD ([dV8]))) (st_d sub_all) (sp_bsl (ds := [V.d (dV8)]) Try.underlying23 sz25 z25 (Nat.le_of_ble_eq_true rfl) (Nat.le_of_ble_eq_true rfl) ⟨rfl, ((Has.loc rfl).dat (rdV_in (x := dV8) ht_v51_72 D_cn51_72 D_ci51_72 : Rd W80 (SF w [b1_7]) (V.d (dV8)) _) sub_all), trivial⟩ rfl (by intro e he; simp at he; rcases he with rfl <;> exact width_V _) (fr_sf kw (in_cons own_b1_7.lt in_nil))) ?_
  refine Chain.op (φ := IsD (SF w [b1_7]) (V.d (dV9))) (st_d sub_all) (sp_call1 (φ1 := IsD (SF w [b1_7]) (valsD ([dV8]))) ent29 (Has.loc rfl) (fun g u1 W hk hgk h1 => (list_ok ([dV8]) W _ _ h1).mono (ret_arF kw (in_cons own_b1_7.lt in_nil) hk hgk))) ?_
  refine Chain.done ⟨by kernel_rfl, fun a81 g W81 hsz81 hdf81 hk hg henv hrest hpsi => ?_⟩
  obtain ⟨e47, -, -, -⟩ := henv
  replace e1 := (hrest 1 rfl).trans e1
  replace e2 := (hrest 2 rfl).trans e2
  replace D_cn51_72 := D_cn51_72.ext hk
  replace D_ci51_72 := D_ci51_72.ext hk
  obtain ⟨v47_81, ev⟩ : ∃ v, sl a81 47 = v := ⟨_, rfl⟩
  rw [ev] at e47
  have D_v47_81 : Rd W81 (SF w [b1_7]) (V.d (dV9)) v47_81 := sf_end e47 hk [] in_nil
  replace e47 := ev; clear ev
  obtain ⟨cn47_81a, cn47_81c, ci47_81a, ci47_81c, ev, ht_v47_81, D_cn47_81, D_ci47_81⟩ := rdV_out D_v47_81
  subst ev; clear D_v47_81
  replace own_b1_7 := own_b1_7.ext hk
  replace kw := kw.trans (.of_ext hk)
  clear hrest hk hg hpsi
  refine tail_store (b := b1_7) (o := 0) (v := (.agg #[(.int .u8 (dV9.k)), (.int .i64 (dV9.n)), (.string (dV9.t)), (.slice cn47_81a (dV9.ns.length) cn47_81c), (.slice ci47_81a (dV9.xs.length) ci47_81c)])) e1 e47 sz25 rfl own_b1_7 (Nat.le_of_ble_eq_true rfl) (all_cons rfl (all_cons rfl (all_cons rfl (all_cons rfl (all_cons rfl all_nil))))) (fun W82 hs own_b1_7 => ?_)
  have own_b1_7 : Own W82 b1_7 [(.int .u8 (dV9.k)), (.int .i64 (dV9.n)), (.string (dV9.t)), (.slice cn47_81a (dV9.ns.length) cn47_81c), (.slice ci47_81a (dV9.xs.length) ci47_81c)] 25 := own_b1_7
  replace D_cn51_72 := sf_store D_cn51_72 hs (by simp)
  replace D_ci51_72 := sf_store D_ci51_72 hs (by simp)
  replace D_cn47_81 := sf_store D_cn47_81 hs (by simp)
  replace D_ci47_81 := sf_store D_ci47_81 hs (by simp)
  replace kw := keeps_store kw hs lo_b1_7
  clear hs
  refine tail_nil (hK78 _ _ ?_)
  refine wp_reg All mixed hsz81 hdf81 st_tr trivial ?_
  refine Chain.op (φ := Is (.int .i64 (8))) (st_is _) (sp_move (Has.base rfl e2)) ?_
  refine Chain.op (φ := Is (.int .i64 ((8 : Int) + (1 : Int)))) (st_is _) (sp_add (Has.loc rfl) Has.cst (i64_in (by omega))) ?_
  refine Chain.op (φ := Is (.int .i64 ((8 : Int) + (1 : Int)))) (st_is _) (sp_assign (Has.loc rfl)) ?_
  refine Chain.done ⟨by kernel_rfl, fun a83 g W83 hsz83 hdf83 hk hg henv hrest hpsi => ?_⟩
  obtain ⟨e2, -, -, -⟩ := henv
  replace e1 := (hrest 1 rfl).trans e1
  replace D_cn47_81 := D_cn47_81.ext hk
  replace D_ci47_81 := D_ci47_81.ext hk
  have e2 : sl a83 2 = (.int .i64 (9)) := Eq.trans e2 (congrArg (Value.int .i64) (by decide))
  replace own_b1_7 := own_b1_7.ext hk
  replace kw := kw.trans (.of_ext hk)
  clear hrest hk hg hpsi
  refine tail_nil (loopAt ?_)
  refine wp_seq_k fun K84 hK84 => ?_
  refine wp_seq_k fun K85 hK85 => ?_
  refine wp_reg All mixed hsz83 hdf83 st_tr trivial ?_
  refine Chain.op (φ := Is (.int .i64 (9))) (st_is _) (sp_move (Has.base rfl e2)) ?_
  refine Chain.op (φ := Is (.bool (decide ((9 : Int) < (12 : Int))))) (st_is _) (sp_lss (Has.loc rfl) Has.cst) ?_
  refine Chain.done ⟨by kernel_rfl, fun a86 g W86 hsz86 hdf86 hk hg henv hrest hpsi => ?_⟩
  obtain ⟨e39, -, -⟩ := henv
  replace e1 := (hrest 1 rfl).trans e1
  replace e2 := (hrest 2 rfl).trans e2
  replace D_cn47_81 := D_cn47_81.ext hk
  replace D_ci47_81 := D_ci47_81.ext hk
  have e39 : sl a86 39 = (.bool (decide ((9 : Int) < (12 : Int)))) := e39
  replace own_b1_7 := own_b1_7.ext hk
  replace kw := kw.trans (.of_ext hk)
  clear hrest hk hg hpsi
  refine tail_nil (hK85 _ _ ?_)
  refine wp_cond_true (e39.trans (congrArg Value.bool (by decide))) ?_
  refine wp_skip (hK84 _ _ ?_)
  refine wp_seq_k fun K87 hK87 => ?_
  refine wp_block ?_
  refine wp_seq_k fun K88 hK88 => ?_
  refine wp_reg All mixed hsz86 hdf86 st_tr trivial ?_
  refine Chain.op (φ := Is (.int .i64 (9))) (st_is _) (sp_move (Has.base rfl e2)) ?_
  refine Chain.op (φ := Is (.int .i64 (Int.tmod 9 2))) (st_is _) (sp_rem (Has.loc rfl) Has.cst (by decide) (by decide)) ?_
  refine Chain.op (φ := Is (.bool ((Int.tmod 9 2 : Int) == (0 : Int)))) (st_is _) (sp_eql (Has.loc rfl) Has.cst) ?_
  refine Chain.done ⟨by kernel_rfl, fun a89 g W89 hsz89 hdf89 hk hg henv hrest hpsi => ?_⟩
  obtain ⟨e44, -, -, -⟩ := henv
  replace e1 := (hrest 1 rfl).trans e1
  replace e2 := (hrest 2 rfl).trans e2
  replace D_cn47_81 := D_cn47_81.ext hk
  replace D_ci47_81 := D_ci47_81.ext hk
  have e44 : sl a89 44 = (.bool ((Int.tmod 9 2 : Int) == (0 : Int))) := e44
  replace own_b1_7 := own_b1_7.ext hk
  replace kw := kw.trans (.of_ext hk)
  clear hrest hk hg hpsi
  refine tail_nil (hK88 _ _ ?_)
  refine wp_cond_false (e44.trans (congrArg Value.bool (by decide))) ?_
  refine wp_reg All mixed hsz89 hdf89 st_tr trivial ?_
  refine Chain.op (φ := IsD (SF w [b1_7]) (strsD ([⟨#[120]⟩]))) (st_d sub_all) (sp_bsl (ds := [D.str (⟨#[120]⟩)]) Try.underlying22 sz9 z9 (Nat.le_of_ble_eq_true rfl) (Nat.le_of_ble_eq_true rfl) ⟨rfl, (Has.cst.str (Nat.le_of_ble_eq_true rfl)), trivial⟩ rfl (by simp [width]) (fr_sf kw (in_cons own_b1_7.lt in_nil))) ?_
  refine Chain.op (φ := Is (.agg #[(.int .u8 (dV9.k)), (.int .i64 (dV9.n)), (.string (dV9.t)), (.slice cn47_81a (dV9.ns.length) cn47_81c), (.slice ci47_81a (dV9.xs.length) ci47_81c)])) (st_is _) (sp_loadO (v := (.agg #[(.int .u8 (dV9.k)), (.int .i64 (dV9.n)), (.string (dV9.t)), (.slice cn47_81a (dV9.ns.length) cn47_81c), (.slice ci47_81a (dV9.xs.length) ci47_81c)])) (Has.base rfl e1) own_b1_7 trivial agg25 sz25 (Nat.le_of_ble_eq_true rfl) (fun h => by first | rfl | cases h) rfl) ?_
  refine Chain.op (φ := IsD (SF w [b1_7]) (valsD ([dV9]))) (st_d sub_all) (sp_bsl (ds := [V.d (dV9)]) Try.underlying23 sz25 z25 (Nat.le_of_ble_eq_true rfl) (Nat.le_of_ble_eq_true rfl) ⟨rfl, ((Has.loc rfl).dat (rdV_in (x := dV9) ht_v47_81 D_cn47_81 D_ci47_81 : Rd W89 (SF w [b1_7]) (V.d (dV9)) _) sub_all), trivial⟩ rfl (by intro e he; simp at he; rcases he with rfl <;> exact width_V _) (fr_sf kw (in_cons own_b1_7.lt in_nil))) ?_
  refine Chain.op (φ := IsD (SF w [b1_7]) (V.d (dV10))) (st_d sub_all) (sp_call2 (φ1 := IsD (SF w [b1_7]) (strsD ([⟨#[120]⟩]))) (φ2 := IsD (SF w [b1_7]) (valsD ([dV9]))) ent30 (Has.loc rfl) (Has.loc rfl) (fun g u1 u2 W hk hgk h1 h2 => (obj_ok ([⟨#[120]⟩]) ([dV9]) W _ _ _ h1 h2).mono (ret_arF kw (in_cons own_b1_7.lt in_nil) hk hgk))) ?_
  refine Chain.done ⟨by kernel_rfl, fun a90 g W90 hsz90 hdf90 hk hg henv hrest hpsi => ?_⟩
  obtain ⟨e51, -, -, -, -⟩ := henv
  replace e1 := (hrest 1 rfl).trans e1
  replace e2 := (hrest 2 rfl).trans e2
  replace D_cn47_81 := D_cn47_81.ext hk
  replace D_ci47_81 := D_ci47_81.ext hk
  obtain ⟨v51_90, ev⟩ : ∃ v, sl a90 51 = v := ⟨_, rfl⟩
  rw [ev] at e51
  have D_v51_90 : Rd W90 (SF w [b1_7]) (V.d (dV10)) v51_90 := sf_end e51 hk [] in_nil
  replace e51 := ev; clear ev
  obtain ⟨cn51_90a, cn51_90c, ci51_90a, ci51_90c, ev, ht_v51_90, D_cn51_90, D_ci51_90⟩ := rdV_out D_v51_90
  subst ev; clear D_v51_90
  replace own_b1_7 := own_b1_7.ext hk
  replace kw := kw.trans (.of_ext hk)
  clear hrest hk hg hpsi
  refine tail_store (b := b1_7) (o := 0) (v := (.agg #[(.int .u8 (dV10.k)), (.int .i64 (dV10.n)), (.string (dV10.t)), (.slice cn51_90a (dV10.ns.length) cn51_90c), (.slice ci51_90a (dV10.xs.length) ci51_90c)])) e1 e51 sz25 rfl own_b1_7 (Nat.le_of_ble_eq_true rfl) (all_cons rfl (all_cons rfl (all_cons rfl (all_cons rfl (all_cons rfl all_nil))))) (fun W91 hs own_b1_7 => ?_)
  have own_b1_7 : Own W91 b1_7 [(.int .u8 (dV10.k)), (.int .i64 (dV10.n)), (.string (dV10.t)), (.slice cn51_90a (dV10.ns.length) cn51_90c), (.slice ci51_90a (dV10.xs.length) ci51_90c)] 25 := own_b1_7
  replace D_cn47_81 := sf_store D_cn47_81 hs (by simp)
  replace D_ci47_81 := sf_store D_ci47_81 hs (by simp)
  replace D_cn51_90 := sf_store D_cn51_90 hs (by simp)
  replace D_ci51_90 := sf_store D_ci51_90 hs (by simp)
  replace kw := keeps_store kw hs lo_b1_7
  clear hs
  refine tail_nil (hK87 _ _ ?_)
  refine wp_reg All mixed hsz90 hdf90 st_tr trivial ?_
  refine Chain.op (φ := Is (.int .i64 (9))) (st_is _) (sp_move (Has.base rfl e2)) ?_
  refine Chain.op (φ := Is (.int .i64 ((9 : Int) + (1 : Int)))) (st_is _) (sp_add (Has.loc rfl) Has.cst (i64_in (by omega))) ?_
  refine Chain.op (φ := Is (.int .i64 ((9 : Int) + (1 : Int)))) (st_is _) (sp_assign (Has.loc rfl)) ?_
  refine Chain.done ⟨by kernel_rfl, fun a92 g W92 hsz92 hdf92 hk hg henv hrest hpsi => ?_⟩
  obtain ⟨e2, -, -, -⟩ := henv
  replace e1 := (hrest 1 rfl).trans e1
  replace D_cn51_90 := D_cn51_90.ext hk
  replace D_ci51_90 := D_ci51_90.ext hk
  have e2 : sl a92 2 = (.int .i64 (10)) := Eq.trans e2 (congrArg (Value.int .i64) (by decide))
  replace own_b1_7 := own_b1_7.ext hk
  replace kw := kw.trans (.of_ext hk)
  clear hrest hk hg hpsi
  refine tail_nil (loopAt ?_)
  refine wp_seq_k fun K93 hK93 => ?_
  refine wp_seq_k fun K94 hK94 => ?_
  refine wp_reg All mixed hsz92 hdf92 st_tr trivial ?_
  refine Chain.op (φ := Is (.int .i64 (10))) (st_is _) (sp_move (Has.base rfl e2)) ?_
  refine Chain.op (φ := Is (.bool (decide ((10 : Int) < (12 : Int))))) (st_is _) (sp_lss (Has.loc rfl) Has.cst) ?_
  refine Chain.done ⟨by kernel_rfl, fun a95 g W95 hsz95 hdf95 hk hg henv hrest hpsi => ?_⟩
  obtain ⟨e39, -, -⟩ := henv
  replace e1 := (hrest 1 rfl).trans e1
  replace e2 := (hrest 2 rfl).trans e2
  replace D_cn51_90 := D_cn51_90.ext hk
  replace D_ci51_90 := D_ci51_90.ext hk
  have e39 : sl a95 39 = (.bool (decide ((10 : Int) < (12 : Int)))) := e39
  replace own_b1_7 := own_b1_7.ext hk
  replace kw := kw.trans (.of_ext hk)
  clear hrest hk hg hpsi
  refine tail_nil (hK94 _ _ ?_)
  refine wp_cond_true (e39.trans (congrArg Value.bool (by decide))) ?_
  refine wp_skip (hK93 _ _ ?_)
  refine wp_seq_k fun K96 hK96 => ?_
  refine wp_block ?_
  refine wp_seq_k fun K97 hK97 => ?_
  refine wp_reg All mixed hsz95 hdf95 st_tr trivial ?_
  refine Chain.op (φ := Is (.int .i64 (10))) (st_is _) (sp_move (Has.base rfl e2)) ?_
  refine Chain.op (φ := Is (.int .i64 (Int.tmod 10 2))) (st_is _) (sp_rem (Has.loc rfl) Has.cst (by decide) (by decide)) ?_
  refine Chain.op (φ := Is (.bool ((Int.tmod 10 2 : Int) == (0 : Int)))) (st_is _) (sp_eql (Has.loc rfl) Has.cst) ?_
  refine Chain.done ⟨by kernel_rfl, fun a98 g W98 hsz98 hdf98 hk hg henv hrest hpsi => ?_⟩
  obtain ⟨e44, -, -, -⟩ := henv
  replace e1 := (hrest 1 rfl).trans e1
  replace e2 := (hrest 2 rfl).trans e2
  replace D_cn51_90 := D_cn51_90.ext hk
  replace D_ci51_90 := D_ci51_90.ext hk
  have e44 : sl a98 44 = (.bool ((Int.tmod 10 2 : Int) == (0 : Int))) := e44
  replace own_b1_7 := own_b1_7.ext hk
  replace kw := kw.trans (.of_ext hk)
  clear hrest hk hg hpsi
  refine tail_nil (hK97 _ _ ?_)
  refine wp_cond_true (e44.trans (congrArg Value.bool (by decide))) ?_
  refine wp_reg All mixed hsz98 hdf98 st_tr trivial ?_
  refine Chain.op (φ := Is (.agg #[(.int .u8 (dV10.k)), (.int .i64 (dV10.n)), (.string (dV10.t)), (.slice cn51_90a (dV10.ns.length) cn51_90c), (.slice ci51_90a (dV10.xs.length) ci51_90c)])) (st_is _) (sp_loadO (v := (.agg #[(.int .u8 (dV10.k)), (.int .i64 (dV10.n)), (.string (dV10.t)), (.slice cn51_90a (dV10.ns.length) cn51_90c), (.slice ci51_90a (dV10.xs.length) ci51_90c)])) (Has.base rfl e1) own_b1_7 trivial agg25 sz25 (Nat.le_of_ble_eq_true rfl) (fun h => by first | rfl | cases h) rfl) ?_
  refine Chain.op (φ := IsD (SF w [b1_7]) (valsD ([dV10]))) (st_d sub_all) (sp_bsl (ds := [V.d (dV10)]) Try.underlying23 sz25 z25 (Nat.le_of_ble_eq_true rfl) (Nat.le_of_ble_eq_true rfl) ⟨rfl, ((Has.loc rfl).dat (rdV_in (x := dV10) ht_v51_90 D_cn51_90 D_ci51_90 : Rd W98 (SF w [b1_7]) (V.d (dV10)) _) sub_all), trivial⟩ rfl (by intro e he; simp at he; rcases he with rfl <;> exact width_V _) (fr_sf kw (in_cons own_b1_7.lt in_nil))) ?_
  refine Chain.op (φ := IsD (SF w [b1_7]) (V.d (dV11))) (st_d sub_all) (sp_call1 (φ1 := IsD (SF w [b1_7]) (valsD ([dV10]))) ent29 (Has.loc rfl) (fun g u1 W hk hgk h1 => (list_ok ([dV10]) W _ _ h1).mono (ret_arF kw (in_cons own_b1_7.lt in_nil) hk hgk))) ?_
  refine Chain.done ⟨by kernel_rfl, fun a99 g W99 hsz99 hdf99 hk hg henv hrest hpsi => ?_⟩
  obtain ⟨e47, -, -, -⟩ := henv
  replace e1 := (hrest 1 rfl).trans e1
  replace e2 := (hrest 2 rfl).trans e2
  replace D_cn51_90 := D_cn51_90.ext hk
  replace D_ci51_90 := D_ci51_90.ext hk
  obtain ⟨v47_99, ev⟩ : ∃ v, sl a99 47 = v := ⟨_, rfl⟩
  rw [ev] at e47
  have D_v47_99 : Rd W99 (SF w [b1_7]) (V.d (dV11)) v47_99 := sf_end e47 hk [] in_nil
  replace e47 := ev; clear ev
  obtain ⟨cn47_99a, cn47_99c, ci47_99a, ci47_99c, ev, ht_v47_99, D_cn47_99, D_ci47_99⟩ := rdV_out D_v47_99
  subst ev; clear D_v47_99
  replace own_b1_7 := own_b1_7.ext hk
  replace kw := kw.trans (.of_ext hk)
  clear hrest hk hg hpsi
  refine tail_store (b := b1_7) (o := 0) (v := (.agg #[(.int .u8 (dV11.k)), (.int .i64 (dV11.n)), (.string (dV11.t)), (.slice cn47_99a (dV11.ns.length) cn47_99c), (.slice ci47_99a (dV11.xs.length) ci47_99c)])) e1 e47 sz25 rfl own_b1_7 (Nat.le_of_ble_eq_true rfl) (all_cons rfl (all_cons rfl (all_cons rfl (all_cons rfl (all_cons rfl all_nil))))) (fun W100 hs own_b1_7 => ?_)
  have own_b1_7 : Own W100 b1_7 [(.int .u8 (dV11.k)), (.int .i64 (dV11.n)), (.string (dV11.t)), (.slice cn47_99a (dV11.ns.length) cn47_99c), (.slice ci47_99a (dV11.xs.length) ci47_99c)] 25 := own_b1_7
  replace D_cn51_90 := sf_store D_cn51_90 hs (by simp)
  replace D_ci51_90 := sf_store D_ci51_90 hs (by simp)
  replace D_cn47_99 := sf_store D_cn47_99 hs (by simp)
  replace D_ci47_99 := sf_store D_ci47_99 hs (by simp)
  replace kw := keeps_store kw hs lo_b1_7
  clear hs
  refine tail_nil (hK96 _ _ ?_)
  refine wp_reg All mixed hsz99 hdf99 st_tr trivial ?_
  refine Chain.op (φ := Is (.int .i64 (10))) (st_is _) (sp_move (Has.base rfl e2)) ?_
  refine Chain.op (φ := Is (.int .i64 ((10 : Int) + (1 : Int)))) (st_is _) (sp_add (Has.loc rfl) Has.cst (i64_in (by omega))) ?_
  refine Chain.op (φ := Is (.int .i64 ((10 : Int) + (1 : Int)))) (st_is _) (sp_assign (Has.loc rfl)) ?_
  refine Chain.done ⟨by kernel_rfl, fun a101 g W101 hsz101 hdf101 hk hg henv hrest hpsi => ?_⟩
  obtain ⟨e2, -, -, -⟩ := henv
  replace e1 := (hrest 1 rfl).trans e1
  replace D_cn47_99 := D_cn47_99.ext hk
  replace D_ci47_99 := D_ci47_99.ext hk
  have e2 : sl a101 2 = (.int .i64 (11)) := Eq.trans e2 (congrArg (Value.int .i64) (by decide))
  replace own_b1_7 := own_b1_7.ext hk
  replace kw := kw.trans (.of_ext hk)
  clear hrest hk hg hpsi
  refine tail_nil (loopAt ?_)
  refine wp_seq_k fun K102 hK102 => ?_
  refine wp_seq_k fun K103 hK103 => ?_
  refine wp_reg All mixed hsz101 hdf101 st_tr trivial ?_
  refine Chain.op (φ := Is (.int .i64 (11))) (st_is _) (sp_move (Has.base rfl e2)) ?_
  refine Chain.op (φ := Is (.bool (decide ((11 : Int) < (12 : Int))))) (st_is _) (sp_lss (Has.loc rfl) Has.cst) ?_
  refine Chain.done ⟨by kernel_rfl, fun a104 g W104 hsz104 hdf104 hk hg henv hrest hpsi => ?_⟩
  obtain ⟨e39, -, -⟩ := henv
  replace e1 := (hrest 1 rfl).trans e1
  replace e2 := (hrest 2 rfl).trans e2
  replace D_cn47_99 := D_cn47_99.ext hk
  replace D_ci47_99 := D_ci47_99.ext hk
  have e39 : sl a104 39 = (.bool (decide ((11 : Int) < (12 : Int)))) := e39
  replace own_b1_7 := own_b1_7.ext hk
  replace kw := kw.trans (.of_ext hk)
  clear hrest hk hg hpsi
  refine tail_nil (hK103 _ _ ?_)
  refine wp_cond_true (e39.trans (congrArg Value.bool (by decide))) ?_
  refine wp_skip (hK102 _ _ ?_)
  refine wp_seq_k fun K105 hK105 => ?_
  refine wp_block ?_
  refine wp_seq_k fun K106 hK106 => ?_
  refine wp_reg All mixed hsz104 hdf104 st_tr trivial ?_
  refine Chain.op (φ := Is (.int .i64 (11))) (st_is _) (sp_move (Has.base rfl e2)) ?_
  refine Chain.op (φ := Is (.int .i64 (Int.tmod 11 2))) (st_is _) (sp_rem (Has.loc rfl) Has.cst (by decide) (by decide)) ?_
  refine Chain.op (φ := Is (.bool ((Int.tmod 11 2 : Int) == (0 : Int)))) (st_is _) (sp_eql (Has.loc rfl) Has.cst) ?_
  refine Chain.done ⟨by kernel_rfl, fun a107 g W107 hsz107 hdf107 hk hg henv hrest hpsi => ?_⟩
  obtain ⟨e44, -, -, -⟩ := henv
  replace e1 := (hrest 1 rfl).trans e1
  replace e2 := (hrest 2 rfl).trans e2
  replace D_cn47_99 := D_cn47_99.ext hk
  replace D_ci47_99 := D_ci47_99.ext hk
  have e44 : sl a107 44 = (.bool ((Int.tmod 11 2 : Int) == (0 : Int))) := e44
  replace own_b1_7 := own_b1_7.ext hk
  replace kw := kw.trans (.of_ext hk)
  clear hrest hk hg hpsi
  refine tail_nil (hK106 _ _ ?_)
  refine wp_cond_false (e44.trans (congrArg Value.bool (by decide))) ?_
  refine wp_reg All mixed hsz107 hdf107 st_tr trivial ?_
  refine Chain.op (φ := IsD (SF w [b1_7]) (strsD ([⟨#[120]⟩]))) (st_d sub_all) (sp_bsl (ds := [D.str (⟨#[120]⟩)]) Try.underlying22 sz9 z9 (Nat.le_of_ble_eq_true rfl) (Nat.le_of_ble_eq_true rfl) ⟨rfl, (Has.cst.str (Nat.le_of_ble_eq_true rfl)), trivial⟩ rfl (by simp [width]) (fr_sf kw (in_cons own_b1_7.lt in_nil))) ?_
  refine Chain.op (φ := Is (.agg #[(.int .u8 (dV11.k)), (.int .i64 (dV11.n)), (.string (dV11.t)), (.slice cn47_99a (dV11.ns.length) cn47_99c), (.slice ci47_99a (dV11.xs.length) ci47_99c)])) (st_is _) (sp_loadO (v := (.agg #[(.int .u8 (dV11.k)), (.int .i64 (dV11.n)), (.string (dV11.t)), (.slice cn47_99a (dV11.ns.length) cn47_99c), (.slice ci47_99a (dV11.xs.length) ci47_99c)])) (Has.base rfl e1) own_b1_7 trivial agg25 sz25 (Nat.le_of_ble_eq_true rfl) (fun h => by first | rfl | cases h) rfl) ?_
  refine Chain.op (φ := IsD (SF w [b1_7]) (valsD ([dV11]))) (st_d sub_all) (sp_bsl (ds := [V.d (dV11)]) Try.underlying23 sz25 z25 (Nat.le_of_ble_eq_true rfl) (Nat.le_of_ble_eq_true rfl) ⟨rfl, ((Has.loc rfl).dat (rdV_in (x := dV11) ht_v47_99 D_cn47_99 D_ci47_99 : Rd W107 (SF w [b1_7]) (V.d (dV11)) _) sub_all), trivial⟩ rfl (by intro e he; simp at he; rcases he with rfl <;> exact width_V _) (fr_sf kw (in_cons own_b1_7.lt in_nil))) ?_
  refine Chain.op (φ := IsD (SF w [b1_7]) (V.d (dV12))) (st_d sub_all) (sp_call2 (φ1 := IsD (SF w [b1_7]) (strsD ([⟨#[120]⟩]))) (φ2 := IsD (SF w [b1_7]) (valsD ([dV11]))) ent30 (Has.loc rfl) (Has.loc rfl) (fun g u1 u2 W hk hgk h1 h2 => (obj_ok ([⟨#[120]⟩]) ([dV11]) W _ _ _ h1 h2).mono (ret_arF kw (in_cons own_b1_7.lt in_nil) hk hgk))) ?_
  refine Chain.done ⟨by kernel_rfl, fun a108 g W108 hsz108 hdf108 hk hg henv hrest hpsi => ?_⟩
  obtain ⟨e51, -, -, -, -⟩ := henv
  replace e1 := (hrest 1 rfl).trans e1
  replace e2 := (hrest 2 rfl).trans e2
  replace D_cn47_99 := D_cn47_99.ext hk
  replace D_ci47_99 := D_ci47_99.ext hk
  obtain ⟨v51_108, ev⟩ : ∃ v, sl a108 51 = v := ⟨_, rfl⟩
  rw [ev] at e51
  have D_v51_108 : Rd W108 (SF w [b1_7]) (V.d (dV12)) v51_108 := sf_end e51 hk [] in_nil
  replace e51 := ev; clear ev
  obtain ⟨cn51_108a, cn51_108c, ci51_108a, ci51_108c, ev, ht_v51_108, D_cn51_108, D_ci51_108⟩ := rdV_out D_v51_108
  subst ev; clear D_v51_108
  replace own_b1_7 := own_b1_7.ext hk
  replace kw := kw.trans (.of_ext hk)
  clear hrest hk hg hpsi
  refine tail_store (b := b1_7) (o := 0) (v := (.agg #[(.int .u8 (dV12.k)), (.int .i64 (dV12.n)), (.string (dV12.t)), (.slice cn51_108a (dV12.ns.length) cn51_108c), (.slice ci51_108a (dV12.xs.length) ci51_108c)])) e1 e51 sz25 rfl own_b1_7 (Nat.le_of_ble_eq_true rfl) (all_cons rfl (all_cons rfl (all_cons rfl (all_cons rfl (all_cons rfl all_nil))))) (fun W109 hs own_b1_7 => ?_)
  have own_b1_7 : Own W109 b1_7 [(.int .u8 (dV12.k)), (.int .i64 (dV12.n)), (.string (dV12.t)), (.slice cn51_108a (dV12.ns.length) cn51_108c), (.slice ci51_108a (dV12.xs.length) ci51_108c)] 25 := own_b1_7
  replace D_cn47_99 := sf_store D_cn47_99 hs (by simp)
  replace D_ci47_99 := sf_store D_ci47_99 hs (by simp)
  replace D_cn51_108 := sf_store D_cn51_108 hs (by simp)
  replace D_ci51_108 := sf_store D_ci51_108 hs (by simp)
  replace kw := keeps_store kw hs lo_b1_7
  clear hs
  refine tail_nil (hK105 _ _ ?_)
  refine wp_reg All mixed hsz108 hdf108 st_tr trivial ?_
  refine Chain.op (φ := Is (.int .i64 (11))) (st_is _) (sp_move (Has.base rfl e2)) ?_
  refine Chain.op (φ := Is (.int .i64 ((11 : Int) + (1 : Int)))) (st_is _) (sp_add (Has.loc rfl) Has.cst (i64_in (by omega))) ?_
  refine Chain.op (φ := Is (.int .i64 ((11 : Int) + (1 : Int)))) (st_is _) (sp_assign (Has.loc rfl)) ?_
  refine Chain.done ⟨by kernel_rfl, fun a110 g W110 hsz110 hdf110 hk hg henv hrest hpsi => ?_⟩
  obtain ⟨e2, -, -, -⟩ := henv
  replace e1 := (hrest 1 rfl).trans e1
  replace D_cn51_108 := D_cn51_108.ext hk
  replace D_ci51_108 := D_ci51_108.ext hk
  have e2 : sl a110 2 = (.int .i64 (12)) := Eq.trans e2 (congrArg (Value.int .i64) (by decide))
  replace own_b1_7 := own_b1_7.ext hk
  replace kw := kw.trans (.of_ext hk)
  clear hrest hk hg hpsi
  refine tail_nil (loopAt ?_)
  refine wp_seq_k fun K111 hK111 => ?_
  refine wp_seq_k fun K112 hK112 => ?_
  refine wp_reg All mixed hsz110 hdf110 st_tr trivial ?_
  refine Chain.op (φ := Is (.int .i64 (12))) (st_is _) (sp_move (Has.base rfl e2)) ?_
  refine Chain.op (φ := Is (.bool (decide ((12 : Int) < (12 : Int))))) (st_is _) (sp_lss (Has.loc rfl) Has.cst) ?_
  refine Chain.done ⟨by kernel_rfl, fun a113 g W113 hsz113 hdf113 hk hg henv hrest hpsi => ?_⟩
  obtain ⟨e39, -, -⟩ := henv
  replace e1 := (hrest 1 rfl).trans e1
  replace e2 := (hrest 2 rfl).trans e2
  replace D_cn51_108 := D_cn51_108.ext hk
  replace D_ci51_108 := D_ci51_108.ext hk
  have e39 : sl a113 39 = (.bool (decide ((12 : Int) < (12 : Int)))) := e39
  replace own_b1_7 := own_b1_7.ext hk
  replace kw := kw.trans (.of_ext hk)
  clear hrest hk hg hpsi
  refine tail_nil (hK112 _ _ ?_)
  refine wp_cond_false (e39.trans (congrArg Value.bool (by decide))) ?_
  refine wp_exit (hK9 _ _ ?_)
  refine wp_seq_k fun K114 hK114 => ?_
  refine wp_reg All mixed hsz113 hdf113 st_tr trivial ?_
  refine Chain.op (φ := IsArr W113 w.heap.size 25 5 (SF w [b1_7]) (List.replicate (lit 8192) (V.d V.zero)) none) st_arr (sp_mkA (n := (lit 8192)) (zd := (V.d V.zero)) Try.underlying23 inf25 z25 (Nat.le_of_ble_eq_true rfl) rdC_zV Has.cst Has.cst (Nat.le_of_ble_eq_true rfl) (Nat.le_of_ble_eq_true rfl) (Nat.le_of_ble_eq_true rfl) kw.size) ?_
  refine Chain.done ⟨by kernel_rfl, fun a115 g W115 hsz115 hdf115 hk hg henv hrest hpsi => ?_⟩
  obtain ⟨e52, -⟩ := henv
  replace e1 := (hrest 1 rfl).trans e1
  obtain ⟨v52_115, ev⟩ : ∃ v, sl a115 52 = v := ⟨_, rfl⟩
  rw [ev] at e52
  obtain ⟨hd52_115, A_52_115, hf52_115⟩ := e52
  have e52 := ev; clear ev
  replace hf52_115 := row_new hf52_115
  obtain ⟨g52_115, c52_115, ev, hh⟩ := arr_open A_52_115 (by rw [List.length_replicate]; exact Nat.le_of_ble_eq_true rfl)
  rw [List.length_replicate] at ev; subst ev; subst hh
  replace A_52_115 := arrF_new A_52_115 (M' := (blks (some g52_115) ++ (b1_7 :: []))) (fun b hb => (List.mem_append.1 hb).symm)
  replace A_52_115 : Arr W115 w.heap.size 25 5 (SF w (blks (some g52_115) ++ (b1_7 :: []))) (List.map V.d (List.replicate (lit 8192) V.zero)) (.slice (some ⟨g52_115, 0, none⟩) (lit 8192) c52_115) (some g52_115) := by rw [List.map_replicate]; exact A_52_115
  have nb_b1_7_115 : b1_7 ∉ blks (some g52_115) := fun hm => absurd (hf52_115 _ hm) (Nat.not_le.2 own_b1_7.lt)
  replace D_cn51_108 : Rd W115 (SF w (blks (some g52_115) ++ (b1_7 :: []))) (strsD (dV12.ns)) (.slice cn51_108a (dV12.ns.length) cn51_108c) := sf_more D_cn51_108 hk (blks (some g52_115)) hf52_115
  replace D_ci51_108 : Rd W115 (SF w (blks (some g52_115) ++ (b1_7 :: []))) (valsD (dV12.xs)) (.slice ci51_108a (dV12.xs.length) ci51_108c) := sf_more D_ci51_108 hk (blks (some g52_115)) hf52_115
  replace own_b1_7 := own_b1_7.ext hk
  replace kw := kw.trans (.of_ext hk)
  clear hrest hk hg hpsi hf52_115
  refine tail_assign (v := (.slice (some ⟨g52_115, 0, none⟩) (lit 8192) c52_115)) e52 (by rw [hsz115]; exact Nat.le_of_ble_eq_true rfl) (fun a116 hsz116 hdf116 e3 hr => ?_)
  replace hsz116 := hsz116.trans hsz115; replace hdf116 := hdf116.trans hdf115
  replace e1 := (hr 1 (by decide)).trans e1
  replace e52 := (hr 52 (by decide)).trans e52
  clear hr
  refine tail_nil (hK114 _ _ ?_)
  refine wp_seq_k fun K117 hK117 => ?_
  refine wp_seq_k fun K118 hK118 => ?_
  refine wp_reg All mixed hsz116 hdf116 st_tr trivial ?_
  refine Chain.op (φ := Is (.int .i64 (0))) (st_is _) (sp_assign Has.cst) ?_
  refine Chain.done ⟨by kernel_rfl, fun a119 g W119 hsz119 hdf119 hk hg henv hrest hpsi => ?_⟩
  obtain ⟨e4, -⟩ := henv
  replace e1 := (hrest 1 rfl).trans e1
  replace e3 := (hrest 3 rfl).trans e3
  replace A_52_115 := A_52_115.ext hk
  replace D_cn51_108 := D_cn51_108.ext hk
  replace D_ci51_108 := D_ci51_108.ext hk
  have e4 : sl a119 4 = (.int .i64 (0)) := e4
  replace own_b1_7 := own_b1_7.ext hk
  replace kw := kw.trans (.of_ext hk)
  clear hrest hk hg hpsi
  refine tail_nil (hK118 _ _ ?_)
  refine wp_block ?_
  rw [show List.replicate (lit 8192) V.zero = List.replicate 0 (V.mk 2 0 ⟨#[]⟩ [] []) ++ List.replicate (lit 8192 - 0) V.zero by rw [List.replicate_zero, Nat.sub_zero, List.nil_append]] at A_52_115
  refine wp_for (lit 8192) (fun k a W => a.tmps.size = 303 ∧ a.defers = [] ∧ Keeps All w W ∧ sl a 1 = (.pointer (some ⟨b1_7, 0, none⟩)) ∧ sl a 3 = (.slice (some ⟨g52_115, 0, none⟩) (lit 8192) c52_115) ∧ sl a 4 = (.int .i64 ((k : Nat))) ∧ Own W b1_7 [(.int .u8 (dV12.k)), (.int .i64 (dV12.n)), (.string (dV12.t)), (.slice cn51_108a (dV12.ns.length) cn51_108c), (.slice ci51_108a (dV12.xs.length) ci51_108c)] 25 ∧ Rd W (SF w (blks (some g52_115) ++ (b1_7 :: []))) (strsD (dV12.ns)) (.slice cn51_108a (dV12.ns.length) cn51_108c) ∧ Rd W (SF w (blks (some g52_115) ++ (b1_7 :: []))) (valsD (dV12.xs)) (.slice ci51_108a (dV12.xs.length) ci51_108c) ∧ Arr W w.heap.size 25 5 (SF w (blks (some g52_115) ++ (b1_7 :: []))) (List.map V.d (List.replicate k (V.mk 2 0 ⟨#[]⟩ [] []) ++ List.replicate (lit 8192 - k) V.zero)) (.slice (some ⟨g52_115, 0, none⟩) (lit 8192) c52_115) (some g52_115) ∧ b1_7 ∉ blks (some g52_115)) ⟨hsz119, hdf119, kw, e1, e3, (e4.trans (congrArg (Value.int .i64) (rfl))), own_b1_7, D_cn51_108, D_ci51_108, A_52_115, nb_b1_7_115⟩ ?_
  clear kw e1 e3 e4 own_b1_7 D_cn51_108 D_ci51_108 A_52_115
  rintro k a120 W120 hkk ⟨hsz120, hdf120, kw, e1, e3, e4, own_b1_7, D_cn51_108, D_ci51_108, A3_120, nb_b1_7_ro52_115_120⟩
  refine wp_seq_k fun K121 hK121 => ?_
  refine wp_seq_k fun K122 hK122 => ?_
  refine wp_reg All mixed hsz120 hdf120 st_tr trivial ?_
  refine Chain.op (φ := Is (.int .i64 ((k : Nat)))) (st_is _) (sp_move (Has.base rfl e4)) ?_
  refine Chain.op (φ := Is (.slice (some ⟨g52_115, 0, none⟩) (lit 8192) c52_115)) (st_is _) (sp_move (Has.base rfl e3)) ?_
  refine Chain.op (φ := Is (.int .i64 (((lit 8192) : Nat)))) (st_is _) (sp_lenV Try.underlying23 (Has.loc rfl)) ?_
  refine Chain.op (φ := Is (.bool (decide (((k : Nat) : Int) < (((lit 8192) : Nat) : Int))))) (st_is _) (sp_lss (Has.loc rfl) (Has.loc rfl)) ?_
  refine Chain.done ⟨by kernel_rfl, fun a123 g W123 hsz123 hdf123 hk hg henv hrest hpsi => ?_⟩
  obtain ⟨e56, -, -, -, -⟩ := henv
  replace e1 := (hrest 1 rfl).trans e1
  replace e3 := (hrest 3 rfl).trans e3
  replace e4 := (hrest 4 rfl).trans e4
  replace A3_120 := A3_120.ext hk
  replace D_cn51_108 := D_cn51_108.ext hk
  replace D_ci51_108 := D_ci51_108.ext hk
  have e56 : sl a123 56 = (.bool (decide (((k : Nat) : Int) < (((lit 8192) : Nat) : Int)))) := e56
  replace own_b1_7 := own_b1_7.ext hk
  replace kw := kw.trans (.of_ext hk)
  clear hrest hk hg hpsi
  refine tail_nil (hK122 _ _ ?_)
  refine wp_cond_split e56 (fun hc => ?_) (fun hc => ?_)
  · -- T: decide (((k : Nat) : Int) < (((lit 8192) : Nat) : Int))
    have hl8 : lit 8192 = 8192 := rfl
    have hlt : k < lit 8192 := by have := of_decide_eq_true hc; omega
    refine wp_skip (hK121 _ _ ?_)
    refine wp_seq_k fun K124 hK124 => ?_
    refine wp_block ?_
    refine wp_reg All mixed hsz123 hdf123 st_tr trivial ?_
    refine Chain.op (φ := Is (.slice (some ⟨g52_115, 0, none⟩) (lit 8192) c52_115)) (st_is _) (sp_move (Has.base rfl e3)) ?_
    refine Chain.op (φ := Is (.int .i64 ((k : Nat)))) (st_is _) (sp_move (Has.base rfl e4)) ?_
    refine Chain.op (φ := Is (.agg #[(.int .u8 (2)), (.int .i64 (0)), (.string (⟨#[]⟩)), (.slice none 0 0), (.slice none 0 0)])) (st_is _) (sp_call1 (φ1 := Is (.int .i64 (0))) ent18 Has.cst (fun g u1 W hk hgk h1 => by have h1 : u1 = _ := h1; subst u1; exact num_ok (0) W)) ?_
    refine Chain.op (φ := Is (.pointer (some ⟨g52_115, k * 5, none⟩))) (st_is _) (sp_indexRow (i := k) (Has.loc rfl) (Has.loc rfl) Try.underlying23 sz25 (Nat.le_of_ble_eq_true rfl) rfl hlt rfl) ?_
    refine Chain.done ⟨by kernel_rfl, fun a125 g W125 hsz125 hdf125 hk hg henv hrest hpsi => ?_⟩
    obtain ⟨e62, e61, -, -, -⟩ := henv
    replace e1 := (hrest 1 rfl).trans e1
    replace e3 := (hrest 3 rfl).trans e3
    replace e4 := (hrest 4 rfl).trans e4
    replace A3_120 := A3_120.ext hk
    replace D_cn51_108 := D_cn51_108.ext hk
    replace D_ci51_108 := D_ci51_108.ext hk
    have e61 : sl a125 61 = (.agg #[(.int .u8 (2)), (.int .i64 (0)), (.string (⟨#[]⟩)), (.slice none 0 0), (.slice none 0 0)]) := e61
    have e62 : sl a125 62 = (.pointer (some ⟨g52_115, k * 5, none⟩)) := e62
    replace own_b1_7 := own_b1_7.ext hk
    replace kw := kw.trans (.of_ext hk)
    clear hrest hk hg hpsi
    refine tail_storeA (i := k) (dd := V.d (V.mk (2) (0) (⟨#[]⟩) ([]) ([]))) e62 e61 sz25 A3_120 (by rw [List.length_map, List.length_append, List.length_replicate, List.length_replicate]; omega) rfl (sub_neF (by simp [blks])) (rdV_mk (by decide) (rd_nil _) (rd_nil _) : Rd W125 (SF w (blks (some g52_115) ++ (b1_7 :: []))) (V.d (V.mk (2) (0) (⟨#[]⟩) ([]) ([]))) _) (width_V _) (fun W126 hs A_126 => ?_)
    rw [← List.map_set] at A_126
    replace A_126 : Arr W126 w.heap.size 25 5 (SF w (blks (some g52_115) ++ (b1_7 :: []))) (List.map V.d ((List.replicate k (V.mk 2 0 ⟨#[]⟩ [] []) ++ List.replicate (lit 8192 - k) V.zero).set k (V.mk (2) (0) (⟨#[]⟩) ([]) ([])))) (.slice (some ⟨g52_115, 0, none⟩) (lit 8192) c52_115) (some g52_115) := A_126
    replace own_b1_7 := own_store own_b1_7 hs (fun e => nb_b1_7_ro52_115_120 (by simp [blks, e]))
    replace D_cn51_108 := sf_store D_cn51_108 hs (by simp [blks])
    replace D_ci51_108 := sf_store D_ci51_108 hs (by simp [blks])
    replace kw := keeps_store kw hs (A_126.ge _ (by simp [blks]))
    clear hs
    refine tail_nil (hK124 _ _ ?_)
    refine wp_reg All mixed hsz125 hdf125 st_tr trivial ?_
    refine Chain.op (φ := Is (.int .i64 ((k : Nat)))) (st_is _) (sp_move (Has.base rfl e4)) ?_
    refine Chain.op (φ := Is (.int .i64 (((k : Nat) : Int) + (1 : Int)))) (st_is _) (sp_add (Has.loc rfl) Has.cst (i64_in (by omega))) ?_
    refine Chain.op (φ := Is (.int .i64 (((k : Nat) : Int) + (1 : Int)))) (st_is _) (sp_assign (Has.loc rfl)) ?_
    refine Chain.done ⟨by kernel_rfl, fun a127 g W127 hsz127 hdf127 hk hg henv hrest hpsi => ?_⟩
    obtain ⟨e4, -, -, -⟩ := henv
    replace e1 := (hrest 1 rfl).trans e1
    replace e3 := (hrest 3 rfl).trans e3
    replace A_126 := A_126.ext hk
    replace D_cn51_108 := D_cn51_108.ext hk
    replace D_ci51_108 := D_ci51_108.ext hk
    have e4 : sl a127 4 = (.int .i64 (((k : Nat) : Int) + (1 : Int))) := e4
    replace own_b1_7 := own_b1_7.ext hk
    replace kw := kw.trans (.of_ext hk)
    clear hrest hk hg hpsi
    rw [show (List.replicate k (V.mk 2 0 ⟨#[]⟩ [] []) ++ List.replicate (lit 8192 - k) V.zero).set k (V.mk (2) (0) (⟨#[]⟩) ([]) ([])) = List.replicate (k + 1) (V.mk 2 0 ⟨#[]⟩ [] []) ++ List.replicate (lit 8192 - (k + 1)) V.zero by exact rep_set hlt] at A_126
    exact tail_nil ⟨hlt, hsz127, hdf127, kw, e1, e3, (e4.trans (congrArg (Value.int .i64) (by simp))), own_b1_7, D_cn51_108, D_ci51_108, A_126, nb_b1_7_ro52_115_120⟩
  · -- E: decide (((k : Nat) : Int) < (((lit 8192) : Nat) : Int))
    have hge : k = lit 8192 := by have := of_decide_eq_false hc; omega
    rw [show List.replicate k (V.mk 2 0 ⟨#[]⟩ [] []) ++ List.replicate (lit 8192 - k) V.zero = List.replicate (lit 8192) (V.mk 2 0 ⟨#[]⟩ [] []) by rw [hge, Nat.sub_self, List.replicate_zero, List.append_nil]] at A3_120
    have D_v52_115 : Rd W123 (SF w [b1_7]) (valsD (List.replicate (lit 8192) (V.mk 2 0 ⟨#[]⟩ [] []))) (.slice (some ⟨g52_115, 0, none⟩) (lit 8192) c52_115) := arrF_rd A3_120 (ls_skipA (ls_keep ls_nil)) (nin_cons nb_b1_7_ro52_115_120 nin_nil)
    obtain ⟨v52_115a, v52_115c, ev, D2⟩ := rdVs_out D_v52_115
    replace e3 := e3.trans ev
    replace D_v52_115 := D2; clear D2 ev
    replace D_cn51_108 := sf_less (M' := [b1_7]) D_cn51_108 (ls_skipA (ls_keep ls_nil))
    replace D_ci51_108 := sf_less (M' := [b1_7]) D_ci51_108 (ls_skipA (ls_keep ls_nil))
    refine wp_exit (hK117 _ _ ?_)
    refine wp_seq_k fun K128 hK128 => ?_
    refine wp_seq_k fun K129 hK129 => ?_
    refine wp_reg All mixed hsz123 hdf123 st_tr trivial ?_
    refine Chain.op (φ := Is (.agg #[(.int .u8 (dV12.k)), (.int .i64 (dV12.n)), (.string (dV12.t)), (.slice cn51_108a (dV12.ns.length) cn51_108c), (.slice ci51_108a (dV12.xs.length) ci51_108c)])) (st_is _) (sp_loadO (v := (.agg #[(.int .u8 (dV12.k)), (.int .i64 (dV12.n)), (.string (dV12.t)), (.slice cn51_108a (dV12.ns.length) cn51_108c), (.slice ci51_108a (dV12.xs.length) ci51_108c)])) (Has.base rfl e1) own_b1_7 trivial agg25 sz25 (Nat.le_of_ble_eq_true rfl) (fun h => by first | rfl | cases h) rfl) ?_
    refine Chain.op (φ := Is (.bool (mayB (dV12)))) (st_is _) (sp_call1 (φ1 := IsD (SF w [b1_7]) (V.d (dV12))) ent15 ((Has.loc rfl).dat (rdV_in (x := dV12) ht_v51_108 D_cn51_108 D_ci51_108 : Rd W123 (SF w [b1_7]) (V.d (dV12)) _) sub_all) (fun g u1 W hk hgk h1 => May_ok (dV12) (Nat.le_of_ble_eq_true (by kernel_rfl)) W _ _ h1)) ?_
    refine Chain.op (φ := Is (.bool (!(mayB (dV12))))) (st_is _) (sp_not (Has.loc rfl)) ?_
    refine Chain.op (φ := Is (.bool (!(mayB (dV12))))) (st_is _) (sp_move (Has.loc rfl)) ?_
    refine Chain.opE (t := 66) (x := !(mayB (dV12))) (φ := Is (.agg #[(.int .u8 (dV12.k)), (.int .i64 (dV12.n)), (.string (dV12.t)), (.slice cn51_108a (dV12.ns.length) cn51_108c), (.slice ci51_108a (dV12.xs.length) ci51_108c)])) rfl (Has.loc rfl) (st_is _) (fun hg => sp_loadO (v := (.agg #[(.int .u8 (dV12.k)), (.int .i64 (dV12.n)), (.string (dV12.t)), (.slice cn51_108a (dV12.ns.length) cn51_108c), (.slice ci51_108a (dV12.xs.length) ci51_108c)])) (Has.base rfl e1) own_b1_7 trivial agg25 sz25 (Nat.le_of_ble_eq_true rfl) (fun h => by first | rfl | cases h) rfl) ?_
    refine Chain.opE (t := 66) (x := !(mayB (dV12))) (φ := Is (.int .i64 (V.dep (dV12)))) rfl (Has.loc rfl) (st_is _) (fun hg => sp_call1 (φ1 := IsD (SF w [b1_7]) (V.d (dV12))) ent17 (((Has.loc rfl).undE hg).dat (rdV_in (x := dV12) ht_v51_108 D_cn51_108 D_ci51_108 : Rd W123 (SF w [b1_7]) (V.d (dV12)) _) sub_all) (fun g u1 W hk hgk h1 => Depth_ok (dV12) (by first | omega | exact Nat.le_of_ble_eq_true (by kernel_rfl)) W _ _ (fun b o h => h.1.2.1) h1)) ?_
    refine Chain.opE (t := 66) (x := !(mayB (dV12))) (φ := Is (.bool ((V.dep (dV12) : Int) != (12 : Int)))) rfl (Has.loc rfl) (st_is _) (fun hg => sp_neq ((Has.loc rfl).undE hg) Has.cst) ?_
    refine Chain.op (φ := Is (.bool ((!(mayB (dV12))) || ((V.dep (dV12) : Int) != (12 : Int))))) (st_is _) (sp_or (Has.loc rfl) ((Has.loc rfl).weak fun hq => hq)) ?_
    refine Chain.op (φ := Is (.bool ((!(mayB (dV12))) || ((V.dep (dV12) : Int) != (12 : Int))))) (st_is _) (sp_move (Has.loc rfl)) ?_
    refine Chain.opE (t := 71) (x := (!(mayB (dV12))) || ((V.dep (dV12) : Int) != (12 : Int))) (φ := Is (.agg #[(.int .u8 (dV12.k)), (.int .i64 (dV12.n)), (.string (dV12.t)), (.slice cn51_108a (dV12.ns.length) cn51_108c), (.slice ci51_108a (dV12.xs.length) ci51_108c)])) rfl (Has.loc rfl) (st_is _) (fun hg => sp_loadO (v := (.agg #[(.int .u8 (dV12.k)), (.int .i64 (dV12.n)), (.string (dV12.t)), (.slice cn51_108a (dV12.ns.length) cn51_108c), (.slice ci51_108a (dV12.xs.length) ci51_108c)])) (Has.base rfl e1) own_b1_7 trivial agg25 sz25 (Nat.le_of_ble_eq_true rfl) (fun h => by first | rfl | cases h) rfl) ?_
    refine Chain.opE (t := 71) (x := (!(mayB (dV12))) || ((V.dep (dV12) : Int) != (12 : Int))) (φ := IsD (SF w [b1_7]) (valsD ([dV12]))) rfl (Has.loc rfl) (st_d sub_all) (fun hg => sp_bsl (ds := [V.d (dV12)]) Try.underlying23 sz25 z25 (Nat.le_of_ble_eq_true rfl) (Nat.le_of_ble_eq_true rfl) ⟨rfl, (((Has.loc rfl).undE hg).dat (rdV_in (x := dV12) ht_v51_108 D_cn51_108 D_ci51_108 : Rd W123 (SF w [b1_7]) (V.d (dV12)) _) sub_all), trivial⟩ rfl (by intro e he; simp at he; rcases he with rfl <;> exact width_V _) (fr_sf kw (in_cons own_b1_7.lt in_nil))) ?_
    refine Chain.opE (t := 71) (x := (!(mayB (dV12))) || ((V.dep (dV12) : Int) != (12 : Int))) (φ := IsD (SF w [b1_7]) (V.d (V.mk 4 0 ⟨#[]⟩ [] ([dV12])))) rfl (Has.loc rfl) (st_d sub_all) (fun hg => sp_call1 (φ1 := IsD (SF w [b1_7]) (valsD ([dV12]))) ent29 ((Has.loc rfl).undE hg) (fun g u1 W hk hgk h1 => (list_ok ([dV12]) W _ _ h1).mono (ret_arF kw (in_cons own_b1_7.lt in_nil) hk hgk))) ?_
    refine Chain.opE (t := 71) (x := (!(mayB (dV12))) || ((V.dep (dV12) : Int) != (12 : Int))) (φ := Is (.bool (mayB (V.mk 4 0 ⟨#[]⟩ [] ([dV12]))))) rfl (Has.loc rfl) (st_is _) (fun hg => sp_call1 (φ1 := IsD (SF w [b1_7]) (V.d (V.mk 4 0 ⟨#[]⟩ [] ([dV12])))) ent15 ((Has.loc rfl).undE hg) (fun g u1 W hk hgk h1 => May_ok (V.mk 4 0 ⟨#[]⟩ [] ([dV12])) (Nat.le_of_ble_eq_true (by kernel_rfl)) W _ _ h1)) ?_
    refine Chain.op (φ := Is (.bool (((!(mayB (dV12))) || ((V.dep (dV12) : Int) != (12 : Int))) || (mayB (V.mk 4 0 ⟨#[]⟩ [] ([dV12])))))) (st_is _) (sp_or (Has.loc rfl) ((Has.loc rfl).weak fun hq => hq)) ?_
    refine Chain.op (φ := Is (.bool (((!(mayB (dV12))) || ((V.dep (dV12) : Int) != (12 : Int))) || (mayB (V.mk 4 0 ⟨#[]⟩ [] ([dV12])))))) (st_is _) (sp_move (Has.loc rfl)) ?_
    refine Chain.opE (t := 77) (x := ((!(mayB (dV12))) || ((V.dep (dV12) : Int) != (12 : Int))) || (mayB (V.mk 4 0 ⟨#[]⟩ [] ([dV12])))) (φ := Is (.agg #[(.int .u8 (dV12.k)), (.int .i64 (dV12.n)), (.string (dV12.t)), (.slice cn51_108a (dV12.ns.length) cn51_108c), (.slice ci51_108a (dV12.xs.length) ci51_108c)])) rfl (Has.loc rfl) (st_is _) (fun hg => sp_loadO (v := (.agg #[(.int .u8 (dV12.k)), (.int .i64 (dV12.n)), (.string (dV12.t)), (.slice cn51_108a (dV12.ns.length) cn51_108c), (.slice ci51_108a (dV12.xs.length) ci51_108c)])) (Has.base rfl e1) own_b1_7 trivial agg25 sz25 (Nat.le_of_ble_eq_true rfl) (fun h => by first | rfl | cases h) rfl) ?_
    refine Chain.opE (t := 77) (x := ((!(mayB (dV12))) || ((V.dep (dV12) : Int) != (12 : Int))) || (mayB (V.mk 4 0 ⟨#[]⟩ [] ([dV12])))) (φ := IsD (SF w [b1_7]) (valsD ([dV12]))) rfl (Has.loc rfl) (st_d sub_all) (fun hg => sp_bsl (ds := [V.d (dV12)]) Try.underlying23 sz25 z25 (Nat.le_of_ble_eq_true rfl) (Nat.le_of_ble_eq_true rfl) ⟨rfl, (((Has.loc rfl).undE hg).dat (rdV_in (x := dV12) ht_v51_108 D_cn51_108 D_ci51_108 : Rd W123 (SF w [b1_7]) (V.d (dV12)) _) sub_all), trivial⟩ rfl (by intro e he; simp at he; rcases he with rfl <;> exact width_V _) (fr_sf kw (in_cons own_b1_7.lt in_nil))) ?_
    refine Chain.opE (t := 77) (x := ((!(mayB (dV12))) || ((V.dep (dV12) : Int) != (12 : Int))) || (mayB (V.mk 4 0 ⟨#[]⟩ [] ([dV12])))) (φ := IsD (SF w [b1_7]) (V.d (V.mk 4 0 ⟨#[]⟩ [] ([dV12])))) rfl (Has.loc rfl) (st_d sub_all) (fun hg => sp_call1 (φ1 := IsD (SF w [b1_7]) (valsD ([dV12]))) ent29 ((Has.loc rfl).undE hg) (fun g u1 W hk hgk h1 => (list_ok ([dV12]) W _ _ h1).mono (ret_arF kw (in_cons own_b1_7.lt in_nil) hk hgk))) ?_
    refine Chain.opE (t := 77) (x := ((!(mayB (dV12))) || ((V.dep (dV12) : Int) != (12 : Int))) || (mayB (V.mk 4 0 ⟨#[]⟩ [] ([dV12])))) (φ := Is (.int .i64 (V.dep (V.mk 4 0 ⟨#[]⟩ [] ([dV12]))))) rfl (Has.loc rfl) (st_is _) (fun hg => sp_call1 (φ1 := IsD (SF w [b1_7]) (V.d (V.mk 4 0 ⟨#[]⟩ [] ([dV12])))) ent17 ((Has.loc rfl).undE hg) (fun g u1 W hk hgk h1 => Depth_ok (V.mk 4 0 ⟨#[]⟩ [] ([dV12])) (by first | omega | exact Nat.le_of_ble_eq_true (by kernel_rfl)) W _ _ (fun b o h => h.1.2.1) h1)) ?_
    refine Chain.opE (t := 77) (x := ((!(mayB (dV12))) || ((V.dep (dV12) : Int) != (12 : Int))) || (mayB (V.mk 4 0 ⟨#[]⟩ [] ([dV12])))) (φ := Is (.bool ((V.dep (V.mk 4 0 ⟨#[]⟩ [] ([dV12])) : Int) != (13 : Int)))) rfl (Has.loc rfl) (st_is _) (fun hg => sp_neq ((Has.loc rfl).undE hg) Has.cst) ?_
    refine Chain.op (φ := Is (.bool ((((!(mayB (dV12))) || ((V.dep (dV12) : Int) != (12 : Int))) || (mayB (V.mk 4 0 ⟨#[]⟩ [] ([dV12])))) || ((V.dep (V.mk 4 0 ⟨#[]⟩ [] ([dV12])) : Int) != (13 : Int))))) (st_is _) (sp_or (Has.loc rfl) ((Has.loc rfl).weak fun hq => hq)) ?_
    refine Chain.op (φ := Is (.bool ((((!(mayB (dV12))) || ((V.dep (dV12) : Int) != (12 : Int))) || (mayB (V.mk 4 0 ⟨#[]⟩ [] ([dV12])))) || ((V.dep (V.mk 4 0 ⟨#[]⟩ [] ([dV12])) : Int) != (13 : Int))))) (st_is _) (sp_move (Has.loc rfl)) ?_
    refine Chain.opE (t := 84) (x := (((!(mayB (dV12))) || ((V.dep (dV12) : Int) != (12 : Int))) || (mayB (V.mk 4 0 ⟨#[]⟩ [] ([dV12])))) || ((V.dep (V.mk 4 0 ⟨#[]⟩ [] ([dV12])) : Int) != (13 : Int))) (φ := Is (.slice v52_115a ((List.replicate (lit 8192) (V.mk 2 0 ⟨#[]⟩ [] [])).length) v52_115c)) rfl (Has.loc rfl) (st_is _) (fun hg => sp_move (Has.base rfl e3)) ?_
    refine Chain.opE (t := 84) (x := (((!(mayB (dV12))) || ((V.dep (dV12) : Int) != (12 : Int))) || (mayB (V.mk 4 0 ⟨#[]⟩ [] ([dV12])))) || ((V.dep (V.mk 4 0 ⟨#[]⟩ [] ([dV12])) : Int) != (13 : Int))) (φ := IsD (SF w [b1_7]) (valsD ((List.replicate (lit 8192) (V.mk 2 0 ⟨#[]⟩ [] [])).take 8191))) rfl (Has.loc rfl) (st_d sub_all) (fun hg => sp_sliceDV (h := 8191) Try.underlying23 sz25 (((Has.loc rfl).undE hg).dat D_v52_115 sub_all) Has.cst rfl (by rw [List.length_replicate]; exact Nat.le_of_ble_eq_true rfl) (by rw [List.length_replicate]; exact Nat.le_of_ble_eq_true rfl)) ?_
    refine Chain.opE (t := 84) (x := (((!(mayB (dV12))) || ((V.dep (dV12) : Int) != (12 : Int))) || (mayB (V.mk 4 0 ⟨#[]⟩ [] ([dV12])))) || ((V.dep (V.mk 4 0 ⟨#[]⟩ [] ([dV12])) : Int) != (13 : Int))) (φ := IsD (SF w [b1_7]) (V.d (V.mk 4 0 ⟨#[]⟩ [] ((List.replicate (lit 8192) (V.mk 2 0 ⟨#[]⟩ [] [])).take 8191)))) rfl (Has.loc rfl) (st_d sub_all) (fun hg => sp_call1 (φ1 := IsD (SF w [b1_7]) (valsD ((List.replicate (lit 8192) (V.mk 2 0 ⟨#[]⟩ [] [])).take 8191))) ent29 ((Has.loc rfl).undE hg) (fun g u1 W hk hgk h1 => (list_ok ((List.replicate (lit 8192) (V.mk 2 0 ⟨#[]⟩ [] [])).take 8191) W _ _ h1).mono (ret_arF kw (in_cons own_b1_7.lt in_nil) hk hgk))) ?_
    refine Chain.opE (t := 84) (x := (((!(mayB (dV12))) || ((V.dep (dV12) : Int) != (12 : Int))) || (mayB (V.mk 4 0 ⟨#[]⟩ [] ([dV12])))) || ((V.dep (V.mk 4 0 ⟨#[]⟩ [] ([dV12])) : Int) != (13 : Int))) (φ := Is (.bool (mayB (V.mk 4 0 ⟨#[]⟩ [] ((List.replicate (lit 8192) (V.mk 2 0 ⟨#[]⟩ [] [])).take 8191))))) rfl (Has.loc rfl) (st_is _) (fun hg => sp_call1 (φ1 := IsD (SF w [b1_7]) (V.d (V.mk 4 0 ⟨#[]⟩ [] ((List.replicate (lit 8192) (V.mk 2 0 ⟨#[]⟩ [] [])).take 8191)))) ent15 ((Has.loc rfl).undE hg) (fun g u1 W hk hgk h1 => May_ok (V.mk 4 0 ⟨#[]⟩ [] ((List.replicate (lit 8192) (V.mk 2 0 ⟨#[]⟩ [] [])).take 8191)) (nums_cnt_le2 (Nat.le_of_ble_eq_true rfl)) W _ _ h1)) ?_
    refine Chain.opE (t := 84) (x := (((!(mayB (dV12))) || ((V.dep (dV12) : Int) != (12 : Int))) || (mayB (V.mk 4 0 ⟨#[]⟩ [] ([dV12])))) || ((V.dep (V.mk 4 0 ⟨#[]⟩ [] ([dV12])) : Int) != (13 : Int))) (φ := Is (.bool (!(mayB (V.mk 4 0 ⟨#[]⟩ [] ((List.replicate (lit 8192) (V.mk 2 0 ⟨#[]⟩ [] [])).take 8191)))))) rfl (Has.loc rfl) (st_is _) (fun hg => sp_not ((Has.loc rfl).undE hg)) ?_
    refine Chain.op (φ := Is (.bool (((((!(mayB (dV12))) || ((V.dep (dV12) : Int) != (12 : Int))) || (mayB (V.mk 4 0 ⟨#[]⟩ [] ([dV12])))) || ((V.dep (V.mk 4 0 ⟨#[]⟩ [] ([dV12])) : Int) != (13 : Int))) || (!(mayB (V.mk 4 0 ⟨#[]⟩ [] ((List.replicate (lit 8192) (V.mk 2 0 ⟨#[]⟩ [] [])).take 8191))))))) (st_is _) (sp_or (Has.loc rfl) ((Has.loc rfl).weak fun hq => hq)) ?_
    refine Chain.op (φ := Is (.bool (((((!(mayB (dV12))) || ((V.dep (dV12) : Int) != (12 : Int))) || (mayB (V.mk 4 0 ⟨#[]⟩ [] ([dV12])))) || ((V.dep (V.mk 4 0 ⟨#[]⟩ [] ([dV12])) : Int) != (13 : Int))) || (!(mayB (V.mk 4 0 ⟨#[]⟩ [] ((List.replicate (lit 8192) (V.mk 2 0 ⟨#[]⟩ [] [])).take 8191))))))) (st_is _) (sp_move (Has.loc rfl)) ?_
    refine Chain.opE (t := 91) (x := ((((!(mayB (dV12))) || ((V.dep (dV12) : Int) != (12 : Int))) || (mayB (V.mk 4 0 ⟨#[]⟩ [] ([dV12])))) || ((V.dep (V.mk 4 0 ⟨#[]⟩ [] ([dV12])) : Int) != (13 : Int))) || (!(mayB (V.mk 4 0 ⟨#[]⟩ [] ((List.replicate (lit 8192) (V.mk 2 0 ⟨#[]⟩ [] [])).take 8191))))) (φ := Is (.slice v52_115a ((List.replicate (lit 8192) (V.mk 2 0 ⟨#[]⟩ [] [])).length) v52_115c)) rfl (Has.loc rfl) (st_is _) (fun hg => sp_move (Has.base rfl e3)) ?_
    refine Chain.opE (t := 91) (x := ((((!(mayB (dV12))) || ((V.dep (dV12) : Int) != (12 : Int))) || (mayB (V.mk 4 0 ⟨#[]⟩ [] ([dV12])))) || ((V.dep (V.mk 4 0 ⟨#[]⟩ [] ([dV12])) : Int) != (13 : Int))) || (!(mayB (V.mk 4 0 ⟨#[]⟩ [] ((List.replicate (lit 8192) (V.mk 2 0 ⟨#[]⟩ [] [])).take 8191))))) (φ := IsD (SF w [b1_7]) (V.d (V.mk 4 0 ⟨#[]⟩ [] (List.replicate (lit 8192) (V.mk 2 0 ⟨#[]⟩ [] []))))) rfl (Has.loc rfl) (st_d sub_all) (fun hg => sp_call1 (φ1 := IsD (SF w [b1_7]) (valsD (List.replicate (lit 8192) (V.mk 2 0 ⟨#[]⟩ [] [])))) ent29 (((Has.loc rfl).undE hg).dat D_v52_115 sub_all) (fun g u1 W hk hgk h1 => (list_ok (List.replicate (lit 8192) (V.mk 2 0 ⟨#[]⟩ [] [])) W _ _ h1).mono (ret_arF kw (in_cons own_b1_7.lt in_nil) hk hgk))) ?_
    refine Chain.opE (t := 91) (x := ((((!(mayB (dV12))) || ((V.dep (dV12) : Int) != (12 : Int))) || (mayB (V.mk 4 0 ⟨#[]⟩ [] ([dV12])))) || ((V.dep (V.mk 4 0 ⟨#[]⟩ [] ([dV12])) : Int) != (13 : Int))) || (!(mayB (V.mk 4 0 ⟨#[]⟩ [] ((List.replicate (lit 8192) (V.mk 2 0 ⟨#[]⟩ [] [])).take 8191))))) (φ := Is (.bool (mayB (V.mk 4 0 ⟨#[]⟩ [] (List.replicate (lit 8192) (V.mk 2 0 ⟨#[]⟩ [] [])))))) rfl (Has.loc rfl) (st_is _) (fun hg => sp_call1 (φ1 := IsD (SF w [b1_7]) (V.d (V.mk 4 0 ⟨#[]⟩ [] (List.replicate (lit 8192) (V.mk 2 0 ⟨#[]⟩ [] []))))) ent15 ((Has.loc rfl).undE hg) (fun g u1 W hk hgk h1 => May_ok (V.mk 4 0 ⟨#[]⟩ [] (List.replicate (lit 8192) (V.mk 2 0 ⟨#[]⟩ [] []))) (nums_cnt_le (Nat.le_of_ble_eq_true rfl)) W _ _ h1)) ?_
    refine Chain.op (φ := _) (st_is _) (sp_or (Has.loc rfl) ((Has.loc rfl).weak fun hq => hq)) ?_
    refine Chain.op (φ := _) (st_is _) (sp_move (Has.loc rfl)) ?_
    refine Chain.opE (t := 96) (x := _) (φ := Is (.slice v52_115a ((List.replicate (lit 8192) (V.mk 2 0 ⟨#[]⟩ [] [])).length) v52_115c)) rfl (Has.loc rfl) (st_is _) (fun hg => sp_move (Has.base rfl e3)) ?_
    refine Chain.opE (t := 96) (x := _) (φ := IsD (SF w [b1_7]) (V.d (V.mk 4 0 ⟨#[]⟩ [] (List.replicate (lit 8192) (V.mk 2 0 ⟨#[]⟩ [] []))))) rfl (Has.loc rfl) (st_d sub_all) (fun hg => sp_call1 (φ1 := IsD (SF w [b1_7]) (valsD (List.replicate (lit 8192) (V.mk 2 0 ⟨#[]⟩ [] [])))) ent29 (((Has.loc rfl).undE hg).dat D_v52_115 sub_all) (fun g u1 W hk hgk h1 => (list_ok (List.replicate (lit 8192) (V.mk 2 0 ⟨#[]⟩ [] [])) W _ _ h1).mono (ret_arF kw (in_cons own_b1_7.lt in_nil) hk hgk))) ?_
    refine Chain.opE (t := 96) (x := _) (φ := Is (.int .i64 (V.cnt (V.mk 4 0 ⟨#[]⟩ [] (List.replicate (lit 8192) (V.mk 2 0 ⟨#[]⟩ [] [])))))) rfl (Has.loc rfl) (st_is _) (fun hg => sp_call1 (φ1 := IsD (SF w [b1_7]) (V.d (V.mk 4 0 ⟨#[]⟩ [] (List.replicate (lit 8192) (V.mk 2 0 ⟨#[]⟩ [] []))))) ent16 ((Has.loc rfl).undE hg) (fun g u1 W hk hgk h1 => Count_ok (V.mk 4 0 ⟨#[]⟩ [] (List.replicate (lit 8192) (V.mk 2 0 ⟨#[]⟩ [] []))) (nums_cnt_le (Nat.le_of_ble_eq_true rfl)) W _ _ (fun b o h => h.1.2.1) h1)) ?_
    refine Chain.opE (t := 96) (x := _) (φ := Is (.bool ((V.cnt (V.mk 4 0 ⟨#[]⟩ [] (List.replicate (lit 8192) (V.mk 2 0 ⟨#[]⟩ [] []))) : Int) != (8193 : Int)))) rfl (Has.loc rfl) (st_is _) (fun hg => sp_neq ((Has.loc rfl).undE hg) Has.cst) ?_
    refine Chain.op (φ := _) (st_is _) (sp_or (Has.loc rfl) ((Has.loc rfl).weak fun hq => hq)) ?_
    refine Chain.done ⟨by kernel_rfl, fun a130 g W130 hsz130 hdf130 hk hg henv hrest hpsi => ?_⟩
    obtain ⟨e101, -, -, -, -, -, -, -, -, -, -, -, -, -, -, -, -, -, -, -, -, -, -, -, -, -, -, -, -, -, -, -, -, -, -, -, -, -, -, -⟩ := henv
    replace D_cn51_108 := D_cn51_108.ext hk
    replace D_ci51_108 := D_ci51_108.ext hk
    replace D_v52_115 := D_v52_115.ext hk
    have e101 : sl a130 101 = (.bool (((((((!(mayB (dV12))) || ((V.dep (dV12) : Int) != (12 : Int))) || (mayB (V.mk 4 0 ⟨#[]⟩ [] ([dV12])))) || ((V.dep (V.mk 4 0 ⟨#[]⟩ [] ([dV12])) : Int) != (13 : Int))) || (!(mayB (V.mk 4 0 ⟨#[]⟩ [] ((List.replicate (lit 8192) (V.mk 2 0 ⟨#[]⟩ [] [])).take 8191))))) || (mayB (V.mk 4 0 ⟨#[]⟩ [] (List.replicate (lit 8192) (V.mk 2 0 ⟨#[]⟩ [] []))))) || ((V.cnt (V.mk 4 0 ⟨#[]⟩ [] (List.replicate (lit 8192) (V.mk 2 0 ⟨#[]⟩ [] []))) : Int) != (8193 : Int)))) := e101
    replace own_b1_7 := own_b1_7.ext hk
    replace kw := kw.trans (.of_ext hk)
    clear hrest hk hg hpsi
    refine tail_nil (hK129 _ _ ?_)
    refine wp_cond_split e101 (fun hc => ?_) (fun hc => ?_)
    · -- T: ((((((!(mayB (dV12))) || ((V.dep (dV12) : Int) != (12 : Int))) || (mayB (V.mk 4 
      exfalso
      rw [may_nums_take, may_nums, nums_cnt] at hc
      cases hc.symm.trans (show _ = false from by kernel_rfl)
    · -- E: ((((((!(mayB (dV12))) || ((V.dep (dV12) : Int) != (12 : Int))) || (mayB (V.mk 4 
      refine wp_skip (hK128 _ _ ?_)
      refine wp_seq_k fun K131 hK131 => ?_
      refine wp_seq_k fun K132 hK132 => ?_
      refine wp_reg All mixed hsz130 hdf130 st_tr trivial ?_
      refine Chain.op (φ := Is (.agg #[(.int .u8 (0)), (.int .i64 (0)), (.string (⟨#[]⟩)), (.slice none 0 0), (.slice none 0 0)])) (st_is _) (sp_build (vs := []) Try.underlying25 z25 (pl25 Try.underlying25) trivial rfl) ?_
      refine Chain.op (φ := Is (.agg #[(.int .u8 (6)), (.int .i64 (0)), (.string (⟨#[]⟩)), (.slice none 0 0), (.slice none 0 0)])) (st_is _) (sp_build (vs := [(0, (.int .u8 (6)))]) Try.underlying25 z25 (pl25 Try.underlying25) ⟨rfl, Has.cst, trivial⟩ rfl) ?_
      refine Chain.op (φ := Is (.agg #[(.int .u8 (2)), (.int .i64 (0)), (.string (⟨#[97]⟩)), (.slice none 0 0), (.slice none 0 0)])) (st_is _) (sp_build (vs := [(0, (.int .u8 (2))), (2, (.string (⟨#[97]⟩)))]) Try.underlying25 z25 (pl25 Try.underlying25) ⟨rfl, Has.cst, rfl, Has.cst, trivial⟩ rfl) ?_
      refine Chain.op (φ := Is (.agg #[(.int .u8 (3)), (.int .i64 (1)), (.string (⟨#[]⟩)), (.slice none 0 0), (.slice none 0 0)])) (st_is _) (sp_build (vs := [(0, (.int .u8 (3))), (1, (.int .i64 (1)))]) Try.underlying25 z25 (pl25 Try.underlying25) ⟨rfl, Has.cst, rfl, Has.cst, trivial⟩ rfl) ?_
      refine Chain.op (φ := Is (.agg #[(.int .u8 (1)), (.int .i64 (-1)), (.string (⟨#[]⟩)), (.slice none 0 0), (.slice none 0 0)])) (st_is _) (sp_build (vs := [(0, (.int .u8 (1))), (1, (.int .i64 (-1)))]) Try.underlying25 z25 (pl25 Try.underlying25) ⟨rfl, Has.cst, rfl, Has.cst, trivial⟩ rfl) ?_
      refine Chain.op (φ := Is (.agg #[(.int .u8 (4)), (.int .i64 (1)), (.string (⟨#[]⟩)), (.slice none 0 0), (.slice none 0 0)])) (st_is _) (sp_build (vs := [(0, (.int .u8 (4))), (1, (.int .i64 (1)))]) Try.underlying25 z25 (pl25 Try.underlying25) ⟨rfl, Has.cst, rfl, Has.cst, trivial⟩ rfl) ?_
      refine Chain.op (φ := IsD (SF w [b1_7]) (strsD ([⟨#[97]⟩]))) (st_d sub_all) (sp_bsl (ds := [D.str (⟨#[97]⟩)]) Try.underlying22 sz9 z9 (Nat.le_of_ble_eq_true rfl) (Nat.le_of_ble_eq_true rfl) ⟨rfl, (Has.cst.str (Nat.le_of_ble_eq_true rfl)), trivial⟩ rfl (by simp [width]) (fr_sf kw (in_cons own_b1_7.lt in_nil))) ?_
      refine Chain.op (φ := IsD (SF w [b1_7]) (V.d (V.mk (4) (0) (⟨#[]⟩) ([⟨#[97]⟩]) ([])))) (st_d sub_all) (sp_buildD (zd := [.int .u8 0, .int .i64 0, .str ⟨#[]⟩, strsD [], valsD []]) (es := [(0, D.int .u8 (4)), (3, strsD ([⟨#[97]⟩]))]) Try.underlying25 z25 (pl25 Try.underlying25) ⟨rfl, Has.cst.int, ⟨rfl, (Has.loc rfl), trivial⟩⟩ zV rfl (by simp [fits, width, strsD, valsD]) (by rw [V.d_eq]; rfl)) ?_
      refine Chain.op (φ := Is (.agg #[(.int .u8 (5)), (.int .i64 (0)), (.string (⟨#[97]⟩)), (.slice none 0 0), (.slice none 0 0)])) (st_is _) (sp_build (vs := [(0, (.int .u8 (5))), (2, (.string (⟨#[97]⟩)))]) Try.underlying25 z25 (pl25 Try.underlying25) ⟨rfl, Has.cst, rfl, Has.cst, trivial⟩ rfl) ?_
      refine Chain.op (φ := Is (.agg #[(.int .u8 (2)), (.int .i64 (1)), (.string (⟨#[]⟩)), (.slice none 0 0), (.slice none 0 0)])) (st_is _) (sp_call1 (φ1 := Is (.int .i64 (1))) ent18 Has.cst (fun g u1 W hk hgk h1 => by have h1 : u1 = _ := h1; subst u1; exact num_ok (1) W)) ?_
      refine Chain.op (φ := IsD (SF w [b1_7]) (valsD ([V.mk (2) (1) (⟨#[]⟩) ([]) ([])]))) (st_d sub_all) (sp_bsl (ds := [V.d (V.mk (2) (1) (⟨#[]⟩) ([]) ([]))]) Try.underlying23 sz25 z25 (Nat.le_of_ble_eq_true rfl) (Nat.le_of_ble_eq_true rfl) ⟨rfl, ((Has.loc rfl).dat (rdV_mk (by decide) (rd_nil _) (rd_nil _) : Rd W130 (SF w [b1_7]) (V.d (V.mk (2) (1) (⟨#[]⟩) ([]) ([]))) _) sub_all), trivial⟩ rfl (by intro e he; simp at he; rcases he with rfl <;> exact width_V _) (fr_sf kw (in_cons own_b1_7.lt in_nil))) ?_
      refine Chain.op (φ := IsD (SF w [b1_7]) (V.d (V.mk (2) (0) (⟨#[]⟩) ([]) ([V.mk (2) (1) (⟨#[]⟩) ([]) ([])])))) (st_d sub_all) (sp_buildD (zd := [.int .u8 0, .int .i64 0, .str ⟨#[]⟩, strsD [], valsD []]) (es := [(0, D.int .u8 (2)), (4, valsD ([V.mk (2) (1) (⟨#[]⟩) ([]) ([])]))]) Try.underlying25 z25 (pl25 Try.underlying25) ⟨rfl, Has.cst.int, ⟨rfl, (Has.loc rfl), trivial⟩⟩ zV rfl (by simp [fits, width, strsD, valsD]) (by rw [V.d_eq]; rfl)) ?_
      refine Chain.op (φ := IsD (SF w [b1_7]) (strsD ([⟨#[97]⟩]))) (st_d sub_all) (sp_bsl (ds := [D.str (⟨#[97]⟩)]) Try.underlying22 sz9 z9 (Nat.le_of_ble_eq_true rfl) (Nat.le_of_ble_eq_true rfl) ⟨rfl, (Has.cst.str (Nat.le_of_ble_eq_true rfl)), trivial⟩ rfl (by simp [width]) (fr_sf kw (in_cons own_b1_7.lt in_nil))) ?_
      refine Chain.op (φ := IsD (SF w [b1_7]) (V.d (V.mk (5) (0) (⟨#[]⟩) ([⟨#[97]⟩]) ([])))) (st_d sub_all) (sp_buildD (zd := [.int .u8 0, .int .i64 0, .str ⟨#[]⟩, strsD [], valsD []]) (es := [(0, D.int .u8 (5)), (3, strsD ([⟨#[97]⟩]))]) Try.underlying25 z25 (pl25 Try.underlying25) ⟨rfl, Has.cst.int, ⟨rfl, (Has.loc rfl), trivial⟩⟩ zV rfl (by simp [fits, width, strsD, valsD]) (by rw [V.d_eq]; rfl)) ?_
      refine Chain.op (φ := Is (.agg #[(.int .u8 (2)), (.int .i64 (1)), (.string (⟨#[]⟩)), (.slice none 0 0), (.slice none 0 0)])) (st_is _) (sp_call1 (φ1 := Is (.int .i64 (1))) ent18 Has.cst (fun g u1 W hk hgk h1 => by have h1 : u1 = _ := h1; subst u1; exact num_ok (1) W)) ?_
      refine Chain.op (φ := IsD (SF w [b1_7]) (valsD ([V.mk (2) (1) (⟨#[]⟩) ([]) ([])]))) (st_d sub_all) (sp_bsl (ds := [V.d (V.mk (2) (1) (⟨#[]⟩) ([]) ([]))]) Try.underlying23 sz25 z25 (Nat.le_of_ble_eq_true rfl) (Nat.le_of_ble_eq_true rfl) ⟨rfl, ((Has.loc rfl).dat (rdV_mk (by decide) (rd_nil _) (rd_nil _) : Rd W130 (SF w [b1_7]) (V.d (V.mk (2) (1) (⟨#[]⟩) ([]) ([]))) _) sub_all), trivial⟩ rfl (by intro e he; simp at he; rcases he with rfl <;> exact width_V _) (fr_sf kw (in_cons own_b1_7.lt in_nil))) ?_
      refine Chain.op (φ := IsD (SF w [b1_7]) (V.d (V.mk (5) (0) (⟨#[]⟩) ([]) ([V.mk (2) (1) (⟨#[]⟩) ([]) ([])])))) (st_d sub_all) (sp_buildD (zd := [.int .u8 0, .int .i64 0, .str ⟨#[]⟩, strsD [], valsD []]) (es := [(0, D.int .u8 (5)), (4, valsD ([V.mk (2) (1) (⟨#[]⟩) ([]) ([])]))]) Try.underlying25 z25 (pl25 Try.underlying25) ⟨rfl, Has.cst.int, ⟨rfl, (Has.loc rfl), trivial⟩⟩ zV rfl (by simp [fits, width, strsD, valsD]) (by rw [V.d_eq]; rfl)) ?_
      refine Chain.op (φ := IsD (SF w [b1_7]) (strsD ([⟨#[97]⟩, ⟨#[97]⟩]))) (st_d sub_all) (sp_bsl (ds := [D.str (⟨#[97]⟩), D.str (⟨#[97]⟩)]) Try.underlying22 sz9 z9 (Nat.le_of_ble_eq_true rfl) (Nat.le_of_ble_eq_true rfl) ⟨rfl, (Has.cst.str (Nat.le_of_ble_eq_true rfl)), ⟨rfl, (Has.cst.str (Nat.le_of_ble_eq_true rfl)), trivial⟩⟩ rfl (by simp [width]) (fr_sf kw (in_cons own_b1_7.lt in_nil))) ?_
      refine Chain.op (φ := Is (.agg #[(.int .u8 (2)), (.int .i64 (1)), (.string (⟨#[]⟩)), (.slice none 0 0), (.slice none 0 0)])) (st_is _) (sp_call1 (φ1 := Is (.int .i64 (1))) ent18 Has.cst (fun g u1 W hk hgk h1 => by have h1 : u1 = _ := h1; subst u1; exact num_ok (1) W)) ?_
      refine Chain.op (φ := Is (.agg #[(.int .u8 (2)), (.int .i64 (2)), (.string (⟨#[]⟩)), (.slice none 0 0), (.slice none 0 0)])) (st_is _) (sp_call1 (φ1 := Is (.int .i64 (2))) ent18 Has.cst (fun g u1 W hk hgk h1 => by have h1 : u1 = _ := h1; subst u1; exact num_ok (2) W)) ?_
      refine Chain.op (φ := IsD (SF w [b1_7]) (valsD ([V.mk (2) (1) (⟨#[]⟩) ([]) ([]), V.mk (2) (2) (⟨#[]⟩) ([]) ([])]))) (st_d sub_all) (sp_bsl (ds := [V.d (V.mk (2) (1) (⟨#[]⟩) ([]) ([])), V.d (V.mk (2) (2) (⟨#[]⟩) ([]) ([]))]) Try.underlying23 sz25 z25 (Nat.le_of_ble_eq_true rfl) (Nat.le_of_ble_eq_true rfl) ⟨rfl, ((Has.loc rfl).dat (rdV_mk (by decide) (rd_nil _) (rd_nil _) : Rd W130 (SF w [b1_7]) (V.d (V.mk (2) (1) (⟨#[]⟩) ([]) ([]))) _) sub_all), ⟨rfl, ((Has.loc rfl).dat (rdV_mk (by decide) (rd_nil _) (rd_nil _) : Rd W130 (SF w [b1_7]) (V.d (V.mk (2) (2) (⟨#[]⟩) ([]) ([]))) _) sub_all), trivial⟩⟩ rfl (by intro e he; simp at he; rcases he with rfl | rfl <;> exact width_V _) (fr_sf kw (in_cons own_b1_7.lt in_nil))) ?_
      refine Chain.op (φ := IsD (SF w [b1_7]) (V.d (V.mk 5 0 ⟨#[]⟩ ([⟨#[97]⟩, ⟨#[97]⟩]) ([V.mk (2) (1) (⟨#[]⟩) ([]) ([]), V.mk (2) (2) (⟨#[]⟩) ([]) ([])])))) (st_d sub_all) (sp_call2 (φ1 := IsD (SF w [b1_7]) (strsD ([⟨#[97]⟩, ⟨#[97]⟩]))) (φ2 := IsD (SF w [b1_7]) (valsD ([V.mk (2) (1) (⟨#[]⟩) ([]) ([]), V.mk (2) (2) (⟨#[]⟩) ([]) ([])]))) ent30 (Has.loc rfl) (Has.loc rfl) (fun g u1 u2 W hk hgk h1 h2 => (obj_ok ([⟨#[97]⟩, ⟨#[97]⟩]) ([V.mk (2) (1) (⟨#[]⟩) ([]) ([]), V.mk (2) (2) (⟨#[]⟩) ([]) ([])]) W _ _ _ h1 h2).mono (ret_arF kw (in_cons own_b1_7.lt in_nil) hk hgk))) ?_
      refine Chain.op (φ := IsD (SF w [b1_7]) (strsD ([⟨#[195]⟩]))) (st_d sub_all) (sp_bsl (ds := [D.str (⟨#[195]⟩)]) Try.underlying22 sz9 z9 (Nat.le_of_ble_eq_true rfl) (Nat.le_of_ble_eq_true rfl) ⟨rfl, (Has.cst.str (Nat.le_of_ble_eq_true rfl)), trivial⟩ rfl (by simp [width]) (fr_sf kw (in_cons own_b1_7.lt in_nil))) ?_
      refine Chain.op (φ := Is (.agg #[(.int .u8 (2)), (.int .i64 (1)), (.string (⟨#[]⟩)), (.slice none 0 0), (.slice none 0 0)])) (st_is _) (sp_call1 (φ1 := Is (.int .i64 (1))) ent18 Has.cst (fun g u1 W hk hgk h1 => by have h1 : u1 = _ := h1; subst u1; exact num_ok (1) W)) ?_
      refine Chain.op (φ := IsD (SF w [b1_7]) (valsD ([V.mk (2) (1) (⟨#[]⟩) ([]) ([])]))) (st_d sub_all) (sp_bsl (ds := [V.d (V.mk (2) (1) (⟨#[]⟩) ([]) ([]))]) Try.underlying23 sz25 z25 (Nat.le_of_ble_eq_true rfl) (Nat.le_of_ble_eq_true rfl) ⟨rfl, ((Has.loc rfl).dat (rdV_mk (by decide) (rd_nil _) (rd_nil _) : Rd W130 (SF w [b1_7]) (V.d (V.mk (2) (1) (⟨#[]⟩) ([]) ([]))) _) sub_all), trivial⟩ rfl (by intro e he; simp at he; rcases he with rfl <;> exact width_V _) (fr_sf kw (in_cons own_b1_7.lt in_nil))) ?_
      refine Chain.op (φ := IsD (SF w [b1_7]) (V.d (V.mk 5 0 ⟨#[]⟩ ([⟨#[195]⟩]) ([V.mk (2) (1) (⟨#[]⟩) ([]) ([])])))) (st_d sub_all) (sp_call2 (φ1 := IsD (SF w [b1_7]) (strsD ([⟨#[195]⟩]))) (φ2 := IsD (SF w [b1_7]) (valsD ([V.mk (2) (1) (⟨#[]⟩) ([]) ([])]))) ent30 (Has.loc rfl) (Has.loc rfl) (fun g u1 u2 W hk hgk h1 h2 => (obj_ok ([⟨#[195]⟩]) ([V.mk (2) (1) (⟨#[]⟩) ([]) ([])]) W _ _ _ h1 h2).mono (ret_arF kw (in_cons own_b1_7.lt in_nil) hk hgk))) ?_
      refine Chain.op (φ := IsD (SF w [b1_7]) (bytesD (List.replicate (lit 4097) 0))) (st_d sub_all) (sp_mkZ (n := (lit 4097)) Try.underlying42 inf5 z5 Has.cst Has.cst (Nat.le_of_ble_eq_true rfl) (fr_sf kw (in_cons own_b1_7.lt in_nil))) ?_
      refine Chain.op (φ := Is (.string (ofBytes (List.replicate (lit 4097) 0)))) (st_is _) (sp_b2s Try.underlying42 Try.underlying5 Try.underlying9 (Has.loc rfl)) ?_
      refine Chain.op (φ := IsD (SF w [b1_7]) (strsD ([ofBytes (List.replicate (lit 4097) 0)]))) (st_d sub_all) (sp_bsl (ds := [D.str (ofBytes (List.replicate (lit 4097) 0))]) Try.underlying22 sz9 z9 (Nat.le_of_ble_eq_true rfl) (Nat.le_of_ble_eq_true rfl) ⟨rfl, ((Has.loc rfl).str (zero_bd (Nat.le_of_ble_eq_true rfl))), trivial⟩ rfl (by simp [width]) (fr_sf kw (in_cons own_b1_7.lt in_nil))) ?_
      refine Chain.op (φ := Is (.agg #[(.int .u8 (2)), (.int .i64 (1)), (.string (⟨#[]⟩)), (.slice none 0 0), (.slice none 0 0)])) (st_is _) (sp_call1 (φ1 := Is (.int .i64 (1))) ent18 Has.cst (fun g u1 W hk hgk h1 => by have h1 : u1 = _ := h1; subst u1; exact num_ok (1) W)) ?_
      refine Chain.op (φ := IsD (SF w [b1_7]) (valsD ([V.mk (2) (1) (⟨#[]⟩) ([]) ([])]))) (st_d sub_all) (sp_bsl (ds := [V.d (V.mk (2) (1) (⟨#[]⟩) ([]) ([]))]) Try.underlying23 sz25 z25 (Nat.le_of_ble_eq_true rfl) (Nat.le_of_ble_eq_true rfl) ⟨rfl, ((Has.loc rfl).dat (rdV_mk (by decide) (rd_nil _) (rd_nil _) : Rd W130 (SF w [b1_7]) (V.d (V.mk (2) (1) (⟨#[]⟩) ([]) ([]))) _) sub_all), trivial⟩ rfl (by intro e he; simp at he; rcases he with rfl <;> exact width_V _) (fr_sf kw (in_cons own_b1_7.lt in_nil))) ?_
      refine Chain.op (φ := IsD (SF w [b1_7]) (V.d (V.mk 5 0 ⟨#[]⟩ ([ofBytes (List.replicate (lit 4097) 0)]) ([V.mk (2) (1) (⟨#[]⟩) ([]) ([])])))) (st_d sub_all) (sp_call2 (φ1 := IsD (SF w [b1_7]) (strsD ([ofBytes (List.replicate (lit 4097) 0)]))) (φ2 := IsD (SF w [b1_7]) (valsD ([V.mk (2) (1) (⟨#[]⟩) ([]) ([])]))) ent30 (Has.loc rfl) (Has.loc rfl) (fun g u1 u2 W hk hgk h1 h2 => (obj_ok ([ofBytes (List.replicate (lit 4097) 0)]) ([V.mk (2) (1) (⟨#[]⟩) ([]) ([])]) W _ _ _ h1 h2).mono (ret_arF kw (in_cons own_b1_7.lt in_nil) hk hgk))) ?_
      refine Chain.op (φ := Is (.agg #[(.int .u8 (0)), (.int .i64 (0)), (.string (⟨#[]⟩)), (.slice none 0 0), (.slice none 0 0)])) (st_is _) (sp_build (vs := []) Try.underlying25 z25 (pl25 Try.underlying25) trivial rfl) ?_
      refine Chain.op (φ := IsD (SF w [b1_7]) (valsD ([V.mk (0) (0) (⟨#[]⟩) ([]) ([])]))) (st_d sub_all) (sp_bsl (ds := [V.d (V.mk (0) (0) (⟨#[]⟩) ([]) ([]))]) Try.underlying23 sz25 z25 (Nat.le_of_ble_eq_true rfl) (Nat.le_of_ble_eq_true rfl) ⟨rfl, ((Has.loc rfl).dat (rdV_mk (Nat.le_of_ble_eq_true rfl) (rd_nil _) (rd_nil _) : Rd W130 (SF w [b1_7]) (V.d (V.mk (0) (0) (⟨#[]⟩) ([]) ([]))) _) sub_all), trivial⟩ rfl (by intro e he; simp at he; rcases he with rfl <;> exact width_V _) (fr_sf kw (in_cons own_b1_7.lt in_nil))) ?_
      refine Chain.op (φ := IsD (SF w [b1_7]) (V.d (V.mk 4 0 ⟨#[]⟩ [] ([V.mk (0) (0) (⟨#[]⟩) ([]) ([])])))) (st_d sub_all) (sp_call1 (φ1 := IsD (SF w [b1_7]) (valsD ([V.mk (0) (0) (⟨#[]⟩) ([]) ([])]))) ent29 (Has.loc rfl) (fun g u1 W hk hgk h1 => (list_ok ([V.mk (0) (0) (⟨#[]⟩) ([]) ([])]) W _ _ h1).mono (ret_arF kw (in_cons own_b1_7.lt in_nil) hk hgk))) ?_
      refine Chain.op (φ := IsD (SF w [b1_7]) (strsD ([⟨#[]⟩]))) (st_d sub_all) (sp_bsl (ds := [D.str (⟨#[]⟩)]) Try.underlying22 sz9 z9 (Nat.le_of_ble_eq_true rfl) (Nat.le_of_ble_eq_true rfl) ⟨rfl, (Has.cst.str (Nat.le_of_ble_eq_true rfl)), trivial⟩ rfl (by simp [width]) (fr_sf kw (in_cons own_b1_7.lt in_nil))) ?_
      refine Chain.op (φ := IsD (SF w [b1_7]) (V.d (V.mk (3) (0) (⟨#[]⟩) ([⟨#[]⟩]) ([])))) (st_d sub_all) (sp_buildD (zd := [.int .u8 0, .int .i64 0, .str ⟨#[]⟩, strsD [], valsD []]) (es := [(0, D.int .u8 (3)), (3, strsD ([⟨#[]⟩]))]) Try.underlying25 z25 (pl25 Try.underlying25) ⟨rfl, Has.cst.int, ⟨rfl, (Has.loc rfl), trivial⟩⟩ zV rfl (by simp [fits, width, strsD, valsD]) (by rw [V.d_eq]; rfl)) ?_
      refine Chain.op (φ := IsD (SF w [b1_7]) (valsD ([V.mk (0) (0) (⟨#[]⟩) ([]) ([]), V.mk (6) (0) (⟨#[]⟩) ([]) ([]), V.mk (2) (0) (⟨#[97]⟩) ([]) ([]), V.mk (3) (1) (⟨#[]⟩) ([]) ([]), V.mk (1) (-1) (⟨#[]⟩) ([]) ([]), V.mk (4) (1) (⟨#[]⟩) ([]) ([]), V.mk (4) (0) (⟨#[]⟩) ([⟨#[97]⟩]) ([]), V.mk (5) (0) (⟨#[97]⟩) ([]) ([]), V.mk (2) (0) (⟨#[]⟩) ([]) ([V.mk (2) (1) (⟨#[]⟩) ([]) ([])]), V.mk (5) (0) (⟨#[]⟩) ([⟨#[97]⟩]) ([]), V.mk (5) (0) (⟨#[]⟩) ([]) ([V.mk (2) (1) (⟨#[]⟩) ([]) ([])]), V.mk 5 0 ⟨#[]⟩ ([⟨#[97]⟩, ⟨#[97]⟩]) ([V.mk (2) (1) (⟨#[]⟩) ([]) ([]), V.mk (2) (2) (⟨#[]⟩) ([]) ([])]), V.mk 5 0 ⟨#[]⟩ ([⟨#[195]⟩]) ([V.mk (2) (1) (⟨#[]⟩) ([]) ([])]), V.mk 5 0 ⟨#[]⟩ ([ofBytes (List.replicate (lit 4097) 0)]) ([V.mk (2) (1) (⟨#[]⟩) ([]) ([])]), V.mk 4 0 ⟨#[]⟩ [] ([V.mk (0) (0) (⟨#[]⟩) ([]) ([])]), V.mk (3) (0) (⟨#[]⟩) ([⟨#[]⟩]) ([])]))) (st_d sub_all) (sp_bsl (ds := [V.d (V.mk (0) (0) (⟨#[]⟩) ([]) ([])), V.d (V.mk (6) (0) (⟨#[]⟩) ([]) ([])), V.d (V.mk (2) (0) (⟨#[97]⟩) ([]) ([])), V.d (V.mk (3) (1) (⟨#[]⟩) ([]) ([])), V.d (V.mk (1) (-1) (⟨#[]⟩) ([]) ([])), V.d (V.mk (4) (1) (⟨#[]⟩) ([]) ([])), V.d (V.mk (4) (0) (⟨#[]⟩) ([⟨#[97]⟩]) ([])), V.d (V.mk (5) (0) (⟨#[97]⟩) ([]) ([])), V.d (V.mk (2) (0) (⟨#[]⟩) ([]) ([V.mk (2) (1) (⟨#[]⟩) ([]) ([])])), V.d (V.mk (5) (0) (⟨#[]⟩) ([⟨#[97]⟩]) ([])), V.d (V.mk (5) (0) (⟨#[]⟩) ([]) ([V.mk (2) (1) (⟨#[]⟩) ([]) ([])])), V.d (V.mk 5 0 ⟨#[]⟩ ([⟨#[97]⟩, ⟨#[97]⟩]) ([V.mk (2) (1) (⟨#[]⟩) ([]) ([]), V.mk (2) (2) (⟨#[]⟩) ([]) ([])])), V.d (V.mk 5 0 ⟨#[]⟩ ([⟨#[195]⟩]) ([V.mk (2) (1) (⟨#[]⟩) ([]) ([])])), V.d (V.mk 5 0 ⟨#[]⟩ ([ofBytes (List.replicate (lit 4097) 0)]) ([V.mk (2) (1) (⟨#[]⟩) ([]) ([])])), V.d (V.mk 4 0 ⟨#[]⟩ [] ([V.mk (0) (0) (⟨#[]⟩) ([]) ([])])), V.d (V.mk (3) (0) (⟨#[]⟩) ([⟨#[]⟩]) ([]))]) Try.underlying23 sz25 z25 (Nat.le_of_ble_eq_true rfl) (Nat.le_of_ble_eq_true rfl) ⟨rfl, ((Has.loc rfl).dat (rdV_mk (Nat.le_of_ble_eq_true rfl) (rd_nil _) (rd_nil _) : Rd W130 (SF w [b1_7]) (V.d (V.mk (0) (0) (⟨#[]⟩) ([]) ([]))) _) sub_all), ⟨rfl, ((Has.loc rfl).dat (rdV_mk (Nat.le_of_ble_eq_true rfl) (rd_nil _) (rd_nil _) : Rd W130 (SF w [b1_7]) (V.d (V.mk (6) (0) (⟨#[]⟩) ([]) ([]))) _) sub_all), ⟨rfl, ((Has.loc rfl).dat (rdV_mk (Nat.le_of_ble_eq_true rfl) (rd_nil _) (rd_nil _) : Rd W130 (SF w [b1_7]) (V.d (V.mk (2) (0) (⟨#[97]⟩) ([]) ([]))) _) sub_all), ⟨rfl, ((Has.loc rfl).dat (rdV_mk (Nat.le_of_ble_eq_true rfl) (rd_nil _) (rd_nil _) : Rd W130 (SF w [b1_7]) (V.d (V.mk (3) (1) (⟨#[]⟩) ([]) ([]))) _) sub_all), ⟨rfl, ((Has.loc rfl).dat (rdV_mk (Nat.le_of_ble_eq_true rfl) (rd_nil _) (rd_nil _) : Rd W130 (SF w [b1_7]) (V.d (V.mk (1) (-1) (⟨#[]⟩) ([]) ([]))) _) sub_all), ⟨rfl, ((Has.loc rfl).dat (rdV_mk (Nat.le_of_ble_eq_true rfl) (rd_nil _) (rd_nil _) : Rd W130 (SF w [b1_7]) (V.d (V.mk (4) (1) (⟨#[]⟩) ([]) ([]))) _) sub_all), ⟨rfl, (Has.loc rfl), ⟨rfl, ((Has.loc rfl).dat (rdV_mk (Nat.le_of_ble_eq_true rfl) (rd_nil _) (rd_nil _) : Rd W130 (SF w [b1_7]) (V.d (V.mk (5) (0) (⟨#[97]⟩) ([]) ([]))) _) sub_all), ⟨rfl, (Has.loc rfl), ⟨rfl, (Has.loc rfl), ⟨rfl, (Has.loc rfl), ⟨rfl, (Has.loc rfl), ⟨rfl, (Has.loc rfl), ⟨rfl, (Has.loc rfl), ⟨rfl, (Has.loc rfl), ⟨rfl, (Has.loc rfl), trivial⟩⟩⟩⟩⟩⟩⟩⟩⟩⟩⟩⟩⟩⟩⟩⟩ rfl (by intro e he; simp at he; rcases he with rfl | rfl | rfl | rfl | rfl | rfl | rfl | rfl | rfl | rfl | rfl | rfl | rfl | rfl | rfl | rfl <;> exact width_V _) (fr_sf kw (in_cons own_b1_7.lt in_nil))) ?_
      refine Chain.op (φ := Is (.int .i64 (([V.mk (0) (0) (⟨#[]⟩) ([]) ([]), V.mk (6) (0) (⟨#[]⟩) ([]) ([]), V.mk (2) (0) (⟨#[97]⟩) ([]) ([]), V.mk (3) (1) (⟨#[]⟩) ([]) ([]), V.mk (1) (-1) (⟨#[]⟩) ([]) ([]), V.mk (4) (1) (⟨#[]⟩) ([]) ([]), V.mk (4) (0) (⟨#[]⟩) ([⟨#[97]⟩]) ([]), V.mk (5) (0) (⟨#[97]⟩) ([]) ([]), V.mk (2) (0) (⟨#[]⟩) ([]) ([V.mk (2) (1) (⟨#[]⟩) ([]) ([])]), V.mk (5) (0) (⟨#[]⟩) ([⟨#[97]⟩]) ([]), V.mk (5) (0) (⟨#[]⟩) ([]) ([V.mk (2) (1) (⟨#[]⟩) ([]) ([])]), V.mk 5 0 ⟨#[]⟩ ([⟨#[97]⟩, ⟨#[97]⟩]) ([V.mk (2) (1) (⟨#[]⟩) ([]) ([]), V.mk (2) (2) (⟨#[]⟩) ([]) ([])]), V.mk 5 0 ⟨#[]⟩ ([⟨#[195]⟩]) ([V.mk (2) (1) (⟨#[]⟩) ([]) ([])]), V.mk 5 0 ⟨#[]⟩ ([ofBytes (List.replicate (lit 4097) 0)]) ([V.mk (2) (1) (⟨#[]⟩) ([]) ([])]), V.mk 4 0 ⟨#[]⟩ [] ([V.mk (0) (0) (⟨#[]⟩) ([]) ([])]), V.mk (3) (0) (⟨#[]⟩) ([⟨#[]⟩]) ([])]).length))) (st_is _) (sp_lenVs Try.underlying23 (Has.loc rfl)) ?_
      refine Chain.op (φ := Is (.int .i64 (0))) (st_is _) (sp_move Has.cst) ?_
      refine Chain.done ⟨by kernel_rfl, fun a133 g W133 hsz133 hdf133 hk hg henv hrest hpsi => ?_⟩
      obtain ⟨e141, e140, e139, -, -, -, -, -, -, -, -, -, -, -, -, -, -, -, -, -, -, -, -, -, -, -, -, -, -, -, -, -, -, -, -, -, -, -, -, -, -⟩ := henv
      obtain ⟨v139_133, ev⟩ : ∃ v, sl a133 139 = v := ⟨_, rfl⟩
      rw [ev] at e139
      have D_v139_133 : Rd W133 (SF w [b1_7]) (valsD ([V.mk (0) (0) (⟨#[]⟩) ([]) ([]), V.mk (6) (0) (⟨#[]⟩) ([]) ([]), V.mk (2) (0) (⟨#[97]⟩) ([]) ([]), V.mk (3) (1) (⟨#[]⟩) ([]) ([]), V.mk (1) (-1) (⟨#[]⟩) ([]) ([]), V.mk (4) (1) (⟨#[]⟩) ([]) ([]), V.mk (4) (0) (⟨#[]⟩) ([⟨#[97]⟩]) ([]), V.mk (5) (0) (⟨#[97]⟩) ([]) ([]), V.mk (2) (0) (⟨#[]⟩) ([]) ([V.mk (2) (1) (⟨#[]⟩) ([]) ([])]), V.mk (5) (0) (⟨#[]⟩) ([⟨#[97]⟩]) ([]), V.mk (5) (0) (⟨#[]⟩) ([]) ([V.mk (2) (1) (⟨#[]⟩) ([]) ([])]), V.mk 5 0 ⟨#[]⟩ ([⟨#[97]⟩, ⟨#[97]⟩]) ([V.mk (2) (1) (⟨#[]⟩) ([]) ([]), V.mk (2) (2) (⟨#[]⟩) ([]) ([])]), V.mk 5 0 ⟨#[]⟩ ([⟨#[195]⟩]) ([V.mk (2) (1) (⟨#[]⟩) ([]) ([])]), V.mk 5 0 ⟨#[]⟩ ([ofBytes (List.replicate (lit 4097) 0)]) ([V.mk (2) (1) (⟨#[]⟩) ([]) ([])]), V.mk 4 0 ⟨#[]⟩ [] ([V.mk (0) (0) (⟨#[]⟩) ([]) ([])]), V.mk (3) (0) (⟨#[]⟩) ([⟨#[]⟩]) ([])])) v139_133 := sf_end e139 hk [] in_nil
      replace e139 := ev; clear ev
      obtain ⟨v139_133a, v139_133c, ev, D2⟩ := rdVs_out D_v139_133
      subst ev; replace D_v139_133 := D2; clear D2
      have e140 : sl a133 140 = (.int .i64 (([V.mk (0) (0) (⟨#[]⟩) ([]) ([]), V.mk (6) (0) (⟨#[]⟩) ([]) ([]), V.mk (2) (0) (⟨#[97]⟩) ([]) ([]), V.mk (3) (1) (⟨#[]⟩) ([]) ([]), V.mk (1) (-1) (⟨#[]⟩) ([]) ([]), V.mk (4) (1) (⟨#[]⟩) ([]) ([]), V.mk (4) (0) (⟨#[]⟩) ([⟨#[97]⟩]) ([]), V.mk (5) (0) (⟨#[97]⟩) ([]) ([]), V.mk (2) (0) (⟨#[]⟩) ([]) ([V.mk (2) (1) (⟨#[]⟩) ([]) ([])]), V.mk (5) (0) (⟨#[]⟩) ([⟨#[97]⟩]) ([]), V.mk (5) (0) (⟨#[]⟩) ([]) ([V.mk (2) (1) (⟨#[]⟩) ([]) ([])]), V.mk 5 0 ⟨#[]⟩ ([⟨#[97]⟩, ⟨#[97]⟩]) ([V.mk (2) (1) (⟨#[]⟩) ([]) ([]), V.mk (2) (2) (⟨#[]⟩) ([]) ([])]), V.mk 5 0 ⟨#[]⟩ ([⟨#[195]⟩]) ([V.mk (2) (1) (⟨#[]⟩) ([]) ([])]), V.mk 5 0 ⟨#[]⟩ ([ofBytes (List.replicate (lit 4097) 0)]) ([V.mk (2) (1) (⟨#[]⟩) ([]) ([])]), V.mk 4 0 ⟨#[]⟩ [] ([V.mk (0) (0) (⟨#[]⟩) ([]) ([])]), V.mk (3) (0) (⟨#[]⟩) ([⟨#[]⟩]) ([])]).length)) := e140
      have e141 : sl a133 141 = (.int .i64 (0)) := e141
      replace own_b1_7 := own_b1_7.ext hk
      replace kw := kw.trans (.of_ext hk)
      clear hrest hk hg hpsi
      obtain ⟨L, hL⟩ : ∃ L : List V, L = [V.mk (0) (0) (⟨#[]⟩) ([]) ([]), V.mk (6) (0) (⟨#[]⟩) ([]) ([]), V.mk (2) (0) (⟨#[97]⟩) ([]) ([]), V.mk (3) (1) (⟨#[]⟩) ([]) ([]), V.mk (1) (-1) (⟨#[]⟩) ([]) ([]), V.mk (4) (1) (⟨#[]⟩) ([]) ([]), V.mk (4) (0) (⟨#[]⟩) ([⟨#[97]⟩]) ([]), V.mk (5) (0) (⟨#[97]⟩) ([]) ([]), V.mk (2) (0) (⟨#[]⟩) ([]) ([V.mk (2) (1) (⟨#[]⟩) ([]) ([])]), V.mk (5) (0) (⟨#[]⟩) ([⟨#[97]⟩]) ([]), V.mk (5) (0) (⟨#[]⟩) ([]) ([V.mk (2) (1) (⟨#[]⟩) ([]) ([])]), V.mk 5 0 ⟨#[]⟩ ([⟨#[97]⟩, ⟨#[97]⟩]) ([V.mk (2) (1) (⟨#[]⟩) ([]) ([]), V.mk (2) (2) (⟨#[]⟩) ([]) ([])]), V.mk 5 0 ⟨#[]⟩ ([⟨#[195]⟩]) ([V.mk (2) (1) (⟨#[]⟩) ([]) ([])]), V.mk 5 0 ⟨#[]⟩ ([ofBytes (List.replicate (lit 4097) 0)]) ([V.mk (2) (1) (⟨#[]⟩) ([]) ([])]), V.mk 4 0 ⟨#[]⟩ [] ([V.mk (0) (0) (⟨#[]⟩) ([]) ([])]), V.mk (3) (0) (⟨#[]⟩) ([⟨#[]⟩]) ([])] := ⟨_, rfl⟩
      rw [← hL] at e139 e140 D_v139_133
      have hall : ∀ x ∈ L, mayB x = false := by
        rw [hL]
        refine List.forall_mem_cons.2 ⟨by kernel_rfl, ?_⟩
        refine List.forall_mem_cons.2 ⟨by kernel_rfl, ?_⟩
        refine List.forall_mem_cons.2 ⟨by kernel_rfl, ?_⟩
        refine List.forall_mem_cons.2 ⟨by kernel_rfl, ?_⟩
        refine List.forall_mem_cons.2 ⟨by kernel_rfl, ?_⟩
        refine List.forall_mem_cons.2 ⟨by kernel_rfl, ?_⟩
        refine List.forall_mem_cons.2 ⟨by kernel_rfl, ?_⟩
        refine List.forall_mem_cons.2 ⟨by kernel_rfl, ?_⟩
        refine List.forall_mem_cons.2 ⟨by kernel_rfl, ?_⟩
        refine List.forall_mem_cons.2 ⟨by kernel_rfl, ?_⟩
        refine List.forall_mem_cons.2 ⟨by kernel_rfl, ?_⟩
        refine List.forall_mem_cons.2 ⟨by kernel_rfl, ?_⟩
        refine List.forall_mem_cons.2 ⟨by kernel_rfl, ?_⟩
        refine List.forall_mem_cons.2 ⟨may_objlong_ _, ?_⟩
        refine List.forall_mem_cons.2 ⟨by kernel_rfl, ?_⟩
        refine List.forall_mem_cons.2 ⟨by kernel_rfl, ?_⟩
        exact List.forall_mem_nil _
      have hcL : ∀ x ∈ L, x.cnt ≤ 1073741824 := by
        rw [hL]
        repeat (refine List.forall_mem_cons.2 ⟨Nat.le_of_ble_eq_true (by kernel_rfl), ?_⟩)
        exact List.forall_mem_nil _
      have hlL : L.length = 16 := by rw [hL]; rfl
      clear hL
      refine tail_nil (hK132 _ _ ?_)
      refine wp_block ?_
      replace D_v139_133 := sf_less (M' := []) D_v139_133 ls_nil
      refine wp_for (L.length) (fun k a W => a.tmps.size = 303 ∧ a.defers = [] ∧ Keeps All w W ∧ sl a 139 = (.slice v139_133a (L.length) v139_133c) ∧ sl a 140 = (.int .i64 (L.length)) ∧ sl a 141 = (.int .i64 ((k : Nat))) ∧ Rd W (SF w []) (valsD (L)) (.slice v139_133a (L.length) v139_133c)) ⟨hsz133, hdf133, kw, e139, e140, (e141.trans (congrArg (Value.int .i64) (rfl))), D_v139_133⟩ ?_
      clear kw e139 e140 e141 D_v139_133
      rintro k a134 W134 hkk ⟨hsz134, hdf134, kw, e139, e140, e141, D_v139_133⟩
      refine wp_seq_k fun K135 hK135 => ?_
      refine wp_reg All mixed hsz134 hdf134 st_tr trivial ?_
      refine Chain.op (φ := Is (.bool (decide (((k : Nat) : Int) < (L.length : Int))))) (st_is _) (sp_lss (Has.base rfl e141) (Has.base rfl e140)) ?_
      refine Chain.done ⟨by kernel_rfl, fun a136 g W136 hsz136 hdf136 hk hg henv hrest hpsi => ?_⟩
      obtain ⟨e142, -⟩ := henv
      replace e139 := (hrest 139 rfl).trans e139
      replace e140 := (hrest 140 rfl).trans e140
      replace e141 := (hrest 141 rfl).trans e141
      replace D_v139_133 := D_v139_133.ext hk
      have e142 : sl a136 142 = (.bool (decide (((k : Nat) : Int) < (L.length : Int)))) := e142
      replace kw := kw.trans (.of_ext hk)
      clear hrest hk hg hpsi
      refine tail_nil (hK135 _ _ ?_)
      refine wp_seq_k fun K137 hK137 => ?_
      refine wp_cond_split e142 (fun hc => ?_) (fun hc => ?_)
      · -- T: decide (((k : Nat) : Int) < (L.length : Int))
        have hlt : k < L.length := by simpa using hc
        refine wp_skip (hK137 _ _ ?_)
        refine wp_seq_k fun K138 hK138 => ?_
        refine wp_block ?_
        refine wp_seq_k fun K139 hK139 => ?_
        refine wp_reg All mixed hsz136 hdf136 st_tr trivial ?_
        refine Chain.op (φ := IsR (SF w []) (V.d (L[k]'hlt))) (st_r sub_all) (sp_indexV (i := k) ((Has.base rfl e139).dat D_v139_133 sub_all) (Has.base rfl e141) Try.underlying23 sz25 rfl hlt) ?_
        refine Chain.op (φ := IsD (SF w []) (V.d (L[k]'hlt))) (st_d sub_all) (sp_loadV (Has.loc rfl) agg25 sz25) ?_
        refine Chain.alloc z25 ?_
        refine Chain.done ⟨by kernel_rfl, fun a140 g W140 hsz140 hdf140 hk hg henv hrest hpsi => ?_⟩
        obtain ⟨⟨b6_140, e6, hb6, own_b6_140⟩, e144, -, -⟩ := henv
        have lo_b6_140 : w.heap.size ≤ b6_140 := Nat.le_trans kw.size (hg.lo _ _ hb6)
        have own_b6_140 : Own W140 b6_140 [(.int .u8 (0)), (.int .i64 (0)), (.string (⟨#[]⟩)), (.slice none 0 0), (.slice none 0 0)] 25 := own_b6_140
        replace e139 := (hrest 139 rfl).trans e139
        replace e140 := (hrest 140 rfl).trans e140
        replace e141 := (hrest 141 rfl).trans e141
        replace D_v139_133 := sf_more D_v139_133 hk [b6_140] (in_cons (hg.lo _ _ hb6) in_nil)
        obtain ⟨v144_140, ev⟩ : ∃ v, sl a140 144 = v := ⟨_, rfl⟩
        rw [ev] at e144
        have D_v144_140 : Rd W140 (SF w [b6_140]) (V.d (L[k]'hlt)) v144_140 := sf_end e144 hk [b6_140] (in_cons ⟨_, hb6⟩ in_nil)
        replace e144 := ev; clear ev
        obtain ⟨cn144_140a, cn144_140c, ci144_140a, ci144_140c, ev, ht_v144_140, D_cn144_140, D_ci144_140⟩ := rdV_out D_v144_140
        subst ev; clear D_v144_140
        replace kw := kw.trans (.of_ext hk)
        clear hrest hk hg hpsi hb6
        refine tail_store (b := b6_140) (o := 0) (v := (.agg #[(.int .u8 ((L[k]'hlt).k)), (.int .i64 ((L[k]'hlt).n)), (.string ((L[k]'hlt).t)), (.slice cn144_140a (((L[k]'hlt).ns).length) cn144_140c), (.slice ci144_140a (((L[k]'hlt).xs).length) ci144_140c)])) e6 e144 sz25 rfl own_b6_140 (Nat.le_of_ble_eq_true rfl) (all_cons rfl (all_cons rfl (all_cons rfl (all_cons rfl (all_cons rfl all_nil))))) (fun W141 hs own_b6_140 => ?_)
        have own_b6_140 : Own W141 b6_140 [(.int .u8 ((L[k]'hlt).k)), (.int .i64 ((L[k]'hlt).n)), (.string ((L[k]'hlt).t)), (.slice cn144_140a (((L[k]'hlt).ns).length) cn144_140c), (.slice ci144_140a (((L[k]'hlt).xs).length) ci144_140c)] 25 := own_b6_140
        replace D_v139_133 := sf_store D_v139_133 hs (by simp)
        replace D_cn144_140 := sf_store D_cn144_140 hs (by simp)
        replace D_ci144_140 := sf_store D_ci144_140 hs (by simp)
        replace kw := keeps_store kw hs lo_b6_140
        clear hs
        refine tail_nil (hK139 _ _ ?_)
        refine wp_seq_k fun K142 hK142 => ?_
        refine wp_reg All mixed hsz140 hdf140 st_tr trivial ?_
        refine Chain.op (φ := Is (.agg #[(.int .u8 ((L[k]'hlt).k)), (.int .i64 ((L[k]'hlt).n)), (.string ((L[k]'hlt).t)), (.slice cn144_140a (((L[k]'hlt).ns).length) cn144_140c), (.slice ci144_140a (((L[k]'hlt).xs).length) ci144_140c)])) (st_is _) (sp_loadO (v := (.agg #[(.int .u8 ((L[k]'hlt).k)), (.int .i64 ((L[k]'hlt).n)), (.string ((L[k]'hlt).t)), (.slice cn144_140a (((L[k]'hlt).ns).length) cn144_140c), (.slice ci144_140a (((L[k]'hlt).xs).length) ci144_140c)])) (Has.base rfl e6) own_b6_140 trivial agg25 sz25 (Nat.le_of_ble_eq_true rfl) (fun h => by first | rfl | cases h) rfl) ?_
        refine Chain.op (φ := Is (.bool (mayB ((L[k]'hlt))))) (st_is _) (sp_call1 (φ1 := IsD (SF w [b6_140]) (V.d ((L[k]'hlt)))) ent15 ((Has.loc rfl).dat (rdV_in (x := (L[k]'hlt)) ht_v144_140 D_cn144_140 D_ci144_140 : Rd W141 (SF w [b6_140]) (V.d ((L[k]'hlt))) _) sub_all) (fun g u1 W hk hgk h1 => May_ok ((L[k]'hlt)) (hcL _ (List.getElem_mem _)) W _ _ h1)) ?_
        refine Chain.done ⟨by kernel_rfl, fun a143 g W143 hsz143 hdf143 hk hg henv hrest hpsi => ?_⟩
        obtain ⟨e146, -, -⟩ := henv
        replace e139 := (hrest 139 rfl).trans e139
        replace e140 := (hrest 140 rfl).trans e140
        replace e141 := (hrest 141 rfl).trans e141
        replace D_v139_133 := D_v139_133.ext hk
        replace D_cn144_140 := D_cn144_140.ext hk
        replace D_ci144_140 := D_ci144_140.ext hk
        have e146 : sl a143 146 = (.bool (mayB ((L[k]'hlt)))) := e146
        replace own_b6_140 := own_b6_140.ext hk
        replace kw := kw.trans (.of_ext hk)
        clear hrest hk hg hpsi
        refine tail_nil (hK142 _ _ ?_)
        refine wp_cond_split e146 (fun hc => ?_) (fun hc => ?_)
        · -- T: mayB ((L[k]'hlt))
          exfalso
          rw [hall _ (List.getElem_mem _)] at hc
          cases hc
        · -- E: mayB ((L[k]'hlt))
          refine wp_skip (hK138 _ _ ?_)
          refine wp_reg All mixed hsz143 hdf143 st_tr trivial ?_
          refine Chain.op (φ := Is (.int .i64 (((k : Nat) : Int) + (1 : Int)))) (st_is _) (sp_add (Has.base rfl e141) Has.cst (i64_in (by omega))) ?_
          refine Chain.op (φ := Is (.int .i64 (((k : Nat) : Int) + (1 : Int)))) (st_is _) (sp_move (Has.loc rfl)) ?_
          refine Chain.done ⟨by kernel_rfl, fun a144 g W144 hsz144 hdf144 hk hg henv hrest hpsi => ?_⟩
          obtain ⟨e141, -, -⟩ := henv
          replace e139 := (hrest 139 rfl).trans e139
          replace e140 := (hrest 140 rfl).trans e140
          replace D_v139_133 := D_v139_133.ext hk
          have e141 : sl a144 141 = (.int .i64 (((k : Nat) : Int) + (1 : Int))) := e141
          replace own_b6_140 := own_b6_140.ext hk
          replace kw := kw.trans (.of_ext hk)
          clear hrest hk hg hpsi
          exact tail_nil ⟨hlt, hsz144, hdf144, kw, e139, e140, (e141.trans (congrArg (Value.int .i64) (by simp))), (sf_less D_v139_133 ls_nil)⟩
      · -- E: decide (((k : Nat) : Int) < (L.length : Int))
        have hge0 : ¬ k < L.length := by simpa using hc
        have hge : k = L.length := by omega
        refine wp_exit (hK131 _ _ ?_)
        refine wp_seq_k fun K145 hK145 => ?_
        refine wp_seq_k fun K146 hK146 => ?_
        refine wp_reg All mixed hsz136 hdf136 st_tr trivial ?_
        refine Chain.op (φ := IsD (SF w []) (bytesD (List.replicate (lit 4096) 0))) (st_d sub_all) (sp_mkZ (n := (lit 4096)) Try.underlying42 inf5 z5 Has.cst Has.cst (Nat.le_of_ble_eq_true rfl) (fr_sf kw in_nil)) ?_
        refine Chain.op (φ := Is (.string (ofBytes (List.replicate (lit 4096) 0)))) (st_is _) (sp_b2s Try.underlying42 Try.underlying5 Try.underlying9 (Has.loc rfl)) ?_
        refine Chain.op (φ := IsD (SF w []) (strsD ([⟨#[]⟩, ofBytes (List.replicate (lit 4096) 0)]))) (st_d sub_all) (sp_bsl (ds := [D.str (⟨#[]⟩), D.str (ofBytes (List.replicate (lit 4096) 0))]) Try.underlying22 sz9 z9 (Nat.le_of_ble_eq_true rfl) (Nat.le_of_ble_eq_true rfl) ⟨rfl, (Has.cst.str (Nat.le_of_ble_eq_true rfl)), ⟨rfl, ((Has.loc rfl).str (zero_bd (Nat.le_of_ble_eq_true rfl))), trivial⟩⟩ rfl (by simp [width]) (fr_sf kw in_nil)) ?_
        refine Chain.op (φ := Is (.agg #[(.int .u8 (2)), (.int .i64 (-9223372036854775808)), (.string (⟨#[]⟩)), (.slice none 0 0), (.slice none 0 0)])) (st_is _) (sp_call1 (φ1 := Is (.int .i64 (-9223372036854775808))) ent18 Has.cst (fun g u1 W hk hgk h1 => by have h1 : u1 = _ := h1; subst u1; exact num_ok (-9223372036854775808) W)) ?_
        refine Chain.op (φ := IsD (SF w []) (V.d (V.mk 4 0 ⟨#[]⟩ [] ([])))) (st_d sub_all) (sp_call1 (φ1 := IsD (SF w []) (valsD ([]))) ent29 (Has.cst.dat (rd_nil _ : Rd W136 (SF w []) (valsD ([])) _) sub_all) (fun g u1 W hk hgk h1 => (list_ok ([]) W _ _ h1).mono (ret_arF kw in_nil hk hgk))) ?_
        refine Chain.op (φ := IsD (SF w []) (valsD ([V.mk (2) (-9223372036854775808) (⟨#[]⟩) ([]) ([]), V.mk 4 0 ⟨#[]⟩ [] ([])]))) (st_d sub_all) (sp_bsl (ds := [V.d (V.mk (2) (-9223372036854775808) (⟨#[]⟩) ([]) ([])), V.d (V.mk 4 0 ⟨#[]⟩ [] ([]))]) Try.underlying23 sz25 z25 (Nat.le_of_ble_eq_true rfl) (Nat.le_of_ble_eq_true rfl) ⟨rfl, ((Has.loc rfl).dat (rdV_mk (by decide) (rd_nil _) (rd_nil _) : Rd W136 (SF w []) (V.d (V.mk (2) (-9223372036854775808) (⟨#[]⟩) ([]) ([]))) _) sub_all), ⟨rfl, (Has.loc rfl), trivial⟩⟩ rfl (by intro e he; simp at he; rcases he with rfl | rfl <;> exact width_V _) (fr_sf kw in_nil)) ?_
        refine Chain.op (φ := IsD (SF w []) (V.d (V.mk 5 0 ⟨#[]⟩ ([⟨#[]⟩, ofBytes (List.replicate (lit 4096) 0)]) ([V.mk (2) (-9223372036854775808) (⟨#[]⟩) ([]) ([]), V.mk 4 0 ⟨#[]⟩ [] ([])])))) (st_d sub_all) (sp_call2 (φ1 := IsD (SF w []) (strsD ([⟨#[]⟩, ofBytes (List.replicate (lit 4096) 0)]))) (φ2 := IsD (SF w []) (valsD ([V.mk (2) (-9223372036854775808) (⟨#[]⟩) ([]) ([]), V.mk 4 0 ⟨#[]⟩ [] ([])]))) ent30 (Has.loc rfl) (Has.loc rfl) (fun g u1 u2 W hk hgk h1 h2 => (obj_ok ([⟨#[]⟩, ofBytes (List.replicate (lit 4096) 0)]) ([V.mk (2) (-9223372036854775808) (⟨#[]⟩) ([]) ([]), V.mk 4 0 ⟨#[]⟩ [] ([])]) W _ _ _ h1 h2).mono (ret_arF kw in_nil hk hgk))) ?_
        refine Chain.op (φ := Is (.bool (mayB (V.mk 5 0 ⟨#[]⟩ ([⟨#[]⟩, ofBytes (List.replicate (lit 4096) 0)]) ([V.mk (2) (-9223372036854775808) (⟨#[]⟩) ([]) ([]), V.mk 4 0 ⟨#[]⟩ [] ([])]))))) (st_is _) (sp_call1 (φ1 := IsD (SF w []) (V.d (V.mk 5 0 ⟨#[]⟩ ([⟨#[]⟩, ofBytes (List.replicate (lit 4096) 0)]) ([V.mk (2) (-9223372036854775808) (⟨#[]⟩) ([]) ([]), V.mk 4 0 ⟨#[]⟩ [] ([])])))) ent15 (Has.loc rfl) (fun g u1 W hk hgk h1 => May_ok (V.mk 5 0 ⟨#[]⟩ ([⟨#[]⟩, ofBytes (List.replicate (lit 4096) 0)]) ([V.mk (2) (-9223372036854775808) (⟨#[]⟩) ([]) ([]), V.mk 4 0 ⟨#[]⟩ [] ([])])) (Nat.le_of_ble_eq_true (by kernel_rfl)) W _ _ h1)) ?_
        refine Chain.op (φ := Is (.bool (!(mayB (V.mk 5 0 ⟨#[]⟩ ([⟨#[]⟩, ofBytes (List.replicate (lit 4096) 0)]) ([V.mk (2) (-9223372036854775808) (⟨#[]⟩) ([]) ([]), V.mk 4 0 ⟨#[]⟩ [] ([])])))))) (st_is _) (sp_not (Has.loc rfl)) ?_
        refine Chain.op (φ := Is (.bool (!(mayB (V.mk 5 0 ⟨#[]⟩ ([⟨#[]⟩, ofBytes (List.replicate (lit 4096) 0)]) ([V.mk (2) (-9223372036854775808) (⟨#[]⟩) ([]) ([]), V.mk 4 0 ⟨#[]⟩ [] ([])])))))) (st_is _) (sp_move (Has.loc rfl)) ?_
        refine Chain.opE (t := 157) (x := !(mayB (V.mk 5 0 ⟨#[]⟩ ([⟨#[]⟩, ofBytes (List.replicate (lit 4096) 0)]) ([V.mk (2) (-9223372036854775808) (⟨#[]⟩) ([]) ([]), V.mk 4 0 ⟨#[]⟩ [] ([])])))) (φ := IsD (SF w []) (V.d (V.mk 5 0 ⟨#[]⟩ ([]) ([])))) rfl (Has.loc rfl) (st_d sub_all) (fun hg => sp_call2 (φ1 := IsD (SF w []) (strsD ([]))) (φ2 := IsD (SF w []) (valsD ([]))) ent30 (Has.cst.dat (rd_nil _ : Rd W136 (SF w []) (strsD ([])) _) sub_all) (Has.cst.dat (rd_nil _ : Rd W136 (SF w []) (valsD ([])) _) sub_all) (fun g u1 u2 W hk hgk h1 h2 => (obj_ok ([]) ([]) W _ _ _ h1 h2).mono (ret_arF kw in_nil hk hgk))) ?_
        refine Chain.opE (t := 157) (x := !(mayB (V.mk 5 0 ⟨#[]⟩ ([⟨#[]⟩, ofBytes (List.replicate (lit 4096) 0)]) ([V.mk (2) (-9223372036854775808) (⟨#[]⟩) ([]) ([]), V.mk 4 0 ⟨#[]⟩ [] ([])])))) (φ := Is (.bool (mayB (V.mk 5 0 ⟨#[]⟩ ([]) ([]))))) rfl (Has.loc rfl) (st_is _) (fun hg => sp_call1 (φ1 := IsD (SF w []) (V.d (V.mk 5 0 ⟨#[]⟩ ([]) ([])))) ent15 ((Has.loc rfl).undE hg) (fun g u1 W hk hgk h1 => May_ok (V.mk 5 0 ⟨#[]⟩ ([]) ([])) (Nat.le_of_ble_eq_true (by kernel_rfl)) W _ _ h1)) ?_
        refine Chain.opE (t := 157) (x := !(mayB (V.mk 5 0 ⟨#[]⟩ ([⟨#[]⟩, ofBytes (List.replicate (lit 4096) 0)]) ([V.mk (2) (-9223372036854775808) (⟨#[]⟩) ([]) ([]), V.mk 4 0 ⟨#[]⟩ [] ([])])))) (φ := Is (.bool (!(mayB (V.mk 5 0 ⟨#[]⟩ ([]) ([])))))) rfl (Has.loc rfl) (st_is _) (fun hg => sp_not ((Has.loc rfl).undE hg)) ?_
        refine Chain.op (φ := Is (.bool ((!(mayB (V.mk 5 0 ⟨#[]⟩ ([⟨#[]⟩, ofBytes (List.replicate (lit 4096) 0)]) ([V.mk (2) (-9223372036854775808) (⟨#[]⟩) ([]) ([]), V.mk 4 0 ⟨#[]⟩ [] ([])])))) || (!(mayB (V.mk 5 0 ⟨#[]⟩ ([]) ([]))))))) (st_is _) (sp_or (Has.loc rfl) ((Has.loc rfl).weak fun hq => hq)) ?_
        refine Chain.op (φ := Is (.bool ((!(mayB (V.mk 5 0 ⟨#[]⟩ ([⟨#[]⟩, ofBytes (List.replicate (lit 4096) 0)]) ([V.mk (2) (-9223372036854775808) (⟨#[]⟩) ([]) ([]), V.mk 4 0 ⟨#[]⟩ [] ([])])))) || (!(mayB (V.mk 5 0 ⟨#[]⟩ ([]) ([]))))))) (st_is _) (sp_move (Has.loc rfl)) ?_
        refine Chain.opE (t := 162) (x := (!(mayB (V.mk 5 0 ⟨#[]⟩ ([⟨#[]⟩, ofBytes (List.replicate (lit 4096) 0)]) ([V.mk (2) (-9223372036854775808) (⟨#[]⟩) ([]) ([]), V.mk 4 0 ⟨#[]⟩ [] ([])])))) || (!(mayB (V.mk 5 0 ⟨#[]⟩ ([]) ([]))))) (φ := Is (.agg #[(.int .u8 (2)), (.int .i64 (1)), (.string (⟨#[]⟩)), (.slice none 0 0), (.slice none 0 0)])) rfl (Has.loc rfl) (st_is _) (fun hg => sp_call1 (φ1 := Is (.int .i64 (1))) ent18 Has.cst (fun g u1 W hk hgk h1 => by have h1 : u1 = _ := h1; subst u1; exact num_ok (1) W)) ?_
        refine Chain.opE (t := 162) (x := (!(mayB (V.mk 5 0 ⟨#[]⟩ ([⟨#[]⟩, ofBytes (List.replicate (lit 4096) 0)]) ([V.mk (2) (-9223372036854775808) (⟨#[]⟩) ([]) ([]), V.mk 4 0 ⟨#[]⟩ [] ([])])))) || (!(mayB (V.mk 5 0 ⟨#[]⟩ ([]) ([]))))) (φ := Is (.int .i64 (V.dep (V.mk (2) (1) (⟨#[]⟩) ([]) ([]))))) rfl (Has.loc rfl) (st_is _) (fun hg => sp_call1 (φ1 := IsD (SF w []) (V.d (V.mk (2) (1) (⟨#[]⟩) ([]) ([])))) ent17 (((Has.loc rfl).undE hg).dat (rdV_mk (by decide) (rd_nil _) (rd_nil _) : Rd W136 (SF w []) (V.d (V.mk (2) (1) (⟨#[]⟩) ([]) ([]))) _) sub_all) (fun g u1 W hk hgk h1 => Depth_ok (V.mk (2) (1) (⟨#[]⟩) ([]) ([])) (by first | omega | exact Nat.le_of_ble_eq_true (by kernel_rfl)) W _ _ (fun b o h => h.1.2.1) h1)) ?_
        refine Chain.opE (t := 162) (x := (!(mayB (V.mk 5 0 ⟨#[]⟩ ([⟨#[]⟩, ofBytes (List.replicate (lit 4096) 0)]) ([V.mk (2) (-9223372036854775808) (⟨#[]⟩) ([]) ([]), V.mk 4 0 ⟨#[]⟩ [] ([])])))) || (!(mayB (V.mk 5 0 ⟨#[]⟩ ([]) ([]))))) (φ := Is (.bool ((V.dep (V.mk (2) (1) (⟨#[]⟩) ([]) ([])) : Int) != (0 : Int)))) rfl (Has.loc rfl) (st_is _) (fun hg => sp_neq ((Has.loc rfl).undE hg) Has.cst) ?_
        refine Chain.op (φ := Is (.bool (((!(mayB (V.mk 5 0 ⟨#[]⟩ ([⟨#[]⟩, ofBytes (List.replicate (lit 4096) 0)]) ([V.mk (2) (-9223372036854775808) (⟨#[]⟩) ([]) ([]), V.mk 4 0 ⟨#[]⟩ [] ([])])))) || (!(mayB (V.mk 5 0 ⟨#[]⟩ ([]) ([]))))) || ((V.dep (V.mk (2) (1) (⟨#[]⟩) ([]) ([])) : Int) != (0 : Int))))) (st_is _) (sp_or (Has.loc rfl) ((Has.loc rfl).weak fun hq => hq)) ?_
        refine Chain.op (φ := Is (.bool (((!(mayB (V.mk 5 0 ⟨#[]⟩ ([⟨#[]⟩, ofBytes (List.replicate (lit 4096) 0)]) ([V.mk (2) (-9223372036854775808) (⟨#[]⟩) ([]) ([]), V.mk 4 0 ⟨#[]⟩ [] ([])])))) || (!(mayB (V.mk 5 0 ⟨#[]⟩ ([]) ([]))))) || ((V.dep (V.mk (2) (1) (⟨#[]⟩) ([]) ([])) : Int) != (0 : Int))))) (st_is _) (sp_move (Has.loc rfl)) ?_
        refine Chain.opE (t := 167) (x := ((!(mayB (V.mk 5 0 ⟨#[]⟩ ([⟨#[]⟩, ofBytes (List.replicate (lit 4096) 0)]) ([V.mk (2) (-9223372036854775808) (⟨#[]⟩) ([]) ([]), V.mk 4 0 ⟨#[]⟩ [] ([])])))) || (!(mayB (V.mk 5 0 ⟨#[]⟩ ([]) ([]))))) || ((V.dep (V.mk (2) (1) (⟨#[]⟩) ([]) ([])) : Int) != (0 : Int))) (φ := IsD (SF w []) (V.d (V.mk 5 0 ⟨#[]⟩ ([]) ([])))) rfl (Has.loc rfl) (st_d sub_all) (fun hg => sp_call2 (φ1 := IsD (SF w []) (strsD ([]))) (φ2 := IsD (SF w []) (valsD ([]))) ent30 (Has.cst.dat (rd_nil _ : Rd W136 (SF w []) (strsD ([])) _) sub_all) (Has.cst.dat (rd_nil _ : Rd W136 (SF w []) (valsD ([])) _) sub_all) (fun g u1 u2 W hk hgk h1 h2 => (obj_ok ([]) ([]) W _ _ _ h1 h2).mono (ret_arF kw in_nil hk hgk))) ?_
        refine Chain.opE (t := 167) (x := ((!(mayB (V.mk 5 0 ⟨#[]⟩ ([⟨#[]⟩, ofBytes (List.replicate (lit 4096) 0)]) ([V.mk (2) (-9223372036854775808) (⟨#[]⟩) ([]) ([]), V.mk 4 0 ⟨#[]⟩ [] ([])])))) || (!(mayB (V.mk 5 0 ⟨#[]⟩ ([]) ([]))))) || ((V.dep (V.mk (2) (1) (⟨#[]⟩) ([]) ([])) : Int) != (0 : Int))) (φ := Is (.int .i64 (V.dep (V.mk 5 0 ⟨#[]⟩ ([]) ([]))))) rfl (Has.loc rfl) (st_is _) (fun hg => sp_call1 (φ1 := IsD (SF w []) (V.d (V.mk 5 0 ⟨#[]⟩ ([]) ([])))) ent17 ((Has.loc rfl).undE hg) (fun g u1 W hk hgk h1 => Depth_ok (V.mk 5 0 ⟨#[]⟩ ([]) ([])) (by first | omega | exact Nat.le_of_ble_eq_true (by kernel_rfl)) W _ _ (fun b o h => h.1.2.1) h1)) ?_
        refine Chain.opE (t := 167) (x := ((!(mayB (V.mk 5 0 ⟨#[]⟩ ([⟨#[]⟩, ofBytes (List.replicate (lit 4096) 0)]) ([V.mk (2) (-9223372036854775808) (⟨#[]⟩) ([]) ([]), V.mk 4 0 ⟨#[]⟩ [] ([])])))) || (!(mayB (V.mk 5 0 ⟨#[]⟩ ([]) ([]))))) || ((V.dep (V.mk (2) (1) (⟨#[]⟩) ([]) ([])) : Int) != (0 : Int))) (φ := Is (.bool ((V.dep (V.mk 5 0 ⟨#[]⟩ ([]) ([])) : Int) != (1 : Int)))) rfl (Has.loc rfl) (st_is _) (fun hg => sp_neq ((Has.loc rfl).undE hg) Has.cst) ?_
        refine Chain.op (φ := _) (st_is _) (sp_or (Has.loc rfl) ((Has.loc rfl).weak fun hq => hq)) ?_
        refine Chain.op (φ := _) (st_is _) (sp_move (Has.loc rfl)) ?_
        refine Chain.opE (t := 172) (x := _) (φ := Is (.agg #[(.int .u8 (2)), (.int .i64 (1)), (.string (⟨#[]⟩)), (.slice none 0 0), (.slice none 0 0)])) rfl (Has.loc rfl) (st_is _) (fun hg => sp_call1 (φ1 := Is (.int .i64 (1))) ent18 Has.cst (fun g u1 W hk hgk h1 => by have h1 : u1 = _ := h1; subst u1; exact num_ok (1) W)) ?_
        refine Chain.opE (t := 172) (x := _) (φ := Is (.int .i64 (V.cnt (V.mk (2) (1) (⟨#[]⟩) ([]) ([]))))) rfl (Has.loc rfl) (st_is _) (fun hg => sp_call1 (φ1 := IsD (SF w []) (V.d (V.mk (2) (1) (⟨#[]⟩) ([]) ([])))) ent16 (((Has.loc rfl).undE hg).dat (rdV_mk (by decide) (rd_nil _) (rd_nil _) : Rd W136 (SF w []) (V.d (V.mk (2) (1) (⟨#[]⟩) ([]) ([]))) _) sub_all) (fun g u1 W hk hgk h1 => Count_ok (V.mk (2) (1) (⟨#[]⟩) ([]) ([])) (Nat.le_of_ble_eq_true (by kernel_rfl)) W _ _ (fun b o h => h.1.2.1) h1)) ?_
        refine Chain.opE (t := 172) (x := _) (φ := Is (.bool ((V.cnt (V.mk (2) (1) (⟨#[]⟩) ([]) ([])) : Int) != (1 : Int)))) rfl (Has.loc rfl) (st_is _) (fun hg => sp_neq ((Has.loc rfl).undE hg) Has.cst) ?_
        refine Chain.op (φ := _) (st_is _) (sp_or (Has.loc rfl) ((Has.loc rfl).weak fun hq => hq)) ?_
        refine Chain.done ⟨by kernel_rfl, fun a147 g W147 hsz147 hdf147 hk hg henv hrest hpsi => ?_⟩
        obtain ⟨e176, -, -, -, -, -, -, -, -, -, -, -, -, -, -, -, -, -, -, -, -, -, -, -, -, -, -, -, -, -⟩ := henv
        replace D_v139_133 := D_v139_133.ext hk
        have e176 : sl a147 176 = (.bool (((((!(mayB (V.mk 5 0 ⟨#[]⟩ ([⟨#[]⟩, ofBytes (List.replicate (lit 4096) 0)]) ([V.mk (2) (-9223372036854775808) (⟨#[]⟩) ([]) ([]), V.mk 4 0 ⟨#[]⟩ [] ([])])))) || (!(mayB (V.mk 5 0 ⟨#[]⟩ ([]) ([]))))) || ((V.dep (V.mk (2) (1) (⟨#[]⟩) ([]) ([])) : Int) != (0 : Int))) || ((V.dep (V.mk 5 0 ⟨#[]⟩ ([]) ([])) : Int) != (1 : Int))) || ((V.cnt (V.mk (2) (1) (⟨#[]⟩) ([]) ([])) : Int) != (1 : Int)))) := e176
        replace kw := kw.trans (.of_ext hk)
        clear hrest hk hg hpsi
        refine tail_nil (hK146 _ _ ?_)
        refine wp_cond_split e176 (fun hc => ?_) (fun hc => ?_)
        · -- T: ((((!(mayB (V.mk 5 0 ⟨#[]⟩ ([⟨#[]⟩, ofBytes (List.replicate (lit 4096) 0)]) ([V.
          exfalso
          rw [may_two_ _ (by kernel_rfl)] at hc
          cases hc.symm.trans (show _ = false from by kernel_rfl)
        · -- E: ((((!(mayB (V.mk 5 0 ⟨#[]⟩ ([⟨#[]⟩, ofBytes (List.replicate (lit 4096) 0)]) ([V.
          refine wp_skip (hK145 _ _ ?_)
          refine wp_seq_k fun K148 hK148 => ?_
          refine wp_reg All mixed hsz147 hdf147 st_tr trivial ?_
          refine Chain.op (φ := IsD (SF w []) (V.d (V.mk 4 0 ⟨#[]⟩ [] ([])))) (st_d sub_all) (sp_call1 (φ1 := IsD (SF w []) (valsD ([]))) ent29 (Has.cst.dat (rd_nil _ : Rd W147 (SF w []) (valsD ([])) _) sub_all) (fun g u1 W hk hgk h1 => (list_ok ([]) W _ _ h1).mono (ret_arF kw in_nil hk hgk))) ?_
          refine Chain.op (φ := Is (.agg #[(.int .u8 (2)), (.int .i64 (1)), (.string (⟨#[]⟩)), (.slice none 0 0), (.slice none 0 0)])) (st_is _) (sp_call1 (φ1 := Is (.int .i64 (1))) ent18 Has.cst (fun g u1 W hk hgk h1 => by have h1 : u1 = _ := h1; subst u1; exact num_ok (1) W)) ?_
          refine Chain.op (φ := IsT (IsD (Fr W147) (V.d (withV (V.mk 4 0 ⟨#[]⟩ [] ([])) ⟨#[97]⟩ (V.mk (2) (1) (⟨#[]⟩) ([]) ([]))))) (Is (.int .i64 (withE (V.mk 4 0 ⟨#[]⟩ [] ([])))))) (st_t (st_d sub_all) (st_is _)) (sp_call3 (φ1 := IsD (SF w []) (V.d (V.mk 4 0 ⟨#[]⟩ [] ([])))) (φ2 := Is (.string (⟨#[97]⟩))) (φ3 := IsD (SF w []) (V.d (V.mk (2) (1) (⟨#[]⟩) ([]) ([])))) ent25 (Has.loc rfl) Has.cst ((Has.loc rfl).dat (rdV_mk (by decide) (rd_nil _) (rd_nil _) : Rd W147 (SF w []) (V.d (V.mk (2) (1) (⟨#[]⟩) ([]) ([]))) _) sub_all) (fun g u1 u2 u3 W hk hgk h1 h2 h3 => by have h2 : u2 = _ := h2; subst u2; exact (With_ok (V.mk 4 0 ⟨#[]⟩ [] ([])) (V.mk (2) (1) (⟨#[]⟩) ([]) ([])) (⟨#[97]⟩) (by decide) (by decide) (Nat.le_of_ble_eq_true rfl) W _ _ _ (fun b o h => h.1.2.1) h1 h3).mono (fun _ _ ⟨v, h1, h2, r1, h3, h4⟩ => ⟨v, h1, h2, r1, _, h3, fresh_d hk hgk h4, rfl⟩))) ?_
          refine Chain.op (φ := IsT (IsD (Fr W147) (V.d (withV (V.mk 4 0 ⟨#[]⟩ [] ([])) ⟨#[97]⟩ (V.mk (2) (1) (⟨#[]⟩) ([]) ([]))))) (Is (.int .i64 (withE (V.mk 4 0 ⟨#[]⟩ [] ([])))))) (st_t (st_d sub_all) (st_is _)) (sp_move (Has.loc rfl)) ?_
          refine Chain.op (φ := IsD (Fr W147) (V.d (withV (V.mk 4 0 ⟨#[]⟩ [] ([])) ⟨#[97]⟩ (V.mk (2) (1) (⟨#[]⟩) ([]) ([]))))) (st_d sub_all) (sp_ext2 (Has.loc rfl) rfl) ?_
          refine Chain.op (φ := Is (.int .i64 (withE (V.mk 4 0 ⟨#[]⟩ [] ([]))))) (st_is _) (sp_ext2' (Has.loc rfl) rfl) ?_
          refine Chain.alloc z25 ?_
          refine Chain.done ⟨by kernel_rfl, fun a149 g W149 hsz149 hdf149 hk hg henv hrest hpsi => ?_⟩
          obtain ⟨⟨b7_149, e7, hb7, own_b7_149⟩, e182, e181, -, -, -, -, -⟩ := henv
          have lo_b7_149 : w.heap.size ≤ b7_149 := Nat.le_trans kw.size (hg.lo _ _ hb7)
          have own_b7_149 : Own W149 b7_149 [(.int .u8 (0)), (.int .i64 (0)), (.string (⟨#[]⟩)), (.slice none 0 0), (.slice none 0 0)] 25 := own_b7_149
          obtain ⟨v181_149, ev⟩ : ∃ v, sl a149 181 = v := ⟨_, rfl⟩
          rw [ev] at e181
          have D_v181_149 : Rd W149 (SF w [b7_149]) (V.d (withV (V.mk 4 0 ⟨#[]⟩ [] ([])) ⟨#[97]⟩ (V.mk (2) (1) (⟨#[]⟩) ([]) ([])))) v181_149 := fr_end (M := []) e181 kw [b7_149] (in_cons ⟨_, hb7⟩ in_nil) in_nil
          replace e181 := ev; clear ev
          obtain ⟨cn181_149a, cn181_149c, ci181_149a, ci181_149c, ev, ht_v181_149, D_cn181_149, D_ci181_149⟩ := rdV_out D_v181_149
          subst ev; clear D_v181_149
          have e182 : sl a149 182 = (.int .i64 (withE (V.mk 4 0 ⟨#[]⟩ [] ([])))) := e182
          replace kw := kw.trans (.of_ext hk)
          clear hrest hk hg hpsi hb7
          refine tail_store (b := b7_149) (o := 0) (v := (.agg #[(.int .u8 ((withV (V.mk 4 0 ⟨#[]⟩ [] ([])) ⟨#[97]⟩ (V.mk (2) (1) (⟨#[]⟩) ([]) ([]))).k)), (.int .i64 ((withV (V.mk 4 0 ⟨#[]⟩ [] ([])) ⟨#[97]⟩ (V.mk (2) (1) (⟨#[]⟩) ([]) ([]))).n)), (.string ((withV (V.mk 4 0 ⟨#[]⟩ [] ([])) ⟨#[97]⟩ (V.mk (2) (1) (⟨#[]⟩) ([]) ([]))).t)), (.slice cn181_149a (((withV (V.mk 4 0 ⟨#[]⟩ [] ([])) ⟨#[97]⟩ (V.mk (2) (1) (⟨#[]⟩) ([]) ([]))).ns).length) cn181_149c), (.slice ci181_149a (((withV (V.mk 4 0 ⟨#[]⟩ [] ([])) ⟨#[97]⟩ (V.mk (2) (1) (⟨#[]⟩) ([]) ([]))).xs).length) ci181_149c)])) e7 e181 sz25 rfl own_b7_149 (Nat.le_of_ble_eq_true rfl) (all_cons rfl (all_cons rfl (all_cons rfl (all_cons rfl (all_cons rfl all_nil))))) (fun W150 hs own_b7_149 => ?_)
          have own_b7_149 : Own W150 b7_149 [(.int .u8 ((withV (V.mk 4 0 ⟨#[]⟩ [] ([])) ⟨#[97]⟩ (V.mk (2) (1) (⟨#[]⟩) ([]) ([]))).k)), (.int .i64 ((withV (V.mk 4 0 ⟨#[]⟩ [] ([])) ⟨#[97]⟩ (V.mk (2) (1) (⟨#[]⟩) ([]) ([]))).n)), (.string ((withV (V.mk 4 0 ⟨#[]⟩ [] ([])) ⟨#[97]⟩ (V.mk (2) (1) (⟨#[]⟩) ([]) ([]))).t)), (.slice cn181_149a (((withV (V.mk 4 0 ⟨#[]⟩ [] ([])) ⟨#[97]⟩ (V.mk (2) (1) (⟨#[]⟩) ([]) ([]))).ns).length) cn181_149c), (.slice ci181_149a (((withV (V.mk 4 0 ⟨#[]⟩ [] ([])) ⟨#[97]⟩ (V.mk (2) (1) (⟨#[]⟩) ([]) ([]))).xs).length) ci181_149c)] 25 := own_b7_149
          replace D_cn181_149 := sf_store D_cn181_149 hs (by simp)
          replace D_ci181_149 := sf_store D_ci181_149 hs (by simp)
          replace kw := keeps_store kw hs lo_b7_149
          clear hs
          refine tail_assign (v := (.int .i64 (withE (V.mk 4 0 ⟨#[]⟩ [] ([]))))) e182 (by rw [hsz149]; exact Nat.le_of_ble_eq_true rfl) (fun a151 hsz151 hdf151 e8 hr => ?_)
          replace hsz151 := hsz151.trans hsz149; replace hdf151 := hdf151.trans hdf149
          replace e7 := (hr 7 (by decide)).trans e7
          replace e181 := (hr 181 (by decide)).trans e181
          replace e182 := (hr 182 (by decide)).trans e182
          clear hr
          refine tail_nil (hK148 _ _ ?_)
          refine wp_seq_k fun K152 hK152 => ?_
          refine wp_reg All mixed hsz151 hdf151 st_tr trivial ?_
          refine Chain.op (φ := IsD (SF w [b7_149]) (strsD ([⟨#[97]⟩]))) (st_d sub_all) (sp_bsl (ds := [D.str (⟨#[97]⟩)]) Try.underlying22 sz9 z9 (Nat.le_of_ble_eq_true rfl) (Nat.le_of_ble_eq_true rfl) ⟨rfl, (Has.cst.str (Nat.le_of_ble_eq_true rfl)), trivial⟩ rfl (by simp [width]) (fr_sf kw (in_cons own_b7_149.lt in_nil))) ?_
          refine Chain.op (φ := IsD (SF w [b7_149]) (V.d (V.mk (5) (0) (⟨#[]⟩) ([⟨#[97]⟩]) ([])))) (st_d sub_all) (sp_buildD (zd := [.int .u8 0, .int .i64 0, .str ⟨#[]⟩, strsD [], valsD []]) (es := [(0, D.int .u8 (5)), (3, strsD ([⟨#[97]⟩]))]) Try.underlying25 z25 (pl25 Try.underlying25) ⟨rfl, Has.cst.int, ⟨rfl, (Has.loc rfl), trivial⟩⟩ zV rfl (by simp [fits, width, strsD, valsD]) (by rw [V.d_eq]; rfl)) ?_
          refine Chain.op (φ := Is (.agg #[(.int .u8 (2)), (.int .i64 (1)), (.string (⟨#[]⟩)), (.slice none 0 0), (.slice none 0 0)])) (st_is _) (sp_call1 (φ1 := Is (.int .i64 (1))) ent18 Has.cst (fun g u1 W hk hgk h1 => by have h1 : u1 = _ := h1; subst u1; exact num_ok (1) W)) ?_
          refine Chain.op (φ := IsT (IsD (Fr W150) (V.d (withV (V.mk (5) (0) (⟨#[]⟩) ([⟨#[97]⟩]) ([])) ⟨#[98]⟩ (V.mk (2) (1) (⟨#[]⟩) ([]) ([]))))) (Is (.int .i64 (withE (V.mk (5) (0) (⟨#[]⟩) ([⟨#[97]⟩]) ([])))))) (st_t (st_d sub_all) (st_is _)) (sp_call3 (φ1 := IsD (SF w [b7_149]) (V.d (V.mk (5) (0) (⟨#[]⟩) ([⟨#[97]⟩]) ([])))) (φ2 := Is (.string (⟨#[98]⟩))) (φ3 := IsD (SF w [b7_149]) (V.d (V.mk (2) (1) (⟨#[]⟩) ([]) ([])))) ent25 (Has.loc rfl) Has.cst ((Has.loc rfl).dat (rdV_mk (by decide) (rd_nil _) (rd_nil _) : Rd W150 (SF w [b7_149]) (V.d (V.mk (2) (1) (⟨#[]⟩) ([]) ([]))) _) sub_all) (fun g u1 u2 u3 W hk hgk h1 h2 h3 => by have h2 : u2 = _ := h2; subst u2; exact (With_ok (V.mk (5) (0) (⟨#[]⟩) ([⟨#[97]⟩]) ([])) (V.mk (2) (1) (⟨#[]⟩) ([]) ([])) (⟨#[98]⟩) (by decide) (by decide) (Nat.le_of_ble_eq_true rfl) W _ _ _ (fun b o h => h.1.2.1) h1 h3).mono (fun _ _ ⟨v, h1, h2, r1, h3, h4⟩ => ⟨v, h1, h2, r1, _, h3, fresh_d hk hgk h4, rfl⟩))) ?_
          refine Chain.op (φ := IsT (IsD (Fr W150) (V.d (withV (V.mk (5) (0) (⟨#[]⟩) ([⟨#[97]⟩]) ([])) ⟨#[98]⟩ (V.mk (2) (1) (⟨#[]⟩) ([]) ([]))))) (Is (.int .i64 (withE (V.mk (5) (0) (⟨#[]⟩) ([⟨#[97]⟩]) ([])))))) (st_t (st_d sub_all) (st_is _)) (sp_move (Has.loc rfl)) ?_
          refine Chain.op (φ := IsD (Fr W150) (V.d (withV (V.mk (5) (0) (⟨#[]⟩) ([⟨#[97]⟩]) ([])) ⟨#[98]⟩ (V.mk (2) (1) (⟨#[]⟩) ([]) ([]))))) (st_d sub_all) (sp_ext2 (Has.loc rfl) rfl) ?_
          refine Chain.op (φ := Is (.int .i64 (withE (V.mk (5) (0) (⟨#[]⟩) ([⟨#[97]⟩]) ([]))))) (st_is _) (sp_ext2' (Has.loc rfl) rfl) ?_
          refine Chain.alloc z25 ?_
          refine Chain.done ⟨by kernel_rfl, fun a153 g W153 hsz153 hdf153 hk hg henv hrest hpsi => ?_⟩
          obtain ⟨⟨b9_153, e9, hb9, own_b9_153⟩, e189, e188, -, -, -, -, -, -⟩ := henv
          have lo_b9_153 : w.heap.size ≤ b9_153 := Nat.le_trans kw.size (hg.lo _ _ hb9)
          have ne_b7_149_b9_153 : b7_149 ≠ b9_153 := Nat.ne_of_lt (Nat.lt_of_lt_of_le own_b7_149.lt (hg.lo _ _ hb9))
          have own_b9_153 : Own W153 b9_153 [(.int .u8 (0)), (.int .i64 (0)), (.string (⟨#[]⟩)), (.slice none 0 0), (.slice none 0 0)] 25 := own_b9_153
          replace e8 := (hrest 8 rfl).trans e8
          obtain ⟨v188_153, ev⟩ : ∃ v, sl a153 188 = v := ⟨_, rfl⟩
          rw [ev] at e188
          have D_v188_153 : Rd W153 (SF w [b9_153, b7_149]) (V.d (withV (V.mk (5) (0) (⟨#[]⟩) ([⟨#[97]⟩]) ([])) ⟨#[98]⟩ (V.mk (2) (1) (⟨#[]⟩) ([]) ([])))) v188_153 := fr_end (M := [b7_149]) e188 kw [b9_153] (in_cons ⟨_, hb9⟩ in_nil) (in_cons own_b7_149.lt in_nil)
          replace e188 := ev; clear ev
          obtain ⟨cn188_153a, cn188_153c, ci188_153a, ci188_153c, ev, ht_v188_153, D_cn188_153, D_ci188_153⟩ := rdV_out D_v188_153
          subst ev; clear D_v188_153
          have e189 : sl a153 189 = (.int .i64 (withE (V.mk (5) (0) (⟨#[]⟩) ([⟨#[97]⟩]) ([])))) := e189
          replace own_b7_149 := own_b7_149.ext hk
          replace kw := kw.trans (.of_ext hk)
          clear hrest hk hg hpsi hb9
          refine tail_store (b := b9_153) (o := 0) (v := (.agg #[(.int .u8 ((withV (V.mk (5) (0) (⟨#[]⟩) ([⟨#[97]⟩]) ([])) ⟨#[98]⟩ (V.mk (2) (1) (⟨#[]⟩) ([]) ([]))).k)), (.int .i64 ((withV (V.mk (5) (0) (⟨#[]⟩) ([⟨#[97]⟩]) ([])) ⟨#[98]⟩ (V.mk (2) (1) (⟨#[]⟩) ([]) ([]))).n)), (.string ((withV (V.mk (5) (0) (⟨#[]⟩) ([⟨#[97]⟩]) ([])) ⟨#[98]⟩ (V.mk (2) (1) (⟨#[]⟩) ([]) ([]))).t)), (.slice cn188_153a (((withV (V.mk (5) (0) (⟨#[]⟩) ([⟨#[97]⟩]) ([])) ⟨#[98]⟩ (V.mk (2) (1) (⟨#[]⟩) ([]) ([]))).ns).length) cn188_153c), (.slice ci188_153a (((withV (V.mk (5) (0) (⟨#[]⟩) ([⟨#[97]⟩]) ([])) ⟨#[98]⟩ (V.mk (2) (1) (⟨#[]⟩) ([]) ([]))).xs).length) ci188_153c)])) e9 e188 sz25 rfl own_b9_153 (Nat.le_of_ble_eq_true rfl) (all_cons rfl (all_cons rfl (all_cons rfl (all_cons rfl (all_cons rfl all_nil))))) (fun W154 hs own_b9_153 => ?_)
          have own_b9_153 : Own W154 b9_153 [(.int .u8 ((withV (V.mk (5) (0) (⟨#[]⟩) ([⟨#[97]⟩]) ([])) ⟨#[98]⟩ (V.mk (2) (1) (⟨#[]⟩) ([]) ([]))).k)), (.int .i64 ((withV (V.mk (5) (0) (⟨#[]⟩) ([⟨#[97]⟩]) ([])) ⟨#[98]⟩ (V.mk (2) (1) (⟨#[]⟩) ([]) ([]))).n)), (.string ((withV (V.mk (5) (0) (⟨#[]⟩) ([⟨#[97]⟩]) ([])) ⟨#[98]⟩ (V.mk (2) (1) (⟨#[]⟩) ([]) ([]))).t)), (.slice cn188_153a (((withV (V.mk (5) (0) (⟨#[]⟩) ([⟨#[97]⟩]) ([])) ⟨#[98]⟩ (V.mk (2) (1) (⟨#[]⟩) ([]) ([]))).ns).length) cn188_153c), (.slice ci188_153a (((withV (V.mk (5) (0) (⟨#[]⟩) ([⟨#[97]⟩]) ([])) ⟨#[98]⟩ (V.mk (2) (1) (⟨#[]⟩) ([]) ([]))).xs).length) ci188_153c)] 25 := own_b9_153
          replace own_b7_149 := own_store own_b7_149 hs ne_b7_149_b9_153
          replace D_cn188_153 := sf_store D_cn188_153 hs (by simp)
          replace D_ci188_153 := sf_store D_ci188_153 hs (by simp)
          replace kw := keeps_store kw hs lo_b9_153
          clear hs
          refine tail_assign (v := (.int .i64 (withE (V.mk (5) (0) (⟨#[]⟩) ([⟨#[97]⟩]) ([]))))) e189 (by rw [hsz153]; exact Nat.le_of_ble_eq_true rfl) (fun a155 hsz155 hdf155 e10 hr => ?_)
          replace hsz155 := hsz155.trans hsz153; replace hdf155 := hdf155.trans hdf153
          replace e8 := (hr 8 (by decide)).trans e8
          replace e9 := (hr 9 (by decide)).trans e9
          replace e188 := (hr 188 (by decide)).trans e188
          replace e189 := (hr 189 (by decide)).trans e189
          clear hr
          refine tail_nil (hK152 _ _ ?_)
          refine wp_seq_k fun K156 hK156 => ?_
          refine wp_reg All mixed hsz155 hdf155 st_tr trivial ?_
          refine Chain.op (φ := IsD (SF w [b9_153, b7_149]) (strsD ([⟨#[98]⟩, ⟨#[97]⟩]))) (st_d sub_all) (sp_bsl (ds := [D.str (⟨#[98]⟩), D.str (⟨#[97]⟩)]) Try.underlying22 sz9 z9 (Nat.le_of_ble_eq_true rfl) (Nat.le_of_ble_eq_true rfl) ⟨rfl, (Has.cst.str (Nat.le_of_ble_eq_true rfl)), ⟨rfl, (Has.cst.str (Nat.le_of_ble_eq_true rfl)), trivial⟩⟩ rfl (by simp [width]) (fr_sf kw (in_cons own_b9_153.lt (in_cons own_b7_149.lt in_nil)))) ?_
          refine Chain.op (φ := Is (.agg #[(.int .u8 (2)), (.int .i64 (1)), (.string (⟨#[]⟩)), (.slice none 0 0), (.slice none 0 0)])) (st_is _) (sp_call1 (φ1 := Is (.int .i64 (1))) ent18 Has.cst (fun g u1 W hk hgk h1 => by have h1 : u1 = _ := h1; subst u1; exact num_ok (1) W)) ?_
          refine Chain.op (φ := Is (.agg #[(.int .u8 (2)), (.int .i64 (2)), (.string (⟨#[]⟩)), (.slice none 0 0), (.slice none 0 0)])) (st_is _) (sp_call1 (φ1 := Is (.int .i64 (2))) ent18 Has.cst (fun g u1 W hk hgk h1 => by have h1 : u1 = _ := h1; subst u1; exact num_ok (2) W)) ?_
          refine Chain.op (φ := IsD (SF w [b9_153, b7_149]) (valsD ([V.mk (2) (1) (⟨#[]⟩) ([]) ([]), V.mk (2) (2) (⟨#[]⟩) ([]) ([])]))) (st_d sub_all) (sp_bsl (ds := [V.d (V.mk (2) (1) (⟨#[]⟩) ([]) ([])), V.d (V.mk (2) (2) (⟨#[]⟩) ([]) ([]))]) Try.underlying23 sz25 z25 (Nat.le_of_ble_eq_true rfl) (Nat.le_of_ble_eq_true rfl) ⟨rfl, ((Has.loc rfl).dat (rdV_mk (by decide) (rd_nil _) (rd_nil _) : Rd W154 (SF w [b9_153, b7_149]) (V.d (V.mk (2) (1) (⟨#[]⟩) ([]) ([]))) _) sub_all), ⟨rfl, ((Has.loc rfl).dat (rdV_mk (by decide) (rd_nil _) (rd_nil _) : Rd W154 (SF w [b9_153, b7_149]) (V.d (V.mk (2) (2) (⟨#[]⟩) ([]) ([]))) _) sub_all), trivial⟩⟩ rfl (by intro e he; simp at he; rcases he with rfl | rfl <;> exact width_V _) (fr_sf kw (in_cons own_b9_153.lt (in_cons own_b7_149.lt in_nil)))) ?_
          refine Chain.op (φ := IsD (SF w [b9_153, b7_149]) (V.d (V.mk 5 0 ⟨#[]⟩ ([⟨#[98]⟩, ⟨#[97]⟩]) ([V.mk (2) (1) (⟨#[]⟩) ([]) ([]), V.mk (2) (2) (⟨#[]⟩) ([]) ([])])))) (st_d sub_all) (sp_call2 (φ1 := IsD (SF w [b9_153, b7_149]) (strsD ([⟨#[98]⟩, ⟨#[97]⟩]))) (φ2 := IsD (SF w [b9_153, b7_149]) (valsD ([V.mk (2) (1) (⟨#[]⟩) ([]) ([]), V.mk (2) (2) (⟨#[]⟩) ([]) ([])]))) ent30 (Has.loc rfl) (Has.loc rfl) (fun g u1 u2 W hk hgk h1 h2 => (obj_ok ([⟨#[98]⟩, ⟨#[97]⟩]) ([V.mk (2) (1) (⟨#[]⟩) ([]) ([]), V.mk (2) (2) (⟨#[]⟩) ([]) ([])]) W _ _ _ h1 h2).mono (ret_arF kw (in_cons own_b9_153.lt (in_cons own_b7_149.lt in_nil)) hk hgk))) ?_
          refine Chain.op (φ := Is (.agg #[(.int .u8 (2)), (.int .i64 (3)), (.string (⟨#[]⟩)), (.slice none 0 0), (.slice none 0 0)])) (st_is _) (sp_call1 (φ1 := Is (.int .i64 (3))) ent18 Has.cst (fun g u1 W hk hgk h1 => by have h1 : u1 = _ := h1; subst u1; exact num_ok (3) W)) ?_
          refine Chain.op (φ := IsT (IsD (Fr W154) (V.d (withV (V.mk 5 0 ⟨#[]⟩ ([⟨#[98]⟩, ⟨#[97]⟩]) ([V.mk (2) (1) (⟨#[]⟩) ([]) ([]), V.mk (2) (2) (⟨#[]⟩) ([]) ([])])) ⟨#[99]⟩ (V.mk (2) (3) (⟨#[]⟩) ([]) ([]))))) (Is (.int .i64 (withE (V.mk 5 0 ⟨#[]⟩ ([⟨#[98]⟩, ⟨#[97]⟩]) ([V.mk (2) (1) (⟨#[]⟩) ([]) ([]), V.mk (2) (2) (⟨#[]⟩) ([]) ([])])))))) (st_t (st_d sub_all) (st_is _)) (sp_call3 (φ1 := IsD (SF w [b9_153, b7_149]) (V.d (V.mk 5 0 ⟨#[]⟩ ([⟨#[98]⟩, ⟨#[97]⟩]) ([V.mk (2) (1) (⟨#[]⟩) ([]) ([]), V.mk (2) (2) (⟨#[]⟩) ([]) ([])])))) (φ2 := Is (.string (⟨#[99]⟩))) (φ3 := IsD (SF w [b9_153, b7_149]) (V.d (V.mk (2) (3) (⟨#[]⟩) ([]) ([])))) ent25 (Has.loc rfl) Has.cst ((Has.loc rfl).dat (rdV_mk (by decide) (rd_nil _) (rd_nil _) : Rd W154 (SF w [b9_153, b7_149]) (V.d (V.mk (2) (3) (⟨#[]⟩) ([]) ([]))) _) sub_all) (fun g u1 u2 u3 W hk hgk h1 h2 h3 => by have h2 : u2 = _ := h2; subst u2; exact (With_ok (V.mk 5 0 ⟨#[]⟩ ([⟨#[98]⟩, ⟨#[97]⟩]) ([V.mk (2) (1) (⟨#[]⟩) ([]) ([]), V.mk (2) (2) (⟨#[]⟩) ([]) ([])])) (V.mk (2) (3) (⟨#[]⟩) ([]) ([])) (⟨#[99]⟩) (by decide) (by decide) (Nat.le_of_ble_eq_true rfl) W _ _ _ (fun b o h => h.1.2.1) h1 h3).mono (fun _ _ ⟨v, h1, h2, r1, h3, h4⟩ => ⟨v, h1, h2, r1, _, h3, fresh_d hk hgk h4, rfl⟩))) ?_
          refine Chain.op (φ := _) (st_t (st_d sub_all) (st_is _)) (sp_move (Has.loc rfl)) ?_
          refine Chain.op (φ := IsD (Fr W154) (V.d (withV (V.mk 5 0 ⟨#[]⟩ ([⟨#[98]⟩, ⟨#[97]⟩]) ([V.mk (2) (1) (⟨#[]⟩) ([]) ([]), V.mk (2) (2) (⟨#[]⟩) ([]) ([])])) ⟨#[99]⟩ (V.mk (2) (3) (⟨#[]⟩) ([]) ([]))))) (st_d sub_all) (sp_ext2 (Has.loc rfl) rfl) ?_
          refine Chain.op (φ := Is (.int .i64 (withE (V.mk 5 0 ⟨#[]⟩ ([⟨#[98]⟩, ⟨#[97]⟩]) ([V.mk (2) (1) (⟨#[]⟩) ([]) ([]), V.mk (2) (2) (⟨#[]⟩) ([]) ([])]))))) (st_is _) (sp_ext2' (Has.loc rfl) rfl) ?_
          refine Chain.alloc z25 ?_
          refine Chain.done ⟨by kernel_rfl, fun a157 g W157 hsz157 hdf157 hk hg henv hrest hpsi => ?_⟩
          obtain ⟨⟨b11_157, e11, hb11, own_b11_157⟩, e199, e198, -, -, -, -, -, -, -, -, -⟩ := henv
          have lo_b11_157 : w.heap.size ≤ b11_157 := Nat.le_trans kw.size (hg.lo _ _ hb11)
          have ne_b7_149_b11_157 : b7_149 ≠ b11_157 := Nat.ne_of_lt (Nat.lt_of_lt_of_le own_b7_149.lt (hg.lo _ _ hb11))
          have ne_b9_153_b11_157 : b9_153 ≠ b11_157 := Nat.ne_of_lt (Nat.lt_of_lt_of_le own_b9_153.lt (hg.lo _ _ hb11))
          have own_b11_157 : Own W157 b11_157 [(.int .u8 (0)), (.int .i64 (0)), (.string (⟨#[]⟩)), (.slice none 0 0), (.slice none 0 0)] 25 := own_b11_157
          replace e8 := (hrest 8 rfl).trans e8
          replace e10 := (hrest 10 rfl).trans e10
          obtain ⟨v198_157, ev⟩ : ∃ v, sl a157 198 = v := ⟨_, rfl⟩
          rw [ev] at e198
          have D_v198_157 : Rd W157 (SF w [b11_157, b9_153, b7_149]) (V.d (withV (V.mk 5 0 ⟨#[]⟩ ([⟨#[98]⟩, ⟨#[97]⟩]) ([V.mk (2) (1) (⟨#[]⟩) ([]) ([]), V.mk (2) (2) (⟨#[]⟩) ([]) ([])])) ⟨#[99]⟩ (V.mk (2) (3) (⟨#[]⟩) ([]) ([])))) v198_157 := fr_end (M := [b9_153, b7_149]) e198 kw [b11_157] (in_cons ⟨_, hb11⟩ in_nil) (in_cons own_b9_153.lt (in_cons own_b7_149.lt in_nil))
          replace e198 := ev; clear ev
          obtain ⟨cn198_157a, cn198_157c, ci198_157a, ci198_157c, ev, ht_v198_157, D_cn198_157, D_ci198_157⟩ := rdV_out D_v198_157
          subst ev; clear D_v198_157
          have e199 : sl a157 199 = (.int .i64 (withE (V.mk 5 0 ⟨#[]⟩ ([⟨#[98]⟩, ⟨#[97]⟩]) ([V.mk (2) (1) (⟨#[]⟩) ([]) ([]), V.mk (2) (2) (⟨#[]⟩) ([]) ([])])))) := e199
          replace own_b7_149 := own_b7_149.ext hk
          replace own_b9_153 := own_b9_153.ext hk
          replace kw := kw.trans (.of_ext hk)
          clear hrest hk hg hpsi hb11
          refine tail_store (b := b11_157) (o := 0) (v := (.agg #[(.int .u8 ((withV (V.mk 5 0 ⟨#[]⟩ ([⟨#[98]⟩, ⟨#[97]⟩]) ([V.mk (2) (1) (⟨#[]⟩) ([]) ([]), V.mk (2) (2) (⟨#[]⟩) ([]) ([])])) ⟨#[99]⟩ (V.mk (2) (3) (⟨#[]⟩) ([]) ([]))).k)), (.int .i64 ((withV (V.mk 5 0 ⟨#[]⟩ ([⟨#[98]⟩, ⟨#[97]⟩]) ([V.mk (2) (1) (⟨#[]⟩) ([]) ([]), V.mk (2) (2) (⟨#[]⟩) ([]) ([])])) ⟨#[99]⟩ (V.mk (2) (3) (⟨#[]⟩) ([]) ([]))).n)), (.string ((withV (V.mk 5 0 ⟨#[]⟩ ([⟨#[98]⟩, ⟨#[97]⟩]) ([V.mk (2) (1) (⟨#[]⟩) ([]) ([]), V.mk (2) (2) (⟨#[]⟩) ([]) ([])])) ⟨#[99]⟩ (V.mk (2) (3) (⟨#[]⟩) ([]) ([]))).t)), (.slice cn198_157a (((withV (V.mk 5 0 ⟨#[]⟩ ([⟨#[98]⟩, ⟨#[97]⟩]) ([V.mk (2) (1) (⟨#[]⟩) ([]) ([]), V.mk (2) (2) (⟨#[]⟩) ([]) ([])])) ⟨#[99]⟩ (V.mk (2) (3) (⟨#[]⟩) ([]) ([]))).ns).length) cn198_157c), (.slice ci198_157a (((withV (V.mk 5 0 ⟨#[]⟩ ([⟨#[98]⟩, ⟨#[97]⟩]) ([V.mk (2) (1) (⟨#[]⟩) ([]) ([]), V.mk (2) (2) (⟨#[]⟩) ([]) ([])])) ⟨#[99]⟩ (V.mk (2) (3) (⟨#[]⟩) ([]) ([]))).xs).length) ci198_157c)])) e11 e198 sz25 rfl own_b11_157 (Nat.le_of_ble_eq_true rfl) (all_cons rfl (all_cons rfl (all_cons rfl (all_cons rfl (all_cons rfl all_nil))))) (fun W158 hs own_b11_157 => ?_)
          have own_b11_157 : Own W158 b11_157 [(.int .u8 ((withV (V.mk 5 0 ⟨#[]⟩ ([⟨#[98]⟩, ⟨#[97]⟩]) ([V.mk (2) (1) (⟨#[]⟩) ([]) ([]), V.mk (2) (2) (⟨#[]⟩) ([]) ([])])) ⟨#[99]⟩ (V.mk (2) (3) (⟨#[]⟩) ([]) ([]))).k)), (.int .i64 ((withV (V.mk 5 0 ⟨#[]⟩ ([⟨#[98]⟩, ⟨#[97]⟩]) ([V.mk (2) (1) (⟨#[]⟩) ([]) ([]), V.mk (2) (2) (⟨#[]⟩) ([]) ([])])) ⟨#[99]⟩ (V.mk (2) (3) (⟨#[]⟩) ([]) ([]))).n)), (.string ((withV (V.mk 5 0 ⟨#[]⟩ ([⟨#[98]⟩, ⟨#[97]⟩]) ([V.mk (2) (1) (⟨#[]⟩) ([]) ([]), V.mk (2) (2) (⟨#[]⟩) ([]) ([])])) ⟨#[99]⟩ (V.mk (2) (3) (⟨#[]⟩) ([]) ([]))).t)), (.slice cn198_157a (((withV (V.mk 5 0 ⟨#[]⟩ ([⟨#[98]⟩, ⟨#[97]⟩]) ([V.mk (2) (1) (⟨#[]⟩) ([]) ([]), V.mk (2) (2) (⟨#[]⟩) ([]) ([])])) ⟨#[99]⟩ (V.mk (2) (3) (⟨#[]⟩) ([]) ([]))).ns).length) cn198_157c), (.slice ci198_157a (((withV (V.mk 5 0 ⟨#[]⟩ ([⟨#[98]⟩, ⟨#[97]⟩]) ([V.mk (2) (1) (⟨#[]⟩) ([]) ([]), V.mk (2) (2) (⟨#[]⟩) ([]) ([])])) ⟨#[99]⟩ (V.mk (2) (3) (⟨#[]⟩) ([]) ([]))).xs).length) ci198_157c)] 25 := own_b11_157
          replace own_b7_149 := own_store own_b7_149 hs ne_b7_149_b11_157
          replace own_b9_153 := own_store own_b9_153 hs ne_b9_153_b11_157
          replace D_cn198_157 := sf_store D_cn198_157 hs (by simp)
          replace D_ci198_157 := sf_store D_ci198_157 hs (by simp)
          replace kw := keeps_store kw hs lo_b11_157
          clear hs
          refine tail_assign (v := (.int .i64 (withE (V.mk 5 0 ⟨#[]⟩ ([⟨#[98]⟩, ⟨#[97]⟩]) ([V.mk (2) (1) (⟨#[]⟩) ([]) ([]), V.mk (2) (2) (⟨#[]⟩) ([]) ([])]))))) e199 (by rw [hsz157]; exact Nat.le_of_ble_eq_true rfl) (fun a159 hsz159 hdf159 e12 hr => ?_)
          replace hsz159 := hsz159.trans hsz157; replace hdf159 := hdf159.trans hdf157
          replace e8 := (hr 8 (by decide)).trans e8
          replace e10 := (hr 10 (by decide)).trans e10
          replace e11 := (hr 11 (by decide)).trans e11
          replace e198 := (hr 198 (by decide)).trans e198
          replace e199 := (hr 199 (by decide)).trans e199
          clear hr
          refine tail_nil (hK156 _ _ ?_)
          refine wp_seq_k fun K160 hK160 => ?_
          refine wp_reg All mixed hsz159 hdf159 st_tr trivial ?_
          refine Chain.op (φ := IsD (SF w [b11_157, b9_153, b7_149]) (strsD ([⟨#[97]⟩, ⟨#[98]⟩]))) (st_d sub_all) (sp_bsl (ds := [D.str (⟨#[97]⟩), D.str (⟨#[98]⟩)]) Try.underlying22 sz9 z9 (Nat.le_of_ble_eq_true rfl) (Nat.le_of_ble_eq_true rfl) ⟨rfl, (Has.cst.str (Nat.le_of_ble_eq_true rfl)), ⟨rfl, (Has.cst.str (Nat.le_of_ble_eq_true rfl)), trivial⟩⟩ rfl (by simp [width]) (fr_sf kw (in_cons own_b11_157.lt (in_cons own_b9_153.lt (in_cons own_b7_149.lt in_nil))))) ?_
          refine Chain.op (φ := Is (.agg #[(.int .u8 (2)), (.int .i64 (1)), (.string (⟨#[]⟩)), (.slice none 0 0), (.slice none 0 0)])) (st_is _) (sp_call1 (φ1 := Is (.int .i64 (1))) ent18 Has.cst (fun g u1 W hk hgk h1 => by have h1 : u1 = _ := h1; subst u1; exact num_ok (1) W)) ?_
          refine Chain.op (φ := Is (.agg #[(.int .u8 (2)), (.int .i64 (2)), (.string (⟨#[]⟩)), (.slice none 0 0), (.slice none 0 0)])) (st_is _) (sp_call1 (φ1 := Is (.int .i64 (2))) ent18 Has.cst (fun g u1 W hk hgk h1 => by have h1 : u1 = _ := h1; subst u1; exact num_ok (2) W)) ?_
          refine Chain.op (φ := IsD (SF w [b11_157, b9_153, b7_149]) (valsD ([V.mk (2) (1) (⟨#[]⟩) ([]) ([]), V.mk (2) (2) (⟨#[]⟩) ([]) ([])]))) (st_d sub_all) (sp_bsl (ds := [V.d (V.mk (2) (1) (⟨#[]⟩) ([]) ([])), V.d (V.mk (2) (2) (⟨#[]⟩) ([]) ([]))]) Try.underlying23 sz25 z25 (Nat.le_of_ble_eq_true rfl) (Nat.le_of_ble_eq_true rfl) ⟨rfl, ((Has.loc rfl).dat (rdV_mk (by decide) (rd_nil _) (rd_nil _) : Rd W158 (SF w [b11_157, b9_153, b7_149]) (V.d (V.mk (2) (1) (⟨#[]⟩) ([]) ([]))) _) sub_all), ⟨rfl, ((Has.loc rfl).dat (rdV_mk (by decide) (rd_nil _) (rd_nil _) : Rd W158 (SF w [b11_157, b9_153, b7_149]) (V.d (V.mk (2) (2) (⟨#[]⟩) ([]) ([]))) _) sub_all), trivial⟩⟩ rfl (by intro e he; simp at he; rcases he with rfl | rfl <;> exact width_V _) (fr_sf kw (in_cons own_b11_157.lt (in_cons own_b9_153.lt (in_cons own_b7_149.lt in_nil))))) ?_
          refine Chain.op (φ := IsD (SF w [b11_157, b9_153, b7_149]) (V.d (V.mk 5 0 ⟨#[]⟩ ([⟨#[97]⟩, ⟨#[98]⟩]) ([V.mk (2) (1) (⟨#[]⟩) ([]) ([]), V.mk (2) (2) (⟨#[]⟩) ([]) ([])])))) (st_d sub_all) (sp_call2 (φ1 := IsD (SF w [b11_157, b9_153, b7_149]) (strsD ([⟨#[97]⟩, ⟨#[98]⟩]))) (φ2 := IsD (SF w [b11_157, b9_153, b7_149]) (valsD ([V.mk (2) (1) (⟨#[]⟩) ([]) ([]), V.mk (2) (2) (⟨#[]⟩) ([]) ([])]))) ent30 (Has.loc rfl) (Has.loc rfl) (fun g u1 u2 W hk hgk h1 h2 => (obj_ok ([⟨#[97]⟩, ⟨#[98]⟩]) ([V.mk (2) (1) (⟨#[]⟩) ([]) ([]), V.mk (2) (2) (⟨#[]⟩) ([]) ([])]) W _ _ _ h1 h2).mono (ret_arF kw (in_cons own_b11_157.lt (in_cons own_b9_153.lt (in_cons own_b7_149.lt in_nil))) hk hgk))) ?_
          refine Chain.op (φ := Is (.agg #[(.int .u8 (3)), (.int .i64 (0)), (.string (⟨#[120]⟩)), (.slice none 0 0), (.slice none 0 0)])) (st_is _) (sp_call1 (φ1 := Is (.string (⟨#[120]⟩))) ent31 Has.cst (fun g u1 W hk hgk h1 => by have h1 : u1 = _ := h1; subst u1; exact text_ok (⟨#[120]⟩) W)) ?_
          refine Chain.op (φ := IsT (IsD (Fr W158) (V.d (withV (V.mk 5 0 ⟨#[]⟩ ([⟨#[97]⟩, ⟨#[98]⟩]) ([V.mk (2) (1) (⟨#[]⟩) ([]) ([]), V.mk (2) (2) (⟨#[]⟩) ([]) ([])])) ⟨#[97]⟩ (V.mk (3) (0) (⟨#[120]⟩) ([]) ([]))))) (Is (.int .i64 (withE (V.mk 5 0 ⟨#[]⟩ ([⟨#[97]⟩, ⟨#[98]⟩]) ([V.mk (2) (1) (⟨#[]⟩) ([]) ([]), V.mk (2) (2) (⟨#[]⟩) ([]) ([])])))))) (st_t (st_d sub_all) (st_is _)) (sp_call3 (φ1 := IsD (SF w [b11_157, b9_153, b7_149]) (V.d (V.mk 5 0 ⟨#[]⟩ ([⟨#[97]⟩, ⟨#[98]⟩]) ([V.mk (2) (1) (⟨#[]⟩) ([]) ([]), V.mk (2) (2) (⟨#[]⟩) ([]) ([])])))) (φ2 := Is (.string (⟨#[97]⟩))) (φ3 := IsD (SF w [b11_157, b9_153, b7_149]) (V.d (V.mk (3) (0) (⟨#[120]⟩) ([]) ([])))) ent25 (Has.loc rfl) Has.cst ((Has.loc rfl).dat (rdV_mk (by decide) (rd_nil _) (rd_nil _) : Rd W158 (SF w [b11_157, b9_153, b7_149]) (V.d (V.mk (3) (0) (⟨#[120]⟩) ([]) ([]))) _) sub_all) (fun g u1 u2 u3 W hk hgk h1 h2 h3 => by have h2 : u2 = _ := h2; subst u2; exact (With_ok (V.mk 5 0 ⟨#[]⟩ ([⟨#[97]⟩, ⟨#[98]⟩]) ([V.mk (2) (1) (⟨#[]⟩) ([]) ([]), V.mk (2) (2) (⟨#[]⟩) ([]) ([])])) (V.mk (3) (0) (⟨#[120]⟩) ([]) ([])) (⟨#[97]⟩) (by decide) (by decide) (Nat.le_of_ble_eq_true rfl) W _ _ _ (fun b o h => h.1.2.1) h1 h3).mono (fun _ _ ⟨v, h1, h2, r1, h3, h4⟩ => ⟨v, h1, h2, r1, _, h3, fresh_d hk hgk h4, rfl⟩))) ?_
          refine Chain.op (φ := _) (st_t (st_d sub_all) (st_is _)) (sp_move (Has.loc rfl)) ?_
          refine Chain.op (φ := IsD (Fr W158) (V.d (withV (V.mk 5 0 ⟨#[]⟩ ([⟨#[97]⟩, ⟨#[98]⟩]) ([V.mk (2) (1) (⟨#[]⟩) ([]) ([]), V.mk (2) (2) (⟨#[]⟩) ([]) ([])])) ⟨#[97]⟩ (V.mk (3) (0) (⟨#[120]⟩) ([]) ([]))))) (st_d sub_all) (sp_ext2 (Has.loc rfl) rfl) ?_
          refine Chain.op (φ := Is (.int .i64 (withE (V.mk 5 0 ⟨#[]⟩ ([⟨#[97]⟩, ⟨#[98]⟩]) ([V.mk (2) (1) (⟨#[]⟩) ([]) ([]), V.mk (2) (2) (⟨#[]⟩) ([]) ([])]))))) (st_is _) (sp_ext2' (Has.loc rfl) rfl) ?_
          refine Chain.alloc z25 ?_
          refine Chain.done ⟨by kernel_rfl, fun a161 g W161 hsz161 hdf161 hk hg henv hrest hpsi => ?_⟩
          obtain ⟨⟨b13_161, e13, hb13, own_b13_161⟩, e209, e208, -, -, -, -, -, -, -, -, -⟩ := henv
          have lo_b13_161 : w.heap.size ≤ b13_161 := Nat.le_trans kw.size (hg.lo _ _ hb13)
          have ne_b7_149_b13_161 : b7_149 ≠ b13_161 := Nat.ne_of_lt (Nat.lt_of_lt_of_le own_b7_149.lt (hg.lo _ _ hb13))
          have ne_b9_153_b13_161 : b9_153 ≠ b13_161 := Nat.ne_of_lt (Nat.lt_of_lt_of_le own_b9_153.lt (hg.lo _ _ hb13))
          have ne_b11_157_b13_161 : b11_157 ≠ b13_161 := Nat.ne_of_lt (Nat.lt_of_lt_of_le own_b11_157.lt (hg.lo _ _ hb13))
          have own_b13_161 : Own W161 b13_161 [(.int .u8 (0)), (.int .i64 (0)), (.string (⟨#[]⟩)), (.slice none 0 0), (.slice none 0 0)] 25 := own_b13_161
          replace e8 := (hrest 8 rfl).trans e8
          replace e10 := (hrest 10 rfl).trans e10
          replace e12 := (hrest 12 rfl).trans e12
          obtain ⟨v208_161, ev⟩ : ∃ v, sl a161 208 = v := ⟨_, rfl⟩
          rw [ev] at e208
          have D_v208_161 : Rd W161 (SF w [b13_161, b11_157, b9_153, b7_149]) (V.d (withV (V.mk 5 0 ⟨#[]⟩ ([⟨#[97]⟩, ⟨#[98]⟩]) ([V.mk (2) (1) (⟨#[]⟩) ([]) ([]), V.mk (2) (2) (⟨#[]⟩) ([]) ([])])) ⟨#[97]⟩ (V.mk (3) (0) (⟨#[120]⟩) ([]) ([])))) v208_161 := fr_end (M := [b11_157, b9_153, b7_149]) e208 kw [b13_161] (in_cons ⟨_, hb13⟩ in_nil) (in_cons own_b11_157.lt (in_cons own_b9_153.lt (in_cons own_b7_149.lt in_nil)))
          replace e208 := ev; clear ev
          obtain ⟨cn208_161a, cn208_161c, ci208_161a, ci208_161c, ev, ht_v208_161, D_cn208_161, D_ci208_161⟩ := rdV_out D_v208_161
          subst ev; clear D_v208_161
          have e209 : sl a161 209 = (.int .i64 (withE (V.mk 5 0 ⟨#[]⟩ ([⟨#[97]⟩, ⟨#[98]⟩]) ([V.mk (2) (1) (⟨#[]⟩) ([]) ([]), V.mk (2) (2) (⟨#[]⟩) ([]) ([])])))) := e209
          replace own_b7_149 := own_b7_149.ext hk
          replace own_b9_153 := own_b9_153.ext hk
          replace own_b11_157 := own_b11_157.ext hk
          replace kw := kw.trans (.of_ext hk)
          clear hrest hk hg hpsi hb13
          refine tail_store (b := b13_161) (o := 0) (v := (.agg #[(.int .u8 ((withV (V.mk 5 0 ⟨#[]⟩ ([⟨#[97]⟩, ⟨#[98]⟩]) ([V.mk (2) (1) (⟨#[]⟩) ([]) ([]), V.mk (2) (2) (⟨#[]⟩) ([]) ([])])) ⟨#[97]⟩ (V.mk (3) (0) (⟨#[120]⟩) ([]) ([]))).k)), (.int .i64 ((withV (V.mk 5 0 ⟨#[]⟩ ([⟨#[97]⟩, ⟨#[98]⟩]) ([V.mk (2) (1) (⟨#[]⟩) ([]) ([]), V.mk (2) (2) (⟨#[]⟩) ([]) ([])])) ⟨#[97]⟩ (V.mk (3) (0) (⟨#[120]⟩) ([]) ([]))).n)), (.string ((withV (V.mk 5 0 ⟨#[]⟩ ([⟨#[97]⟩, ⟨#[98]⟩]) ([V.mk (2) (1) (⟨#[]⟩) ([]) ([]), V.mk (2) (2) (⟨#[]⟩) ([]) ([])])) ⟨#[97]⟩ (V.mk (3) (0) (⟨#[120]⟩) ([]) ([]))).t)), (.slice cn208_161a (((withV (V.mk 5 0 ⟨#[]⟩ ([⟨#[97]⟩, ⟨#[98]⟩]) ([V.mk (2) (1) (⟨#[]⟩) ([]) ([]), V.mk (2) (2) (⟨#[]⟩) ([]) ([])])) ⟨#[97]⟩ (V.mk (3) (0) (⟨#[120]⟩) ([]) ([]))).ns).length) cn208_161c), (.slice ci208_161a (((withV (V.mk 5 0 ⟨#[]⟩ ([⟨#[97]⟩, ⟨#[98]⟩]) ([V.mk (2) (1) (⟨#[]⟩) ([]) ([]), V.mk (2) (2) (⟨#[]⟩) ([]) ([])])) ⟨#[97]⟩ (V.mk (3) (0) (⟨#[120]⟩) ([]) ([]))).xs).length) ci208_161c)])) e13 e208 sz25 rfl own_b13_161 (Nat.le_of_ble_eq_true rfl) (all_cons rfl (all_cons rfl (all_cons rfl (all_cons rfl (all_cons rfl all_nil))))) (fun W162 hs own_b13_161 => ?_)
          have own_b13_161 : Own W162 b13_161 [(.int .u8 ((withV (V.mk 5 0 ⟨#[]⟩ ([⟨#[97]⟩, ⟨#[98]⟩]) ([V.mk (2) (1) (⟨#[]⟩) ([]) ([]), V.mk (2) (2) (⟨#[]⟩) ([]) ([])])) ⟨#[97]⟩ (V.mk (3) (0) (⟨#[120]⟩) ([]) ([]))).k)), (.int .i64 ((withV (V.mk 5 0 ⟨#[]⟩ ([⟨#[97]⟩, ⟨#[98]⟩]) ([V.mk (2) (1) (⟨#[]⟩) ([]) ([]), V.mk (2) (2) (⟨#[]⟩) ([]) ([])])) ⟨#[97]⟩ (V.mk (3) (0) (⟨#[120]⟩) ([]) ([]))).n)), (.string ((withV (V.mk 5 0 ⟨#[]⟩ ([⟨#[97]⟩, ⟨#[98]⟩]) ([V.mk (2) (1) (⟨#[]⟩) ([]) ([]), V.mk (2) (2) (⟨#[]⟩) ([]) ([])])) ⟨#[97]⟩ (V.mk (3) (0) (⟨#[120]⟩) ([]) ([]))).t)), (.slice cn208_161a (((withV (V.mk 5 0 ⟨#[]⟩ ([⟨#[97]⟩, ⟨#[98]⟩]) ([V.mk (2) (1) (⟨#[]⟩) ([]) ([]), V.mk (2) (2) (⟨#[]⟩) ([]) ([])])) ⟨#[97]⟩ (V.mk (3) (0) (⟨#[120]⟩) ([]) ([]))).ns).length) cn208_161c), (.slice ci208_161a (((withV (V.mk 5 0 ⟨#[]⟩ ([⟨#[97]⟩, ⟨#[98]⟩]) ([V.mk (2) (1) (⟨#[]⟩) ([]) ([]), V.mk (2) (2) (⟨#[]⟩) ([]) ([])])) ⟨#[97]⟩ (V.mk (3) (0) (⟨#[120]⟩) ([]) ([]))).xs).length) ci208_161c)] 25 := own_b13_161
          replace own_b7_149 := own_store own_b7_149 hs ne_b7_149_b13_161
          replace own_b9_153 := own_store own_b9_153 hs ne_b9_153_b13_161
          replace own_b11_157 := own_store own_b11_157 hs ne_b11_157_b13_161
          replace D_cn208_161 := sf_store D_cn208_161 hs (by simp)
          replace D_ci208_161 := sf_store D_ci208_161 hs (by simp)
          replace kw := keeps_store kw hs lo_b13_161
          clear hs
          refine tail_assign (v := (.int .i64 (withE (V.mk 5 0 ⟨#[]⟩ ([⟨#[97]⟩, ⟨#[98]⟩]) ([V.mk (2) (1) (⟨#[]⟩) ([]) ([]), V.mk (2) (2) (⟨#[]⟩) ([]) ([])]))))) e209 (by rw [hsz161]; exact Nat.le_of_ble_eq_true rfl) (fun a163 hsz163 hdf163 e14 hr => ?_)
          replace hsz163 := hsz163.trans hsz161; replace hdf163 := hdf163.trans hdf161
          replace e8 := (hr 8 (by decide)).trans e8
          replace e10 := (hr 10 (by decide)).trans e10
          replace e12 := (hr 12 (by decide)).trans e12
          replace e13 := (hr 13 (by decide)).trans e13
          replace e208 := (hr 208 (by decide)).trans e208
          replace e209 := (hr 209 (by decide)).trans e209
          clear hr
          refine tail_nil (hK160 _ _ ?_)
          refine wp_seq_k fun K164 hK164 => ?_
          refine wp_reg All mixed hsz163 hdf163 st_tr trivial ?_
          refine Chain.op (φ := Is (.agg #[(.int .u8 ((withV (V.mk 5 0 ⟨#[]⟩ ([⟨#[97]⟩, ⟨#[98]⟩]) ([V.mk (2) (1) (⟨#[]⟩) ([]) ([]), V.mk (2) (2) (⟨#[]⟩) ([]) ([])])) ⟨#[97]⟩ (V.mk (3) (0) (⟨#[120]⟩) ([]) ([]))).k)), (.int .i64 ((withV (V.mk 5 0 ⟨#[]⟩ ([⟨#[97]⟩, ⟨#[98]⟩]) ([V.mk (2) (1) (⟨#[]⟩) ([]) ([]), V.mk (2) (2) (⟨#[]⟩) ([]) ([])])) ⟨#[97]⟩ (V.mk (3) (0) (⟨#[120]⟩) ([]) ([]))).n)), (.string ((withV (V.mk 5 0 ⟨#[]⟩ ([⟨#[97]⟩, ⟨#[98]⟩]) ([V.mk (2) (1) (⟨#[]⟩) ([]) ([]), V.mk (2) (2) (⟨#[]⟩) ([]) ([])])) ⟨#[97]⟩ (V.mk (3) (0) (⟨#[120]⟩) ([]) ([]))).t)), (.slice cn208_161a (((withV (V.mk 5 0 ⟨#[]⟩ ([⟨#[97]⟩, ⟨#[98]⟩]) ([V.mk (2) (1) (⟨#[]⟩) ([]) ([]), V.mk (2) (2) (⟨#[]⟩) ([]) ([])])) ⟨#[97]⟩ (V.mk (3) (0) (⟨#[120]⟩) ([]) ([]))).ns).length) cn208_161c), (.slice ci208_161a (((withV (V.mk 5 0 ⟨#[]⟩ ([⟨#[97]⟩, ⟨#[98]⟩]) ([V.mk (2) (1) (⟨#[]⟩) ([]) ([]), V.mk (2) (2) (⟨#[]⟩) ([]) ([])])) ⟨#[97]⟩ (V.mk (3) (0) (⟨#[120]⟩) ([]) ([]))).xs).length) ci208_161c)])) (st_is _) (sp_loadO (v := (.agg #[(.int .u8 ((withV (V.mk 5 0 ⟨#[]⟩ ([⟨#[97]⟩, ⟨#[98]⟩]) ([V.mk (2) (1) (⟨#[]⟩) ([]) ([]), V.mk (2) (2) (⟨#[]⟩) ([]) ([])])) ⟨#[97]⟩ (V.mk (3) (0) (⟨#[120]⟩) ([]) ([]))).k)), (.int .i64 ((withV (V.mk 5 0 ⟨#[]⟩ ([⟨#[97]⟩, ⟨#[98]⟩]) ([V.mk (2) (1) (⟨#[]⟩) ([]) ([]), V.mk (2) (2) (⟨#[]⟩) ([]) ([])])) ⟨#[97]⟩ (V.mk (3) (0) (⟨#[120]⟩) ([]) ([]))).n)), (.string ((withV (V.mk 5 0 ⟨#[]⟩ ([⟨#[97]⟩, ⟨#[98]⟩]) ([V.mk (2) (1) (⟨#[]⟩) ([]) ([]), V.mk (2) (2) (⟨#[]⟩) ([]) ([])])) ⟨#[97]⟩ (V.mk (3) (0) (⟨#[120]⟩) ([]) ([]))).t)), (.slice cn208_161a (((withV (V.mk 5 0 ⟨#[]⟩ ([⟨#[97]⟩, ⟨#[98]⟩]) ([V.mk (2) (1) (⟨#[]⟩) ([]) ([]), V.mk (2) (2) (⟨#[]⟩) ([]) ([])])) ⟨#[97]⟩ (V.mk (3) (0) (⟨#[120]⟩) ([]) ([]))).ns).length) cn208_161c), (.slice ci208_161a (((withV (V.mk 5 0 ⟨#[]⟩ ([⟨#[97]⟩, ⟨#[98]⟩]) ([V.mk (2) (1) (⟨#[]⟩) ([]) ([]), V.mk (2) (2) (⟨#[]⟩) ([]) ([])])) ⟨#[97]⟩ (V.mk (3) (0) (⟨#[120]⟩) ([]) ([]))).xs).length) ci208_161c)])) (Has.base rfl e13) own_b13_161 trivial agg25 sz25 (Nat.le_of_ble_eq_true rfl) (fun h => by first | rfl | cases h) rfl) ?_
          refine Chain.op (φ := IsT (IsD (Fr W162) (V.d (woutV ((withV (V.mk 5 0 ⟨#[]⟩ ([⟨#[97]⟩, ⟨#[98]⟩]) ([V.mk (2) (1) (⟨#[]⟩) ([]) ([]), V.mk (2) (2) (⟨#[]⟩) ([]) ([])])) ⟨#[97]⟩ (V.mk (3) (0) (⟨#[120]⟩) ([]) ([])))) ⟨#[97]⟩))) (Is (.bool (woutB ((withV (V.mk 5 0 ⟨#[]⟩ ([⟨#[97]⟩, ⟨#[98]⟩]) ([V.mk (2) (1) (⟨#[]⟩) ([]) ([]), V.mk (2) (2) (⟨#[]⟩) ([]) ([])])) ⟨#[97]⟩ (V.mk (3) (0) (⟨#[120]⟩) ([]) ([])))) ⟨#[97]⟩)))) (st_t (st_d sub_all) (st_is _)) (sp_call2 (φ1 := IsD (SF w [b13_161, b11_157, b9_153, b7_149]) (V.d ((withV (V.mk 5 0 ⟨#[]⟩ ([⟨#[97]⟩, ⟨#[98]⟩]) ([V.mk (2) (1) (⟨#[]⟩) ([]) ([]), V.mk (2) (2) (⟨#[]⟩) ([]) ([])])) ⟨#[97]⟩ (V.mk (3) (0) (⟨#[120]⟩) ([]) ([])))))) (φ2 := Is (.string (⟨#[97]⟩))) ent27 ((Has.loc rfl).dat (rdV_in (x := (withV (V.mk 5 0 ⟨#[]⟩ ([⟨#[97]⟩, ⟨#[98]⟩]) ([V.mk (2) (1) (⟨#[]⟩) ([]) ([]), V.mk (2) (2) (⟨#[]⟩) ([]) ([])])) ⟨#[97]⟩ (V.mk (3) (0) (⟨#[120]⟩) ([]) ([])))) ht_v208_161 D_cn208_161 D_ci208_161 : Rd W162 (SF w [b13_161, b11_157, b9_153, b7_149]) (V.d ((withV (V.mk 5 0 ⟨#[]⟩ ([⟨#[97]⟩, ⟨#[98]⟩]) ([V.mk (2) (1) (⟨#[]⟩) ([]) ([]), V.mk (2) (2) (⟨#[]⟩) ([]) ([])])) ⟨#[97]⟩ (V.mk (3) (0) (⟨#[120]⟩) ([]) ([]))))) _) sub_all) Has.cst (fun g u1 u2 W hk hgk h1 h2 => by have h2 : u2 = _ := h2; subst u2; exact (Without_ok ((withV (V.mk 5 0 ⟨#[]⟩ ([⟨#[97]⟩, ⟨#[98]⟩]) ([V.mk (2) (1) (⟨#[]⟩) ([]) ([]), V.mk (2) (2) (⟨#[]⟩) ([]) ([])])) ⟨#[97]⟩ (V.mk (3) (0) (⟨#[120]⟩) ([]) ([])))) (⟨#[97]⟩) (Nat.le_of_ble_eq_true (by kernel_rfl)) W _ _ (fun b o h => h.1.2.1) h1).mono (fun _ _ ⟨v, h1, h2, r1, h3, h4⟩ => ⟨v, h1, h2, r1, _, h3, fresh_d hk hgk h4, rfl⟩))) ?_
          refine Chain.op (φ := _) (st_t (st_d sub_all) (st_is _)) (sp_move (Has.loc rfl)) ?_
          refine Chain.op (φ := IsD (Fr W162) (V.d (woutV ((withV (V.mk 5 0 ⟨#[]⟩ ([⟨#[97]⟩, ⟨#[98]⟩]) ([V.mk (2) (1) (⟨#[]⟩) ([]) ([]), V.mk (2) (2) (⟨#[]⟩) ([]) ([])])) ⟨#[97]⟩ (V.mk (3) (0) (⟨#[120]⟩) ([]) ([])))) ⟨#[97]⟩))) (st_d sub_all) (sp_ext2 (Has.loc rfl) rfl) ?_
          refine Chain.op (φ := Is (.bool (woutB ((withV (V.mk 5 0 ⟨#[]⟩ ([⟨#[97]⟩, ⟨#[98]⟩]) ([V.mk (2) (1) (⟨#[]⟩) ([]) ([]), V.mk (2) (2) (⟨#[]⟩) ([]) ([])])) ⟨#[97]⟩ (V.mk (3) (0) (⟨#[120]⟩) ([]) ([])))) ⟨#[97]⟩))) (st_is _) (sp_ext2' (Has.loc rfl) rfl) ?_
          refine Chain.alloc z25 ?_
          refine Chain.done ⟨by kernel_rfl, fun a165 g W165 hsz165 hdf165 hk hg henv hrest hpsi => ?_⟩
          obtain ⟨⟨b15_165, e15, hb15, own_b15_165⟩, e214, e213, -, -, -, -⟩ := henv
          have lo_b15_165 : w.heap.size ≤ b15_165 := Nat.le_trans kw.size (hg.lo _ _ hb15)
          have ne_b7_149_b15_165 : b7_149 ≠ b15_165 := Nat.ne_of_lt (Nat.lt_of_lt_of_le own_b7_149.lt (hg.lo _ _ hb15))
          have ne_b9_153_b15_165 : b9_153 ≠ b15_165 := Nat.ne_of_lt (Nat.lt_of_lt_of_le own_b9_153.lt (hg.lo _ _ hb15))
          have ne_b11_157_b15_165 : b11_157 ≠ b15_165 := Nat.ne_of_lt (Nat.lt_of_lt_of_le own_b11_157.lt (hg.lo _ _ hb15))
          have ne_b13_161_b15_165 : b13_161 ≠ b15_165 := Nat.ne_of_lt (Nat.lt_of_lt_of_le own_b13_161.lt (hg.lo _ _ hb15))
          have own_b15_165 : Own W165 b15_165 [(.int .u8 (0)), (.int .i64 (0)), (.string (⟨#[]⟩)), (.slice none 0 0), (.slice none 0 0)] 25 := own_b15_165
          replace e8 := (hrest 8 rfl).trans e8
          replace e10 := (hrest 10 rfl).trans e10
          replace e12 := (hrest 12 rfl).trans e12
          replace e13 := (hrest 13 rfl).trans e13
          replace e14 := (hrest 14 rfl).trans e14
          replace D_cn208_161 := sf_more D_cn208_161 hk [b15_165] (in_cons (hg.lo _ _ hb15) in_nil)
          replace D_ci208_161 := sf_more D_ci208_161 hk [b15_165] (in_cons (hg.lo _ _ hb15) in_nil)
          obtain ⟨v213_165, ev⟩ : ∃ v, sl a165 213 = v := ⟨_, rfl⟩
          rw [ev] at e213
          have D_v213_165 : Rd W165 (SF w [b15_165, b13_161, b11_157, b9_153, b7_149]) (V.d (woutV ((withV (V.mk 5 0 ⟨#[]⟩ ([⟨#[97]⟩, ⟨#[98]⟩]) ([V.mk (2) (1) (⟨#[]⟩) ([]) ([]), V.mk (2) (2) (⟨#[]⟩) ([]) ([])])) ⟨#[97]⟩ (V.mk (3) (0) (⟨#[120]⟩) ([]) ([])))) ⟨#[97]⟩)) v213_165 := fr_end (M := [b13_161, b11_157, b9_153, b7_149]) e213 kw [b15_165] (in_cons ⟨_, hb15⟩ in_nil) (in_cons own_b13_161.lt (in_cons own_b11_157.lt (in_cons own_b9_153.lt (in_cons own_b7_149.lt in_nil))))
          replace e213 := ev; clear ev
          obtain ⟨cn213_165a, cn213_165c, ci213_165a, ci213_165c, ev, ht_v213_165, D_cn213_165, D_ci213_165⟩ := rdV_out D_v213_165
          subst ev; clear D_v213_165
          have e214 : sl a165 214 = (.bool (woutB ((withV (V.mk 5 0 ⟨#[]⟩ ([⟨#[97]⟩, ⟨#[98]⟩]) ([V.mk (2) (1) (⟨#[]⟩) ([]) ([]), V.mk (2) (2) (⟨#[]⟩) ([]) ([])])) ⟨#[97]⟩ (V.mk (3) (0) (⟨#[120]⟩) ([]) ([])))) ⟨#[97]⟩)) := e214
          replace own_b7_149 := own_b7_149.ext hk
          replace own_b9_153 := own_b9_153.ext hk
          replace own_b11_157 := own_b11_157.ext hk
          replace own_b13_161 := own_b13_161.ext hk
          replace kw := kw.trans (.of_ext hk)
          clear hrest hk hg hpsi hb15
          refine tail_store (b := b15_165) (o := 0) (v := (.agg #[(.int .u8 ((woutV ((withV (V.mk 5 0 ⟨#[]⟩ ([⟨#[97]⟩, ⟨#[98]⟩]) ([V.mk (2) (1) (⟨#[]⟩) ([]) ([]), V.mk (2) (2) (⟨#[]⟩) ([]) ([])])) ⟨#[97]⟩ (V.mk (3) (0) (⟨#[120]⟩) ([]) ([])))) ⟨#[97]⟩).k)), (.int .i64 ((woutV ((withV (V.mk 5 0 ⟨#[]⟩ ([⟨#[97]⟩, ⟨#[98]⟩]) ([V.mk (2) (1) (⟨#[]⟩) ([]) ([]), V.mk (2) (2) (⟨#[]⟩) ([]) ([])])) ⟨#[97]⟩ (V.mk (3) (0) (⟨#[120]⟩) ([]) ([])))) ⟨#[97]⟩).n)), (.string ((woutV ((withV (V.mk 5 0 ⟨#[]⟩ ([⟨#[97]⟩, ⟨#[98]⟩]) ([V.mk (2) (1) (⟨#[]⟩) ([]) ([]), V.mk (2) (2) (⟨#[]⟩) ([]) ([])])) ⟨#[97]⟩ (V.mk (3) (0) (⟨#[120]⟩) ([]) ([])))) ⟨#[97]⟩).t)), (.slice cn213_165a (((woutV ((withV (V.mk 5 0 ⟨#[]⟩ ([⟨#[97]⟩, ⟨#[98]⟩]) ([V.mk (2) (1) (⟨#[]⟩) ([]) ([]), V.mk (2) (2) (⟨#[]⟩) ([]) ([])])) ⟨#[97]⟩ (V.mk (3) (0) (⟨#[120]⟩) ([]) ([])))) ⟨#[97]⟩).ns).length) cn213_165c), (.slice ci213_165a (((woutV ((withV (V.mk 5 0 ⟨#[]⟩ ([⟨#[97]⟩, ⟨#[98]⟩]) ([V.mk (2) (1) (⟨#[]⟩) ([]) ([]), V.mk (2) (2) (⟨#[]⟩) ([]) ([])])) ⟨#[97]⟩ (V.mk (3) (0) (⟨#[120]⟩) ([]) ([])))) ⟨#[97]⟩).xs).length) ci213_165c)])) e15 e213 sz25 rfl own_b15_165 (Nat.le_of_ble_eq_true rfl) (all_cons rfl (all_cons rfl (all_cons rfl (all_cons rfl (all_cons rfl all_nil))))) (fun W166 hs own_b15_165 => ?_)
          have own_b15_165 : Own W166 b15_165 [(.int .u8 ((woutV ((withV (V.mk 5 0 ⟨#[]⟩ ([⟨#[97]⟩, ⟨#[98]⟩]) ([V.mk (2) (1) (⟨#[]⟩) ([]) ([]), V.mk (2) (2) (⟨#[]⟩) ([]) ([])])) ⟨#[97]⟩ (V.mk (3) (0) (⟨#[120]⟩) ([]) ([])))) ⟨#[97]⟩).k)), (.int .i64 ((woutV ((withV (V.mk 5 0 ⟨#[]⟩ ([⟨#[97]⟩, ⟨#[98]⟩]) ([V.mk (2) (1) (⟨#[]⟩) ([]) ([]), V.mk (2) (2) (⟨#[]⟩) ([]) ([])])) ⟨#[97]⟩ (V.mk (3) (0) (⟨#[120]⟩) ([]) ([])))) ⟨#[97]⟩).n)), (.string ((woutV ((withV (V.mk 5 0 ⟨#[]⟩ ([⟨#[97]⟩, ⟨#[98]⟩]) ([V.mk (2) (1) (⟨#[]⟩) ([]) ([]), V.mk (2) (2) (⟨#[]⟩) ([]) ([])])) ⟨#[97]⟩ (V.mk (3) (0) (⟨#[120]⟩) ([]) ([])))) ⟨#[97]⟩).t)), (.slice cn213_165a (((woutV ((withV (V.mk 5 0 ⟨#[]⟩ ([⟨#[97]⟩, ⟨#[98]⟩]) ([V.mk (2) (1) (⟨#[]⟩) ([]) ([]), V.mk (2) (2) (⟨#[]⟩) ([]) ([])])) ⟨#[97]⟩ (V.mk (3) (0) (⟨#[120]⟩) ([]) ([])))) ⟨#[97]⟩).ns).length) cn213_165c), (.slice ci213_165a (((woutV ((withV (V.mk 5 0 ⟨#[]⟩ ([⟨#[97]⟩, ⟨#[98]⟩]) ([V.mk (2) (1) (⟨#[]⟩) ([]) ([]), V.mk (2) (2) (⟨#[]⟩) ([]) ([])])) ⟨#[97]⟩ (V.mk (3) (0) (⟨#[120]⟩) ([]) ([])))) ⟨#[97]⟩).xs).length) ci213_165c)] 25 := own_b15_165
          replace own_b7_149 := own_store own_b7_149 hs ne_b7_149_b15_165
          replace own_b9_153 := own_store own_b9_153 hs ne_b9_153_b15_165
          replace own_b11_157 := own_store own_b11_157 hs ne_b11_157_b15_165
          replace own_b13_161 := own_store own_b13_161 hs ne_b13_161_b15_165
          replace D_cn208_161 := sf_store D_cn208_161 hs (by simp)
          replace D_ci208_161 := sf_store D_ci208_161 hs (by simp)
          replace D_cn213_165 := sf_store D_cn213_165 hs (by simp)
          replace D_ci213_165 := sf_store D_ci213_165 hs (by simp)
          replace kw := keeps_store kw hs lo_b15_165
          clear hs
          refine tail_assign (v := (.bool (woutB ((withV (V.mk 5 0 ⟨#[]⟩ ([⟨#[97]⟩, ⟨#[98]⟩]) ([V.mk (2) (1) (⟨#[]⟩) ([]) ([]), V.mk (2) (2) (⟨#[]⟩) ([]) ([])])) ⟨#[97]⟩ (V.mk (3) (0) (⟨#[120]⟩) ([]) ([])))) ⟨#[97]⟩))) e214 (by rw [hsz165]; exact Nat.le_of_ble_eq_true rfl) (fun a167 hsz167 hdf167 e16 hr => ?_)
          replace hsz167 := hsz167.trans hsz165; replace hdf167 := hdf167.trans hdf165
          replace e8 := (hr 8 (by decide)).trans e8
          replace e10 := (hr 10 (by decide)).trans e10
          replace e12 := (hr 12 (by decide)).trans e12
          replace e13 := (hr 13 (by decide)).trans e13
          replace e14 := (hr 14 (by decide)).trans e14
          replace e15 := (hr 15 (by decide)).trans e15
          replace e213 := (hr 213 (by decide)).trans e213
          replace e214 := (hr 214 (by decide)).trans e214
          clear hr
          refine tail_nil (hK164 _ _ ?_)
          refine wp_seq_k fun K168 hK168 => ?_
          refine wp_reg All mixed hsz167 hdf167 st_tr trivial ?_
          refine Chain.op (φ := Is (.agg #[(.int .u8 ((woutV ((withV (V.mk 5 0 ⟨#[]⟩ ([⟨#[97]⟩, ⟨#[98]⟩]) ([V.mk (2) (1) (⟨#[]⟩) ([]) ([]), V.mk (2) (2) (⟨#[]⟩) ([]) ([])])) ⟨#[97]⟩ (V.mk (3) (0) (⟨#[120]⟩) ([]) ([])))) ⟨#[97]⟩).k)), (.int .i64 ((woutV ((withV (V.mk 5 0 ⟨#[]⟩ ([⟨#[97]⟩, ⟨#[98]⟩]) ([V.mk (2) (1) (⟨#[]⟩) ([]) ([]), V.mk (2) (2) (⟨#[]⟩) ([]) ([])])) ⟨#[97]⟩ (V.mk (3) (0) (⟨#[120]⟩) ([]) ([])))) ⟨#[97]⟩).n)), (.string ((woutV ((withV (V.mk 5 0 ⟨#[]⟩ ([⟨#[97]⟩, ⟨#[98]⟩]) ([V.mk (2) (1) (⟨#[]⟩) ([]) ([]), V.mk (2) (2) (⟨#[]⟩) ([]) ([])])) ⟨#[97]⟩ (V.mk (3) (0) (⟨#[120]⟩) ([]) ([])))) ⟨#[97]⟩).t)), (.slice cn213_165a (((woutV ((withV (V.mk 5 0 ⟨#[]⟩ ([⟨#[97]⟩, ⟨#[98]⟩]) ([V.mk (2) (1) (⟨#[]⟩) ([]) ([]), V.mk (2) (2) (⟨#[]⟩) ([]) ([])])) ⟨#[97]⟩ (V.mk (3) (0) (⟨#[120]⟩) ([]) ([])))) ⟨#[97]⟩).ns).length) cn213_165c), (.slice ci213_165a (((woutV ((withV (V.mk 5 0 ⟨#[]⟩ ([⟨#[97]⟩, ⟨#[98]⟩]) ([V.mk (2) (1) (⟨#[]⟩) ([]) ([]), V.mk (2) (2) (⟨#[]⟩) ([]) ([])])) ⟨#[97]⟩ (V.mk (3) (0) (⟨#[120]⟩) ([]) ([])))) ⟨#[97]⟩).xs).length) ci213_165c)])) (st_is _) (sp_loadO (v := (.agg #[(.int .u8 ((woutV ((withV (V.mk 5 0 ⟨#[]⟩ ([⟨#[97]⟩, ⟨#[98]⟩]) ([V.mk (2) (1) (⟨#[]⟩) ([]) ([]), V.mk (2) (2) (⟨#[]⟩) ([]) ([])])) ⟨#[97]⟩ (V.mk (3) (0) (⟨#[120]⟩) ([]) ([])))) ⟨#[97]⟩).k)), (.int .i64 ((woutV ((withV (V.mk 5 0 ⟨#[]⟩ ([⟨#[97]⟩, ⟨#[98]⟩]) ([V.mk (2) (1) (⟨#[]⟩) ([]) ([]), V.mk (2) (2) (⟨#[]⟩) ([]) ([])])) ⟨#[97]⟩ (V.mk (3) (0) (⟨#[120]⟩) ([]) ([])))) ⟨#[97]⟩).n)), (.string ((woutV ((withV (V.mk 5 0 ⟨#[]⟩ ([⟨#[97]⟩, ⟨#[98]⟩]) ([V.mk (2) (1) (⟨#[]⟩) ([]) ([]), V.mk (2) (2) (⟨#[]⟩) ([]) ([])])) ⟨#[97]⟩ (V.mk (3) (0) (⟨#[120]⟩) ([]) ([])))) ⟨#[97]⟩).t)), (.slice cn213_165a (((woutV ((withV (V.mk 5 0 ⟨#[]⟩ ([⟨#[97]⟩, ⟨#[98]⟩]) ([V.mk (2) (1) (⟨#[]⟩) ([]) ([]), V.mk (2) (2) (⟨#[]⟩) ([]) ([])])) ⟨#[97]⟩ (V.mk (3) (0) (⟨#[120]⟩) ([]) ([])))) ⟨#[97]⟩).ns).length) cn213_165c), (.slice ci213_165a (((woutV ((withV (V.mk 5 0 ⟨#[]⟩ ([⟨#[97]⟩, ⟨#[98]⟩]) ([V.mk (2) (1) (⟨#[]⟩) ([]) ([]), V.mk (2) (2) (⟨#[]⟩) ([]) ([])])) ⟨#[97]⟩ (V.mk (3) (0) (⟨#[120]⟩) ([]) ([])))) ⟨#[97]⟩).xs).length) ci213_165c)])) (Has.base rfl e15) own_b15_165 trivial agg25 sz25 (Nat.le_of_ble_eq_true rfl) (fun h => by first | rfl | cases h) rfl) ?_
          refine Chain.op (φ := IsT (IsD (Fr W166) (V.d (woutV ((woutV ((withV (V.mk 5 0 ⟨#[]⟩ ([⟨#[97]⟩, ⟨#[98]⟩]) ([V.mk (2) (1) (⟨#[]⟩) ([]) ([]), V.mk (2) (2) (⟨#[]⟩) ([]) ([])])) ⟨#[97]⟩ (V.mk (3) (0) (⟨#[120]⟩) ([]) ([])))) ⟨#[97]⟩)) ⟨#[97]⟩))) (Is (.bool (woutB ((woutV ((withV (V.mk 5 0 ⟨#[]⟩ ([⟨#[97]⟩, ⟨#[98]⟩]) ([V.mk (2) (1) (⟨#[]⟩) ([]) ([]), V.mk (2) (2) (⟨#[]⟩) ([]) ([])])) ⟨#[97]⟩ (V.mk (3) (0) (⟨#[120]⟩) ([]) ([])))) ⟨#[97]⟩)) ⟨#[97]⟩)))) (st_t (st_d sub_all) (st_is _)) (sp_call2 (φ1 := IsD (SF w [b15_165, b13_161, b11_157, b9_153, b7_149]) (V.d ((woutV ((withV (V.mk 5 0 ⟨#[]⟩ ([⟨#[97]⟩, ⟨#[98]⟩]) ([V.mk (2) (1) (⟨#[]⟩) ([]) ([]), V.mk (2) (2) (⟨#[]⟩) ([]) ([])])) ⟨#[97]⟩ (V.mk (3) (0) (⟨#[120]⟩) ([]) ([])))) ⟨#[97]⟩)))) (φ2 := Is (.string (⟨#[97]⟩))) ent27 ((Has.loc rfl).dat (rdV_in (x := (woutV ((withV (V.mk 5 0 ⟨#[]⟩ ([⟨#[97]⟩, ⟨#[98]⟩]) ([V.mk (2) (1) (⟨#[]⟩) ([]) ([]), V.mk (2) (2) (⟨#[]⟩) ([]) ([])])) ⟨#[97]⟩ (V.mk (3) (0) (⟨#[120]⟩) ([]) ([])))) ⟨#[97]⟩)) ht_v213_165 D_cn213_165 D_ci213_165 : Rd W166 (SF w [b15_165, b13_161, b11_157, b9_153, b7_149]) (V.d ((woutV ((withV (V.mk 5 0 ⟨#[]⟩ ([⟨#[97]⟩, ⟨#[98]⟩]) ([V.mk (2) (1) (⟨#[]⟩) ([]) ([]), V.mk (2) (2) (⟨#[]⟩) ([]) ([])])) ⟨#[97]⟩ (V.mk (3) (0) (⟨#[120]⟩) ([]) ([])))) ⟨#[97]⟩))) _) sub_all) Has.cst (fun g u1 u2 W hk hgk h1 h2 => by have h2 : u2 = _ := h2; subst u2; exact (Without_ok ((woutV ((withV (V.mk 5 0 ⟨#[]⟩ ([⟨#[97]⟩, ⟨#[98]⟩]) ([V.mk (2) (1) (⟨#[]⟩) ([]) ([]), V.mk (2) (2) (⟨#[]⟩) ([]) ([])])) ⟨#[97]⟩ (V.mk (3) (0) (⟨#[120]⟩) ([]) ([])))) ⟨#[97]⟩)) (⟨#[97]⟩) (Nat.le_of_ble_eq_true (by kernel_rfl)) W _ _ (fun b o h => h.1.2.1) h1).mono (fun _ _ ⟨v, h1, h2, r1, h3, h4⟩ => ⟨v, h1, h2, r1, _, h3, fresh_d hk hgk h4, rfl⟩))) ?_
          refine Chain.op (φ := _) (st_t (st_d sub_all) (st_is _)) (sp_move (Has.loc rfl)) ?_
          refine Chain.op (φ := IsD (Fr W166) (V.d (woutV ((woutV ((withV (V.mk 5 0 ⟨#[]⟩ ([⟨#[97]⟩, ⟨#[98]⟩]) ([V.mk (2) (1) (⟨#[]⟩) ([]) ([]), V.mk (2) (2) (⟨#[]⟩) ([]) ([])])) ⟨#[97]⟩ (V.mk (3) (0) (⟨#[120]⟩) ([]) ([])))) ⟨#[97]⟩)) ⟨#[97]⟩))) (st_d sub_all) (sp_ext2 (Has.loc rfl) rfl) ?_
          refine Chain.op (φ := Is (.bool (woutB ((woutV ((withV (V.mk 5 0 ⟨#[]⟩ ([⟨#[97]⟩, ⟨#[98]⟩]) ([V.mk (2) (1) (⟨#[]⟩) ([]) ([]), V.mk (2) (2) (⟨#[]⟩) ([]) ([])])) ⟨#[97]⟩ (V.mk (3) (0) (⟨#[120]⟩) ([]) ([])))) ⟨#[97]⟩)) ⟨#[97]⟩))) (st_is _) (sp_ext2' (Has.loc rfl) rfl) ?_
          refine Chain.alloc z25 ?_
          refine Chain.done ⟨by kernel_rfl, fun a169 g W169 hsz169 hdf169 hk hg henv hrest hpsi => ?_⟩
          obtain ⟨⟨b17_169, e17, hb17, own_b17_169⟩, e219, e218, -, -, -, -⟩ := henv
          have lo_b17_169 : w.heap.size ≤ b17_169 := Nat.le_trans kw.size (hg.lo _ _ hb17)
          have ne_b7_149_b17_169 : b7_149 ≠ b17_169 := Nat.ne_of_lt (Nat.lt_of_lt_of_le own_b7_149.lt (hg.lo _ _ hb17))
          have ne_b9_153_b17_169 : b9_153 ≠ b17_169 := Nat.ne_of_lt (Nat.lt_of_lt_of_le own_b9_153.lt (hg.lo _ _ hb17))
          have ne_b11_157_b17_169 : b11_157 ≠ b17_169 := Nat.ne_of_lt (Nat.lt_of_lt_of_le own_b11_157.lt (hg.lo _ _ hb17))
          have ne_b13_161_b17_169 : b13_161 ≠ b17_169 := Nat.ne_of_lt (Nat.lt_of_lt_of_le own_b13_161.lt (hg.lo _ _ hb17))
          have ne_b15_165_b17_169 : b15_165 ≠ b17_169 := Nat.ne_of_lt (Nat.lt_of_lt_of_le own_b15_165.lt (hg.lo _ _ hb17))
          have own_b17_169 : Own W169 b17_169 [(.int .u8 (0)), (.int .i64 (0)), (.string (⟨#[]⟩)), (.slice none 0 0), (.slice none 0 0)] 25 := own_b17_169
          replace e8 := (hrest 8 rfl).trans e8
          replace e10 := (hrest 10 rfl).trans e10
          replace e12 := (hrest 12 rfl).trans e12
          replace e13 := (hrest 13 rfl).trans e13
          replace e14 := (hrest 14 rfl).trans e14
          replace e15 := (hrest 15 rfl).trans e15
          replace e16 := (hrest 16 rfl).trans e16
          replace D_cn208_161 := sf_more D_cn208_161 hk [b17_169] (in_cons (hg.lo _ _ hb17) in_nil)
          replace D_ci208_161 := sf_more D_ci208_161 hk [b17_169] (in_cons (hg.lo _ _ hb17) in_nil)
          replace D_cn213_165 := sf_more D_cn213_165 hk [b17_169] (in_cons (hg.lo _ _ hb17) in_nil)
          replace D_ci213_165 := sf_more D_ci213_165 hk [b17_169] (in_cons (hg.lo _ _ hb17) in_nil)
          obtain ⟨v218_169, ev⟩ : ∃ v, sl a169 218 = v := ⟨_, rfl⟩
          rw [ev] at e218
          have D_v218_169 : Rd W169 (SF w [b17_169, b15_165, b13_161, b11_157, b9_153, b7_149]) (V.d (woutV ((woutV ((withV (V.mk 5 0 ⟨#[]⟩ ([⟨#[97]⟩, ⟨#[98]⟩]) ([V.mk (2) (1) (⟨#[]⟩) ([]) ([]), V.mk (2) (2) (⟨#[]⟩) ([]) ([])])) ⟨#[97]⟩ (V.mk (3) (0) (⟨#[120]⟩) ([]) ([])))) ⟨#[97]⟩)) ⟨#[97]⟩)) v218_169 := fr_end (M := [b15_165, b13_161, b11_157, b9_153, b7_149]) e218 kw [b17_169] (in_cons ⟨_, hb17⟩ in_nil) (in_cons own_b15_165.lt (in_cons own_b13_161.lt (in_cons own_b11_157.lt (in_cons own_b9_153.lt (in_cons own_b7_149.lt in_nil)))))
          replace e218 := ev; clear ev
          obtain ⟨cn218_169a, cn218_169c, ci218_169a, ci218_169c, ev, ht_v218_169, D_cn218_169, D_ci218_169⟩ := rdV_out D_v218_169
          subst ev; clear D_v218_169
          have e219 : sl a169 219 = (.bool (woutB ((woutV ((withV (V.mk 5 0 ⟨#[]⟩ ([⟨#[97]⟩, ⟨#[98]⟩]) ([V.mk (2) (1) (⟨#[]⟩) ([]) ([]), V.mk (2) (2) (⟨#[]⟩) ([]) ([])])) ⟨#[97]⟩ (V.mk (3) (0) (⟨#[120]⟩) ([]) ([])))) ⟨#[97]⟩)) ⟨#[97]⟩)) := e219
          replace own_b7_149 := own_b7_149.ext hk
          replace own_b9_153 := own_b9_153.ext hk
          replace own_b11_157 := own_b11_157.ext hk
          replace own_b13_161 := own_b13_161.ext hk
          replace own_b15_165 := own_b15_165.ext hk
          replace kw := kw.trans (.of_ext hk)
          clear hrest hk hg hpsi hb17
          refine tail_store (b := b17_169) (o := 0) (v := (.agg #[(.int .u8 ((woutV ((woutV ((withV (V.mk 5 0 ⟨#[]⟩ ([⟨#[97]⟩, ⟨#[98]⟩]) ([V.mk (2) (1) (⟨#[]⟩) ([]) ([]), V.mk (2) (2) (⟨#[]⟩) ([]) ([])])) ⟨#[97]⟩ (V.mk (3) (0) (⟨#[120]⟩) ([]) ([])))) ⟨#[97]⟩)) ⟨#[97]⟩).k)), (.int .i64 ((woutV ((woutV ((withV (V.mk 5 0 ⟨#[]⟩ ([⟨#[97]⟩, ⟨#[98]⟩]) ([V.mk (2) (1) (⟨#[]⟩) ([]) ([]), V.mk (2) (2) (⟨#[]⟩) ([]) ([])])) ⟨#[97]⟩ (V.mk (3) (0) (⟨#[120]⟩) ([]) ([])))) ⟨#[97]⟩)) ⟨#[97]⟩).n)), (.string ((woutV ((woutV ((withV (V.mk 5 0 ⟨#[]⟩ ([⟨#[97]⟩, ⟨#[98]⟩]) ([V.mk (2) (1) (⟨#[]⟩) ([]) ([]), V.mk (2) (2) (⟨#[]⟩) ([]) ([])])) ⟨#[97]⟩ (V.mk (3) (0) (⟨#[120]⟩) ([]) ([])))) ⟨#[97]⟩)) ⟨#[97]⟩).t)), (.slice cn218_169a (((woutV ((woutV ((withV (V.mk 5 0 ⟨#[]⟩ ([⟨#[97]⟩, ⟨#[98]⟩]) ([V.mk (2) (1) (⟨#[]⟩) ([]) ([]), V.mk (2) (2) (⟨#[]⟩) ([]) ([])])) ⟨#[97]⟩ (V.mk (3) (0) (⟨#[120]⟩) ([]) ([])))) ⟨#[97]⟩)) ⟨#[97]⟩).ns).length) cn218_169c), (.slice ci218_169a (((woutV ((woutV ((withV (V.mk 5 0 ⟨#[]⟩ ([⟨#[97]⟩, ⟨#[98]⟩]) ([V.mk (2) (1) (⟨#[]⟩) ([]) ([]), V.mk (2) (2) (⟨#[]⟩) ([]) ([])])) ⟨#[97]⟩ (V.mk (3) (0) (⟨#[120]⟩) ([]) ([])))) ⟨#[97]⟩)) ⟨#[97]⟩).xs).length) ci218_169c)])) e17 e218 sz25 rfl own_b17_169 (Nat.le_of_ble_eq_true rfl) (all_cons rfl (all_cons rfl (all_cons rfl (all_cons rfl (all_cons rfl all_nil))))) (fun W170 hs own_b17_169 => ?_)
          have own_b17_169 : Own W170 b17_169 [(.int .u8 ((woutV ((woutV ((withV (V.mk 5 0 ⟨#[]⟩ ([⟨#[97]⟩, ⟨#[98]⟩]) ([V.mk (2) (1) (⟨#[]⟩) ([]) ([]), V.mk (2) (2) (⟨#[]⟩) ([]) ([])])) ⟨#[97]⟩ (V.mk (3) (0) (⟨#[120]⟩) ([]) ([])))) ⟨#[97]⟩)) ⟨#[97]⟩).k)), (.int .i64 ((woutV ((woutV ((withV (V.mk 5 0 ⟨#[]⟩ ([⟨#[97]⟩, ⟨#[98]⟩]) ([V.mk (2) (1) (⟨#[]⟩) ([]) ([]), V.mk (2) (2) (⟨#[]⟩) ([]) ([])])) ⟨#[97]⟩ (V.mk (3) (0) (⟨#[120]⟩) ([]) ([])))) ⟨#[97]⟩)) ⟨#[97]⟩).n)), (.string ((woutV ((woutV ((withV (V.mk 5 0 ⟨#[]⟩ ([⟨#[97]⟩, ⟨#[98]⟩]) ([V.mk (2) (1) (⟨#[]⟩) ([]) ([]), V.mk (2) (2) (⟨#[]⟩) ([]) ([])])) ⟨#[97]⟩ (V.mk (3) (0) (⟨#[120]⟩) ([]) ([])))) ⟨#[97]⟩)) ⟨#[97]⟩).t)), (.slice cn218_169a (((woutV ((woutV ((withV (V.mk 5 0 ⟨#[]⟩ ([⟨#[97]⟩, ⟨#[98]⟩]) ([V.mk (2) (1) (⟨#[]⟩) ([]) ([]), V.mk (2) (2) (⟨#[]⟩) ([]) ([])])) ⟨#[97]⟩ (V.mk (3) (0) (⟨#[120]⟩) ([]) ([])))) ⟨#[97]⟩)) ⟨#[97]⟩).ns).length) cn218_169c), (.slice ci218_169a (((woutV ((woutV ((withV (V.mk 5 0 ⟨#[]⟩ ([⟨#[97]⟩, ⟨#[98]⟩]) ([V.mk (2) (1) (⟨#[]⟩) ([]) ([]), V.mk (2) (2) (⟨#[]⟩) ([]) ([])])) ⟨#[97]⟩ (V.mk (3) (0) (⟨#[120]⟩) ([]) ([])))) ⟨#[97]⟩)) ⟨#[97]⟩).xs).length) ci218_169c)] 25 := own_b17_169
          replace own_b7_149 := own_store own_b7_149 hs ne_b7_149_b17_169
          replace own_b9_153 := own_store own_b9_153 hs ne_b9_153_b17_169
          replace own_b11_157 := own_store own_b11_157 hs ne_b11_157_b17_169
          replace own_b13_161 := own_store own_b13_161 hs ne_b13_161_b17_169
          replace own_b15_165 := own_store own_b15_165 hs ne_b15_165_b17_169
          replace D_cn208_161 := sf_store D_cn208_161 hs (by simp)
          replace D_ci208_161 := sf_store D_ci208_161 hs (by simp)
          replace D_cn213_165 := sf_store D_cn213_165 hs (by simp)
          replace D_ci213_165 := sf_store D_ci213_165 hs (by simp)
          replace D_cn218_169 := sf_store D_cn218_169 hs (by simp)
          replace D_ci218_169 := sf_store D_ci218_169 hs (by simp)
          replace kw := keeps_store kw hs lo_b17_169
          clear hs
          refine tail_assign (v := (.bool (woutB ((woutV ((withV (V.mk 5 0 ⟨#[]⟩ ([⟨#[97]⟩, ⟨#[98]⟩]) ([V.mk (2) (1) (⟨#[]⟩) ([]) ([]), V.mk (2) (2) (⟨#[]⟩) ([]) ([])])) ⟨#[97]⟩ (V.mk (3) (0) (⟨#[120]⟩) ([]) ([])))) ⟨#[97]⟩)) ⟨#[97]⟩))) e219 (by rw [hsz169]; exact Nat.le_of_ble_eq_true rfl) (fun a171 hsz171 hdf171 e18 hr => ?_)
          replace hsz171 := hsz171.trans hsz169; replace hdf171 := hdf171.trans hdf169
          replace e8 := (hr 8 (by decide)).trans e8
          replace e10 := (hr 10 (by decide)).trans e10
          replace e12 := (hr 12 (by decide)).trans e12
          replace e13 := (hr 13 (by decide)).trans e13
          replace e14 := (hr 14 (by decide)).trans e14
          replace e15 := (hr 15 (by decide)).trans e15
          replace e16 := (hr 16 (by decide)).trans e16
          replace e17 := (hr 17 (by decide)).trans e17
          replace e218 := (hr 218 (by decide)).trans e218
          replace e219 := (hr 219 (by decide)).trans e219
          clear hr
          refine tail_nil (hK168 _ _ ?_)
          refine wp_seq_k fun K172 hK172 => ?_
          refine wp_reg All mixed hsz171 hdf171 st_tr trivial ?_
          refine Chain.op (φ := IsD (SF w [b17_169, b15_165, b13_161, b11_157, b9_153, b7_149]) (strsD ([⟨#[97]⟩]))) (st_d sub_all) (sp_bsl (ds := [D.str (⟨#[97]⟩)]) Try.underlying22 sz9 z9 (Nat.le_of_ble_eq_true rfl) (Nat.le_of_ble_eq_true rfl) ⟨rfl, (Has.cst.str (Nat.le_of_ble_eq_true rfl)), trivial⟩ rfl (by simp [width]) (fr_sf kw (in_cons own_b17_169.lt (in_cons own_b15_165.lt (in_cons own_b13_161.lt (in_cons own_b11_157.lt (in_cons own_b9_153.lt (in_cons own_b7_149.lt in_nil)))))))) ?_
          refine Chain.op (φ := IsD (SF w [b17_169, b15_165, b13_161, b11_157, b9_153, b7_149]) (V.d (V.mk (5) (0) (⟨#[]⟩) ([⟨#[97]⟩]) ([])))) (st_d sub_all) (sp_buildD (zd := [.int .u8 0, .int .i64 0, .str ⟨#[]⟩, strsD [], valsD []]) (es := [(0, D.int .u8 (5)), (3, strsD ([⟨#[97]⟩]))]) Try.underlying25 z25 (pl25 Try.underlying25) ⟨rfl, Has.cst.int, ⟨rfl, (Has.loc rfl), trivial⟩⟩ zV rfl (by simp [fits, width, strsD, valsD]) (by rw [V.d_eq]; rfl)) ?_
          refine Chain.op (φ := IsT (IsD (Fr W170) (V.d (woutV (V.mk (5) (0) (⟨#[]⟩) ([⟨#[97]⟩]) ([])) ⟨#[97]⟩))) (Is (.bool (woutB (V.mk (5) (0) (⟨#[]⟩) ([⟨#[97]⟩]) ([])) ⟨#[97]⟩)))) (st_t (st_d sub_all) (st_is _)) (sp_call2 (φ1 := IsD (SF w [b17_169, b15_165, b13_161, b11_157, b9_153, b7_149]) (V.d (V.mk (5) (0) (⟨#[]⟩) ([⟨#[97]⟩]) ([])))) (φ2 := Is (.string (⟨#[97]⟩))) ent27 (Has.loc rfl) Has.cst (fun g u1 u2 W hk hgk h1 h2 => by have h2 : u2 = _ := h2; subst u2; exact (Without_ok (V.mk (5) (0) (⟨#[]⟩) ([⟨#[97]⟩]) ([])) (⟨#[97]⟩) (Nat.le_of_ble_eq_true (by kernel_rfl)) W _ _ (fun b o h => h.1.2.1) h1).mono (fun _ _ ⟨v, h1, h2, r1, h3, h4⟩ => ⟨v, h1, h2, r1, _, h3, fresh_d hk hgk h4, rfl⟩))) ?_
          refine Chain.op (φ := IsT (IsD (Fr W170) (V.d (woutV (V.mk (5) (0) (⟨#[]⟩) ([⟨#[97]⟩]) ([])) ⟨#[97]⟩))) (Is (.bool (woutB (V.mk (5) (0) (⟨#[]⟩) ([⟨#[97]⟩]) ([])) ⟨#[97]⟩)))) (st_t (st_d sub_all) (st_is _)) (sp_move (Has.loc rfl)) ?_
          refine Chain.op (φ := IsD (Fr W170) (V.d (woutV (V.mk (5) (0) (⟨#[]⟩) ([⟨#[97]⟩]) ([])) ⟨#[97]⟩))) (st_d sub_all) (sp_ext2 (Has.loc rfl) rfl) ?_
          refine Chain.op (φ := Is (.bool (woutB (V.mk (5) (0) (⟨#[]⟩) ([⟨#[97]⟩]) ([])) ⟨#[97]⟩))) (st_is _) (sp_ext2' (Has.loc rfl) rfl) ?_
          refine Chain.alloc z25 ?_
          refine Chain.done ⟨by kernel_rfl, fun a173 g W173 hsz173 hdf173 hk hg henv hrest hpsi => ?_⟩
          obtain ⟨⟨b19_173, e19, hb19, own_b19_173⟩, e225, e224, -, -, -, -, -⟩ := henv
          have lo_b19_173 : w.heap.size ≤ b19_173 := Nat.le_trans kw.size (hg.lo _ _ hb19)
          have ne_b7_149_b19_173 : b7_149 ≠ b19_173 := Nat.ne_of_lt (Nat.lt_of_lt_of_le own_b7_149.lt (hg.lo _ _ hb19))
          have ne_b9_153_b19_173 : b9_153 ≠ b19_173 := Nat.ne_of_lt (Nat.lt_of_lt_of_le own_b9_153.lt (hg.lo _ _ hb19))
          have ne_b11_157_b19_173 : b11_157 ≠ b19_173 := Nat.ne_of_lt (Nat.lt_of_lt_of_le own_b11_157.lt (hg.lo _ _ hb19))
          have ne_b13_161_b19_173 : b13_161 ≠ b19_173 := Nat.ne_of_lt (Nat.lt_of_lt_of_le own_b13_161.lt (hg.lo _ _ hb19))
          have ne_b15_165_b19_173 : b15_165 ≠ b19_173 := Nat.ne_of_lt (Nat.lt_of_lt_of_le own_b15_165.lt (hg.lo _ _ hb19))
          have ne_b17_169_b19_173 : b17_169 ≠ b19_173 := Nat.ne_of_lt (Nat.lt_of_lt_of_le own_b17_169.lt (hg.lo _ _ hb19))
          have own_b19_173 : Own W173 b19_173 [(.int .u8 (0)), (.int .i64 (0)), (.string (⟨#[]⟩)), (.slice none 0 0), (.slice none 0 0)] 25 := own_b19_173
          replace e8 := (hrest 8 rfl).trans e8
          replace e10 := (hrest 10 rfl).trans e10
          replace e12 := (hrest 12 rfl).trans e12
          replace e13 := (hrest 13 rfl).trans e13
          replace e14 := (hrest 14 rfl).trans e14
          replace e15 := (hrest 15 rfl).trans e15
          replace e16 := (hrest 16 rfl).trans e16
          replace e18 := (hrest 18 rfl).trans e18
          replace D_cn208_161 := sf_more D_cn208_161 hk [b19_173] (in_cons (hg.lo _ _ hb19) in_nil)
          replace D_ci208_161 := sf_more D_ci208_161 hk [b19_173] (in_cons (hg.lo _ _ hb19) in_nil)
          replace D_cn213_165 := sf_more D_cn213_165 hk [b19_173] (in_cons (hg.lo _ _ hb19) in_nil)
          replace D_ci213_165 := sf_more D_ci213_165 hk [b19_173] (in_cons (hg.lo _ _ hb19) in_nil)
          obtain ⟨v224_173, ev⟩ : ∃ v, sl a173 224 = v := ⟨_, rfl⟩
          rw [ev] at e224
          have D_v224_173 : Rd W173 (SF w [b19_173, b17_169, b15_165, b13_161, b11_157, b9_153, b7_149]) (V.d (woutV (V.mk (5) (0) (⟨#[]⟩) ([⟨#[97]⟩]) ([])) ⟨#[97]⟩)) v224_173 := fr_end (M := [b17_169, b15_165, b13_161, b11_157, b9_153, b7_149]) e224 kw [b19_173] (in_cons ⟨_, hb19⟩ in_nil) (in_cons own_b17_169.lt (in_cons own_b15_165.lt (in_cons own_b13_161.lt (in_cons own_b11_157.lt (in_cons own_b9_153.lt (in_cons own_b7_149.lt in_nil))))))
          replace e224 := ev; clear ev
          obtain ⟨cn224_173a, cn224_173c, ci224_173a, ci224_173c, ev, ht_v224_173, D_cn224_173, D_ci224_173⟩ := rdV_out D_v224_173
          subst ev; clear D_v224_173
          have e225 : sl a173 225 = (.bool (woutB (V.mk (5) (0) (⟨#[]⟩) ([⟨#[97]⟩]) ([])) ⟨#[97]⟩)) := e225
          replace own_b7_149 := own_b7_149.ext hk
          replace own_b9_153 := own_b9_153.ext hk
          replace own_b11_157 := own_b11_157.ext hk
          replace own_b13_161 := own_b13_161.ext hk
          replace own_b15_165 := own_b15_165.ext hk
          replace own_b17_169 := own_b17_169.ext hk
          replace kw := kw.trans (.of_ext hk)
          clear hrest hk hg hpsi hb19
          refine tail_store (b := b19_173) (o := 0) (v := (.agg #[(.int .u8 ((woutV (V.mk (5) (0) (⟨#[]⟩) ([⟨#[97]⟩]) ([])) ⟨#[97]⟩).k)), (.int .i64 ((woutV (V.mk (5) (0) (⟨#[]⟩) ([⟨#[97]⟩]) ([])) ⟨#[97]⟩).n)), (.string ((woutV (V.mk (5) (0) (⟨#[]⟩) ([⟨#[97]⟩]) ([])) ⟨#[97]⟩).t)), (.slice cn224_173a (((woutV (V.mk (5) (0) (⟨#[]⟩) ([⟨#[97]⟩]) ([])) ⟨#[97]⟩).ns).length) cn224_173c), (.slice ci224_173a (((woutV (V.mk (5) (0) (⟨#[]⟩) ([⟨#[97]⟩]) ([])) ⟨#[97]⟩).xs).length) ci224_173c)])) e19 e224 sz25 rfl own_b19_173 (Nat.le_of_ble_eq_true rfl) (all_cons rfl (all_cons rfl (all_cons rfl (all_cons rfl (all_cons rfl all_nil))))) (fun W174 hs own_b19_173 => ?_)
          have own_b19_173 : Own W174 b19_173 [(.int .u8 ((woutV (V.mk (5) (0) (⟨#[]⟩) ([⟨#[97]⟩]) ([])) ⟨#[97]⟩).k)), (.int .i64 ((woutV (V.mk (5) (0) (⟨#[]⟩) ([⟨#[97]⟩]) ([])) ⟨#[97]⟩).n)), (.string ((woutV (V.mk (5) (0) (⟨#[]⟩) ([⟨#[97]⟩]) ([])) ⟨#[97]⟩).t)), (.slice cn224_173a (((woutV (V.mk (5) (0) (⟨#[]⟩) ([⟨#[97]⟩]) ([])) ⟨#[97]⟩).ns).length) cn224_173c), (.slice ci224_173a (((woutV (V.mk (5) (0) (⟨#[]⟩) ([⟨#[97]⟩]) ([])) ⟨#[97]⟩).xs).length) ci224_173c)] 25 := own_b19_173
          replace own_b7_149 := own_store own_b7_149 hs ne_b7_149_b19_173
          replace own_b9_153 := own_store own_b9_153 hs ne_b9_153_b19_173
          replace own_b11_157 := own_store own_b11_157 hs ne_b11_157_b19_173
          replace own_b13_161 := own_store own_b13_161 hs ne_b13_161_b19_173
          replace own_b15_165 := own_store own_b15_165 hs ne_b15_165_b19_173
          replace own_b17_169 := own_store own_b17_169 hs ne_b17_169_b19_173
          replace D_cn208_161 := sf_store D_cn208_161 hs (by simp)
          replace D_ci208_161 := sf_store D_ci208_161 hs (by simp)
          replace D_cn213_165 := sf_store D_cn213_165 hs (by simp)
          replace D_ci213_165 := sf_store D_ci213_165 hs (by simp)
          replace D_cn224_173 := sf_store D_cn224_173 hs (by simp)
          replace D_ci224_173 := sf_store D_ci224_173 hs (by simp)
          replace kw := keeps_store kw hs lo_b19_173
          clear hs
          refine tail_assign (v := (.bool (woutB (V.mk (5) (0) (⟨#[]⟩) ([⟨#[97]⟩]) ([])) ⟨#[97]⟩))) e225 (by rw [hsz173]; exact Nat.le_of_ble_eq_true rfl) (fun a175 hsz175 hdf175 e20 hr => ?_)
          replace hsz175 := hsz175.trans hsz173; replace hdf175 := hdf175.trans hdf173
          replace e8 := (hr 8 (by decide)).trans e8
          replace e10 := (hr 10 (by decide)).trans e10
          replace e12 := (hr 12 (by decide)).trans e12
          replace e13 := (hr 13 (by decide)).trans e13
          replace e14 := (hr 14 (by decide)).trans e14
          replace e15 := (hr 15 (by decide)).trans e15
          replace e16 := (hr 16 (by decide)).trans e16
          replace e18 := (hr 18 (by decide)).trans e18
          replace e19 := (hr 19 (by decide)).trans e19
          replace e224 := (hr 224 (by decide)).trans e224
          replace e225 := (hr 225 (by decide)).trans e225
          clear hr
          refine tail_nil (hK172 _ _ ?_)
          refine wp_seq_k fun K176 hK176 => ?_
          refine wp_reg All mixed hsz175 hdf175 st_tr trivial ?_
          refine Chain.op (φ := IsD (SF w [b19_173, b17_169, b15_165, b13_161, b11_157, b9_153, b7_149]) (strsD ([⟨#[97]⟩]))) (st_d sub_all) (sp_bsl (ds := [D.str (⟨#[97]⟩)]) Try.underlying22 sz9 z9 (Nat.le_of_ble_eq_true rfl) (Nat.le_of_ble_eq_true rfl) ⟨rfl, (Has.cst.str (Nat.le_of_ble_eq_true rfl)), trivial⟩ rfl (by simp [width]) (fr_sf kw (in_cons own_b19_173.lt (in_cons own_b17_169.lt (in_cons own_b15_165.lt (in_cons own_b13_161.lt (in_cons own_b11_157.lt (in_cons own_b9_153.lt (in_cons own_b7_149.lt in_nil))))))))) ?_
          refine Chain.op (φ := IsD (SF w [b19_173, b17_169, b15_165, b13_161, b11_157, b9_153, b7_149]) (V.d (V.mk (5) (0) (⟨#[]⟩) ([⟨#[97]⟩]) ([])))) (st_d sub_all) (sp_buildD (zd := [.int .u8 0, .int .i64 0, .str ⟨#[]⟩, strsD [], valsD []]) (es := [(0, D.int .u8 (5)), (3, strsD ([⟨#[97]⟩]))]) Try.underlying25 z25 (pl25 Try.underlying25) ⟨rfl, Has.cst.int, ⟨rfl, (Has.loc rfl), trivial⟩⟩ zV rfl (by simp [fits, width, strsD, valsD]) (by rw [V.d_eq]; rfl)) ?_
          refine Chain.op (φ := IsT (IsD (Fr W174) (V.d (getV (V.mk (5) (0) (⟨#[]⟩) ([⟨#[97]⟩]) ([])) ⟨#[97]⟩))) (Is (.bool (getB (V.mk (5) (0) (⟨#[]⟩) ([⟨#[97]⟩]) ([])) ⟨#[97]⟩)))) (st_t (st_d sub_all) (st_is _)) (sp_call2 (φ1 := IsD (SF w [b19_173, b17_169, b15_165, b13_161, b11_157, b9_153, b7_149]) (V.d (V.mk (5) (0) (⟨#[]⟩) ([⟨#[97]⟩]) ([])))) (φ2 := Is (.string (⟨#[97]⟩))) ent19 (Has.loc rfl) Has.cst (fun g u1 u2 W hk hgk h1 h2 => by have h2 : u2 = _ := h2; subst u2; exact (Get_ok (V.mk (5) (0) (⟨#[]⟩) ([⟨#[97]⟩]) ([])) (⟨#[97]⟩) (Nat.le_of_ble_eq_true (by kernel_rfl)) W _ _ (fun b o h => h.1.2.1) h1).mono (fun _ _ ⟨v, h1, h2, r1, h3, h4⟩ => ⟨v, h1, h2, r1, _, h3, fresh_d hk hgk h4, rfl⟩))) ?_
          refine Chain.op (φ := IsT (IsD (Fr W174) (V.d (getV (V.mk (5) (0) (⟨#[]⟩) ([⟨#[97]⟩]) ([])) ⟨#[97]⟩))) (Is (.bool (getB (V.mk (5) (0) (⟨#[]⟩) ([⟨#[97]⟩]) ([])) ⟨#[97]⟩)))) (st_t (st_d sub_all) (st_is _)) (sp_move (Has.loc rfl)) ?_
          refine Chain.op (φ := IsD (Fr W174) (V.d (getV (V.mk (5) (0) (⟨#[]⟩) ([⟨#[97]⟩]) ([])) ⟨#[97]⟩))) (st_d sub_all) (sp_ext2 (Has.loc rfl) rfl) ?_
          refine Chain.op (φ := Is (.bool (getB (V.mk (5) (0) (⟨#[]⟩) ([⟨#[97]⟩]) ([])) ⟨#[97]⟩))) (st_is _) (sp_ext2' (Has.loc rfl) rfl) ?_
          refine Chain.alloc z25 ?_
          refine Chain.done ⟨by kernel_rfl, fun a177 g W177 hsz177 hdf177 hk hg henv hrest hpsi => ?_⟩
          obtain ⟨⟨b21_177, e21, hb21, own_b21_177⟩, e231, e230, -, -, -, -, -⟩ := henv
          have lo_b21_177 : w.heap.size ≤ b21_177 := Nat.le_trans kw.size (hg.lo _ _ hb21)
          have ne_b7_149_b21_177 : b7_149 ≠ b21_177 := Nat.ne_of_lt (Nat.lt_of_lt_of_le own_b7_149.lt (hg.lo _ _ hb21))
          have ne_b9_153_b21_177 : b9_153 ≠ b21_177 := Nat.ne_of_lt (Nat.lt_of_lt_of_le own_b9_153.lt (hg.lo _ _ hb21))
          have ne_b11_157_b21_177 : b11_157 ≠ b21_177 := Nat.ne_of_lt (Nat.lt_of_lt_of_le own_b11_157.lt (hg.lo _ _ hb21))
          have ne_b13_161_b21_177 : b13_161 ≠ b21_177 := Nat.ne_of_lt (Nat.lt_of_lt_of_le own_b13_161.lt (hg.lo _ _ hb21))
          have ne_b15_165_b21_177 : b15_165 ≠ b21_177 := Nat.ne_of_lt (Nat.lt_of_lt_of_le own_b15_165.lt (hg.lo _ _ hb21))
          have ne_b17_169_b21_177 : b17_169 ≠ b21_177 := Nat.ne_of_lt (Nat.lt_of_lt_of_le own_b17_169.lt (hg.lo _ _ hb21))
          have ne_b19_173_b21_177 : b19_173 ≠ b21_177 := Nat.ne_of_lt (Nat.lt_of_lt_of_le own_b19_173.lt (hg.lo _ _ hb21))
          have own_b21_177 : Own W177 b21_177 [(.int .u8 (0)), (.int .i64 (0)), (.string (⟨#[]⟩)), (.slice none 0 0), (.slice none 0 0)] 25 := own_b21_177
          replace e8 := (hrest 8 rfl).trans e8
          replace e10 := (hrest 10 rfl).trans e10
          replace e12 := (hrest 12 rfl).trans e12
          replace e13 := (hrest 13 rfl).trans e13
          replace e14 := (hrest 14 rfl).trans e14
          replace e15 := (hrest 15 rfl).trans e15
          replace e16 := (hrest 16 rfl).trans e16
          replace e18 := (hrest 18 rfl).trans e18
          replace e19 := (hrest 19 rfl).trans e19
          replace e20 := (hrest 20 rfl).trans e20
          replace D_cn208_161 := sf_more D_cn208_161 hk [b21_177] (in_cons (hg.lo _ _ hb21) in_nil)
          replace D_ci208_161 := sf_more D_ci208_161 hk [b21_177] (in_cons (hg.lo _ _ hb21) in_nil)
          replace D_cn213_165 := sf_more D_cn213_165 hk [b21_177] (in_cons (hg.lo _ _ hb21) in_nil)
          replace D_ci213_165 := sf_more D_ci213_165 hk [b21_177] (in_cons (hg.lo _ _ hb21) in_nil)
          replace D_cn224_173 := sf_more D_cn224_173 hk [b21_177] (in_cons (hg.lo _ _ hb21) in_nil)
          replace D_ci224_173 := sf_more D_ci224_173 hk [b21_177] (in_cons (hg.lo _ _ hb21) in_nil)
          obtain ⟨v230_177, ev⟩ : ∃ v, sl a177 230 = v := ⟨_, rfl⟩
          rw [ev] at e230
          have D_v230_177 : Rd W177 (SF w [b21_177, b19_173, b17_169, b15_165, b13_161, b11_157, b9_153, b7_149]) (V.d (getV (V.mk (5) (0) (⟨#[]⟩) ([⟨#[97]⟩]) ([])) ⟨#[97]⟩)) v230_177 := fr_end (M := [b19_173, b17_169, b15_165, b13_161, b11_157, b9_153, b7_149]) e230 kw [b21_177] (in_cons ⟨_, hb21⟩ in_nil) (in_cons own_b19_173.lt (in_cons own_b17_169.lt (in_cons own_b15_165.lt (in_cons own_b13_161.lt (in_cons own_b11_157.lt (in_cons own_b9_153.lt (in_cons own_b7_149.lt in_nil)))))))
          replace e230 := ev; clear ev
          obtain ⟨cn230_177a, cn230_177c, ci230_177a, ci230_177c, ev, ht_v230_177, D_cn230_177, D_ci230_177⟩ := rdV_out D_v230_177
          subst ev; clear D_v230_177
          have e231 : sl a177 231 = (.bool (getB (V.mk (5) (0) (⟨#[]⟩) ([⟨#[97]⟩]) ([])) ⟨#[97]⟩)) := e231
          replace own_b7_149 := own_b7_149.ext hk
          replace own_b9_153 := own_b9_153.ext hk
          replace own_b11_157 := own_b11_157.ext hk
          replace own_b13_161 := own_b13_161.ext hk
          replace own_b15_165 := own_b15_165.ext hk
          replace own_b17_169 := own_b17_169.ext hk
          replace own_b19_173 := own_b19_173.ext hk
          replace kw := kw.trans (.of_ext hk)
          clear hrest hk hg hpsi hb21
          refine tail_store (b := b21_177) (o := 0) (v := (.agg #[(.int .u8 ((getV (V.mk (5) (0) (⟨#[]⟩) ([⟨#[97]⟩]) ([])) ⟨#[97]⟩).k)), (.int .i64 ((getV (V.mk (5) (0) (⟨#[]⟩) ([⟨#[97]⟩]) ([])) ⟨#[97]⟩).n)), (.string ((getV (V.mk (5) (0) (⟨#[]⟩) ([⟨#[97]⟩]) ([])) ⟨#[97]⟩).t)), (.slice cn230_177a (((getV (V.mk (5) (0) (⟨#[]⟩) ([⟨#[97]⟩]) ([])) ⟨#[97]⟩).ns).length) cn230_177c), (.slice ci230_177a (((getV (V.mk (5) (0) (⟨#[]⟩) ([⟨#[97]⟩]) ([])) ⟨#[97]⟩).xs).length) ci230_177c)])) e21 e230 sz25 rfl own_b21_177 (Nat.le_of_ble_eq_true rfl) (all_cons rfl (all_cons rfl (all_cons rfl (all_cons rfl (all_cons rfl all_nil))))) (fun W178 hs own_b21_177 => ?_)
          have own_b21_177 : Own W178 b21_177 [(.int .u8 ((getV (V.mk (5) (0) (⟨#[]⟩) ([⟨#[97]⟩]) ([])) ⟨#[97]⟩).k)), (.int .i64 ((getV (V.mk (5) (0) (⟨#[]⟩) ([⟨#[97]⟩]) ([])) ⟨#[97]⟩).n)), (.string ((getV (V.mk (5) (0) (⟨#[]⟩) ([⟨#[97]⟩]) ([])) ⟨#[97]⟩).t)), (.slice cn230_177a (((getV (V.mk (5) (0) (⟨#[]⟩) ([⟨#[97]⟩]) ([])) ⟨#[97]⟩).ns).length) cn230_177c), (.slice ci230_177a (((getV (V.mk (5) (0) (⟨#[]⟩) ([⟨#[97]⟩]) ([])) ⟨#[97]⟩).xs).length) ci230_177c)] 25 := own_b21_177
          replace own_b7_149 := own_store own_b7_149 hs ne_b7_149_b21_177
          replace own_b9_153 := own_store own_b9_153 hs ne_b9_153_b21_177
          replace own_b11_157 := own_store own_b11_157 hs ne_b11_157_b21_177
          replace own_b13_161 := own_store own_b13_161 hs ne_b13_161_b21_177
          replace own_b15_165 := own_store own_b15_165 hs ne_b15_165_b21_177
          replace own_b17_169 := own_store own_b17_169 hs ne_b17_169_b21_177
          replace own_b19_173 := own_store own_b19_173 hs ne_b19_173_b21_177
          replace D_cn208_161 := sf_store D_cn208_161 hs (by simp)
          replace D_ci208_161 := sf_store D_ci208_161 hs (by simp)
          replace D_cn213_165 := sf_store D_cn213_165 hs (by simp)
          replace D_ci213_165 := sf_store D_ci213_165 hs (by simp)
          replace D_cn224_173 := sf_store D_cn224_173 hs (by simp)
          replace D_ci224_173 := sf_store D_ci224_173 hs (by simp)
          replace D_cn230_177 := sf_store D_cn230_177 hs (by simp)
          replace D_ci230_177 := sf_store D_ci230_177 hs (by simp)
          replace kw := keeps_store kw hs lo_b21_177
          clear hs
          refine tail_assign (v := (.bool (getB (V.mk (5) (0) (⟨#[]⟩) ([⟨#[97]⟩]) ([])) ⟨#[97]⟩))) e231 (by rw [hsz177]; exact Nat.le_of_ble_eq_true rfl) (fun a179 hsz179 hdf179 e22 hr => ?_)
          replace hsz179 := hsz179.trans hsz177; replace hdf179 := hdf179.trans hdf177
          replace e8 := (hr 8 (by decide)).trans e8
          replace e10 := (hr 10 (by decide)).trans e10
          replace e12 := (hr 12 (by decide)).trans e12
          replace e13 := (hr 13 (by decide)).trans e13
          replace e14 := (hr 14 (by decide)).trans e14
          replace e15 := (hr 15 (by decide)).trans e15
          replace e16 := (hr 16 (by decide)).trans e16
          replace e18 := (hr 18 (by decide)).trans e18
          replace e19 := (hr 19 (by decide)).trans e19
          replace e20 := (hr 20 (by decide)).trans e20
          replace e21 := (hr 21 (by decide)).trans e21
          replace e230 := (hr 230 (by decide)).trans e230
          replace e231 := (hr 231 (by decide)).trans e231
          clear hr
          refine tail_nil (hK176 _ _ ?_)
          refine wp_seq_k fun K180 hK180 => ?_
          refine wp_reg All mixed hsz179 hdf179 st_tr trivial ?_
          refine Chain.op (φ := IsD (SF w [b21_177, b19_173, b17_169, b15_165, b13_161, b11_157, b9_153, b7_149]) (strsD ([⟨#[97]⟩]))) (st_d sub_all) (sp_bsl (ds := [D.str (⟨#[97]⟩)]) Try.underlying22 sz9 z9 (Nat.le_of_ble_eq_true rfl) (Nat.le_of_ble_eq_true rfl) ⟨rfl, (Has.cst.str (Nat.le_of_ble_eq_true rfl)), trivial⟩ rfl (by simp [width]) (fr_sf kw (in_cons own_b21_177.lt (in_cons own_b19_173.lt (in_cons own_b17_169.lt (in_cons own_b15_165.lt (in_cons own_b13_161.lt (in_cons own_b11_157.lt (in_cons own_b9_153.lt (in_cons own_b7_149.lt in_nil)))))))))) ?_
          refine Chain.op (φ := Is (.agg #[(.int .u8 (2)), (.int .i64 (1)), (.string (⟨#[]⟩)), (.slice none 0 0), (.slice none 0 0)])) (st_is _) (sp_call1 (φ1 := Is (.int .i64 (1))) ent18 Has.cst (fun g u1 W hk hgk h1 => by have h1 : u1 = _ := h1; subst u1; exact num_ok (1) W)) ?_
          refine Chain.op (φ := IsD (SF w [b21_177, b19_173, b17_169, b15_165, b13_161, b11_157, b9_153, b7_149]) (valsD ([V.mk (2) (1) (⟨#[]⟩) ([]) ([])]))) (st_d sub_all) (sp_bsl (ds := [V.d (V.mk (2) (1) (⟨#[]⟩) ([]) ([]))]) Try.underlying23 sz25 z25 (Nat.le_of_ble_eq_true rfl) (Nat.le_of_ble_eq_true rfl) ⟨rfl, ((Has.loc rfl).dat (rdV_mk (by decide) (rd_nil _) (rd_nil _) : Rd W178 (SF w [b21_177, b19_173, b17_169, b15_165, b13_161, b11_157, b9_153, b7_149]) (V.d (V.mk (2) (1) (⟨#[]⟩) ([]) ([]))) _) sub_all), trivial⟩ rfl (by intro e he; simp at he; rcases he with rfl <;> exact width_V _) (fr_sf kw (in_cons own_b21_177.lt (in_cons own_b19_173.lt (in_cons own_b17_169.lt (in_cons own_b15_165.lt (in_cons own_b13_161.lt (in_cons own_b11_157.lt (in_cons own_b9_153.lt (in_cons own_b7_149.lt in_nil)))))))))) ?_
          refine Chain.op (φ := IsD (SF w [b21_177, b19_173, b17_169, b15_165, b13_161, b11_157, b9_153, b7_149]) (V.d (V.mk (4) (0) (⟨#[]⟩) ([⟨#[97]⟩]) ([V.mk (2) (1) (⟨#[]⟩) ([]) ([])])))) (st_d sub_all) (sp_buildD (zd := [.int .u8 0, .int .i64 0, .str ⟨#[]⟩, strsD [], valsD []]) (es := [(0, D.int .u8 (4)), (3, strsD ([⟨#[97]⟩])), (4, valsD ([V.mk (2) (1) (⟨#[]⟩) ([]) ([])]))]) Try.underlying25 z25 (pl25 Try.underlying25) ⟨rfl, Has.cst.int, ⟨rfl, (Has.loc rfl), ⟨rfl, (Has.loc rfl), trivial⟩⟩⟩ zV rfl (by simp [fits, width, strsD, valsD]) (by rw [V.d_eq]; rfl)) ?_
          refine Chain.op (φ := IsT (IsD (Fr W178) (V.d (getV (V.mk (4) (0) (⟨#[]⟩) ([⟨#[97]⟩]) ([V.mk (2) (1) (⟨#[]⟩) ([]) ([])])) ⟨#[97]⟩))) (Is (.bool (getB (V.mk (4) (0) (⟨#[]⟩) ([⟨#[97]⟩]) ([V.mk (2) (1) (⟨#[]⟩) ([]) ([])])) ⟨#[97]⟩)))) (st_t (st_d sub_all) (st_is _)) (sp_call2 (φ1 := IsD (SF w [b21_177, b19_173, b17_169, b15_165, b13_161, b11_157, b9_153, b7_149]) (V.d (V.mk (4) (0) (⟨#[]⟩) ([⟨#[97]⟩]) ([V.mk (2) (1) (⟨#[]⟩) ([]) ([])])))) (φ2 := Is (.string (⟨#[97]⟩))) ent19 (Has.loc rfl) Has.cst (fun g u1 u2 W hk hgk h1 h2 => by have h2 : u2 = _ := h2; subst u2; exact (Get_ok (V.mk (4) (0) (⟨#[]⟩) ([⟨#[97]⟩]) ([V.mk (2) (1) (⟨#[]⟩) ([]) ([])])) (⟨#[97]⟩) (Nat.le_of_ble_eq_true (by kernel_rfl)) W _ _ (fun b o h => h.1.2.1) h1).mono (fun _ _ ⟨v, h1, h2, r1, h3, h4⟩ => ⟨v, h1, h2, r1, _, h3, fresh_d hk hgk h4, rfl⟩))) ?_
          refine Chain.op (φ := IsT (IsD (Fr W178) (V.d (getV (V.mk (4) (0) (⟨#[]⟩) ([⟨#[97]⟩]) ([V.mk (2) (1) (⟨#[]⟩) ([]) ([])])) ⟨#[97]⟩))) (Is (.bool (getB (V.mk (4) (0) (⟨#[]⟩) ([⟨#[97]⟩]) ([V.mk (2) (1) (⟨#[]⟩) ([]) ([])])) ⟨#[97]⟩)))) (st_t (st_d sub_all) (st_is _)) (sp_move (Has.loc rfl)) ?_
          refine Chain.op (φ := IsD (Fr W178) (V.d (getV (V.mk (4) (0) (⟨#[]⟩) ([⟨#[97]⟩]) ([V.mk (2) (1) (⟨#[]⟩) ([]) ([])])) ⟨#[97]⟩))) (st_d sub_all) (sp_ext2 (Has.loc rfl) rfl) ?_
          refine Chain.op (φ := Is (.bool (getB (V.mk (4) (0) (⟨#[]⟩) ([⟨#[97]⟩]) ([V.mk (2) (1) (⟨#[]⟩) ([]) ([])])) ⟨#[97]⟩))) (st_is _) (sp_ext2' (Has.loc rfl) rfl) ?_
          refine Chain.alloc z25 ?_
          refine Chain.done ⟨by kernel_rfl, fun a181 g W181 hsz181 hdf181 hk hg henv hrest hpsi => ?_⟩
          obtain ⟨⟨b23_181, e23, hb23, own_b23_181⟩, e239, e238, -, -, -, -, -, -, -⟩ := henv
          have lo_b23_181 : w.heap.size ≤ b23_181 := Nat.le_trans kw.size (hg.lo _ _ hb23)
          have ne_b7_149_b23_181 : b7_149 ≠ b23_181 := Nat.ne_of_lt (Nat.lt_of_lt_of_le own_b7_149.lt (hg.lo _ _ hb23))
          have ne_b9_153_b23_181 : b9_153 ≠ b23_181 := Nat.ne_of_lt (Nat.lt_of_lt_of_le own_b9_153.lt (hg.lo _ _ hb23))
          have ne_b11_157_b23_181 : b11_157 ≠ b23_181 := Nat.ne_of_lt (Nat.lt_of_lt_of_le own_b11_157.lt (hg.lo _ _ hb23))
          have ne_b13_161_b23_181 : b13_161 ≠ b23_181 := Nat.ne_of_lt (Nat.lt_of_lt_of_le own_b13_161.lt (hg.lo _ _ hb23))
          have ne_b15_165_b23_181 : b15_165 ≠ b23_181 := Nat.ne_of_lt (Nat.lt_of_lt_of_le own_b15_165.lt (hg.lo _ _ hb23))
          have ne_b17_169_b23_181 : b17_169 ≠ b23_181 := Nat.ne_of_lt (Nat.lt_of_lt_of_le own_b17_169.lt (hg.lo _ _ hb23))
          have ne_b19_173_b23_181 : b19_173 ≠ b23_181 := Nat.ne_of_lt (Nat.lt_of_lt_of_le own_b19_173.lt (hg.lo _ _ hb23))
          have ne_b21_177_b23_181 : b21_177 ≠ b23_181 := Nat.ne_of_lt (Nat.lt_of_lt_of_le own_b21_177.lt (hg.lo _ _ hb23))
          have own_b23_181 : Own W181 b23_181 [(.int .u8 (0)), (.int .i64 (0)), (.string (⟨#[]⟩)), (.slice none 0 0), (.slice none 0 0)] 25 := own_b23_181
          replace e8 := (hrest 8 rfl).trans e8
          replace e10 := (hrest 10 rfl).trans e10
          replace e12 := (hrest 12 rfl).trans e12
          replace e13 := (hrest 13 rfl).trans e13
          replace e14 := (hrest 14 rfl).trans e14
          replace e15 := (hrest 15 rfl).trans e15
          replace e16 := (hrest 16 rfl).trans e16
          replace e18 := (hrest 18 rfl).trans e18
          replace e19 := (hrest 19 rfl).trans e19
          replace e20 := (hrest 20 rfl).trans e20
          replace e22 := (hrest 22 rfl).trans e22
          replace D_cn208_161 := sf_more D_cn208_161 hk [b23_181] (in_cons (hg.lo _ _ hb23) in_nil)
          replace D_ci208_161 := sf_more D_ci208_161 hk [b23_181] (in_cons (hg.lo _ _ hb23) in_nil)
          replace D_cn213_165 := sf_more D_cn213_165 hk [b23_181] (in_cons (hg.lo _ _ hb23) in_nil)
          replace D_ci213_165 := sf_more D_ci213_165 hk [b23_181] (in_cons (hg.lo _ _ hb23) in_nil)
          replace D_cn224_173 := sf_more D_cn224_173 hk [b23_181] (in_cons (hg.lo _ _ hb23) in_nil)
          replace D_ci224_173 := sf_more D_ci224_173 hk [b23_181] (in_cons (hg.lo _ _ hb23) in_nil)
          obtain ⟨v238_181, ev⟩ : ∃ v, sl a181 238 = v := ⟨_, rfl⟩
          rw [ev] at e238
          have D_v238_181 : Rd W181 (SF w [b23_181, b21_177, b19_173, b17_169, b15_165, b13_161, b11_157, b9_153, b7_149]) (V.d (getV (V.mk (4) (0) (⟨#[]⟩) ([⟨#[97]⟩]) ([V.mk (2) (1) (⟨#[]⟩) ([]) ([])])) ⟨#[97]⟩)) v238_181 := fr_end (M := [b21_177, b19_173, b17_169, b15_165, b13_161, b11_157, b9_153, b7_149]) e238 kw [b23_181] (in_cons ⟨_, hb23⟩ in_nil) (in_cons own_b21_177.lt (in_cons own_b19_173.lt (in_cons own_b17_169.lt (in_cons own_b15_165.lt (in_cons own_b13_161.lt (in_cons own_b11_157.lt (in_cons own_b9_153.lt (in_cons own_b7_149.lt in_nil))))))))
          replace e238 := ev; clear ev
          obtain ⟨cn238_181a, cn238_181c, ci238_181a, ci238_181c, ev, ht_v238_181, D_cn238_181, D_ci238_181⟩ := rdV_out D_v238_181
          subst ev; clear D_v238_181
          have e239 : sl a181 239 = (.bool (getB (V.mk (4) (0) (⟨#[]⟩) ([⟨#[97]⟩]) ([V.mk (2) (1) (⟨#[]⟩) ([]) ([])])) ⟨#[97]⟩)) := e239
          replace own_b7_149 := own_b7_149.ext hk
          replace own_b9_153 := own_b9_153.ext hk
          replace own_b11_157 := own_b11_157.ext hk
          replace own_b13_161 := own_b13_161.ext hk
          replace own_b15_165 := own_b15_165.ext hk
          replace own_b17_169 := own_b17_169.ext hk
          replace own_b19_173 := own_b19_173.ext hk
          replace own_b21_177 := own_b21_177.ext hk
          replace kw := kw.trans (.of_ext hk)
          clear hrest hk hg hpsi hb23
          refine tail_store (b := b23_181) (o := 0) (v := (.agg #[(.int .u8 ((getV (V.mk (4) (0) (⟨#[]⟩) ([⟨#[97]⟩]) ([V.mk (2) (1) (⟨#[]⟩) ([]) ([])])) ⟨#[97]⟩).k)), (.int .i64 ((getV (V.mk (4) (0) (⟨#[]⟩) ([⟨#[97]⟩]) ([V.mk (2) (1) (⟨#[]⟩) ([]) ([])])) ⟨#[97]⟩).n)), (.string ((getV (V.mk (4) (0) (⟨#[]⟩) ([⟨#[97]⟩]) ([V.mk (2) (1) (⟨#[]⟩) ([]) ([])])) ⟨#[97]⟩).t)), (.slice cn238_181a (((getV (V.mk (4) (0) (⟨#[]⟩) ([⟨#[97]⟩]) ([V.mk (2) (1) (⟨#[]⟩) ([]) ([])])) ⟨#[97]⟩).ns).length) cn238_181c), (.slice ci238_181a (((getV (V.mk (4) (0) (⟨#[]⟩) ([⟨#[97]⟩]) ([V.mk (2) (1) (⟨#[]⟩) ([]) ([])])) ⟨#[97]⟩).xs).length) ci238_181c)])) e23 e238 sz25 rfl own_b23_181 (Nat.le_of_ble_eq_true rfl) (all_cons rfl (all_cons rfl (all_cons rfl (all_cons rfl (all_cons rfl all_nil))))) (fun W182 hs own_b23_181 => ?_)
          have own_b23_181 : Own W182 b23_181 [(.int .u8 ((getV (V.mk (4) (0) (⟨#[]⟩) ([⟨#[97]⟩]) ([V.mk (2) (1) (⟨#[]⟩) ([]) ([])])) ⟨#[97]⟩).k)), (.int .i64 ((getV (V.mk (4) (0) (⟨#[]⟩) ([⟨#[97]⟩]) ([V.mk (2) (1) (⟨#[]⟩) ([]) ([])])) ⟨#[97]⟩).n)), (.string ((getV (V.mk (4) (0) (⟨#[]⟩) ([⟨#[97]⟩]) ([V.mk (2) (1) (⟨#[]⟩) ([]) ([])])) ⟨#[97]⟩).t)), (.slice cn238_181a (((getV (V.mk (4) (0) (⟨#[]⟩) ([⟨#[97]⟩]) ([V.mk (2) (1) (⟨#[]⟩) ([]) ([])])) ⟨#[97]⟩).ns).length) cn238_181c), (.slice ci238_181a (((getV (V.mk (4) (0) (⟨#[]⟩) ([⟨#[97]⟩]) ([V.mk (2) (1) (⟨#[]⟩) ([]) ([])])) ⟨#[97]⟩).xs).length) ci238_181c)] 25 := own_b23_181
          replace own_b7_149 := own_store own_b7_149 hs ne_b7_149_b23_181
          replace own_b9_153 := own_store own_b9_153 hs ne_b9_153_b23_181
          replace own_b11_157 := own_store own_b11_157 hs ne_b11_157_b23_181
          replace own_b13_161 := own_store own_b13_161 hs ne_b13_161_b23_181
          replace own_b15_165 := own_store own_b15_165 hs ne_b15_165_b23_181
          replace own_b17_169 := own_store own_b17_169 hs ne_b17_169_b23_181
          replace own_b19_173 := own_store own_b19_173 hs ne_b19_173_b23_181
          replace own_b21_177 := own_store own_b21_177 hs ne_b21_177_b23_181
          replace D_cn208_161 := sf_store D_cn208_161 hs (by simp)
          replace D_ci208_161 := sf_store D_ci208_161 hs (by simp)
          replace D_cn213_165 := sf_store D_cn213_165 hs (by simp)
          replace D_ci213_165 := sf_store D_ci213_165 hs (by simp)
          replace D_cn224_173 := sf_store D_cn224_173 hs (by simp)
          replace D_ci224_173 := sf_store D_ci224_173 hs (by simp)
          replace D_cn238_181 := sf_store D_cn238_181 hs (by simp)
          replace D_ci238_181 := sf_store D_ci238_181 hs (by simp)
          replace kw := keeps_store kw hs lo_b23_181
          clear hs
          refine tail_assign (v := (.bool (getB (V.mk (4) (0) (⟨#[]⟩) ([⟨#[97]⟩]) ([V.mk (2) (1) (⟨#[]⟩) ([]) ([])])) ⟨#[97]⟩))) e239 (by rw [hsz181]; exact Nat.le_of_ble_eq_true rfl) (fun a183 hsz183 hdf183 e24 hr => ?_)
          replace hsz183 := hsz183.trans hsz181; replace hdf183 := hdf183.trans hdf181
          replace e8 := (hr 8 (by decide)).trans e8
          replace e10 := (hr 10 (by decide)).trans e10
          replace e12 := (hr 12 (by decide)).trans e12
          replace e13 := (hr 13 (by decide)).trans e13
          replace e14 := (hr 14 (by decide)).trans e14
          replace e15 := (hr 15 (by decide)).trans e15
          replace e16 := (hr 16 (by decide)).trans e16
          replace e18 := (hr 18 (by decide)).trans e18
          replace e19 := (hr 19 (by decide)).trans e19
          replace e20 := (hr 20 (by decide)).trans e20
          replace e22 := (hr 22 (by decide)).trans e22
          replace e23 := (hr 23 (by decide)).trans e23
          replace e238 := (hr 238 (by decide)).trans e238
          replace e239 := (hr 239 (by decide)).trans e239
          clear hr
          refine tail_nil (hK180 _ _ ?_)
          refine wp_seq_k fun K184 hK184 => ?_
          refine wp_reg All mixed hsz183 hdf183 st_tr trivial ?_
          refine Chain.op (φ := Is (.int .i64 (withE (V.mk 4 0 ⟨#[]⟩ [] ([]))))) (st_is _) (sp_move (Has.base rfl e8)) ?_
          refine Chain.op (φ := Is (.bool ((withE (V.mk 4 0 ⟨#[]⟩ [] ([])) : Int) == (10 : Int)))) (st_is _) (sp_eql (Has.loc rfl) Has.cst) ?_
          refine Chain.op (φ := Is (.bool ((withE (V.mk 4 0 ⟨#[]⟩ [] ([])) : Int) == (10 : Int)))) (st_is _) (sp_move (Has.loc rfl)) ?_
          refine Chain.opE (t := 242) (x := (withE (V.mk 4 0 ⟨#[]⟩ [] ([])) : Int) == (10 : Int)) (φ := Is (.int .i64 (withE (V.mk (5) (0) (⟨#[]⟩) ([⟨#[97]⟩]) ([]))))) rfl (Has.loc rfl) (st_is _) (fun hg => sp_move (Has.base rfl e10)) ?_
          refine Chain.opE (t := 242) (x := (withE (V.mk 4 0 ⟨#[]⟩ [] ([])) : Int) == (10 : Int)) (φ := Is (.bool ((withE (V.mk (5) (0) (⟨#[]⟩) ([⟨#[97]⟩]) ([])) : Int) == (3 : Int)))) rfl (Has.loc rfl) (st_is _) (fun hg => sp_eql ((Has.loc rfl).undE hg) Has.cst) ?_
          refine Chain.op (φ := Is (.bool (((withE (V.mk 4 0 ⟨#[]⟩ [] ([])) : Int) == (10 : Int)) && ((withE (V.mk (5) (0) (⟨#[]⟩) ([⟨#[97]⟩]) ([])) : Int) == (3 : Int))))) (st_is _) (sp_and (Has.loc rfl) ((Has.loc rfl).weak fun hq => hq)) ?_
          refine Chain.op (φ := Is (.bool (((withE (V.mk 4 0 ⟨#[]⟩ [] ([])) : Int) == (10 : Int)) && ((withE (V.mk (5) (0) (⟨#[]⟩) ([⟨#[97]⟩]) ([])) : Int) == (3 : Int))))) (st_is _) (sp_move (Has.loc rfl)) ?_
          refine Chain.opE (t := 246) (x := ((withE (V.mk 4 0 ⟨#[]⟩ [] ([])) : Int) == (10 : Int)) && ((withE (V.mk (5) (0) (⟨#[]⟩) ([⟨#[97]⟩]) ([])) : Int) == (3 : Int))) (φ := Is (.int .i64 (withE (V.mk 5 0 ⟨#[]⟩ ([⟨#[98]⟩, ⟨#[97]⟩]) ([V.mk (2) (1) (⟨#[]⟩) ([]) ([]), V.mk (2) (2) (⟨#[]⟩) ([]) ([])]))))) rfl (Has.loc rfl) (st_is _) (fun hg => sp_move (Has.base rfl e12)) ?_
          refine Chain.opE (t := 246) (x := ((withE (V.mk 4 0 ⟨#[]⟩ [] ([])) : Int) == (10 : Int)) && ((withE (V.mk (5) (0) (⟨#[]⟩) ([⟨#[97]⟩]) ([])) : Int) == (3 : Int))) (φ := Is (.bool ((withE (V.mk 5 0 ⟨#[]⟩ ([⟨#[98]⟩, ⟨#[97]⟩]) ([V.mk (2) (1) (⟨#[]⟩) ([]) ([]), V.mk (2) (2) (⟨#[]⟩) ([]) ([])])) : Int) == (3 : Int)))) rfl (Has.loc rfl) (st_is _) (fun hg => sp_eql ((Has.loc rfl).undE hg) Has.cst) ?_
          refine Chain.op (φ := Is (.bool ((((withE (V.mk 4 0 ⟨#[]⟩ [] ([])) : Int) == (10 : Int)) && ((withE (V.mk (5) (0) (⟨#[]⟩) ([⟨#[97]⟩]) ([])) : Int) == (3 : Int))) && ((withE (V.mk 5 0 ⟨#[]⟩ ([⟨#[98]⟩, ⟨#[97]⟩]) ([V.mk (2) (1) (⟨#[]⟩) ([]) ([]), V.mk (2) (2) (⟨#[]⟩) ([]) ([])])) : Int) == (3 : Int))))) (st_is _) (sp_and (Has.loc rfl) ((Has.loc rfl).weak fun hq => hq)) ?_
          refine Chain.op (φ := Is (.bool ((((withE (V.mk 4 0 ⟨#[]⟩ [] ([])) : Int) == (10 : Int)) && ((withE (V.mk (5) (0) (⟨#[]⟩) ([⟨#[97]⟩]) ([])) : Int) == (3 : Int))) && ((withE (V.mk 5 0 ⟨#[]⟩ ([⟨#[98]⟩, ⟨#[97]⟩]) ([V.mk (2) (1) (⟨#[]⟩) ([]) ([]), V.mk (2) (2) (⟨#[]⟩) ([]) ([])])) : Int) == (3 : Int))))) (st_is _) (sp_move (Has.loc rfl)) ?_
          refine Chain.opE (t := 250) (x := (((withE (V.mk 4 0 ⟨#[]⟩ [] ([])) : Int) == (10 : Int)) && ((withE (V.mk (5) (0) (⟨#[]⟩) ([⟨#[97]⟩]) ([])) : Int) == (3 : Int))) && ((withE (V.mk 5 0 ⟨#[]⟩ ([⟨#[98]⟩, ⟨#[97]⟩]) ([V.mk (2) (1) (⟨#[]⟩) ([]) ([]), V.mk (2) (2) (⟨#[]⟩) ([]) ([])])) : Int) == (3 : Int))) (φ := Is (.int .i64 (withE (V.mk 5 0 ⟨#[]⟩ ([⟨#[97]⟩, ⟨#[98]⟩]) ([V.mk (2) (1) (⟨#[]⟩) ([]) ([]), V.mk (2) (2) (⟨#[]⟩) ([]) ([])]))))) rfl (Has.loc rfl) (st_is _) (fun hg => sp_move (Has.base rfl e14)) ?_
          refine Chain.opE (t := 250) (x := (((withE (V.mk 4 0 ⟨#[]⟩ [] ([])) : Int) == (10 : Int)) && ((withE (V.mk (5) (0) (⟨#[]⟩) ([⟨#[97]⟩]) ([])) : Int) == (3 : Int))) && ((withE (V.mk 5 0 ⟨#[]⟩ ([⟨#[98]⟩, ⟨#[97]⟩]) ([V.mk (2) (1) (⟨#[]⟩) ([]) ([]), V.mk (2) (2) (⟨#[]⟩) ([]) ([])])) : Int) == (3 : Int))) (φ := Is (.bool ((withE (V.mk 5 0 ⟨#[]⟩ ([⟨#[97]⟩, ⟨#[98]⟩]) ([V.mk (2) (1) (⟨#[]⟩) ([]) ([]), V.mk (2) (2) (⟨#[]⟩) ([]) ([])])) : Int) == (0 : Int)))) rfl (Has.loc rfl) (st_is _) (fun hg => sp_eql ((Has.loc rfl).undE hg) Has.cst) ?_
          refine Chain.op (φ := _) (st_is _) (sp_and (Has.loc rfl) ((Has.loc rfl).weak fun hq => hq)) ?_
          refine Chain.op (φ := _) (st_is _) (sp_move (Has.loc rfl)) ?_
          refine Chain.opE (t := 254) (x := _) (φ := Is (.agg #[(.int .u8 ((withV (V.mk 5 0 ⟨#[]⟩ ([⟨#[97]⟩, ⟨#[98]⟩]) ([V.mk (2) (1) (⟨#[]⟩) ([]) ([]), V.mk (2) (2) (⟨#[]⟩) ([]) ([])])) ⟨#[97]⟩ (V.mk (3) (0) (⟨#[120]⟩) ([]) ([]))).k)), (.int .i64 ((withV (V.mk 5 0 ⟨#[]⟩ ([⟨#[97]⟩, ⟨#[98]⟩]) ([V.mk (2) (1) (⟨#[]⟩) ([]) ([]), V.mk (2) (2) (⟨#[]⟩) ([]) ([])])) ⟨#[97]⟩ (V.mk (3) (0) (⟨#[120]⟩) ([]) ([]))).n)), (.string ((withV (V.mk 5 0 ⟨#[]⟩ ([⟨#[97]⟩, ⟨#[98]⟩]) ([V.mk (2) (1) (⟨#[]⟩) ([]) ([]), V.mk (2) (2) (⟨#[]⟩) ([]) ([])])) ⟨#[97]⟩ (V.mk (3) (0) (⟨#[120]⟩) ([]) ([]))).t)), (.slice cn208_161a (((withV (V.mk 5 0 ⟨#[]⟩ ([⟨#[97]⟩, ⟨#[98]⟩]) ([V.mk (2) (1) (⟨#[]⟩) ([]) ([]), V.mk (2) (2) (⟨#[]⟩) ([]) ([])])) ⟨#[97]⟩ (V.mk (3) (0) (⟨#[120]⟩) ([]) ([]))).ns).length) cn208_161c), (.slice ci208_161a (((withV (V.mk 5 0 ⟨#[]⟩ ([⟨#[97]⟩, ⟨#[98]⟩]) ([V.mk (2) (1) (⟨#[]⟩) ([]) ([]), V.mk (2) (2) (⟨#[]⟩) ([]) ([])])) ⟨#[97]⟩ (V.mk (3) (0) (⟨#[120]⟩) ([]) ([]))).xs).length) ci208_161c)])) rfl (Has.loc rfl) (st_is _) (fun hg => sp_loadO (v := (.agg #[(.int .u8 ((withV (V.mk 5 0 ⟨#[]⟩ ([⟨#[97]⟩, ⟨#[98]⟩]) ([V.mk (2) (1) (⟨#[]⟩) ([]) ([]), V.mk (2) (2) (⟨#[]⟩) ([]) ([])])) ⟨#[97]⟩ (V.mk (3) (0) (⟨#[120]⟩) ([]) ([]))).k)), (.int .i64 ((withV (V.mk 5 0 ⟨#[]⟩ ([⟨#[97]⟩, ⟨#[98]⟩]) ([V.mk (2) (1) (⟨#[]⟩) ([]) ([]), V.mk (2) (2) (⟨#[]⟩) ([]) ([])])) ⟨#[97]⟩ (V.mk (3) (0) (⟨#[120]⟩) ([]) ([]))).n)), (.string ((withV (V.mk 5 0 ⟨#[]⟩ ([⟨#[97]⟩, ⟨#[98]⟩]) ([V.mk (2) (1) (⟨#[]⟩) ([]) ([]), V.mk (2) (2) (⟨#[]⟩) ([]) ([])])) ⟨#[97]⟩ (V.mk (3) (0) (⟨#[120]⟩) ([]) ([]))).t)), (.slice cn208_161a (((withV (V.mk 5 0 ⟨#[]⟩ ([⟨#[97]⟩, ⟨#[98]⟩]) ([V.mk (2) (1) (⟨#[]⟩) ([]) ([]), V.mk (2) (2) (⟨#[]⟩) ([]) ([])])) ⟨#[97]⟩ (V.mk (3) (0) (⟨#[120]⟩) ([]) ([]))).ns).length) cn208_161c), (.slice ci208_161a (((withV (V.mk 5 0 ⟨#[]⟩ ([⟨#[97]⟩, ⟨#[98]⟩]) ([V.mk (2) (1) (⟨#[]⟩) ([]) ([]), V.mk (2) (2) (⟨#[]⟩) ([]) ([])])) ⟨#[97]⟩ (V.mk (3) (0) (⟨#[120]⟩) ([]) ([]))).xs).length) ci208_161c)])) (Has.base rfl e13) own_b13_161 trivial agg25 sz25 (Nat.le_of_ble_eq_true rfl) (fun h => by first | rfl | cases h) rfl) ?_
          refine Chain.opE (t := 254) (x := _) (φ := IsD (SF w [b23_181, b21_177, b19_173, b17_169, b15_165, b13_161, b11_157, b9_153, b7_149]) (strsD ([⟨#[97]⟩, ⟨#[98]⟩]))) rfl (Has.loc rfl) (st_d sub_all) (fun hg => sp_bsl (ds := [D.str (⟨#[97]⟩), D.str (⟨#[98]⟩)]) Try.underlying22 sz9 z9 (Nat.le_of_ble_eq_true rfl) (Nat.le_of_ble_eq_true rfl) ⟨rfl, (Has.cst.str (Nat.le_of_ble_eq_true rfl)), ⟨rfl, (Has.cst.str (Nat.le_of_ble_eq_true rfl)), trivial⟩⟩ rfl (by simp [width]) (fr_sf kw (in_cons own_b23_181.lt (in_cons own_b21_177.lt (in_cons own_b19_173.lt (in_cons own_b17_169.lt (in_cons own_b15_165.lt (in_cons own_b13_161.lt (in_cons own_b11_157.lt (in_cons own_b9_153.lt (in_cons own_b7_149.lt in_nil))))))))))) ?_
          refine Chain.opE (t := 254) (x := _) (φ := Is (.agg #[(.int .u8 (3)), (.int .i64 (0)), (.string (⟨#[120]⟩)), (.slice none 0 0), (.slice none 0 0)])) rfl (Has.loc rfl) (st_is _) (fun hg => sp_call1 (φ1 := Is (.string (⟨#[120]⟩))) ent31 Has.cst (fun g u1 W hk hgk h1 => by have h1 : u1 = _ := h1; subst u1; exact text_ok (⟨#[120]⟩) W)) ?_
          refine Chain.opE (t := 254) (x := _) (φ := Is (.agg #[(.int .u8 (2)), (.int .i64 (2)), (.string (⟨#[]⟩)), (.slice none 0 0), (.slice none 0 0)])) rfl (Has.loc rfl) (st_is _) (fun hg => sp_call1 (φ1 := Is (.int .i64 (2))) ent18 Has.cst (fun g u1 W hk hgk h1 => by have h1 : u1 = _ := h1; subst u1; exact num_ok (2) W)) ?_
          refine Chain.opE (t := 254) (x := _) (φ := IsD (SF w [b23_181, b21_177, b19_173, b17_169, b15_165, b13_161, b11_157, b9_153, b7_149]) (valsD ([V.mk (3) (0) (⟨#[120]⟩) ([]) ([]), V.mk (2) (2) (⟨#[]⟩) ([]) ([])]))) rfl (Has.loc rfl) (st_d sub_all) (fun hg => sp_bsl (ds := [V.d (V.mk (3) (0) (⟨#[120]⟩) ([]) ([])), V.d (V.mk (2) (2) (⟨#[]⟩) ([]) ([]))]) Try.underlying23 sz25 z25 (Nat.le_of_ble_eq_true rfl) (Nat.le_of_ble_eq_true rfl) ⟨rfl, (((Has.loc rfl).undE hg).dat (rdV_mk (by decide) (rd_nil _) (rd_nil _) : Rd W182 (SF w [b23_181, b21_177, b19_173, b17_169, b15_165, b13_161, b11_157, b9_153, b7_149]) (V.d (V.mk (3) (0) (⟨#[120]⟩) ([]) ([]))) _) sub_all), ⟨rfl, (((Has.loc rfl).undE hg).dat (rdV_mk (by decide) (rd_nil _) (rd_nil _) : Rd W182 (SF w [b23_181, b21_177, b19_173, b17_169, b15_165, b13_161, b11_157, b9_153, b7_149]) (V.d (V.mk (2) (2) (⟨#[]⟩) ([]) ([]))) _) sub_all), trivial⟩⟩ rfl (by intro e he; simp at he; rcases he with rfl | rfl <;> exact width_V _) (fr_sf kw (in_cons own_b23_181.lt (in_cons own_b21_177.lt (in_cons own_b19_173.lt (in_cons own_b17_169.lt (in_cons own_b15_165.lt (in_cons own_b13_161.lt (in_cons own_b11_157.lt (in_cons own_b9_153.lt (in_cons own_b7_149.lt in_nil))))))))))) ?_
          refine Chain.opE (t := 254) (x := _) (φ := IsD (SF w [b23_181, b21_177, b19_173, b17_169, b15_165, b13_161, b11_157, b9_153, b7_149]) (V.d (V.mk 5 0 ⟨#[]⟩ ([⟨#[97]⟩, ⟨#[98]⟩]) ([V.mk (3) (0) (⟨#[120]⟩) ([]) ([]), V.mk (2) (2) (⟨#[]⟩) ([]) ([])])))) rfl (Has.loc rfl) (st_d sub_all) (fun hg => sp_call2 (φ1 := IsD (SF w [b23_181, b21_177, b19_173, b17_169, b15_165, b13_161, b11_157, b9_153, b7_149]) (strsD ([⟨#[97]⟩, ⟨#[98]⟩]))) (φ2 := IsD (SF w [b23_181, b21_177, b19_173, b17_169, b15_165, b13_161, b11_157, b9_153, b7_149]) (valsD ([V.mk (3) (0) (⟨#[120]⟩) ([]) ([]), V.mk (2) (2) (⟨#[]⟩) ([]) ([])]))) ent30 ((Has.loc rfl).undE hg) ((Has.loc rfl).undE hg) (fun g u1 u2 W hk hgk h1 h2 => (obj_ok ([⟨#[97]⟩, ⟨#[98]⟩]) ([V.mk (3) (0) (⟨#[120]⟩) ([]) ([]), V.mk (2) (2) (⟨#[]⟩) ([]) ([])]) W _ _ _ h1 h2).mono (ret_arF kw (in_cons own_b23_181.lt (in_cons own_b21_177.lt (in_cons own_b19_173.lt (in_cons own_b17_169.lt (in_cons own_b15_165.lt (in_cons own_b13_161.lt (in_cons own_b11_157.lt (in_cons own_b9_153.lt (in_cons own_b7_149.lt in_nil))))))))) hk hgk))) ?_
          refine Chain.opE (t := 254) (x := _) (φ := Is (.bool (V.beq ((withV (V.mk 5 0 ⟨#[]⟩ ([⟨#[97]⟩, ⟨#[98]⟩]) ([V.mk (2) (1) (⟨#[]⟩) ([]) ([]), V.mk (2) (2) (⟨#[]⟩) ([]) ([])])) ⟨#[97]⟩ (V.mk (3) (0) (⟨#[120]⟩) ([]) ([])))) (V.mk 5 0 ⟨#[]⟩ ([⟨#[97]⟩, ⟨#[98]⟩]) ([V.mk (3) (0) (⟨#[120]⟩) ([]) ([]), V.mk (2) (2) (⟨#[]⟩) ([]) ([])]))))) rfl (Has.loc rfl) (st_is _) (fun hg => sp_call2 (φ1 := IsD (SF w [b23_181, b21_177, b19_173, b17_169, b15_165, b13_161, b11_157, b9_153, b7_149]) (V.d ((withV (V.mk 5 0 ⟨#[]⟩ ([⟨#[97]⟩, ⟨#[98]⟩]) ([V.mk (2) (1) (⟨#[]⟩) ([]) ([]), V.mk (2) (2) (⟨#[]⟩) ([]) ([])])) ⟨#[97]⟩ (V.mk (3) (0) (⟨#[120]⟩) ([]) ([])))))) (φ2 := IsD (SF w [b23_181, b21_177, b19_173, b17_169, b15_165, b13_161, b11_157, b9_153, b7_149]) (V.d (V.mk 5 0 ⟨#[]⟩ ([⟨#[97]⟩, ⟨#[98]⟩]) ([V.mk (3) (0) (⟨#[120]⟩) ([]) ([]), V.mk (2) (2) (⟨#[]⟩) ([]) ([])])))) ent22 (((Has.loc rfl).undE hg).dat (rdV_in (x := (withV (V.mk 5 0 ⟨#[]⟩ ([⟨#[97]⟩, ⟨#[98]⟩]) ([V.mk (2) (1) (⟨#[]⟩) ([]) ([]), V.mk (2) (2) (⟨#[]⟩) ([]) ([])])) ⟨#[97]⟩ (V.mk (3) (0) (⟨#[120]⟩) ([]) ([])))) ht_v208_161 D_cn208_161 D_ci208_161 : Rd W182 (SF w [b23_181, b21_177, b19_173, b17_169, b15_165, b13_161, b11_157, b9_153, b7_149]) (V.d ((withV (V.mk 5 0 ⟨#[]⟩ ([⟨#[97]⟩, ⟨#[98]⟩]) ([V.mk (2) (1) (⟨#[]⟩) ([]) ([]), V.mk (2) (2) (⟨#[]⟩) ([]) ([])])) ⟨#[97]⟩ (V.mk (3) (0) (⟨#[120]⟩) ([]) ([]))))) _) sub_all) ((Has.loc rfl).undE hg) (fun g u1 u2 W hk hgk h1 h2 => refSame_all _ ((withV (V.mk 5 0 ⟨#[]⟩ ([⟨#[97]⟩, ⟨#[98]⟩]) ([V.mk (2) (1) (⟨#[]⟩) ([]) ([]), V.mk (2) (2) (⟨#[]⟩) ([]) ([])])) ⟨#[97]⟩ (V.mk (3) (0) (⟨#[120]⟩) ([]) ([])))) (V.mk 5 0 ⟨#[]⟩ ([⟨#[97]⟩, ⟨#[98]⟩]) ([V.mk (3) (0) (⟨#[120]⟩) ([]) ([]), V.mk (2) (2) (⟨#[]⟩) ([]) ([])])) (Nat.le_refl _) (by first | omega | exact Nat.le_of_ble_eq_true (by kernel_rfl)) W _ _ _ h1 h2)) ?_
          refine Chain.op (φ := _) (st_is _) (sp_and (Has.loc rfl) ((Has.loc rfl).weak fun hq => hq)) ?_
          refine Chain.op (φ := _) (st_is _) (sp_move (Has.loc rfl)) ?_
          refine Chain.opE (t := 263) (x := _) (φ := Is (.bool (woutB ((withV (V.mk 5 0 ⟨#[]⟩ ([⟨#[97]⟩, ⟨#[98]⟩]) ([V.mk (2) (1) (⟨#[]⟩) ([]) ([]), V.mk (2) (2) (⟨#[]⟩) ([]) ([])])) ⟨#[97]⟩ (V.mk (3) (0) (⟨#[120]⟩) ([]) ([])))) ⟨#[97]⟩))) rfl (Has.loc rfl) (st_is _) (fun hg => sp_move (Has.base rfl e16)) ?_
          refine Chain.op (φ := _) (st_is _) (sp_and (Has.loc rfl) ((Has.loc rfl).weak fun hq => hq)) ?_
          refine Chain.op (φ := _) (st_is _) (sp_move (Has.loc rfl)) ?_
          refine Chain.opE (t := 266) (x := _) (φ := Is (.agg #[(.int .u8 ((woutV ((withV (V.mk 5 0 ⟨#[]⟩ ([⟨#[97]⟩, ⟨#[98]⟩]) ([V.mk (2) (1) (⟨#[]⟩) ([]) ([]), V.mk (2) (2) (⟨#[]⟩) ([]) ([])])) ⟨#[97]⟩ (V.mk (3) (0) (⟨#[120]⟩) ([]) ([])))) ⟨#[97]⟩).k)), (.int .i64 ((woutV ((withV (V.mk 5 0 ⟨#[]⟩ ([⟨#[97]⟩, ⟨#[98]⟩]) ([V.mk (2) (1) (⟨#[]⟩) ([]) ([]), V.mk (2) (2) (⟨#[]⟩) ([]) ([])])) ⟨#[97]⟩ (V.mk (3) (0) (⟨#[120]⟩) ([]) ([])))) ⟨#[97]⟩).n)), (.string ((woutV ((withV (V.mk 5 0 ⟨#[]⟩ ([⟨#[97]⟩, ⟨#[98]⟩]) ([V.mk (2) (1) (⟨#[]⟩) ([]) ([]), V.mk (2) (2) (⟨#[]⟩) ([]) ([])])) ⟨#[97]⟩ (V.mk (3) (0) (⟨#[120]⟩) ([]) ([])))) ⟨#[97]⟩).t)), (.slice cn213_165a (((woutV ((withV (V.mk 5 0 ⟨#[]⟩ ([⟨#[97]⟩, ⟨#[98]⟩]) ([V.mk (2) (1) (⟨#[]⟩) ([]) ([]), V.mk (2) (2) (⟨#[]⟩) ([]) ([])])) ⟨#[97]⟩ (V.mk (3) (0) (⟨#[120]⟩) ([]) ([])))) ⟨#[97]⟩).ns).length) cn213_165c), (.slice ci213_165a (((woutV ((withV (V.mk 5 0 ⟨#[]⟩ ([⟨#[97]⟩, ⟨#[98]⟩]) ([V.mk (2) (1) (⟨#[]⟩) ([]) ([]), V.mk (2) (2) (⟨#[]⟩) ([]) ([])])) ⟨#[97]⟩ (V.mk (3) (0) (⟨#[120]⟩) ([]) ([])))) ⟨#[97]⟩).xs).length) ci213_165c)])) rfl (Has.loc rfl) (st_is _) (fun hg => sp_loadO (v := (.agg #[(.int .u8 ((woutV ((withV (V.mk 5 0 ⟨#[]⟩ ([⟨#[97]⟩, ⟨#[98]⟩]) ([V.mk (2) (1) (⟨#[]⟩) ([]) ([]), V.mk (2) (2) (⟨#[]⟩) ([]) ([])])) ⟨#[97]⟩ (V.mk (3) (0) (⟨#[120]⟩) ([]) ([])))) ⟨#[97]⟩).k)), (.int .i64 ((woutV ((withV (V.mk 5 0 ⟨#[]⟩ ([⟨#[97]⟩, ⟨#[98]⟩]) ([V.mk (2) (1) (⟨#[]⟩) ([]) ([]), V.mk (2) (2) (⟨#[]⟩) ([]) ([])])) ⟨#[97]⟩ (V.mk (3) (0) (⟨#[120]⟩) ([]) ([])))) ⟨#[97]⟩).n)), (.string ((woutV ((withV (V.mk 5 0 ⟨#[]⟩ ([⟨#[97]⟩, ⟨#[98]⟩]) ([V.mk (2) (1) (⟨#[]⟩) ([]) ([]), V.mk (2) (2) (⟨#[]⟩) ([]) ([])])) ⟨#[97]⟩ (V.mk (3) (0) (⟨#[120]⟩) ([]) ([])))) ⟨#[97]⟩).t)), (.slice cn213_165a (((woutV ((withV (V.mk 5 0 ⟨#[]⟩ ([⟨#[97]⟩, ⟨#[98]⟩]) ([V.mk (2) (1) (⟨#[]⟩) ([]) ([]), V.mk (2) (2) (⟨#[]⟩) ([]) ([])])) ⟨#[97]⟩ (V.mk (3) (0) (⟨#[120]⟩) ([]) ([])))) ⟨#[97]⟩).ns).length) cn213_165c), (.slice ci213_165a (((woutV ((withV (V.mk 5 0 ⟨#[]⟩ ([⟨#[97]⟩, ⟨#[98]⟩]) ([V.mk (2) (1) (⟨#[]⟩) ([]) ([]), V.mk (2) (2) (⟨#[]⟩) ([]) ([])])) ⟨#[97]⟩ (V.mk (3) (0) (⟨#[120]⟩) ([]) ([])))) ⟨#[97]⟩).xs).length) ci213_165c)])) (Has.base rfl e15) own_b15_165 trivial agg25 sz25 (Nat.le_of_ble_eq_true rfl) (fun h => by first | rfl | cases h) rfl) ?_
          refine Chain.opE (t := 266) (x := _) (φ := IsD (SF w [b23_181, b21_177, b19_173, b17_169, b15_165, b13_161, b11_157, b9_153, b7_149]) (strsD ([⟨#[98]⟩]))) rfl (Has.loc rfl) (st_d sub_all) (fun hg => sp_bsl (ds := [D.str (⟨#[98]⟩)]) Try.underlying22 sz9 z9 (Nat.le_of_ble_eq_true rfl) (Nat.le_of_ble_eq_true rfl) ⟨rfl, (Has.cst.str (Nat.le_of_ble_eq_true rfl)), trivial⟩ rfl (by simp [width]) (fr_sf kw (in_cons own_b23_181.lt (in_cons own_b21_177.lt (in_cons own_b19_173.lt (in_cons own_b17_169.lt (in_cons own_b15_165.lt (in_cons own_b13_161.lt (in_cons own_b11_157.lt (in_cons own_b9_153.lt (in_cons own_b7_149.lt in_nil))))))))))) ?_
          refine Chain.opE (t := 266) (x := _) (φ := Is (.agg #[(.int .u8 (2)), (.int .i64 (2)), (.string (⟨#[]⟩)), (.slice none 0 0), (.slice none 0 0)])) rfl (Has.loc rfl) (st_is _) (fun hg => sp_call1 (φ1 := Is (.int .i64 (2))) ent18 Has.cst (fun g u1 W hk hgk h1 => by have h1 : u1 = _ := h1; subst u1; exact num_ok (2) W)) ?_
          refine Chain.opE (t := 266) (x := _) (φ := IsD (SF w [b23_181, b21_177, b19_173, b17_169, b15_165, b13_161, b11_157, b9_153, b7_149]) (valsD ([V.mk (2) (2) (⟨#[]⟩) ([]) ([])]))) rfl (Has.loc rfl) (st_d sub_all) (fun hg => sp_bsl (ds := [V.d (V.mk (2) (2) (⟨#[]⟩) ([]) ([]))]) Try.underlying23 sz25 z25 (Nat.le_of_ble_eq_true rfl) (Nat.le_of_ble_eq_true rfl) ⟨rfl, (((Has.loc rfl).undE hg).dat (rdV_mk (by decide) (rd_nil _) (rd_nil _) : Rd W182 (SF w [b23_181, b21_177, b19_173, b17_169, b15_165, b13_161, b11_157, b9_153, b7_149]) (V.d (V.mk (2) (2) (⟨#[]⟩) ([]) ([]))) _) sub_all), trivial⟩ rfl (by intro e he; simp at he; rcases he with rfl <;> exact width_V _) (fr_sf kw (in_cons own_b23_181.lt (in_cons own_b21_177.lt (in_cons own_b19_173.lt (in_cons own_b17_169.lt (in_cons own_b15_165.lt (in_cons own_b13_161.lt (in_cons own_b11_157.lt (in_cons own_b9_153.lt (in_cons own_b7_149.lt in_nil))))))))))) ?_
          refine Chain.opE (t := 266) (x := _) (φ := IsD (SF w [b23_181, b21_177, b19_173, b17_169, b15_165, b13_161, b11_157, b9_153, b7_149]) (V.d (V.mk 5 0 ⟨#[]⟩ ([⟨#[98]⟩]) ([V.mk (2) (2) (⟨#[]⟩) ([]) ([])])))) rfl (Has.loc rfl) (st_d sub_all) (fun hg => sp_call2 (φ1 := IsD (SF w [b23_181, b21_177, b19_173, b17_169, b15_165, b13_161, b11_157, b9_153, b7_149]) (strsD ([⟨#[98]⟩]))) (φ2 := IsD (SF w [b23_181, b21_177, b19_173, b17_169, b15_165, b13_161, b11_157, b9_153, b7_149]) (valsD ([V.mk (2) (2) (⟨#[]⟩) ([]) ([])]))) ent30 ((Has.loc rfl).undE hg) ((Has.loc rfl).undE hg) (fun g u1 u2 W hk hgk h1 h2 => (obj_ok ([⟨#[98]⟩]) ([V.mk (2) (2) (⟨#[]⟩) ([]) ([])]) W _ _ _ h1 h2).mono (ret_arF kw (in_cons own_b23_181.lt (in_cons own_b21_177.lt (in_cons own_b19_173.lt (in_cons own_b17_169.lt (in_cons own_b15_165.lt (in_cons own_b13_161.lt (in_cons own_b11_157.lt (in_cons own_b9_153.lt (in_cons own_b7_149.lt in_nil))))))))) hk hgk))) ?_
          refine Chain.opE (t := 266) (x := _) (φ := Is (.bool (V.beq ((woutV ((withV (V.mk 5 0 ⟨#[]⟩ ([⟨#[97]⟩, ⟨#[98]⟩]) ([V.mk (2) (1) (⟨#[]⟩) ([]) ([]), V.mk (2) (2) (⟨#[]⟩) ([]) ([])])) ⟨#[97]⟩ (V.mk (3) (0) (⟨#[120]⟩) ([]) ([])))) ⟨#[97]⟩)) (V.mk 5 0 ⟨#[]⟩ ([⟨#[98]⟩]) ([V.mk (2) (2) (⟨#[]⟩) ([]) ([])]))))) rfl (Has.loc rfl) (st_is _) (fun hg => sp_call2 (φ1 := IsD (SF w [b23_181, b21_177, b19_173, b17_169, b15_165, b13_161, b11_157, b9_153, b7_149]) (V.d ((woutV ((withV (V.mk 5 0 ⟨#[]⟩ ([⟨#[97]⟩, ⟨#[98]⟩]) ([V.mk (2) (1) (⟨#[]⟩) ([]) ([]), V.mk (2) (2) (⟨#[]⟩) ([]) ([])])) ⟨#[97]⟩ (V.mk (3) (0) (⟨#[120]⟩) ([]) ([])))) ⟨#[97]⟩)))) (φ2 := IsD (SF w [b23_181, b21_177, b19_173, b17_169, b15_165, b13_161, b11_157, b9_153, b7_149]) (V.d (V.mk 5 0 ⟨#[]⟩ ([⟨#[98]⟩]) ([V.mk (2) (2) (⟨#[]⟩) ([]) ([])])))) ent22 (((Has.loc rfl).undE hg).dat (rdV_in (x := (woutV ((withV (V.mk 5 0 ⟨#[]⟩ ([⟨#[97]⟩, ⟨#[98]⟩]) ([V.mk (2) (1) (⟨#[]⟩) ([]) ([]), V.mk (2) (2) (⟨#[]⟩) ([]) ([])])) ⟨#[97]⟩ (V.mk (3) (0) (⟨#[120]⟩) ([]) ([])))) ⟨#[97]⟩)) ht_v213_165 D_cn213_165 D_ci213_165 : Rd W182 (SF w [b23_181, b21_177, b19_173, b17_169, b15_165, b13_161, b11_157, b9_153, b7_149]) (V.d ((woutV ((withV (V.mk 5 0 ⟨#[]⟩ ([⟨#[97]⟩, ⟨#[98]⟩]) ([V.mk (2) (1) (⟨#[]⟩) ([]) ([]), V.mk (2) (2) (⟨#[]⟩) ([]) ([])])) ⟨#[97]⟩ (V.mk (3) (0) (⟨#[120]⟩) ([]) ([])))) ⟨#[97]⟩))) _) sub_all) ((Has.loc rfl).undE hg) (fun g u1 u2 W hk hgk h1 h2 => refSame_all _ ((woutV ((withV (V.mk 5 0 ⟨#[]⟩ ([⟨#[97]⟩, ⟨#[98]⟩]) ([V.mk (2) (1) (⟨#[]⟩) ([]) ([]), V.mk (2) (2) (⟨#[]⟩) ([]) ([])])) ⟨#[97]⟩ (V.mk (3) (0) (⟨#[120]⟩) ([]) ([])))) ⟨#[97]⟩)) (V.mk 5 0 ⟨#[]⟩ ([⟨#[98]⟩]) ([V.mk (2) (2) (⟨#[]⟩) ([]) ([])])) (Nat.le_refl _) (by first | omega | exact Nat.le_of_ble_eq_true (by kernel_rfl)) W _ _ _ h1 h2)) ?_
          refine Chain.op (φ := _) (st_is _) (sp_and (Has.loc rfl) ((Has.loc rfl).weak fun hq => hq)) ?_
          refine Chain.op (φ := _) (st_is _) (sp_move (Has.loc rfl)) ?_
          refine Chain.opE (t := 274) (x := _) (φ := Is (.bool (woutB ((woutV ((withV (V.mk 5 0 ⟨#[]⟩ ([⟨#[97]⟩, ⟨#[98]⟩]) ([V.mk (2) (1) (⟨#[]⟩) ([]) ([]), V.mk (2) (2) (⟨#[]⟩) ([]) ([])])) ⟨#[97]⟩ (V.mk (3) (0) (⟨#[120]⟩) ([]) ([])))) ⟨#[97]⟩)) ⟨#[97]⟩))) rfl (Has.loc rfl) (st_is _) (fun hg => sp_move (Has.base rfl e18)) ?_
          refine Chain.opE (t := 274) (x := _) (φ := Is (.bool (!(woutB ((woutV ((withV (V.mk 5 0 ⟨#[]⟩ ([⟨#[97]⟩, ⟨#[98]⟩]) ([V.mk (2) (1) (⟨#[]⟩) ([]) ([]), V.mk (2) (2) (⟨#[]⟩) ([]) ([])])) ⟨#[97]⟩ (V.mk (3) (0) (⟨#[120]⟩) ([]) ([])))) ⟨#[97]⟩)) ⟨#[97]⟩)))) rfl (Has.loc rfl) (st_is _) (fun hg => sp_not ((Has.loc rfl).undE hg)) ?_
          refine Chain.op (φ := _) (st_is _) (sp_and (Has.loc rfl) ((Has.loc rfl).weak fun hq => hq)) ?_
          refine Chain.op (φ := _) (st_is _) (sp_move (Has.loc rfl)) ?_
          refine Chain.opE (t := 278) (x := _) (φ := Is (.bool (woutB (V.mk (5) (0) (⟨#[]⟩) ([⟨#[97]⟩]) ([])) ⟨#[97]⟩))) rfl (Has.loc rfl) (st_is _) (fun hg => sp_move (Has.base rfl e20)) ?_
          refine Chain.opE (t := 278) (x := _) (φ := Is (.bool (!(woutB (V.mk (5) (0) (⟨#[]⟩) ([⟨#[97]⟩]) ([])) ⟨#[97]⟩)))) rfl (Has.loc rfl) (st_is _) (fun hg => sp_not ((Has.loc rfl).undE hg)) ?_
          refine Chain.op (φ := _) (st_is _) (sp_and (Has.loc rfl) ((Has.loc rfl).weak fun hq => hq)) ?_
          refine Chain.op (φ := _) (st_is _) (sp_move (Has.loc rfl)) ?_
          refine Chain.opE (t := 282) (x := _) (φ := Is (.pointer (some ⟨b19_173, 3, none⟩))) rfl (Has.loc rfl) (st_is _) (fun hg => sp_fieldO (Has.base rfl e19) Try.underlying25 rfl sz22 rfl) ?_
          refine Chain.opE (t := 282) (x := _) (φ := Is (.slice cn224_173a (((woutV (V.mk (5) (0) (⟨#[]⟩) ([⟨#[97]⟩]) ([])) ⟨#[97]⟩).ns).length) cn224_173c)) rfl (Has.loc rfl) (st_is _) (fun hg => sp_loadO (v := (.slice cn224_173a (((woutV (V.mk (5) (0) (⟨#[]⟩) ([⟨#[97]⟩]) ([])) ⟨#[97]⟩).ns).length) cn224_173c)) ((Has.loc rfl).undE hg) own_b19_173 trivial agg22 sz22 (Nat.le_of_ble_eq_true rfl) (fun h => by first | rfl | cases h) rfl) ?_
          refine Chain.opE (t := 282) (x := _) (φ := Is (.int .i64 (((woutV (V.mk (5) (0) (⟨#[]⟩) ([⟨#[97]⟩]) ([])) ⟨#[97]⟩).ns).length))) rfl (Has.loc rfl) (st_is _) (fun hg => sp_lenSs Try.underlying22 (((Has.loc rfl).undE hg).dat D_cn224_173 sub_all)) ?_
          refine Chain.opE (t := 282) (x := _) (φ := Is (.bool ((((woutV (V.mk (5) (0) (⟨#[]⟩) ([⟨#[97]⟩]) ([])) ⟨#[97]⟩).ns).length : Int) == (1 : Int)))) rfl (Has.loc rfl) (st_is _) (fun hg => sp_eql ((Has.loc rfl).undE hg) Has.cst) ?_
          refine Chain.op (φ := _) (st_is _) (sp_and (Has.loc rfl) ((Has.loc rfl).weak fun hq => hq)) ?_
          refine Chain.op (φ := _) (st_is _) (sp_move (Has.loc rfl)) ?_
          refine Chain.opE (t := 288) (x := _) (φ := Is (.bool (getB (V.mk (5) (0) (⟨#[]⟩) ([⟨#[97]⟩]) ([])) ⟨#[97]⟩))) rfl (Has.loc rfl) (st_is _) (fun hg => sp_move (Has.base rfl e22)) ?_
          refine Chain.opE (t := 288) (x := _) (φ := Is (.bool (!(getB (V.mk (5) (0) (⟨#[]⟩) ([⟨#[97]⟩]) ([])) ⟨#[97]⟩)))) rfl (Has.loc rfl) (st_is _) (fun hg => sp_not ((Has.loc rfl).undE hg)) ?_
          refine Chain.op (φ := _) (st_is _) (sp_and (Has.loc rfl) ((Has.loc rfl).weak fun hq => hq)) ?_
          refine Chain.op (φ := _) (st_is _) (sp_move (Has.loc rfl)) ?_
          refine Chain.opE (t := 292) (x := _) (φ := Is (.bool (getB (V.mk (4) (0) (⟨#[]⟩) ([⟨#[97]⟩]) ([V.mk (2) (1) (⟨#[]⟩) ([]) ([])])) ⟨#[97]⟩))) rfl (Has.loc rfl) (st_is _) (fun hg => sp_move (Has.base rfl e24)) ?_
          refine Chain.opE (t := 292) (x := _) (φ := Is (.bool (!(getB (V.mk (4) (0) (⟨#[]⟩) ([⟨#[97]⟩]) ([V.mk (2) (1) (⟨#[]⟩) ([]) ([])])) ⟨#[97]⟩)))) rfl (Has.loc rfl) (st_is _) (fun hg => sp_not ((Has.loc rfl).undE hg)) ?_
          refine Chain.op (φ := _) (st_is _) (sp_and (Has.loc rfl) ((Has.loc rfl).weak fun hq => hq)) ?_
          refine Chain.op (φ := _) (st_is _) (sp_move (Has.loc rfl)) ?_
          refine Chain.opE (t := 296) (x := _) (φ := IsD (SF w [b23_181, b21_177, b19_173, b17_169, b15_165, b13_161, b11_157, b9_153, b7_149]) (V.d (V.mk 4 0 ⟨#[]⟩ [] ([])))) rfl (Has.loc rfl) (st_d sub_all) (fun hg => sp_call1 (φ1 := IsD (SF w [b23_181, b21_177, b19_173, b17_169, b15_165, b13_161, b11_157, b9_153, b7_149]) (valsD ([]))) ent29 (Has.cst.dat (rd_nil _ : Rd W182 (SF w [b23_181, b21_177, b19_173, b17_169, b15_165, b13_161, b11_157, b9_153, b7_149]) (valsD ([])) _) sub_all) (fun g u1 W hk hgk h1 => (list_ok ([]) W _ _ h1).mono (ret_arF kw (in_cons own_b23_181.lt (in_cons own_b21_177.lt (in_cons own_b19_173.lt (in_cons own_b17_169.lt (in_cons own_b15_165.lt (in_cons own_b13_161.lt (in_cons own_b11_157.lt (in_cons own_b9_153.lt (in_cons own_b7_149.lt in_nil))))))))) hk hgk))) ?_
          refine Chain.opE (t := 296) (x := _) (φ := IsE 25) rfl (Has.loc rfl) st_e (fun hg => sp_bslE Try.underlying23 sz25) ?_
          refine Chain.opE (t := 296) (x := _) (φ := IsE 9) rfl (Has.loc rfl) st_e (fun hg => sp_bslE Try.underlying22 sz9) ?_
          refine Chain.opE (t := 296) (x := _) (φ := IsD (SF w [b23_181, b21_177, b19_173, b17_169, b15_165, b13_161, b11_157, b9_153, b7_149]) (V.d (V.mk (4) (0) (⟨#[]⟩) ([]) ([])))) rfl (Has.loc rfl) (st_d sub_all) (fun hg => sp_buildD (zd := [.int .u8 0, .int .i64 0, .str ⟨#[]⟩, strsD [], valsD []]) (es := [(0, D.int .u8 (4)), (4, valsD ([])), (3, strsD ([]))]) Try.underlying25 z25 (pl25 Try.underlying25) ⟨rfl, Has.cst.int, ⟨rfl, (((Has.loc rfl).undE hg).emp : Has _ _ _ _ _ (IsD (SF w [b23_181, b21_177, b19_173, b17_169, b15_165, b13_161, b11_157, b9_153, b7_149]) (valsD []))), ⟨rfl, (((Has.loc rfl).undE hg).emp : Has _ _ _ _ _ (IsD (SF w [b23_181, b21_177, b19_173, b17_169, b15_165, b13_161, b11_157, b9_153, b7_149]) (strsD []))), trivial⟩⟩⟩ zV rfl (by simp [fits, width, strsD, valsD]) (by rw [V.d_eq]; rfl)) ?_
          refine Chain.opE (t := 296) (x := _) (φ := Is (.bool (V.beq (V.mk 4 0 ⟨#[]⟩ [] ([])) (V.mk (4) (0) (⟨#[]⟩) ([]) ([]))))) rfl (Has.loc rfl) (st_is _) (fun hg => sp_call2 (φ1 := IsD (SF w [b23_181, b21_177, b19_173, b17_169, b15_165, b13_161, b11_157, b9_153, b7_149]) (V.d (V.mk 4 0 ⟨#[]⟩ [] ([])))) (φ2 := IsD (SF w [b23_181, b21_177, b19_173, b17_169, b15_165, b13_161, b11_157, b9_153, b7_149]) (V.d (V.mk (4) (0) (⟨#[]⟩) ([]) ([])))) ent13 ((Has.loc rfl).undE hg) ((Has.loc rfl).undE hg) (fun g u1 u2 W hk hgk h1 h2 => Same_ok (V.mk 4 0 ⟨#[]⟩ [] ([])) (V.mk (4) (0) (⟨#[]⟩) ([]) ([])) (by first | omega | exact Nat.le_of_ble_eq_true (by kernel_rfl)) (by first | omega | exact Nat.le_of_ble_eq_true (by kernel_rfl)) W _ _ _ (fun b o h => h.1.2.1) h1 h2)) ?_
          refine Chain.op (φ := _) (st_is _) (sp_and (Has.loc rfl) ((Has.loc rfl).weak fun hq => hq)) ?_
          refine Chain.op (φ := _) (st_is _) (sp_assign (Has.loc rfl)) ?_
          refine Chain.done ⟨by kernel_rfl, fun a185 g W185 hsz185 hdf185 hk hg henv hrest hpsi => ?_⟩
          obtain ⟨e0, -, -, -, -, -, -, -, -, -, -, -, -, -, -, -, -, -, -, -, -, -, -, -, -, -, -, -, -, -, -, -, -, -, -, -, -, -, -, -, -, -, -, -, -, -, -, -, -, -, -, -, -, -, -, -, -, -, -, -, -, -, -, -, -⟩ := henv
          replace D_cn208_161 := D_cn208_161.ext hk
          replace D_ci208_161 := D_ci208_161.ext hk
          replace D_cn213_165 := D_cn213_165.ext hk
          replace D_ci213_165 := D_ci213_165.ext hk
          replace D_cn224_173 := D_cn224_173.ext hk
          replace D_ci224_173 := D_ci224_173.ext hk
          have e0 : sl a185 0 = (.bool ((((((((((((((withE (V.mk 4 0 ⟨#[]⟩ [] ([])) : Int) == (10 : Int)) && ((withE (V.mk (5) (0) (⟨#[]⟩) ([⟨#[97]⟩]) ([])) : Int) == (3 : Int))) && ((withE (V.mk 5 0 ⟨#[]⟩ ([⟨#[98]⟩, ⟨#[97]⟩]) ([V.mk (2) (1) (⟨#[]⟩) ([]) ([]), V.mk (2) (2) (⟨#[]⟩) ([]) ([])])) : Int) == (3 : Int))) && ((withE (V.mk 5 0 ⟨#[]⟩ ([⟨#[97]⟩, ⟨#[98]⟩]) ([V.mk (2) (1) (⟨#[]⟩) ([]) ([]), V.mk (2) (2) (⟨#[]⟩) ([]) ([])])) : Int) == (0 : Int))) && (V.beq ((withV (V.mk 5 0 ⟨#[]⟩ ([⟨#[97]⟩, ⟨#[98]⟩]) ([V.mk (2) (1) (⟨#[]⟩) ([]) ([]), V.mk (2) (2) (⟨#[]⟩) ([]) ([])])) ⟨#[97]⟩ (V.mk (3) (0) (⟨#[120]⟩) ([]) ([])))) (V.mk 5 0 ⟨#[]⟩ ([⟨#[97]⟩, ⟨#[98]⟩]) ([V.mk (3) (0) (⟨#[120]⟩) ([]) ([]), V.mk (2) (2) (⟨#[]⟩) ([]) ([])])))) && (woutB ((withV (V.mk 5 0 ⟨#[]⟩ ([⟨#[97]⟩, ⟨#[98]⟩]) ([V.mk (2) (1) (⟨#[]⟩) ([]) ([]), V.mk (2) (2) (⟨#[]⟩) ([]) ([])])) ⟨#[97]⟩ (V.mk (3) (0) (⟨#[120]⟩) ([]) ([])))) ⟨#[97]⟩)) && (V.beq ((woutV ((withV (V.mk 5 0 ⟨#[]⟩ ([⟨#[97]⟩, ⟨#[98]⟩]) ([V.mk (2) (1) (⟨#[]⟩) ([]) ([]), V.mk (2) (2) (⟨#[]⟩) ([]) ([])])) ⟨#[97]⟩ (V.mk (3) (0) (⟨#[120]⟩) ([]) ([])))) ⟨#[97]⟩)) (V.mk 5 0 ⟨#[]⟩ ([⟨#[98]⟩]) ([V.mk (2) (2) (⟨#[]⟩) ([]) ([])])))) && (!(woutB ((woutV ((withV (V.mk 5 0 ⟨#[]⟩ ([⟨#[97]⟩, ⟨#[98]⟩]) ([V.mk (2) (1) (⟨#[]⟩) ([]) ([]), V.mk (2) (2) (⟨#[]⟩) ([]) ([])])) ⟨#[97]⟩ (V.mk (3) (0) (⟨#[120]⟩) ([]) ([])))) ⟨#[97]⟩)) ⟨#[97]⟩))) && (!(woutB (V.mk (5) (0) (⟨#[]⟩) ([⟨#[97]⟩]) ([])) ⟨#[97]⟩))) && ((((woutV (V.mk (5) (0) (⟨#[]⟩) ([⟨#[97]⟩]) ([])) ⟨#[97]⟩).ns).length : Int) == (1 : Int))) && (!(getB (V.mk (5) (0) (⟨#[]⟩) ([⟨#[97]⟩]) ([])) ⟨#[97]⟩))) && (!(getB (V.mk (4) (0) (⟨#[]⟩) ([⟨#[97]⟩]) ([V.mk (2) (1) (⟨#[]⟩) ([]) ([])])) ⟨#[97]⟩))) && (V.beq (V.mk 4 0 ⟨#[]⟩ [] ([])) (V.mk (4) (0) (⟨#[]⟩) ([]) ([]))))) := e0
          replace own_b7_149 := own_b7_149.ext hk
          replace own_b9_153 := own_b9_153.ext hk
          replace own_b11_157 := own_b11_157.ext hk
          replace own_b13_161 := own_b13_161.ext hk
          replace own_b15_165 := own_b15_165.ext hk
          replace own_b17_169 := own_b17_169.ext hk
          replace own_b19_173 := own_b19_173.ext hk
          replace own_b21_177 := own_b21_177.ext hk
          replace own_b23_181 := own_b23_181.ext hk
          replace kw := kw.trans (.of_ext hk)
          clear hrest hk hg hpsi
          refine tail_nil (hK184 _ _ ?_)
          refine wp_ret ?_
          refine (show bodyPost Try.prog Try.f8 _ .ret _ _ from ret1 rfl hdf185 e0 ⟨_, rfl, kw, ?_⟩)
          exact congrArg Value.bool (by kernel_rfl)

end Go.Proofs.Ytkhnemiflpjbpaa
