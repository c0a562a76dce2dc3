import Derived.Test.YtipdogbeoflkoaaC8
import Derived.Test.YtipdogbeoflkoaaPureG
namespace Go.Proofs.Ytipdogbeoflkoaa
open Go.Eng
set_option maxRecDepth 100000 in
theorem Get_ok (x : V) (name : ByteArray) (hx : x.wt ≤ 1073741824) (w : World) (S : BSet) (v : Value) (hS : ∀ b o, S b o → Cln o) (hv : Rd w S x.d v) : Calls Try.prog 67 #[v, .string name] w (Ret w fun r W => ∃ r1, r = .tuple #[r1, .bool (getB x name)] ∧ Rd W (Fr w) (getV x name).d r1) := by
  have hwx := wt_eq x
  have hwl := wts_len x.xs
  have hwn := wtN_len x.ns
  obtain ⟨cn0a, cn0c, ci0a, ci0c, ev, ht0, D_cn0, D_ci0⟩ := rdV_out (rd_arg hv)
  subst ev
  refine enter Try.func67 rfl Try.ntmps67 (Nat.le_of_ble_eq_true rfl) fun a0 hsz0 hdf0 harg => ?_
  have e0 : sl a0 0 = (.agg #[(.int .u8 (x.k)), (.int .i64 (x.n)), (.string (x.t)), (.slice cn0a (x.ns.length) cn0c), (.slice ci0a (x.xs.length) ci0c)]) := harg 0 (Nat.le_of_ble_eq_true rfl)
  have e1 : sl a0 1 = (.string (name)) := harg 1 (Nat.le_of_ble_eq_true rfl)
  have kw := Keeps.refl All w
  clear harg
  refine wp_seq_k fun K1 hK1 => ?_
  refine wp_reg All mixed hsz0 hdf0 st_tr trivial ?_
  refine Chain.boxOp (v := (.agg #[(.int .u8 (x.k)), (.int .i64 (x.n)), (.string (x.t)), (.slice cn0a (x.ns.length) cn0c), (.slice ci0a (x.xs.length) ci0c)])) (Has.base rfl e0) ?_
  refine Chain.alloc z33 ?_
  refine Chain.op (φ := Is (.bool (false))) (st_is _) (sp_assign Has.cst) ?_
  refine Chain.done ⟨by kernel_rfl, fun a2 g W2 hsz2 hdf2 hk hg henv hrest hpsi => ?_⟩
  obtain ⟨-, ⟨b4_2, e4, hb4, own_b4_2⟩, ⟨b2_2, e2, hb2, own_b2_2⟩, -⟩ := henv
  have lo_b4_2 : w.heap.size ≤ b4_2 := Nat.le_trans kw.size (hg.lo _ _ hb4)
  have own_b4_2 : Own W2 b4_2 [(.int .u8 (0)), (.int .i64 (0)), (.string (⟨#[]⟩)), (.slice none 0 0), (.slice none 0 0)] 33 := own_b4_2
  have lo_b2_2 : w.heap.size ≤ b2_2 := Nat.le_trans kw.size (hg.lo _ _ hb2)
  have own_b2_2 : Own W2 b2_2 [(.int .u8 (x.k)), (.int .i64 (x.n)), (.string (x.t)), (.slice cn0a (x.ns.length) cn0c), (.slice ci0a (x.xs.length) ci0c)] 33 := own_b2_2
  have ne_b4_2_b2_2 : b4_2 ≠ b2_2 := fun h => by have := hg.inj _ _ _ hb4 (h ▸ hb2); cases this
  replace e1 := (hrest 1 rfl).trans e1
  replace D_cn0 := sa_more D_cn0 hk [b4_2, b2_2] (in_cons (hg.lo _ _ hb4) (in_cons (hg.lo _ _ hb2) in_nil))
  replace D_ci0 := sa_more D_ci0 hk [b4_2, b2_2] (in_cons (hg.lo _ _ hb4) (in_cons (hg.lo _ _ hb2) in_nil))
  replace kw := kw.trans (.of_ext hk)
  clear hrest hk hg hpsi hb4 hb2
  refine tail_nil (hK1 _ _ ?_)
  refine wp_seq_k fun K3 hK3 => ?_
  refine wp_seq_k fun K4 hK4 => ?_
  refine wp_reg All mixed hsz2 hdf2 st_tr trivial ?_
  refine Chain.op (φ := Is (.pointer (some ⟨b2_2, 0, none⟩))) (st_is _) (sp_fieldO (Has.base rfl e2) Try.underlying33 rfl sz5 rfl) ?_
  refine Chain.op (φ := Is (.int .u8 (x.k))) (st_is _) (sp_loadO (v := (.int .u8 (x.k))) (Has.loc rfl) own_b2_2 trivial agg5 sz5 (Nat.le_of_ble_eq_true rfl) (fun h => by first | rfl | cases h) rfl) ?_
  refine Chain.op (φ := Is (.bool ((x.k : Int) != (5 : Int)))) (st_is _) (sp_neq (Has.loc rfl) Has.cst) ?_
  refine Chain.done ⟨by kernel_rfl, fun a5 g W5 hsz5 hdf5 hk hg henv hrest hpsi => ?_⟩
  obtain ⟨e10, -, -, -⟩ := henv
  replace e1 := (hrest 1 rfl).trans e1
  replace e4 := (hrest 4 rfl).trans e4
  replace e2 := (hrest 2 rfl).trans e2
  replace D_cn0 := D_cn0.ext hk
  replace D_ci0 := D_ci0.ext hk
  have e10 : sl a5 10 = (.bool ((x.k : Int) != (5 : Int))) := e10
  replace own_b4_2 := own_b4_2.ext hk
  replace own_b2_2 := own_b2_2.ext hk
  replace kw := kw.trans (.of_ext hk)
  clear hrest hk hg hpsi
  refine tail_nil (hK4 _ _ ?_)
  refine wp_cond_split e10 (fun hc => ?_) (fun hc => ?_)
  · -- T: (x.k : Int) != (5 : Int)
    have hk : x.k ≠ 5 := by simp at hc; omega
    have hb : getB x name = false := by rw [getB, if_pos hk]
    have hv2 : getV x name = V.mk 0 0 ⟨#[]⟩ [] [] := by rw [getV, if_pos hk]; rfl
    refine wp_seq_k fun K6 hK6 => ?_
    refine wp_reg All mixed hsz5 hdf5 st_tr trivial ?_
    refine Chain.op (φ := Is (.agg #[(.int .u8 (0)), (.int .i64 (0)), (.string (⟨#[]⟩)), (.slice none 0 0), (.slice none 0 0)])) (st_is _) (sp_build (vs := []) Try.underlying33 z33 (pl33 Try.underlying33) trivial rfl) ?_
    refine Chain.done ⟨by kernel_rfl, fun a7 g W7 hsz7 hdf7 hk hg henv hrest hpsi => ?_⟩
    obtain ⟨e11, -⟩ := henv
    replace e4 := (hrest 4 rfl).trans e4
    replace D_cn0 := D_cn0.ext hk
    replace D_ci0 := D_ci0.ext hk
    have e11 : sl a7 11 = (.agg #[(.int .u8 (0)), (.int .i64 (0)), (.string (⟨#[]⟩)), (.slice none 0 0), (.slice none 0 0)]) := e11
    replace own_b4_2 := own_b4_2.ext hk
    replace own_b2_2 := own_b2_2.ext hk
    replace kw := kw.trans (.of_ext hk)
    clear hrest hk hg hpsi
    refine tail_store (b := b4_2) (o := 0) (v := (.agg #[(.int .u8 (0)), (.int .i64 (0)), (.string (⟨#[]⟩)), (.slice none 0 0), (.slice none 0 0)])) e4 e11 sz33 rfl own_b4_2 (Nat.le_of_ble_eq_true rfl) (all_cons rfl (all_cons rfl (all_cons rfl (all_cons rfl (all_cons rfl all_nil))))) (fun W8 hs own_b4_2 => ?_)
    have own_b4_2 : Own W8 b4_2 [(.int .u8 (0)), (.int .i64 (0)), (.string (⟨#[]⟩)), (.slice none 0 0), (.slice none 0 0)] 33 := own_b4_2
    replace own_b2_2 := own_store own_b2_2 hs ne_b4_2_b2_2.symm
    replace D_cn0 := sa_store D_cn0 hs (by simp)
    replace D_ci0 := sa_store D_ci0 hs (by simp)
    replace kw := keeps_store kw hs lo_b4_2
    clear hs
    refine tail_assign (v := (.bool (false))) rfl (by rw [hsz7]; exact Nat.le_of_ble_eq_true rfl) (fun a9 hsz9 hdf9 e5 hr => ?_)
    replace hsz9 := hsz9.trans hsz7; replace hdf9 := hdf9.trans hdf7
    replace e4 := (hr 4 (by decide)).trans e4
    replace e11 := (hr 11 (by decide)).trans e11
    clear hr
    refine tail_nil (hK6 _ _ ?_)
    refine wp_ret ?_
    refine (show bodyPost Try.prog Try.f67 _ .ret _ _ from retCT (v := (.agg #[(.int .u8 (0)), (.int .i64 (0)), (.string (⟨#[]⟩)), (.slice none 0 0), (.slice none 0 0)])) rfl hdf9 e4 own_b4_2 agg33 sz33 rfl (fun h => by cases h) rfl e5 ⟨_, rfl, kw, ?_⟩)
    refine ⟨_, by rw [hb], ?_⟩
    rw [hv2]
    exact sf_fr (rdV_mk (Nat.le_of_ble_eq_true rfl) (rd_nil _) (rd_nil _) : Rd W8 (SF w [b4_2, b2_2]) (V.d (V.mk (0) (0) (⟨#[]⟩) ([]) ([]))) _)
  · -- E: (x.k : Int) != (5 : Int)
    have hk : ¬ x.k ≠ 5 := by simp at hc; omega
    refine wp_skip (hK3 _ _ ?_)
    refine wp_seq_k fun K10 hK10 => ?_
    refine wp_reg All mixed hsz5 hdf5 st_tr trivial ?_
    refine Chain.op (φ := Is (.pointer (some ⟨b2_2, 3, none⟩))) (st_is _) (sp_fieldO (Has.base rfl e2) Try.underlying33 rfl sz23 rfl) ?_
    refine Chain.op (φ := Is (.slice cn0a (x.ns.length) cn0c)) (st_is _) (sp_loadO (v := (.slice cn0a (x.ns.length) cn0c)) (Has.loc rfl) own_b2_2 trivial agg23 sz23 (Nat.le_of_ble_eq_true rfl) (fun h => by first | rfl | cases h) rfl) ?_
    refine Chain.op (φ := Is (.string (name))) (st_is _) (sp_move (Has.base rfl e1)) ?_
    refine Chain.op (φ := Is (.tuple #[(.int .i64 (findI x.ns name)), (.bool (findB x.ns name))])) (st_is _) (sp_call2 (φ1 := IsD (SA w S [b4_2, b2_2]) (strsD (x.ns))) (φ2 := Is (.string (name))) ent74 ((Has.loc rfl).dat D_cn0 sub_all) (Has.loc rfl) (fun g u1 u2 W hk hgk h1 h2 => by have h2 : u2 = _ := h2; subst u2; exact find_ok (x.ns) (name) (by omega) W _ _ h1)) ?_
    refine Chain.op (φ := Is (.tuple #[(.int .i64 (findI x.ns name)), (.bool (findB x.ns name))])) (st_is _) (sp_move (Has.loc rfl)) ?_
    refine Chain.op (φ := Is (.int .i64 (findI x.ns name))) (st_is _) (sp_extT (Has.loc rfl) rfl) ?_
    refine Chain.op (φ := Is (.bool (findB x.ns name))) (st_is _) (sp_extT (Has.loc rfl) rfl) ?_
    refine Chain.op (φ := Is (.int .i64 (findI x.ns name))) (st_is _) (sp_assign (Has.loc rfl)) ?_
    refine Chain.op (φ := Is (.bool (findB x.ns name))) (st_is _) (sp_assign (Has.loc rfl)) ?_
    refine Chain.done ⟨by kernel_rfl, fun a11 g W11 hsz11 hdf11 hk hg henv hrest hpsi => ?_⟩
    obtain ⟨e7, e6, -, -, -, -, -, -, -, -⟩ := henv
    replace e4 := (hrest 4 rfl).trans e4
    replace e2 := (hrest 2 rfl).trans e2
    replace D_cn0 := D_cn0.ext hk
    replace D_ci0 := D_ci0.ext hk
    have e6 : sl a11 6 = (.int .i64 (findI x.ns name)) := e6
    have e7 : sl a11 7 = (.bool (findB x.ns name)) := e7
    replace own_b4_2 := own_b4_2.ext hk
    replace own_b2_2 := own_b2_2.ext hk
    replace kw := kw.trans (.of_ext hk)
    clear hrest hk hg hpsi
    refine tail_nil (hK10 _ _ ?_)
    refine wp_seq_k fun K12 hK12 => ?_
    refine wp_seq_k fun K13 hK13 => ?_
    refine wp_reg All mixed hsz11 hdf11 st_tr trivial ?_
    refine Chain.op (φ := Is (.bool (findB x.ns name))) (st_is _) (sp_move (Has.base rfl e7)) ?_
    refine Chain.op (φ := Is (.bool (!(findB x.ns name)))) (st_is _) (sp_not (Has.loc rfl)) ?_
    refine Chain.op (φ := Is (.bool (!(findB x.ns name)))) (st_is _) (sp_move (Has.loc rfl)) ?_
    refine Chain.opE (t := 21) (x := !(findB x.ns name)) (φ := Is (.int .i64 (findI x.ns name))) rfl (Has.loc rfl) (st_is _) (fun hg => sp_move (Has.base rfl e6)) ?_
    refine Chain.opE (t := 21) (x := !(findB x.ns name)) (φ := Is (.pointer (some ⟨b2_2, 4, none⟩))) rfl (Has.loc rfl) (st_is _) (fun hg => sp_fieldO (Has.base rfl e2) Try.underlying33 rfl sz31 rfl) ?_
    refine Chain.opE (t := 21) (x := !(findB x.ns name)) (φ := Is (.slice ci0a (x.xs.length) ci0c)) rfl (Has.loc rfl) (st_is _) (fun hg => sp_loadO (v := (.slice ci0a (x.xs.length) ci0c)) ((Has.loc rfl).undE hg) own_b2_2 trivial agg31 sz31 (Nat.le_of_ble_eq_true rfl) (fun h => by first | rfl | cases h) rfl) ?_
    refine Chain.opE (t := 21) (x := !(findB x.ns name)) (φ := Is (.int .i64 (x.xs.length))) rfl (Has.loc rfl) (st_is _) (fun hg => sp_lenVs Try.underlying31 (((Has.loc rfl).undE hg).dat D_ci0 sub_all)) ?_
    refine Chain.opE (t := 21) (x := !(findB x.ns name)) (φ := Is (.bool (decide ((x.xs.length : Int) ≤ (findI x.ns name : Int))))) rfl (Has.loc rfl) (st_is _) (fun hg => sp_geq ((Has.loc rfl).undE hg) ((Has.loc rfl).undE hg)) ?_
    refine Chain.op (φ := Is (.bool ((!(findB x.ns name)) || (decide ((x.xs.length : Int) ≤ (findI x.ns name : Int)))))) (st_is _) (sp_or (Has.loc rfl) ((Has.loc rfl).weak fun hq => hq)) ?_
    refine Chain.done ⟨by kernel_rfl, fun a14 g W14 hsz14 hdf14 hk hg henv hrest hpsi => ?_⟩
    obtain ⟨e27, -, -, -, -, -, -, -, -, -⟩ := henv
    replace e4 := (hrest 4 rfl).trans e4
    replace e2 := (hrest 2 rfl).trans e2
    replace e6 := (hrest 6 rfl).trans e6
    replace D_cn0 := D_cn0.ext hk
    replace D_ci0 := D_ci0.ext hk
    have e27 : sl a14 27 = (.bool ((!(findB x.ns name)) || (decide ((x.xs.length : Int) ≤ (findI x.ns name : Int))))) := e27
    replace own_b4_2 := own_b4_2.ext hk
    replace own_b2_2 := own_b2_2.ext hk
    replace kw := kw.trans (.of_ext hk)
    clear hrest hk hg hpsi
    refine tail_nil (hK13 _ _ ?_)
    refine wp_cond_split e27 (fun hc => ?_) (fun hc => ?_)
    · -- T: (!(findB x.ns name)) || (decide ((x.xs.length : Int) ≤ (findI x.ns name : Int)))
      have hn : findB x.ns name = false ∨ (x.xs.length : Int) ≤ findI x.ns name := by rcases (Bool.or_eq_true _ _).mp hc with h | h; exact .inl (by simpa using h); exact .inr (of_decide_eq_true h)
      have hb : getB x name = false := by rw [getB, if_neg hk, if_pos hn]
      have hv2 : getV x name = V.mk 0 0 ⟨#[]⟩ [] [] := by rw [getV, if_neg hk, if_pos hn]; rfl
      refine wp_seq_k fun K15 hK15 => ?_
      refine wp_reg All mixed hsz14 hdf14 st_tr trivial ?_
      refine Chain.op (φ := Is (.agg #[(.int .u8 (0)), (.int .i64 (0)), (.string (⟨#[]⟩)), (.slice none 0 0), (.slice none 0 0)])) (st_is _) (sp_build (vs := []) Try.underlying33 z33 (pl33 Try.underlying33) trivial rfl) ?_
      refine Chain.done ⟨by kernel_rfl, fun a16 g W16 hsz16 hdf16 hk hg henv hrest hpsi => ?_⟩
      obtain ⟨e28, -⟩ := henv
      replace e4 := (hrest 4 rfl).trans e4
      replace D_cn0 := D_cn0.ext hk
      replace D_ci0 := D_ci0.ext hk
      have e28 : sl a16 28 = (.agg #[(.int .u8 (0)), (.int .i64 (0)), (.string (⟨#[]⟩)), (.slice none 0 0), (.slice none 0 0)]) := e28
      replace own_b4_2 := own_b4_2.ext hk
      replace own_b2_2 := own_b2_2.ext hk
      replace kw := kw.trans (.of_ext hk)
      clear hrest hk hg hpsi
      refine tail_store (b := b4_2) (o := 0) (v := (.agg #[(.int .u8 (0)), (.int .i64 (0)), (.string (⟨#[]⟩)), (.slice none 0 0), (.slice none 0 0)])) e4 e28 sz33 rfl own_b4_2 (Nat.le_of_ble_eq_true rfl) (all_cons rfl (all_cons rfl (all_cons rfl (all_cons rfl (all_cons rfl all_nil))))) (fun W17 hs own_b4_2 => ?_)
      have own_b4_2 : Own W17 b4_2 [(.int .u8 (0)), (.int .i64 (0)), (.string (⟨#[]⟩)), (.slice none 0 0), (.slice none 0 0)] 33 := own_b4_2
      replace own_b2_2 := own_store own_b2_2 hs ne_b4_2_b2_2.symm
      replace D_cn0 := sa_store D_cn0 hs (by simp)
      replace D_ci0 := sa_store D_ci0 hs (by simp)
      replace kw := keeps_store kw hs lo_b4_2
      clear hs
      refine tail_assign (v := (.bool (false))) rfl (by rw [hsz16]; exact Nat.le_of_ble_eq_true rfl) (fun a18 hsz18 hdf18 e5 hr => ?_)
      replace hsz18 := hsz18.trans hsz16; replace hdf18 := hdf18.trans hdf16
      replace e4 := (hr 4 (by decide)).trans e4
      replace e28 := (hr 28 (by decide)).trans e28
      clear hr
      refine tail_nil (hK15 _ _ ?_)
      refine wp_ret ?_
      refine (show bodyPost Try.prog Try.f67 _ .ret _ _ from retCT (v := (.agg #[(.int .u8 (0)), (.int .i64 (0)), (.string (⟨#[]⟩)), (.slice none 0 0), (.slice none 0 0)])) rfl hdf18 e4 own_b4_2 agg33 sz33 rfl (fun h => by cases h) rfl e5 ⟨_, rfl, kw, ?_⟩)
      refine ⟨_, by rw [hb], ?_⟩
      rw [hv2]
      exact sf_fr (rdV_mk (Nat.le_of_ble_eq_true rfl) (rd_nil _) (rd_nil _) : Rd W17 (SF w [b4_2, b2_2]) (V.d (V.mk (0) (0) (⟨#[]⟩) ([]) ([]))) _)
    · -- E: (!(findB x.ns name)) || (decide ((x.xs.length : Int) ≤ (findI x.ns name : Int)))
      have hfb : findB x.ns name = true := by simpa using (Bool.or_eq_false_iff.1 hc).1
      have hfi := of_decide_eq_false (Bool.or_eq_false_iff.1 hc).2
      have hn : ¬ (findB x.ns name = false ∨ (x.xs.length : Int) ≤ findI x.ns name) := by rintro (h | h); rw [hfb] at h; cases h; exact hfi h
      obtain ⟨at_, hat, hatn⟩ := find_at hfb
      have hatx : at_ < x.xs.length := by omega
      have hb : getB x name = true := by rw [getB, if_neg hk, if_neg hn]
      have hv2 := getV_in hk hn hat hatx
      have hwm := wts_mem hatx
      refine wp_skip (hK12 _ _ ?_)
      refine wp_seq_k fun K19 hK19 => ?_
      refine wp_reg All mixed hsz14 hdf14 st_tr trivial ?_
      refine Chain.op (φ := Is (.pointer (some ⟨b2_2, 4, none⟩))) (st_is _) (sp_fieldO (Has.base rfl e2) Try.underlying33 rfl sz31 rfl) ?_
      refine Chain.op (φ := Is (.slice ci0a (x.xs.length) ci0c)) (st_is _) (sp_loadO (v := (.slice ci0a (x.xs.length) ci0c)) (Has.loc rfl) own_b2_2 trivial agg31 sz31 (Nat.le_of_ble_eq_true rfl) (fun h => by first | rfl | cases h) rfl) ?_
      refine Chain.op (φ := Is (.int .i64 (findI x.ns name))) (st_is _) (sp_move (Has.base rfl e6)) ?_
      refine Chain.op (φ := IsR (SA w S [b4_2, b2_2]) (V.d (x.xs[at_]'hatx))) (st_r sub_all) (sp_indexV (i := at_) ((Has.loc rfl).dat D_ci0 sub_all) (Has.loc rfl) Try.underlying31 sz33 hat hatx) ?_
      refine Chain.op (φ := IsD (SA w S [b4_2, b2_2]) (V.d (x.xs[at_]'hatx))) (st_d sub_all) (sp_loadV (Has.loc rfl) agg33 sz33) ?_
      refine Chain.op (φ := IsD (Fr W14) (V.d (x.xs[at_]'hatx))) (st_d sub_all) (sp_call1 (φ1 := IsD (SA w S [b4_2, b2_2]) (V.d (x.xs[at_]'hatx))) ent36 (Has.loc rfl) (fun g u1 W hk hgk h1 => (Copy_ok (x.xs[at_]'hatx) (by first | omega | exact Nat.le_of_ble_eq_true (by kernel_rfl)) W _ _ (fun b o h => sa_cln hS b o h.1) h1).mono (ret_fr hk hgk))) ?_
      refine Chain.done ⟨by kernel_rfl, fun a20 g W20 hsz20 hdf20 hk hg henv hrest hpsi => ?_⟩
      obtain ⟨e34, -, -, -, -, -, -⟩ := henv
      replace e4 := (hrest 4 rfl).trans e4
      replace D_cn0 := D_cn0.ext hk
      replace D_ci0 := D_ci0.ext hk
      obtain ⟨v34_20, ev⟩ : ∃ v, sl a20 34 = v := ⟨_, rfl⟩
      rw [ev] at e34
      have D_v34_20 : Rd W20 (SF w [b4_2, b2_2]) (V.d (x.xs[at_]'hatx)) v34_20 := fr_end (M := [b4_2, b2_2]) e34 kw [] in_nil (in_cons own_b4_2.lt (in_cons own_b2_2.lt in_nil))
      replace e34 := ev; clear ev
      obtain ⟨cn34_20a, cn34_20c, ci34_20a, ci34_20c, ev, ht_v34_20, D_cn34_20, D_ci34_20⟩ := rdV_out D_v34_20
      subst ev; clear D_v34_20
      replace own_b4_2 := own_b4_2.ext hk
      replace own_b2_2 := own_b2_2.ext hk
      replace kw := kw.trans (.of_ext hk)
      clear hrest hk hg hpsi
      refine tail_store (b := b4_2) (o := 0) (v := (.agg #[(.int .u8 ((x.xs[at_]'hatx).k)), (.int .i64 ((x.xs[at_]'hatx).n)), (.string ((x.xs[at_]'hatx).t)), (.slice cn34_20a (((x.xs[at_]'hatx).ns).length) cn34_20c), (.slice ci34_20a (((x.xs[at_]'hatx).xs).length) ci34_20c)])) e4 e34 sz33 rfl own_b4_2 (Nat.le_of_ble_eq_true rfl) (all_cons rfl (all_cons rfl (all_cons rfl (all_cons rfl (all_cons rfl all_nil))))) (fun W21 hs own_b4_2 => ?_)
      have own_b4_2 : Own W21 b4_2 [(.int .u8 ((x.xs[at_]'hatx).k)), (.int .i64 ((x.xs[at_]'hatx).n)), (.string ((x.xs[at_]'hatx).t)), (.slice cn34_20a (((x.xs[at_]'hatx).ns).length) cn34_20c), (.slice ci34_20a (((x.xs[at_]'hatx).xs).length) ci34_20c)] 33 := own_b4_2
      replace own_b2_2 := own_store own_b2_2 hs ne_b4_2_b2_2.symm
      replace D_cn0 := sa_store D_cn0 hs (by simp)
      replace D_ci0 := sa_store D_ci0 hs (by simp)
      replace D_cn34_20 := sf_store D_cn34_20 hs (by simp)
      replace D_ci34_20 := sf_store D_ci34_20 hs (by simp)
      replace kw := keeps_store kw hs lo_b4_2
      clear hs
      refine tail_assign (v := (.bool (true))) rfl (by rw [hsz20]; exact Nat.le_of_ble_eq_true rfl) (fun a22 hsz22 hdf22 e5 hr => ?_)
      replace hsz22 := hsz22.trans hsz20; replace hdf22 := hdf22.trans hdf20
      replace e4 := (hr 4 (by decide)).trans e4
      replace e34 := (hr 34 (by decide)).trans e34
      clear hr
      refine tail_nil (hK19 _ _ ?_)
      refine wp_ret ?_
      refine (show bodyPost Try.prog Try.f67 _ .ret _ _ from retCT (v := (.agg #[(.int .u8 ((x.xs[at_]'hatx).k)), (.int .i64 ((x.xs[at_]'hatx).n)), (.string ((x.xs[at_]'hatx).t)), (.slice cn34_20a (((x.xs[at_]'hatx).ns).length) cn34_20c), (.slice ci34_20a (((x.xs[at_]'hatx).xs).length) ci34_20c)])) rfl hdf22 e4 own_b4_2 agg33 sz33 rfl (fun h => by cases h) rfl e5 ⟨_, rfl, kw, ?_⟩)
      refine ⟨_, by rw [hb], ?_⟩
      rw [hv2]
      exact sf_fr (rdV_in (x := (x.xs[at_]'hatx)) ht_v34_20 D_cn34_20 D_ci34_20 : Rd W21 (SF w [b4_2, b2_2]) (V.d ((x.xs[at_]'hatx))) _)

end Go.Proofs.Ytipdogbeoflkoaa
