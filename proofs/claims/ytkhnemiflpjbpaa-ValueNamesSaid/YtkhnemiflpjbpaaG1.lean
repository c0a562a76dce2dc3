import Derived.Test.YtkhnemiflpjbpaaC8
import Derived.Test.YtkhnemiflpjbpaaPureG
namespace Go.Proofs.Ytkhnemiflpjbpaa
open Go.Eng
theorem Get_ok (x : V) (name : ByteArray) (hx : x.wt ≤ 1073741824) (w : World) (S : BSet) (v : Value) (hS : ∀ b o, S b o → Cln o) (hv : Rd w S x.d v) : Calls Try.prog 19 #[v, .string name] w (Ret w fun r W => ∃ r1, r = .tuple #[r1, .bool (getB x name)] ∧ Rd W (Fr w) (getV x name).d r1) := by
  have hwx := wt_eq x
  have hwl := wts_len x.xs
  have hwn := wtN_len x.ns
  obtain ⟨cn0a, cn0c, ci0a, ci0c, ev, ht0, D_cn0, D_ci0⟩ := rdV_out (rd_arg hv)
  subst ev
  refine enter Try.func19 rfl Try.ntmps19 (Nat.le_of_ble_eq_true rfl) fun a0 hsz0 hdf0 harg => ?_
  have e0 : sl a0 0 = (.agg #[(.int .u8 (x.k)), (.int .i64 (x.n)), (.string (x.t)), (.slice cn0a (x.ns.length) cn0c), (.slice ci0a (x.xs.length) ci0c)]) := harg 0 (Nat.le_of_ble_eq_true rfl)
  have e1 : sl a0 1 = (.string (name)) := harg 1 (Nat.le_of_ble_eq_true rfl)
  have kw := Keeps.refl All w
  clear harg
  refine wp_seq_k fun K1 hK1 => ?_
  refine wp_reg All mixed hsz0 hdf0 st_tr trivial ?_
  refine Chain.boxOp (v := (.agg #[(.int .u8 (x.k)), (.int .i64 (x.n)), (.string (x.t)), (.slice cn0a (x.ns.length) cn0c), (.slice ci0a (x.xs.length) ci0c)])) (Has.base rfl e0) ?_
  refine Chain.alloc z25 ?_
  refine Chain.op (φ := Is (.bool (false))) (st_is _) (sp_assign Has.cst) ?_
  refine Chain.done ⟨by kernel_rfl, fun a2 g W2 hsz2 hdf2 hk hg henv hrest hpsi => ?_⟩
  obtain ⟨-, ⟨b4_2, e4, hb4, own_b4_2⟩, ⟨b2_2, e2, hb2, own_b2_2⟩, -⟩ := henv
  have lo_b4_2 : w.heap.size ≤ b4_2 := Nat.le_trans kw.size (hg.lo _ _ hb4)
  have own_b4_2 : Own W2 b4_2 [(.int .u8 (0)), (.int .i64 (0)), (.string (⟨#[]⟩)), (.slice none 0 0), (.slice none 0 0)] 25 := own_b4_2
  have lo_b2_2 : w.heap.size ≤ b2_2 := Nat.le_trans kw.size (hg.lo _ _ hb2)
  have own_b2_2 : Own W2 b2_2 [(.int .u8 (x.k)), (.int .i64 (x.n)), (.string (x.t)), (.slice cn0a (x.ns.length) cn0c), (.slice ci0a (x.xs.length) ci0c)] 25 := own_b2_2
  have ne_b4_2_b2_2 : b4_2 ≠ b2_2 := fun h => by have := hg.inj _ _ _ hb4 (h ▸ hb2); cases this
  replace e1 := (hrest 1 rfl).trans e1
  replace D_cn0 := sa_more D_cn0 hk [b4_2, b2_2] (in_cons (hg.lo _ _ hb4) (in_cons (hg.lo _ _ hb2) in_nil))
  replace D_ci0 := sa_more D_ci0 hk [b4_2, b2_2] (in_cons (hg.lo _ _ hb4) (in_cons (hg.lo _ _ hb2) in_nil))
  replace kw := kw.trans (.of_ext hk)
  clear hrest hk hg hpsi hb4 hb2
  refine tail_nil (hK1 _ _ ?_)
  refine wp_seq_k fun K3 hK3 => ?_
  refine wp_seq_k fun K4 hK4 => ?_
  refine wp_reg All mixed hsz2 hdf2 st_tr trivial ?_
  refine Chain.op (φ := Is (.pointer (some ⟨b2_2, 0, none⟩))) (st_is _) (sp_fieldO (Has.base rfl e2) Try.underlying25 rfl sz5 rfl) ?_
  refine Chain.op (φ := Is (.int .u8 (x.k))) (st_is _) (sp_loadO (v := (.int .u8 (x.k))) (Has.loc rfl) own_b2_2 trivial agg5 sz5 (Nat.le_of_ble_eq_true rfl) (fun h => by first | rfl | cases h) rfl) ?_
  refine Chain.op (φ := Is (.bool ((x.k : Int) != (5 : Int)))) (st_is _) (sp_neq (Has.loc rfl) Has.cst) ?_
  refine Chain.done ⟨by kernel_rfl, fun a5 g W5 hsz5 hdf5 hk hg henv hrest hpsi => ?_⟩
  obtain ⟨e10, -, -, -⟩ := henv
  replace e1 := (hrest 1 rfl).trans e1
  replace e4 := (hrest 4 rfl).trans e4
  replace e2 := (hrest 2 rfl).trans e2
  replace D_cn0 := D_cn0.ext hk
  replace D_ci0 := D_ci0.ext hk
  have e10 : sl a5 10 = (.bool ((x.k : Int) != (5 : Int))) := e10
  replace own_b4_2 := own_b4_2.ext hk
  replace own_b2_2 := own_b2_2.ext hk
  replace kw := kw.trans (.of_ext hk)
  clear hrest hk hg hpsi
  refine tail_nil (hK4 _ _ ?_)
  refine wp_cond_split e10 (fun hc => ?_) (fun hc => ?_)
  · -- T: (x.k : Int) != (5 : Int)
    have hk : x.k ≠ 5 := by simp at hc; omega
    have hb : getB x name = false := by rw [getB, if_pos hk]
    have hv2 : getV x name = V.mk 0 0 ⟨#[]⟩ [] [] := by rw [getV, if_pos hk]; rfl
    refine wp_seq_k fun K6 hK6 => ?_
    refine wp_reg All mixed hsz5 hdf5 st_tr trivial ?_
    refine Chain.op (φ := Is (.agg #[(.int .u8 (0)), (.int .i64 (0)), (.string (⟨#[]⟩)), (.slice none 0 0), (.slice none 0 0)])) (st_is _) (sp_build (vs := []) Try.underlying25 z25 (pl25 Try.underlying25) trivial rfl) ?_
    refine Chain.done ⟨by kernel_rfl, fun a7 g W7 hsz7 hdf7 hk hg henv hrest hpsi => ?_⟩
    obtain ⟨e11, -⟩ := henv
    replace e4 := (hrest 4 rfl).trans e4
    replace D_cn0 := D_cn0.ext hk
    replace D_ci0 := D_ci0.ext hk
    have e11 : sl a7 11 = (.agg #[(.int .u8 (0)), (.int .i64 (0)), (.string (⟨#[]⟩)), (.slice none 0 0), (.slice none 0 0)]) := e11
    replace own_b4_2 := own_b4_2.ext hk
    replace own_b2_2 := own_b2_2.ext hk
    replace kw := kw.trans (.of_ext hk)
    clear hrest hk hg hpsi
    refine tail_store (b := b4_2) (o := 0) (v := (.agg #[(.int .u8 (0)), (.int .i64 (0)), (.string (⟨#[]⟩)), (.slice none 0 0), (.slice none 0 0)])) e4 e11 sz25 rfl own_b4_2 (Nat.le_of_ble_eq_true rfl) (all_cons rfl (all_cons rfl (all_cons rfl (all_cons rfl (all_cons rfl all_nil))))) (fun W8 hs own_b4_2 => ?_)
    have own_b4_2 : Own W8 b4_2 [(.int .u8 (0)), (.int .i64 (0)), (.string (⟨#[]⟩)), (.slice none 0 0), (.slice none 0 0)] 25 := own_b4_2
    replace own_b2_2 := own_store own_b2_2 hs ne_b4_2_b2_2.symm
    replace D_cn0 := sa_store D_cn0 hs (by simp)
    replace D_ci0 := sa_store D_ci0 hs (by simp)
    replace kw := keeps_store kw hs lo_b4_2
    clear hs
    refine tail_assign (v := (.bool (false))) rfl (by rw [hsz7]; exact Nat.le_of_ble_eq_true rfl) (fun a9 hsz9 hdf9 e5 hr => ?_)
    replace hsz9 := hsz9.trans hsz7; replace hdf9 := hdf9.trans hdf7
    replace e4 := (hr 4 (by decide)).trans e4
    replace e11 := (hr 11 (by decide)).trans e11
    clear hr
    refine tail_nil (hK6 _ _ ?_)
    refine wp_ret ?_
    refine (show bodyPost Try.prog Try.f19 _ .ret _ _ from retCT (v := (.agg #[(.int .u8 (0)), (.int .i64 (0)), (.string (⟨#[]⟩)), (.slice none 0 0), (.slice none 0 0)])) rfl hdf9 e4 own_b4_2 agg25 sz25 rfl (fun h => by cases h) rfl e5 ⟨_, rfl, kw, ?_⟩)
    refine ⟨_, by rw [hb], ?_⟩
    rw [hv2]
    exact sf_fr (rdV_mk (Nat.le_of_ble_eq_true rfl) (rd_nil _) (rd_nil _) : Rd W8 (SF w [b4_2, b2_2]) (V.d (V.mk (0) (0) (⟨#[]⟩) ([]) ([]))) _)
  · -- E: (x.k : Int) != (5 : Int)
    have hk : ¬ x.k ≠ 5 := by simp at hc; omega
    refine wp_skip (hK3 _ _ ?_)
    refine wp_seq_k fun K10 hK10 => ?_
    refine wp_reg All mixed hsz5 hdf5 st_tr trivial ?_
    refine Chain.op (φ := Is (.pointer (some ⟨b2_2, 3, none⟩))) (st_is _) (sp_fieldO (Has.base rfl e2) Try.underlying25 rfl sz22 rfl) ?_
    refine Chain.op (φ := Is (.slice cn0a (x.ns.length) cn0c)) (st_is _) (sp_loadO (v := (.slice cn0a (x.ns.length) cn0c)) (Has.loc rfl) own_b2_2 trivial agg22 sz22 (Nat.le_of_ble_eq_true rfl) (fun h => by first | rfl | cases h) rfl) ?_
    refine Chain.op (φ := Is (.string (name))) (st_is _) (sp_move (Has.base rfl e1)) ?_
    refine Chain.op (φ := Is (.tuple #[(.int .i64 (findI x.ns name)), (.bool (findB x.ns name))])) (st_is _) (sp_call2 (φ1 := IsD (SA w S [b4_2, b2_2]) (strsD (x.ns))) (φ2 := Is (.string (name))) ent42 ((Has.loc rfl).dat D_cn0 sub_all) (Has.loc rfl) (fun g u1 u2 W hk hgk h1 h2 => by have h2 : u2 = _ := h2; subst u2; exact find_ok (x.ns) (name) (by omega) W _ _ h1)) ?_
    refine Chain.op (φ := Is (.tuple #[(.int .i64 (findI x.ns name)), (.bool (findB x.ns name))])) (st_is _) (sp_move (Has.loc rfl)) ?_
    refine Chain.op (φ := Is (.int .i64 (findI x.ns name))) (st_is _) (sp_extT (Has.loc rfl) rfl) ?_
    refine Chain.op (φ := Is (.bool (findB x.ns name))) (st_is _) (sp_extT (Has.loc rfl) rfl) ?_
    refine Chain.op (φ := Is (.int .i64 (findI x.ns name))) (st_is _) (sp_assign (Has.loc rfl)) ?_
    refine Chain.op (φ := Is (.bool (findB x.ns name))) (st_is _) (sp_assign (Has.loc rfl)) ?_
    refine Chain.done ⟨by kernel_rfl, fun a11 g W11 hsz11 hdf11 hk hg henv hrest hpsi => ?_⟩
    obtain ⟨e7, e6, -, -, -, -, -, -, -, -⟩ := henv
    replace e4 := (hrest 4 rfl).trans e4
    replace e2 := (hrest 2 rfl).trans e2
    replace D_cn0 := D_cn0.ext hk
    replace D_ci0 := D_ci0.ext hk
    have e6 : sl a11 6 = (.int .i64 (findI x.ns name)) := e6
    have e7 : sl a11 7 = (.bool (findB x.ns name)) := e7
    replace own_b4_2 := own_b4_2.ext hk
    replace own_b2_2 := own_b2_2.ext hk
    replace kw := kw.trans (.of_ext hk)
    clear hrest hk hg hpsi
    refine tail_nil (hK10 _ _ ?_)
    refine wp_seq_k fun K12 hK12 => ?_
    refine wp_seq_k fun K13 hK13 => ?_
    refine wp_reg All mixed hsz11 hdf11 st_tr trivial ?_
    refine Chain.op (φ := Is (.bool (findB x.ns name))) (st_is _) (sp_move (Has.base rfl e7)) ?_
    refine Chain.op (φ := Is (.bool (!(findB x.ns name)))) (st_is _) (sp_not (Has.loc rfl)) ?_
    refine Chain.op (φ := Is (.bool (!(findB x.ns name)))) (st_is _) (sp_move (Has.loc rfl)) ?_
    refine Chain.opE (t := 21) (x := !(findB x.ns name)) (φ := Is (.int .i64 (findI x.ns name))) rfl (Has.loc rfl) (st_is _) (fun hg => sp_move (Has.base rfl e6)) ?_
    refine Chain.opE (t := 21) (x := !(findB x.ns name)) (φ := Is (.pointer (some ⟨b2_2, 4, none⟩))) rfl (Has.loc rfl) (st_is _) (fun hg => sp_fieldO (Has.base rfl e2) Try.underlying25 rfl sz23 rfl) ?_
    refine Chain.opE (t := 21) (x := !(findB x.ns name)) (φ := Is (.slice ci0a (x.xs.length) ci0c)) rfl (Has.loc rfl) (st_is _) (fun hg => sp_loadO (v := (.slice ci0a (x.xs.length) ci0c)) ((Has.loc rfl).undE hg) own_b2_2 trivial agg23 sz23 (Nat.le_of_ble_eq_true rfl) (fun h => by first | rfl | cases h) rfl) ?_
    refine Chain.opE (t := 21) (x := !(findB x.ns name)) (φ := Is (.int .i64 (x.xs.length))) rfl (Has.loc rfl) (st_is _) (fun hg => sp_lenVs Try.underlying23 (((Has.loc rfl).undE hg).dat D_ci0 sub_all)) ?_
    refine Chain.opE (t := 21) (x := !(findB x.ns name)) (φ := Is (.bool (decide ((x.xs.length : Int) ≤ (findI x.ns name : Int))))) rfl (Has.loc rfl) (st_is _) (fun hg => sp_geq ((Has.loc rfl).undE hg) ((Has.loc rfl).undE hg)) ?_
    refine Chain.op (φ := Is (.bool ((!(findB x.ns name)) || (decide ((x.xs.length : Int) ≤ (findI x.ns name : Int)))))) (st_is _) (sp_or (Has.loc rfl) ((Has.loc rfl).weak fun hq => hq)) ?_
    refine Chain.done ⟨by kernel_rfl, fun a14 g W14 hsz14 hdf14 hk hg henv hrest hpsi => ?_⟩
    obtain ⟨e27, -, -, -, -, -, -, -, -, -⟩ := henv
    replace e4 := (hrest 4 rfl).trans e4
    replace e2 := (hrest 2 rfl).trans e2
    replace e6 := (hrest 6 rfl).trans e6
    replace D_cn0 := D_cn0.ext hk
    replace D_ci0 := D_ci0.ext hk
    have e27 : sl a14 27 = (.bool ((!(findB x.ns name)) || (decide ((x.xs.length : Int) ≤ (findI x.ns name : Int))))) := e27
    replace own_b4_2 := own_b4_2.ext hk
    replace own_b2_2 := own_b2_2.ext hk
    replace kw := kw.trans (.of_ext hk)
    clear hrest hk hg hpsi
    refine tail_nil (hK13 _ _ ?_)
    refine wp_cond_split e27 (fun hc => ?_) (fun hc => ?_)
    · -- T: (!(findB x.ns name)) || (decide ((x.xs.length : Int) ≤ (findI x.ns name : Int)))
      have hn : findB x.ns name = false ∨ (x.xs.length : Int) ≤ findI x.ns name := by rcases (Bool.or_eq_true _ _).mp hc with h | h; exact .inl (by simpa using h); exact .inr (of_decide_eq_true h)
      have hb : getB x name = false := by rw [getB, if_neg hk, if_pos hn]
      have hv2 : getV x name = V.mk 0 0 ⟨#[]⟩ [] [] := by rw [getV, if_neg hk, if_pos hn]; rfl
      refine wp_seq_k fun K15 hK15 => ?_
      refine wp_reg All mixed hsz14 hdf14 st_tr trivial ?_
      refine Chain.op (φ := Is (.agg #[(.int .u8 (0)), (.int .i64 (0)), (.string (⟨#[]⟩)), (.slice none 0 0), (.slice none 0 0)])) (st_is _) (sp_build (vs := []) Try.underlying25 z25 (pl25 Try.underlying25) trivial rfl) ?_
      refine Chain.done ⟨by kernel_rfl, fun a16 g W16 hsz16 hdf16 hk hg henv hrest hpsi => ?_⟩
      obtain ⟨e28, -⟩ := henv
      replace e4 := (hrest 4 rfl).trans e4
      replace D_cn0 := D_cn0.ext hk
      replace D_ci0 := D_ci0.ext hk
      have e28 : sl a16 28 = (.agg #[(.int .u8 (0)), (.int .i64 (0)), (.string (⟨#[]⟩)), (.slice none 0 0), (.slice none 0 0)]) := e28
      replace own_b4_2 := own_b4_2.ext hk
      replace own_b2_2 := own_b2_2.ext hk
      replace kw := kw.trans (.of_ext hk)
      clear hrest hk hg hpsi
      refine tail_store (b := b4_2) (o := 0) (v := (.agg #[(.int .u8 (0)), (.int .i64 (0)), (.string (⟨#[]⟩)), (.slice none 0 0), (.slice none 0 0)])) e4 e28 sz25 rfl own_b4_2 (Nat.le_of_ble_eq_true rfl) (all_cons rfl (all_cons rfl (all_cons rfl (all_cons rfl (all_cons rfl all_nil))))) (fun W17 hs own_b4_2 => ?_)
      have own_b4_2 : Own W17 b4_2 [(.int .u8 (0)), (.int .i64 (0)), (.string (⟨#[]⟩)), (.slice none 0 0), (.slice none 0 0)] 25 := own_b4_2
      replace own_b2_2 := own_store own_b2_2 hs ne_b4_2_b2_2.symm
      replace D_cn0 := sa_store D_cn0 hs (by simp)
      replace D_ci0 := sa_store D_ci0 hs (by simp)
      replace kw := keeps_store kw hs lo_b4_2
      clear hs
      refine tail_assign (v := (.bool (false))) rfl (by rw [hsz16]; exact Nat.le_of_ble_eq_true rfl) (fun a18 hsz18 hdf18 e5 hr => ?_)
      replace hsz18 := hsz18.trans hsz16; replace hdf18 := hdf18.trans hdf16
      replace e4 := (hr 4 (by decide)).trans e4
      replace e28 := (hr 28 (by decide)).trans e28
      clear hr
      refine tail_nil (hK15 _ _ ?_)
      refine wp_ret ?_
      refine (show bodyPost Try.prog Try.f19 _ .ret _ _ from retCT (v := (.agg #[(.int .u8 (0)), (.int .i64 (0)), (.string (⟨#[]⟩)), (.slice none 0 0), (.slice none 0 0)])) rfl hdf18 e4 own_b4_2 agg25 sz25 rfl (fun h => by cases h) rfl e5 ⟨_, rfl, kw, ?_⟩)
      refine ⟨_, by rw [hb], ?_⟩
      rw [hv2]
      exact sf_fr (rdV_mk (Nat.le_of_ble_eq_true rfl) (rd_nil _) (rd_nil _) : Rd W17 (SF w [b4_2, b2_2]) (V.d (V.mk (0) (0) (⟨#[]⟩) ([]) ([]))) _)
    · -- E: (!(findB x.ns name)) || (decide ((x.xs.length : Int) ≤ (findI x.ns name : Int)))
      have hfb : findB x.ns name = true := by simpa using (Bool.or_eq_false_iff.1 hc).1
      have hfi := of_decide_eq_false (Bool.or_eq_false_iff.1 hc).2
      have hn : ¬ (findB x.ns name = false ∨ (x.xs.length : Int) ≤ findI x.ns name) := by rintro (h | h); rw [hfb] at h; cases h; exact hfi h
      obtain ⟨at_, hat, hatn⟩ := find_at hfb
      have hatx : at_ < x.xs.length := by omega
      have hb : getB x name = true := by rw [getB, if_neg hk, if_neg hn]
      have hv2 := getV_in hk hn hat hatx
      have hwm := wts_mem hatx
      refine wp_skip (hK12 _ _ ?_)
      refine wp_seq_k fun K19 hK19 => ?_
      refine wp_reg All mixed hsz14 hdf14 st_tr trivial ?_
      refine Chain.op (φ := Is (.pointer (some ⟨b2_2, 4, none⟩))) (st_is _) (sp_fieldO (Has.base rfl e2) Try.underlying25 rfl sz23 rfl) ?_
      refine Chain.op (φ := Is (.slice ci0a (x.xs.length) ci0c)) (st_is _) (sp_loadO (v := (.slice ci0a (x.xs.length) ci0c)) (Has.loc rfl) own_b2_2 trivial agg23 sz23 (Nat.le_of_ble_eq_true rfl) (fun h => by first | rfl | cases h) rfl) ?_
      refine Chain.op (φ := Is (.int .i64 (findI x.ns name))) (st_is _) (sp_move (Has.base rfl e6)) ?_
      refine Chain.op (φ := IsR (SA w S [b4_2, b2_2]) (V.d (x.xs[at_]'hatx))) (st_r sub_all) (sp_indexV (i := at_) ((Has.loc rfl).dat D_ci0 sub_all) (Has.loc rfl) Try.underlying23 sz25 hat hatx) ?_
      refine Chain.op (φ := IsD (SA w S [b4_2, b2_2]) (V.d (x.xs[at_]'hatx))) (st_d sub_all) (sp_loadV (Has.loc rfl) agg25 sz25) ?_
      refine Chain.op (φ := IsD (Fr W14) (V.d (x.xs[at_]'hatx))) (st_d sub_all) (sp_call1 (φ1 := IsD (SA w S [b4_2, b2_2]) (V.d (x.xs[at_]'hatx))) ent14 (Has.loc rfl) (fun g u1 W hk hgk h1 => (Copy_ok (x.xs[at_]'hatx) (by first | omega | exact Nat.le_of_ble_eq_true (by kernel_rfl)) W _ _ (fun b o h => sa_cln hS b o h.1) h1).mono (ret_fr hk hgk))) ?_
      refine Chain.done ⟨by kernel_rfl, fun a20 g W20 hsz20 hdf20 hk hg henv hrest hpsi => ?_⟩
      obtain ⟨e34, -, -, -, -, -, -⟩ := henv
      replace e4 := (hrest 4 rfl).trans e4
      replace D_cn0 := D_cn0.ext hk
      replace D_ci0 := D_ci0.ext hk
      obtain ⟨v34_20, ev⟩ : ∃ v, sl a20 34 = v := ⟨_, rfl⟩
      rw [ev] at e34
      have D_v34_20 : Rd W20 (SF w [b4_2, b2_2]) (V.d (x.xs[at_]'hatx)) v34_20 := fr_end (M := [b4_2, b2_2]) e34 kw [] in_nil (in_cons own_b4_2.lt (in_cons own_b2_2.lt in_nil))
      replace e34 := ev; clear ev
      obtain ⟨cn34_20a, cn34_20c, ci34_20a, ci34_20c, ev, ht_v34_20, D_cn34_20, D_ci34_20⟩ := rdV_out D_v34_20
      subst ev; clear D_v34_20
      replace own_b4_2 := own_b4_2.ext hk
      replace own_b2_2 := own_b2_2.ext hk
      replace kw := kw.trans (.of_ext hk)
      clear hrest hk hg hpsi
      refine tail_store (b := b4_2) (o := 0) (v := (.agg #[(.int .u8 ((x.xs[at_]'hatx).k)), (.int .i64 ((x.xs[at_]'hatx).n)), (.string ((x.xs[at_]'hatx).t)), (.slice cn34_20a (((x.xs[at_]'hatx).ns).length) cn34_20c), (.slice ci34_20a (((x.xs[at_]'hatx).xs).length) ci34_20c)])) e4 e34 sz25 rfl own_b4_2 (Nat.le_of_ble_eq_true rfl) (all_cons rfl (all_cons rfl (all_cons rfl (all_cons rfl (all_cons rfl all_nil))))) (fun W21 hs own_b4_2 => ?_)
      have own_b4_2 : Own W21 b4_2 [(.int .u8 ((x.xs[at_]'hatx).k)), (.int .i64 ((x.xs[at_]'hatx).n)), (.string ((x.xs[at_]'hatx).t)), (.slice cn34_20a (((x.xs[at_]'hatx).ns).length) cn34_20c), (.slice ci34_20a (((x.xs[at_]'hatx).xs).length) ci34_20c)] 25 := own_b4_2
      replace own_b2_2 := own_store own_b2_2 hs ne_b4_2_b2_2.symm
      replace D_cn0 := sa_store D_cn0 hs (by simp)
      replace D_ci0 := sa_store D_ci0 hs (by simp)
      replace D_cn34_20 := sf_store D_cn34_20 hs (by simp)
      replace D_ci34_20 := sf_store D_ci34_20 hs (by simp)
      replace kw := keeps_store kw hs lo_b4_2
      clear hs
      refine tail_assign (v := (.bool (true))) rfl (by rw [hsz20]; exact Nat.le_of_ble_eq_true rfl) (fun a22 hsz22 hdf22 e5 hr => ?_)
      replace hsz22 := hsz22.trans hsz20; replace hdf22 := hdf22.trans hdf20
      replace e4 := (hr 4 (by decide)).trans e4
      replace e34 := (hr 34 (by decide)).trans e34
      clear hr
      refine tail_nil (hK19 _ _ ?_)
      refine wp_ret ?_
      refine (show bodyPost Try.prog Try.f19 _ .ret _ _ from retCT (v := (.agg #[(.int .u8 ((x.xs[at_]'hatx).k)), (.int .i64 ((x.xs[at_]'hatx).n)), (.string ((x.xs[at_]'hatx).t)), (.slice cn34_20a (((x.xs[at_]'hatx).ns).length) cn34_20c), (.slice ci34_20a (((x.xs[at_]'hatx).xs).length) ci34_20c)])) rfl hdf22 e4 own_b4_2 agg25 sz25 rfl (fun h => by cases h) rfl e5 ⟨_, rfl, kw, ?_⟩)
      refine ⟨_, by rw [hb], ?_⟩
      rw [hv2]
      exact sf_fr (rdV_in (x := (x.xs[at_]'hatx)) ht_v34_20 D_cn34_20 D_ci34_20 : Rd W21 (SF w [b4_2, b2_2]) (V.d ((x.xs[at_]'hatx))) _)

set_option maxHeartbeats 4000000 in
theorem Without_ok (x : V) (name : ByteArray) (hx : x.wt ≤ 1073741824) (w : World) (S : BSet) (v : Value) (hS : ∀ b o, S b o → Cln o) (hv : Rd w S x.d v) : Calls Try.prog 27 #[v, .string name] w (Ret w fun r W => ∃ r1, r = .tuple #[r1, .bool (woutB x name)] ∧ Rd W (Fr w) (woutV x name).d r1) := by
  have hwx := wt_eq x
  have hwl := wts_len x.xs
  have hwn := wtN_len x.ns
  obtain ⟨cn0a, cn0c, ci0a, ci0c, ev, ht0, D_cn0, D_ci0⟩ := rdV_out (rd_arg hv)
  subst ev
  refine enter Try.func27 rfl Try.ntmps27 (Nat.le_of_ble_eq_true rfl) fun a0 hsz0 hdf0 harg => ?_
  have e0 : sl a0 0 = (.agg #[(.int .u8 (x.k)), (.int .i64 (x.n)), (.string (x.t)), (.slice cn0a (x.ns.length) cn0c), (.slice ci0a (x.xs.length) ci0c)]) := harg 0 (Nat.le_of_ble_eq_true rfl)
  have e1 : sl a0 1 = (.string (name)) := harg 1 (Nat.le_of_ble_eq_true rfl)
  have kw := Keeps.refl All w
  clear harg
  refine wp_seq_k fun K1 hK1 => ?_
  refine wp_reg All mixed hsz0 hdf0 st_tr trivial ?_
  refine Chain.boxOp (v := (.agg #[(.int .u8 (x.k)), (.int .i64 (x.n)), (.string (x.t)), (.slice cn0a (x.ns.length) cn0c), (.slice ci0a (x.xs.length) ci0c)])) (Has.base rfl e0) ?_
  refine Chain.alloc z25 ?_
  refine Chain.op (φ := Is (.bool (false))) (st_is _) (sp_assign Has.cst) ?_
  refine Chain.done ⟨by kernel_rfl, fun a2 g W2 hsz2 hdf2 hk hg henv hrest hpsi => ?_⟩
  obtain ⟨-, ⟨b4_2, e4, hb4, own_b4_2⟩, ⟨b2_2, e2, hb2, own_b2_2⟩, -⟩ := henv
  have lo_b4_2 : w.heap.size ≤ b4_2 := Nat.le_trans kw.size (hg.lo _ _ hb4)
  have own_b4_2 : Own W2 b4_2 [(.int .u8 (0)), (.int .i64 (0)), (.string (⟨#[]⟩)), (.slice none 0 0), (.slice none 0 0)] 25 := own_b4_2
  have lo_b2_2 : w.heap.size ≤ b2_2 := Nat.le_trans kw.size (hg.lo _ _ hb2)
  have own_b2_2 : Own W2 b2_2 [(.int .u8 (x.k)), (.int .i64 (x.n)), (.string (x.t)), (.slice cn0a (x.ns.length) cn0c), (.slice ci0a (x.xs.length) ci0c)] 25 := own_b2_2
  have ne_b4_2_b2_2 : b4_2 ≠ b2_2 := fun h => by have := hg.inj _ _ _ hb4 (h ▸ hb2); cases this
  replace e1 := (hrest 1 rfl).trans e1
  replace D_cn0 := sa_more D_cn0 hk [b4_2, b2_2] (in_cons (hg.lo _ _ hb4) (in_cons (hg.lo _ _ hb2) in_nil))
  replace D_ci0 := sa_more D_ci0 hk [b4_2, b2_2] (in_cons (hg.lo _ _ hb4) (in_cons (hg.lo _ _ hb2) in_nil))
  replace kw := kw.trans (.of_ext hk)
  clear hrest hk hg hpsi hb4 hb2
  refine tail_nil (hK1 _ _ ?_)
  refine wp_seq_k fun K3 hK3 => ?_
  refine wp_seq_k fun K4 hK4 => ?_
  refine wp_reg All mixed hsz2 hdf2 st_tr trivial ?_
  refine Chain.op (φ := Is (.pointer (some ⟨b2_2, 0, none⟩))) (st_is _) (sp_fieldO (Has.base rfl e2) Try.underlying25 rfl sz5 rfl) ?_
  refine Chain.op (φ := Is (.int .u8 (x.k))) (st_is _) (sp_loadO (v := (.int .u8 (x.k))) (Has.loc rfl) own_b2_2 trivial agg5 sz5 (Nat.le_of_ble_eq_true rfl) (fun h => by first | rfl | cases h) rfl) ?_
  refine Chain.op (φ := Is (.bool ((x.k : Int) != (5 : Int)))) (st_is _) (sp_neq (Has.loc rfl) Has.cst) ?_
  refine Chain.op (φ := Is (.bool ((x.k : Int) != (5 : Int)))) (st_is _) (sp_move (Has.loc rfl)) ?_
  refine Chain.opE (t := 14) (x := (x.k : Int) != (5 : Int)) (φ := Is (.pointer (some ⟨b2_2, 3, none⟩))) rfl (Has.loc rfl) (st_is _) (fun hg => sp_fieldO (Has.base rfl e2) Try.underlying25 rfl sz22 rfl) ?_
  refine Chain.opE (t := 14) (x := (x.k : Int) != (5 : Int)) (φ := Is (.slice cn0a (x.ns.length) cn0c)) rfl (Has.loc rfl) (st_is _) (fun hg => sp_loadO (v := (.slice cn0a (x.ns.length) cn0c)) ((Has.loc rfl).undE hg) own_b2_2 trivial agg22 sz22 (Nat.le_of_ble_eq_true rfl) (fun h => by first | rfl | cases h) rfl) ?_
  refine Chain.opE (t := 14) (x := (x.k : Int) != (5 : Int)) (φ := Is (.int .i64 (x.ns.length))) rfl (Has.loc rfl) (st_is _) (fun hg => sp_lenSs Try.underlying22 (((Has.loc rfl).undE hg).dat D_cn0 sub_all)) ?_
  refine Chain.opE (t := 14) (x := (x.k : Int) != (5 : Int)) (φ := Is (.pointer (some ⟨b2_2, 4, none⟩))) rfl (Has.loc rfl) (st_is _) (fun hg => sp_fieldO (Has.base rfl e2) Try.underlying25 rfl sz23 rfl) ?_
  refine Chain.opE (t := 14) (x := (x.k : Int) != (5 : Int)) (φ := Is (.slice ci0a (x.xs.length) ci0c)) rfl (Has.loc rfl) (st_is _) (fun hg => sp_loadO (v := (.slice ci0a (x.xs.length) ci0c)) ((Has.loc rfl).undE hg) own_b2_2 trivial agg23 sz23 (Nat.le_of_ble_eq_true rfl) (fun h => by first | rfl | cases h) rfl) ?_
  refine Chain.opE (t := 14) (x := (x.k : Int) != (5 : Int)) (φ := Is (.int .i64 (x.xs.length))) rfl (Has.loc rfl) (st_is _) (fun hg => sp_lenVs Try.underlying23 (((Has.loc rfl).undE hg).dat D_ci0 sub_all)) ?_
  refine Chain.opE (t := 14) (x := (x.k : Int) != (5 : Int)) (φ := Is (.bool ((x.ns.length : Int) != (x.xs.length : Int)))) rfl (Has.loc rfl) (st_is _) (fun hg => sp_neq ((Has.loc rfl).undE hg) ((Has.loc rfl).undE hg)) ?_
  refine Chain.op (φ := Is (.bool (((x.k : Int) != (5 : Int)) || ((x.ns.length : Int) != (x.xs.length : Int))))) (st_is _) (sp_or (Has.loc rfl) ((Has.loc rfl).weak fun hq => hq)) ?_
  refine Chain.done ⟨by kernel_rfl, fun a5 g W5 hsz5 hdf5 hk hg henv hrest hpsi => ?_⟩
  obtain ⟨e22, -, -, -, -, -, -, -, -, -, -, -, -⟩ := henv
  replace e1 := (hrest 1 rfl).trans e1
  replace e4 := (hrest 4 rfl).trans e4
  replace e2 := (hrest 2 rfl).trans e2
  replace D_cn0 := D_cn0.ext hk
  replace D_ci0 := D_ci0.ext hk
  have e22 : sl a5 22 = (.bool (((x.k : Int) != (5 : Int)) || ((x.ns.length : Int) != (x.xs.length : Int)))) := e22
  replace own_b4_2 := own_b4_2.ext hk
  replace own_b2_2 := own_b2_2.ext hk
  replace kw := kw.trans (.of_ext hk)
  clear hrest hk hg hpsi
  refine tail_nil (hK4 _ _ ?_)
  refine wp_cond_split e22 (fun hc => ?_) (fun hc => ?_)
  · -- T: ((x.k : Int) != (5 : Int)) || ((x.ns.length : Int) != (x.xs.length : Int))
    have hn : x.k ≠ 5 ∨ x.ns.length ≠ x.xs.length := by rcases (Bool.or_eq_true _ _).mp hc with h | h; exact .inl (by simp at h; omega); exact .inr (by simp at h; omega)
    have hb : woutB x name = false := by rw [woutB, if_pos hn]
    have hv2 : woutV x name = x := by rw [woutV, if_pos hn]
    refine wp_seq_k fun K6 hK6 => ?_
    refine wp_reg All mixed hsz5 hdf5 st_tr trivial ?_
    refine Chain.op (φ := Is (.agg #[(.int .u8 (x.k)), (.int .i64 (x.n)), (.string (x.t)), (.slice cn0a (x.ns.length) cn0c), (.slice ci0a (x.xs.length) ci0c)])) (st_is _) (sp_loadO (v := (.agg #[(.int .u8 (x.k)), (.int .i64 (x.n)), (.string (x.t)), (.slice cn0a (x.ns.length) cn0c), (.slice ci0a (x.xs.length) ci0c)])) (Has.base rfl e2) own_b2_2 trivial agg25 sz25 (Nat.le_of_ble_eq_true rfl) (fun h => by first | rfl | cases h) rfl) ?_
    refine Chain.op (φ := IsD (Fr W5) (V.d (x))) (st_d sub_all) (sp_call1 (φ1 := IsD (SA w S [b4_2, b2_2]) (V.d (x))) ent14 ((Has.loc rfl).dat (rdV_in (x := x) ht0 D_cn0 D_ci0 : Rd W5 (SA w S [b4_2, b2_2]) (V.d (x)) _) sub_all) (fun g u1 W hk hgk h1 => (Copy_ok (x) (by first | omega | exact Nat.le_of_ble_eq_true (by kernel_rfl)) W _ _ (fun b o h => sa_cln hS b o h.1) h1).mono (ret_fr hk hgk))) ?_
    refine Chain.done ⟨by kernel_rfl, fun a7 g W7 hsz7 hdf7 hk hg henv hrest hpsi => ?_⟩
    obtain ⟨e24, -, -⟩ := henv
    replace e4 := (hrest 4 rfl).trans e4
    replace D_cn0 := D_cn0.ext hk
    replace D_ci0 := D_ci0.ext hk
    obtain ⟨v24_7, ev⟩ : ∃ v, sl a7 24 = v := ⟨_, rfl⟩
    rw [ev] at e24
    have D_v24_7 : Rd W7 (SF w [b4_2, b2_2]) (V.d (x)) v24_7 := fr_end (M := [b4_2, b2_2]) e24 kw [] in_nil (in_cons own_b4_2.lt (in_cons own_b2_2.lt in_nil))
    replace e24 := ev; clear ev
    obtain ⟨cn24_7a, cn24_7c, ci24_7a, ci24_7c, ev, ht_v24_7, D_cn24_7, D_ci24_7⟩ := rdV_out D_v24_7
    subst ev; clear D_v24_7
    replace own_b4_2 := own_b4_2.ext hk
    replace own_b2_2 := own_b2_2.ext hk
    replace kw := kw.trans (.of_ext hk)
    clear hrest hk hg hpsi
    refine tail_store (b := b4_2) (o := 0) (v := (.agg #[(.int .u8 (x.k)), (.int .i64 (x.n)), (.string (x.t)), (.slice cn24_7a (x.ns.length) cn24_7c), (.slice ci24_7a (x.xs.length) ci24_7c)])) e4 e24 sz25 rfl own_b4_2 (Nat.le_of_ble_eq_true rfl) (all_cons rfl (all_cons rfl (all_cons rfl (all_cons rfl (all_cons rfl all_nil))))) (fun W8 hs own_b4_2 => ?_)
    have own_b4_2 : Own W8 b4_2 [(.int .u8 (x.k)), (.int .i64 (x.n)), (.string (x.t)), (.slice cn24_7a (x.ns.length) cn24_7c), (.slice ci24_7a (x.xs.length) ci24_7c)] 25 := own_b4_2
    replace own_b2_2 := own_store own_b2_2 hs ne_b4_2_b2_2.symm
    replace D_cn0 := sa_store D_cn0 hs (by simp)
    replace D_ci0 := sa_store D_ci0 hs (by simp)
    replace D_cn24_7 := sf_store D_cn24_7 hs (by simp)
    replace D_ci24_7 := sf_store D_ci24_7 hs (by simp)
    replace kw := keeps_store kw hs lo_b4_2
    clear hs
    refine tail_assign (v := (.bool (false))) rfl (by rw [hsz7]; exact Nat.le_of_ble_eq_true rfl) (fun a9 hsz9 hdf9 e5 hr => ?_)
    replace hsz9 := hsz9.trans hsz7; replace hdf9 := hdf9.trans hdf7
    replace e4 := (hr 4 (by decide)).trans e4
    replace e24 := (hr 24 (by decide)).trans e24
    clear hr
    refine tail_nil (hK6 _ _ ?_)
    refine wp_ret ?_
    refine (show bodyPost Try.prog Try.f27 _ .ret _ _ from retCT (v := (.agg #[(.int .u8 (x.k)), (.int .i64 (x.n)), (.string (x.t)), (.slice cn24_7a (x.ns.length) cn24_7c), (.slice ci24_7a (x.xs.length) ci24_7c)])) rfl hdf9 e4 own_b4_2 agg25 sz25 rfl (fun h => by cases h) rfl e5 ⟨_, rfl, kw, ?_⟩)
    refine ⟨_, by rw [hb], ?_⟩
    rw [hv2]
    exact sf_fr (rdV_in (x := x) ht_v24_7 D_cn24_7 D_ci24_7 : Rd W8 (SF w [b4_2, b2_2]) (V.d (x)) _)
  · -- E: ((x.k : Int) != (5 : Int)) || ((x.ns.length : Int) != (x.xs.length : Int))
    have hlen : x.ns.length = x.xs.length := by have h := (Bool.or_eq_false_iff.1 hc).2; simp at h; omega
    have hn : ¬ (x.k ≠ 5 ∨ x.ns.length ≠ x.xs.length) := by have h := (Bool.or_eq_false_iff.1 hc).1; simp at h; omega
    refine wp_skip (hK3 _ _ ?_)
    refine wp_seq_k fun K10 hK10 => ?_
    refine wp_seq_k fun K11 hK11 => ?_
    refine wp_reg All mixed hsz5 hdf5 st_tr trivial ?_
    refine Chain.op (φ := Is (.pointer (some ⟨b2_2, 3, none⟩))) (st_is _) (sp_fieldO (Has.base rfl e2) Try.underlying25 rfl sz22 rfl) ?_
    refine Chain.op (φ := Is (.slice cn0a (x.ns.length) cn0c)) (st_is _) (sp_loadO (v := (.slice cn0a (x.ns.length) cn0c)) (Has.loc rfl) own_b2_2 trivial agg22 sz22 (Nat.le_of_ble_eq_true rfl) (fun h => by first | rfl | cases h) rfl) ?_
    refine Chain.op (φ := Is (.string (name))) (st_is _) (sp_move (Has.base rfl e1)) ?_
    refine Chain.op (φ := Is (.tuple #[(.int .i64 (findI x.ns name)), (.bool (findB x.ns name))])) (st_is _) (sp_call2 (φ1 := IsD (SA w S [b4_2, b2_2]) (strsD (x.ns))) (φ2 := Is (.string (name))) ent42 ((Has.loc rfl).dat D_cn0 sub_all) (Has.loc rfl) (fun g u1 u2 W hk hgk h1 h2 => by have h2 : u2 = _ := h2; subst u2; exact find_ok (x.ns) (name) (by omega) W _ _ h1)) ?_
    refine Chain.op (φ := Is (.tuple #[(.int .i64 (findI x.ns name)), (.bool (findB x.ns name))])) (st_is _) (sp_move (Has.loc rfl)) ?_
    refine Chain.op (φ := Is (.int .i64 (findI x.ns name))) (st_is _) (sp_extT (Has.loc rfl) rfl) ?_
    refine Chain.op (φ := Is (.bool (findB x.ns name))) (st_is _) (sp_extT (Has.loc rfl) rfl) ?_
    refine Chain.op (φ := Is (.int .i64 (findI x.ns name))) (st_is _) (sp_assign (Has.loc rfl)) ?_
    refine Chain.op (φ := Is (.bool (findB x.ns name))) (st_is _) (sp_assign (Has.loc rfl)) ?_
    refine Chain.done ⟨by kernel_rfl, fun a12 g W12 hsz12 hdf12 hk hg henv hrest hpsi => ?_⟩
    obtain ⟨e7, -, -, -, -, -, -, -, -, -⟩ := henv
    replace e1 := (hrest 1 rfl).trans e1
    replace e4 := (hrest 4 rfl).trans e4
    replace e2 := (hrest 2 rfl).trans e2
    replace D_cn0 := D_cn0.ext hk
    replace D_ci0 := D_ci0.ext hk
    have e7 : sl a12 7 = (.bool (findB x.ns name)) := e7
    replace own_b4_2 := own_b4_2.ext hk
    replace own_b2_2 := own_b2_2.ext hk
    replace kw := kw.trans (.of_ext hk)
    clear hrest hk hg hpsi
    refine tail_nil (hK11 _ _ ?_)
    refine wp_seq_k fun K13 hK13 => ?_
    refine wp_reg All mixed hsz12 hdf12 st_tr trivial ?_
    refine Chain.op (φ := Is (.bool (findB x.ns name))) (st_is _) (sp_move (Has.base rfl e7)) ?_
    refine Chain.op (φ := Is (.bool (!(findB x.ns name)))) (st_is _) (sp_not (Has.loc rfl)) ?_
    refine Chain.done ⟨by kernel_rfl, fun a14 g W14 hsz14 hdf14 hk hg henv hrest hpsi => ?_⟩
    obtain ⟨e33, -, -⟩ := henv
    replace e1 := (hrest 1 rfl).trans e1
    replace e4 := (hrest 4 rfl).trans e4
    replace e2 := (hrest 2 rfl).trans e2
    replace D_cn0 := D_cn0.ext hk
    replace D_ci0 := D_ci0.ext hk
    have e33 : sl a14 33 = (.bool (!(findB x.ns name))) := e33
    replace own_b4_2 := own_b4_2.ext hk
    replace own_b2_2 := own_b2_2.ext hk
    replace kw := kw.trans (.of_ext hk)
    clear hrest hk hg hpsi
    refine tail_nil (hK13 _ _ ?_)
    refine wp_cond_split e33 (fun hc => ?_) (fun hc => ?_)
    · -- T: !(findB x.ns name)
      have hfb : findB x.ns name = false := by simpa using hc
      have hb : woutB x name = false := by rw [woutB, if_neg hn, hfb]
      have hv2 : woutV x name = x := by rw [woutV, if_neg hn, if_pos hfb]
      refine wp_seq_k fun K15 hK15 => ?_
      refine wp_reg All mixed hsz14 hdf14 st_tr trivial ?_
      refine Chain.op (φ := Is (.agg #[(.int .u8 (x.k)), (.int .i64 (x.n)), (.string (x.t)), (.slice cn0a (x.ns.length) cn0c), (.slice ci0a (x.xs.length) ci0c)])) (st_is _) (sp_loadO (v := (.agg #[(.int .u8 (x.k)), (.int .i64 (x.n)), (.string (x.t)), (.slice cn0a (x.ns.length) cn0c), (.slice ci0a (x.xs.length) ci0c)])) (Has.base rfl e2) own_b2_2 trivial agg25 sz25 (Nat.le_of_ble_eq_true rfl) (fun h => by first | rfl | cases h) rfl) ?_
      refine Chain.op (φ := IsD (Fr W14) (V.d (x))) (st_d sub_all) (sp_call1 (φ1 := IsD (SA w S [b4_2, b2_2]) (V.d (x))) ent14 ((Has.loc rfl).dat (rdV_in (x := x) ht0 D_cn0 D_ci0 : Rd W14 (SA w S [b4_2, b2_2]) (V.d (x)) _) sub_all) (fun g u1 W hk hgk h1 => (Copy_ok (x) (by first | omega | exact Nat.le_of_ble_eq_true (by kernel_rfl)) W _ _ (fun b o h => sa_cln hS b o h.1) h1).mono (ret_fr hk hgk))) ?_
      refine Chain.done ⟨by kernel_rfl, fun a16 g W16 hsz16 hdf16 hk hg henv hrest hpsi => ?_⟩
      obtain ⟨e35, -, -⟩ := henv
      replace e4 := (hrest 4 rfl).trans e4
      replace D_cn0 := D_cn0.ext hk
      replace D_ci0 := D_ci0.ext hk
      obtain ⟨v35_16, ev⟩ : ∃ v, sl a16 35 = v := ⟨_, rfl⟩
      rw [ev] at e35
      have D_v35_16 : Rd W16 (SF w [b4_2, b2_2]) (V.d (x)) v35_16 := fr_end (M := [b4_2, b2_2]) e35 kw [] in_nil (in_cons own_b4_2.lt (in_cons own_b2_2.lt in_nil))
      replace e35 := ev; clear ev
      obtain ⟨cn35_16a, cn35_16c, ci35_16a, ci35_16c, ev, ht_v35_16, D_cn35_16, D_ci35_16⟩ := rdV_out D_v35_16
      subst ev; clear D_v35_16
      replace own_b4_2 := own_b4_2.ext hk
      replace own_b2_2 := own_b2_2.ext hk
      replace kw := kw.trans (.of_ext hk)
      clear hrest hk hg hpsi
      refine tail_store (b := b4_2) (o := 0) (v := (.agg #[(.int .u8 (x.k)), (.int .i64 (x.n)), (.string (x.t)), (.slice cn35_16a (x.ns.length) cn35_16c), (.slice ci35_16a (x.xs.length) ci35_16c)])) e4 e35 sz25 rfl own_b4_2 (Nat.le_of_ble_eq_true rfl) (all_cons rfl (all_cons rfl (all_cons rfl (all_cons rfl (all_cons rfl all_nil))))) (fun W17 hs own_b4_2 => ?_)
      have own_b4_2 : Own W17 b4_2 [(.int .u8 (x.k)), (.int .i64 (x.n)), (.string (x.t)), (.slice cn35_16a (x.ns.length) cn35_16c), (.slice ci35_16a (x.xs.length) ci35_16c)] 25 := own_b4_2
      replace own_b2_2 := own_store own_b2_2 hs ne_b4_2_b2_2.symm
      replace D_cn0 := sa_store D_cn0 hs (by simp)
      replace D_ci0 := sa_store D_ci0 hs (by simp)
      replace D_cn35_16 := sf_store D_cn35_16 hs (by simp)
      replace D_ci35_16 := sf_store D_ci35_16 hs (by simp)
      replace kw := keeps_store kw hs lo_b4_2
      clear hs
      refine tail_assign (v := (.bool (false))) rfl (by rw [hsz16]; exact Nat.le_of_ble_eq_true rfl) (fun a18 hsz18 hdf18 e5 hr => ?_)
      replace hsz18 := hsz18.trans hsz16; replace hdf18 := hdf18.trans hdf16
      replace e4 := (hr 4 (by decide)).trans e4
      replace e35 := (hr 35 (by decide)).trans e35
      clear hr
      refine tail_nil (hK15 _ _ ?_)
      refine wp_ret ?_
      refine (show bodyPost Try.prog Try.f27 _ .ret _ _ from retCT (v := (.agg #[(.int .u8 (x.k)), (.int .i64 (x.n)), (.string (x.t)), (.slice cn35_16a (x.ns.length) cn35_16c), (.slice ci35_16a (x.xs.length) ci35_16c)])) rfl hdf18 e4 own_b4_2 agg25 sz25 rfl (fun h => by cases h) rfl e5 ⟨_, rfl, kw, ?_⟩)
      refine ⟨_, by rw [hb], ?_⟩
      rw [hv2]
      exact sf_fr (rdV_in (x := x) ht_v35_16 D_cn35_16 D_ci35_16 : Rd W17 (SF w [b4_2, b2_2]) (V.d (x)) _)
    · -- E: !(findB x.ns name)
      have hfb : findB x.ns name = true := by simpa using hc
      have hb : woutB x name = true := by rw [woutB, if_neg hn, hfb]
      have hv2 : woutV x name = V.mk x.k x.n x.t (woN name x.ns) (woX name x.ns x.xs) := by rw [woutV, if_neg hn, if_neg (by rw [hfb]; simp)]
      refine wp_skip (hK10 _ _ ?_)
      refine wp_seq_k fun K19 hK19 => ?_
      refine wp_reg All mixed hsz14 hdf14 st_tr trivial ?_
      refine Chain.op (φ := Is (.pointer (some ⟨b2_2, 0, none⟩))) (st_is _) (sp_fieldO (Has.base rfl e2) Try.underlying25 rfl sz5 rfl) ?_
      refine Chain.op (φ := Is (.int .u8 (x.k))) (st_is _) (sp_loadO (v := (.int .u8 (x.k))) (Has.loc rfl) own_b2_2 trivial agg5 sz5 (Nat.le_of_ble_eq_true rfl) (fun h => by first | rfl | cases h) rfl) ?_
      refine Chain.op (φ := Is (.pointer (some ⟨b2_2, 1, none⟩))) (st_is _) (sp_fieldO (Has.base rfl e2) Try.underlying25 rfl sz2 rfl) ?_
      refine Chain.op (φ := Is (.int .i64 (x.n))) (st_is _) (sp_loadO (v := (.int .i64 (x.n))) (Has.loc rfl) own_b2_2 trivial agg2 sz2 (Nat.le_of_ble_eq_true rfl) (fun h => by first | rfl | cases h) rfl) ?_
      refine Chain.op (φ := Is (.pointer (some ⟨b2_2, 2, none⟩))) (st_is _) (sp_fieldO (Has.base rfl e2) Try.underlying25 rfl sz9 rfl) ?_
      refine Chain.op (φ := Is (.string (x.t))) (st_is _) (sp_loadO (v := (.string (x.t))) (Has.loc rfl) own_b2_2 trivial agg9 sz9 (Nat.le_of_ble_eq_true rfl) (fun h => by first | rfl | cases h) rfl) ?_
      refine Chain.op (φ := Is (.agg #[(.int .u8 (x.k)), (.int .i64 (x.n)), (.string (x.t)), (.slice none 0 0), (.slice none 0 0)])) (st_is _) (sp_build (vs := [(0, (.int .u8 (x.k))), (1, (.int .i64 (x.n))), (2, (.string (x.t)))]) Try.underlying25 z25 (pl25 Try.underlying25) ⟨rfl, (Has.loc rfl), rfl, (Has.loc rfl), rfl, (Has.loc rfl), trivial⟩ rfl) ?_
      refine Chain.alloc z25 ?_
      refine Chain.done ⟨by kernel_rfl, fun a20 g W20 hsz20 hdf20 hk hg henv hrest hpsi => ?_⟩
      obtain ⟨⟨b8_20, e8, hb8, own_b8_20⟩, e42, -, -, -, -, -, -, -⟩ := henv
      have lo_b8_20 : w.heap.size ≤ b8_20 := Nat.le_trans kw.size (hg.lo _ _ hb8)
      have ne_b4_2_b8_20 : b4_2 ≠ b8_20 := Nat.ne_of_lt (Nat.lt_of_lt_of_le own_b4_2.lt (hg.lo _ _ hb8))
      have ne_b2_2_b8_20 : b2_2 ≠ b8_20 := Nat.ne_of_lt (Nat.lt_of_lt_of_le own_b2_2.lt (hg.lo _ _ hb8))
      have own_b8_20 : Own W20 b8_20 [(.int .u8 (0)), (.int .i64 (0)), (.string (⟨#[]⟩)), (.slice none 0 0), (.slice none 0 0)] 25 := own_b8_20
      replace e1 := (hrest 1 rfl).trans e1
      replace e4 := (hrest 4 rfl).trans e4
      replace e2 := (hrest 2 rfl).trans e2
      replace D_cn0 := sa_more D_cn0 hk [b8_20] (in_cons (hg.lo _ _ hb8) in_nil)
      replace D_ci0 := sa_more D_ci0 hk [b8_20] (in_cons (hg.lo _ _ hb8) in_nil)
      have e42 : sl a20 42 = (.agg #[(.int .u8 (x.k)), (.int .i64 (x.n)), (.string (x.t)), (.slice none 0 0), (.slice none 0 0)]) := e42
      replace own_b4_2 := own_b4_2.ext hk
      replace own_b2_2 := own_b2_2.ext hk
      replace kw := kw.trans (.of_ext hk)
      clear hrest hk hg hpsi hb8
      refine tail_store (b := b8_20) (o := 0) (v := (.agg #[(.int .u8 (x.k)), (.int .i64 (x.n)), (.string (x.t)), (.slice none 0 0), (.slice none 0 0)])) e8 e42 sz25 rfl own_b8_20 (Nat.le_of_ble_eq_true rfl) (all_cons rfl (all_cons rfl (all_cons rfl (all_cons rfl (all_cons rfl all_nil))))) (fun W21 hs own_b8_20 => ?_)
      have own_b8_20 : Own W21 b8_20 [(.int .u8 (x.k)), (.int .i64 (x.n)), (.string (x.t)), (.slice none 0 0), (.slice none 0 0)] 25 := own_b8_20
      replace own_b4_2 := own_store own_b4_2 hs ne_b4_2_b8_20
      replace own_b2_2 := own_store own_b2_2 hs ne_b2_2_b8_20
      replace D_cn0 := sa_store D_cn0 hs (by simp)
      replace D_ci0 := sa_store D_ci0 hs (by simp)
      replace kw := keeps_store kw hs lo_b8_20
      clear hs
      refine tail_nil (hK19 _ _ ?_)
      refine wp_seq_k fun K22 hK22 => ?_
      refine wp_seq_k fun K23 hK23 => ?_
      refine wp_reg All mixed hsz20 hdf20 st_tr trivial ?_
      refine Chain.op (φ := Is (.pointer (some ⟨b2_2, 3, none⟩))) (st_is _) (sp_fieldO (Has.base rfl e2) Try.underlying25 rfl sz22 rfl) ?_
      refine Chain.op (φ := Is (.slice cn0a (x.ns.length) cn0c)) (st_is _) (sp_loadO (v := (.slice cn0a (x.ns.length) cn0c)) (Has.loc rfl) own_b2_2 trivial agg22 sz22 (Nat.le_of_ble_eq_true rfl) (fun h => by first | rfl | cases h) rfl) ?_
      refine Chain.op (φ := Is (.int .i64 (x.ns.length))) (st_is _) (sp_lenSs Try.underlying22 ((Has.loc rfl).dat D_cn0 sub_all)) ?_
      refine Chain.op (φ := Is (.int .i64 (0))) (st_is _) (sp_move Has.cst) ?_
      refine Chain.done ⟨by kernel_rfl, fun a24 g W24 hsz24 hdf24 hk hg henv hrest hpsi => ?_⟩
      obtain ⟨e46, e45, e44, -, -⟩ := henv
      replace e1 := (hrest 1 rfl).trans e1
      replace e4 := (hrest 4 rfl).trans e4
      replace e2 := (hrest 2 rfl).trans e2
      replace e8 := (hrest 8 rfl).trans e8
      replace D_cn0 := D_cn0.ext hk
      replace D_ci0 := D_ci0.ext hk
      have e44 : sl a24 44 = (.slice cn0a (x.ns.length) cn0c) := e44
      have e45 : sl a24 45 = (.int .i64 (x.ns.length)) := e45
      have e46 : sl a24 46 = (.int .i64 (0)) := e46
      replace own_b4_2 := own_b4_2.ext hk
      replace own_b2_2 := own_b2_2.ext hk
      replace own_b8_20 := own_b8_20.ext hk
      replace kw := kw.trans (.of_ext hk)
      clear hrest hk hg hpsi
      refine tail_nil (hK23 _ _ ?_)
      refine wp_block ?_
      have A_ar25 : Arr W24 w.heap.size 9 1 (SF w (blks none ++ (b8_20 :: (b4_2 :: (b2_2 :: []))))) (List.map D.str ([])) (.slice none 0 0) none := arr_nil _ _ _ _ _
      replace D_cn0 : Rd W24 (SA w S (blks none ++ (b8_20 :: (b4_2 :: (b2_2 :: []))))) (strsD (x.ns)) (.slice cn0a (x.ns.length) cn0c) := D_cn0
      replace D_ci0 : Rd W24 (SA w S (blks none ++ (b8_20 :: (b4_2 :: (b2_2 :: []))))) (valsD (x.xs)) (.slice ci0a (x.xs.length) ci0c) := D_ci0
      have A_ar26 : Arr W24 w.heap.size 25 5 (SF w (blks (none) ++ (blks none ++ (b8_20 :: (b4_2 :: (b2_2 :: [])))))) (List.map V.d ([])) (.slice none 0 0) (none) := arr_nil _ _ _ _ _
      replace D_cn0 : Rd W24 (SA w S (blks (none) ++ (blks none ++ (b8_20 :: (b4_2 :: (b2_2 :: [])))))) (strsD (x.ns)) (.slice cn0a (x.ns.length) cn0c) := D_cn0
      replace D_ci0 : Rd W24 (SA w S (blks (none) ++ (blks none ++ (b8_20 :: (b4_2 :: (b2_2 :: [])))))) (valsD (x.xs)) (.slice ci0a (x.xs.length) ci0c) := D_ci0
      replace A_ar25 : Arr W24 w.heap.size 9 1 (SF w (blks (none) ++ (blks none ++ (b8_20 :: (b4_2 :: (b2_2 :: [])))))) (List.map D.str ([])) (.slice none 0 0) none := A_ar25
      refine wp_for (x.ns.length) (fun k a W => ∃ (va3_27 : Value), ∃ (hd3_27 : Option Nat), ∃ (va4_27 : Value), ∃ (hd4_27 : Option Nat), a.tmps.size = 73 ∧ a.defers = [] ∧ Keeps All w W ∧ sl a 1 = (.string (name)) ∧ sl a 2 = (.pointer (some ⟨b2_2, 0, none⟩)) ∧ sl a 4 = (.pointer (some ⟨b4_2, 0, none⟩)) ∧ sl a 8 = (.pointer (some ⟨b8_20, 0, none⟩)) ∧ sl a 44 = (.slice cn0a (x.ns.length) cn0c) ∧ sl a 45 = (.int .i64 (x.ns.length)) ∧ sl a 46 = (.int .i64 ((k : Nat))) ∧ Own W b4_2 [(.int .u8 (0)), (.int .i64 (0)), (.string (⟨#[]⟩)), (.slice none 0 0), (.slice none 0 0)] 25 ∧ Own W b2_2 [(.int .u8 (x.k)), (.int .i64 (x.n)), (.string (x.t)), (.slice cn0a (x.ns.length) cn0c), (.slice ci0a (x.xs.length) ci0c)] 25 ∧ Own W b8_20 [(.int .u8 (x.k)), (.int .i64 (x.n)), (.string (x.t)), va3_27, va4_27] 25 ∧ Rd W (SA w S (blks hd4_27 ++ (blks hd3_27 ++ (b8_20 :: (b4_2 :: (b2_2 :: [])))))) (strsD (x.ns)) (.slice cn0a (x.ns.length) cn0c) ∧ Rd W (SA w S (blks hd4_27 ++ (blks hd3_27 ++ (b8_20 :: (b4_2 :: (b2_2 :: [])))))) (valsD (x.xs)) (.slice ci0a (x.xs.length) ci0c) ∧ Arr W w.heap.size 9 1 (SF w (blks hd4_27 ++ (blks hd3_27 ++ (b8_20 :: (b4_2 :: (b2_2 :: [])))))) (List.map D.str (woN name (x.ns.take k))) va3_27 hd3_27 ∧ b4_2 ∉ blks hd3_27 ∧ b2_2 ∉ blks hd3_27 ∧ b8_20 ∉ blks hd3_27 ∧ Arr W w.heap.size 25 5 (SF w (blks hd4_27 ++ (blks hd3_27 ++ (b8_20 :: (b4_2 :: (b2_2 :: [])))))) (List.map V.d (woX name (x.ns.take k) (x.xs.take k))) va4_27 hd4_27 ∧ b4_2 ∉ blks hd4_27 ∧ b2_2 ∉ blks hd4_27 ∧ b8_20 ∉ blks hd4_27 ∧ (∀ b ∈ blks hd3_27, b ∉ blks hd4_27)) ⟨(.slice none 0 0), none, (.slice none 0 0), (none), hsz24, hdf24, kw, e1, e2, e4, e8, e44, e45, (e46.trans (congrArg (Value.int .i64) (rfl))), own_b4_2, own_b2_2, own_b8_20, D_cn0, D_ci0, A_ar25, nb_none, nb_none, nb_none, A_ar26, nb_none, nb_none, nb_none, (fun _ _ => nb_none)⟩ ?_
      clear kw e1 e2 e4 e8 e44 e45 e46 own_b4_2 own_b2_2 own_b8_20 D_cn0 D_ci0 A_ar25 A_ar26
      rintro k a27 W27 hkk ⟨va3_27, hd3_27, va4_27, hd4_27, hsz27, hdf27, kw, e1, e2, e4, e8, e44, e45, e46, own_b4_2, own_b2_2, own_b8_20, D_cn0, D_ci0, A3_27, nb_b4_2_ar25_27, nb_b2_2_ar25_27, nb_b8_20_ar25_27, A4_27, nb_b4_2_ar26_27, nb_b2_2_ar26_27, nb_b8_20_ar26_27, dj_ar25_ar26_27⟩
      refine wp_seq_k fun K28 hK28 => ?_
      refine wp_reg All mixed hsz27 hdf27 st_tr trivial ?_
      refine Chain.op (φ := Is (.bool (decide (((k : Nat) : Int) < (x.ns.length : Int))))) (st_is _) (sp_lss (Has.base rfl e46) (Has.base rfl e45)) ?_
      refine Chain.done ⟨by kernel_rfl, fun a29 g W29 hsz29 hdf29 hk hg henv hrest hpsi => ?_⟩
      obtain ⟨e47, -⟩ := henv
      replace e1 := (hrest 1 rfl).trans e1
      replace e4 := (hrest 4 rfl).trans e4
      replace e2 := (hrest 2 rfl).trans e2
      replace e8 := (hrest 8 rfl).trans e8
      replace e44 := (hrest 44 rfl).trans e44
      replace e45 := (hrest 45 rfl).trans e45
      replace e46 := (hrest 46 rfl).trans e46
      replace A3_27 := A3_27.ext hk
      replace A4_27 := A4_27.ext hk
      replace D_cn0 := D_cn0.ext hk
      replace D_ci0 := D_ci0.ext hk
      have e47 : sl a29 47 = (.bool (decide (((k : Nat) : Int) < (x.ns.length : Int)))) := e47
      replace own_b4_2 := own_b4_2.ext hk
      replace own_b2_2 := own_b2_2.ext hk
      replace own_b8_20 := own_b8_20.ext hk
      replace kw := kw.trans (.of_ext hk)
      clear hrest hk hg hpsi
      refine tail_nil (hK28 _ _ ?_)
      refine wp_seq_k fun K30 hK30 => ?_
      refine wp_cond_split e47 (fun hc => ?_) (fun hc => ?_)
      · -- T: decide (((k : Nat) : Int) < (x.ns.length : Int))
        have hltn : k < x.ns.length := by simpa using hc
        have hltx : k < x.xs.length := by omega
        have hwm := wts_mem hltx
        have hln := woN_len name (x.ns.take k)
        have hlx := woX_len name (x.ns.take k) (x.xs.take k)
        simp only [List.length_take] at hln hlx
        refine wp_skip (hK30 _ _ ?_)
        refine wp_seq_k fun K31 hK31 => ?_
        refine wp_block ?_
        refine wp_seq_k fun K32 hK32 => ?_
        refine wp_reg All mixed hsz29 hdf29 st_tr trivial ?_
        refine Chain.op (φ := Is (.int .i64 ((k : Nat)))) (st_is _) (sp_move (Has.base rfl e46)) ?_
        refine Chain.op (φ := IsR (SA w S (blks hd4_27 ++ (blks hd3_27 ++ (b8_20 :: (b4_2 :: (b2_2 :: [])))))) (D.str (x.ns[k]'hltn))) (st_r sub_all) (sp_indexS (i := k) ((Has.base rfl e44).dat D_cn0 sub_all) (Has.base rfl e46) Try.underlying22 sz9 rfl hltn) ?_
        refine Chain.op (φ := Is (.string (x.ns[k]'hltn))) (st_is _) (sp_loadStr (Has.loc rfl) agg9 sz9) ?_
        refine Chain.op (φ := Is (.int .i64 ((k : Nat)))) (st_is _) (sp_assign (Has.loc rfl)) ?_
        refine Chain.op (φ := Is (.string (x.ns[k]'hltn))) (st_is _) (sp_assign (Has.loc rfl)) ?_
        refine Chain.done ⟨by kernel_rfl, fun a33 g W33 hsz33 hdf33 hk hg henv hrest hpsi => ?_⟩
        obtain ⟨e10, e9, -, -, -, -⟩ := henv
        replace e1 := (hrest 1 rfl).trans e1
        replace e4 := (hrest 4 rfl).trans e4
        replace e2 := (hrest 2 rfl).trans e2
        replace e8 := (hrest 8 rfl).trans e8
        replace e44 := (hrest 44 rfl).trans e44
        replace e45 := (hrest 45 rfl).trans e45
        replace e46 := (hrest 46 rfl).trans e46
        replace A3_27 := A3_27.ext hk
        replace A4_27 := A4_27.ext hk
        replace D_cn0 := D_cn0.ext hk
        replace D_ci0 := D_ci0.ext hk
        have e9 : sl a33 9 = (.int .i64 ((k : Nat))) := e9
        have e10 : sl a33 10 = (.string (x.ns[k]'hltn)) := e10
        replace own_b4_2 := own_b4_2.ext hk
        replace own_b2_2 := own_b2_2.ext hk
        replace own_b8_20 := own_b8_20.ext hk
        replace kw := kw.trans (.of_ext hk)
        clear hrest hk hg hpsi
        refine tail_nil (hK32 _ _ ?_)
        refine wp_seq_k fun K34 hK34 => ?_
        refine wp_reg All mixed hsz33 hdf33 st_tr trivial ?_
        refine Chain.op (φ := Is (.string (x.ns[k]'hltn))) (st_is _) (sp_move (Has.base rfl e10)) ?_
        refine Chain.op (φ := Is (.string (name))) (st_is _) (sp_move (Has.base rfl e1)) ?_
        refine Chain.op (φ := Is (.bool (!decide ((x.ns[k]'hltn) = name)))) (st_is _) (sp_sNeq (Has.loc rfl) (Has.loc rfl)) ?_
        refine Chain.done ⟨by kernel_rfl, fun a35 g W35 hsz35 hdf35 hk hg henv hrest hpsi => ?_⟩
        obtain ⟨e53, -, -, -⟩ := henv
        replace e1 := (hrest 1 rfl).trans e1
        replace e4 := (hrest 4 rfl).trans e4
        replace e2 := (hrest 2 rfl).trans e2
        replace e8 := (hrest 8 rfl).trans e8
        replace e44 := (hrest 44 rfl).trans e44
        replace e45 := (hrest 45 rfl).trans e45
        replace e46 := (hrest 46 rfl).trans e46
        replace e9 := (hrest 9 rfl).trans e9
        replace e10 := (hrest 10 rfl).trans e10
        replace A3_27 := A3_27.ext hk
        replace A4_27 := A4_27.ext hk
        replace D_cn0 := D_cn0.ext hk
        replace D_ci0 := D_ci0.ext hk
        have e53 : sl a35 53 = (.bool (!decide ((x.ns[k]'hltn) = name))) := e53
        replace own_b4_2 := own_b4_2.ext hk
        replace own_b2_2 := own_b2_2.ext hk
        replace own_b8_20 := own_b8_20.ext hk
        replace kw := kw.trans (.of_ext hk)
        clear hrest hk hg hpsi
        refine tail_nil (hK34 _ _ ?_)
        refine wp_cond_split e53 (fun hc => ?_) (fun hc => ?_)
        · -- T: !decide ((x.ns[k]'hltn) = name)
          have hne : x.ns[k] ≠ name := by simpa using hc
          refine wp_seq_k fun K36 hK36 => ?_
          refine wp_reg (fun k => k ∉ blks hd3_27) (Ψ := fun W => Arr W w.heap.size 9 1 (SF w (blks hd4_27 ++ (blks hd3_27 ++ (b8_20 :: (b4_2 :: (b2_2 :: [])))))) (List.map D.str (woN name (x.ns.take k))) va3_27 hd3_27) mixed hsz35 hdf35 (fun W W' k h => h.ext k) A3_27 ?_
          refine Chain.op (φ := Is (.pointer (some ⟨b8_20, 3, none⟩))) (st_is _) (sp_fieldO (Has.base rfl e8) Try.underlying25 rfl sz22 rfl) ?_
          refine Chain.op (φ := Is va3_27) (st_is _) (sp_loadO (v := va3_27) (Has.loc rfl) own_b8_20 nb_b8_20_ar25_27 agg22 sz22 (Nat.le_of_ble_eq_true rfl) (fun h => by first | rfl | cases h) rfl) ?_
          refine Chain.op (φ := Is (.string (x.ns[k]'hltn))) (st_is _) (sp_move (Has.base rfl e10)) ?_
          refine Chain.op (φ := IsD (SF w (blks hd4_27 ++ (blks hd3_27 ++ (b8_20 :: (b4_2 :: (b2_2 :: [])))))) (strsD ([x.ns[k]'hltn]))) (st_d (sub_nbF (fun b hb => List.mem_append_right _ (List.mem_append_left _ hb)))) (sp_bsl (ds := [D.str (x.ns[k]'hltn)]) Try.underlying22 sz9 z9 (Nat.le_of_ble_eq_true rfl) (Nat.le_of_ble_eq_true rfl) ⟨rfl, ((Has.loc rfl).str (rd_strAt D_cn0 k hltn)), trivial⟩ rfl (by simp [width]) (fr_sf kw (in_app A4_27.lt (in_app A3_27.lt (in_cons own_b8_20.lt (in_cons own_b4_2.lt (in_cons own_b2_2.lt in_nil))))))) ?_
          refine Chain.appB (ds := List.map D.str (woN name (x.ns.take k))) (es := [D.str (x.ns[k]'hltn)]) (X := SF w (blks hd4_27 ++ (blks hd3_27 ++ (b8_20 :: (b4_2 :: (b2_2 :: [])))))) Try.underlying22 inf9 (Nat.le_of_ble_eq_true rfl) (Has.loc rfl) (Has.loc rfl) (sub_nbF (fun b hb => List.mem_append_right _ (List.mem_append_left _ hb))) (by simp [maxLen]; omega) (by simp; omega) kw.size ?_
          refine Chain.op (φ := Is (.pointer (some ⟨b8_20, 3, none⟩))) (st_is _) (sp_fieldO (Has.base rfl e8) Try.underlying25 rfl sz22 rfl) ?_
          refine Chain.done ⟨by kernel_rfl, fun a37 g W37 hsz37 hdf37 hk hg henv hrest hpsi => ?_⟩
          obtain ⟨e59, e58, -, -, -, -, -⟩ := henv
          replace e1 := (hrest 1 rfl).trans e1
          replace e4 := (hrest 4 rfl).trans e4
          replace e2 := (hrest 2 rfl).trans e2
          replace e8 := (hrest 8 rfl).trans e8
          replace e44 := (hrest 44 rfl).trans e44
          replace e45 := (hrest 45 rfl).trans e45
          replace e46 := (hrest 46 rfl).trans e46
          replace e9 := (hrest 9 rfl).trans e9
          obtain ⟨v58_37, ev⟩ : ∃ v, sl a37 58 = v := ⟨_, rfl⟩
          rw [ev] at e58
          obtain ⟨hd58_37, A_58_37, hf58_37⟩ := e58
          have e58 := ev; clear ev
          obtain ⟨v58_37a, v58_37n, v58_37c, ev⟩ := arr_sl A_58_37; subst ev
          replace A_58_37 := arrF_new (M' := (blks hd4_27 ++ (blks hd58_37 ++ (b8_20 :: (b4_2 :: (b2_2 :: [])))))) A_58_37 (rep_app rep_refl (rep_app (rep_q fun _ h => h) (rep_cons (rep_cons (rep_cons rep_nil)))))
          replace A_58_37 : Arr W37 w.heap.size 9 1 (SF w (blks hd4_27 ++ (blks hd58_37 ++ (b8_20 :: (b4_2 :: (b2_2 :: [])))))) (List.map D.str ((woN name (x.ns.take k)) ++ [x.ns[k]'hltn])) (.slice v58_37a v58_37n v58_37c) hd58_37 := by first | exact A_58_37 | (rw [List.map_append]; exact A_58_37)
          have nb_b4_2_37 : b4_2 ∉ blks hd58_37 := nb_new nb_b4_2_ar25_27 own_b4_2.lt hf58_37
          have nb_b2_2_37 : b2_2 ∉ blks hd58_37 := nb_new nb_b2_2_ar25_27 own_b2_2.lt hf58_37
          have nb_b8_20_37 : b8_20 ∉ blks hd58_37 := nb_new nb_b8_20_ar25_27 own_b8_20.lt hf58_37
          have dj_ar26_37 : ∀ b ∈ blks hd4_27, b ∉ blks hd58_37 := dj_new (dj_symm dj_ar25_ar26_27) A4_27.lt hf58_37
          replace A4_27 := arrF_app (M' := (blks hd4_27 ++ (blks hd58_37 ++ (b8_20 :: (b4_2 :: (b2_2 :: [])))))) A4_27 hk (fun b hb => List.mem_append_right _ (List.mem_append_left _ hb)) (rep_app rep_refl (rep_app hf58_37 (rep_cons (rep_cons (rep_cons rep_nil))))) (dj_symm dj_ar25_ar26_27)
          replace D_cn0 := sa_app (M' := (blks hd4_27 ++ (blks hd58_37 ++ (b8_20 :: (b4_2 :: (b2_2 :: [])))))) D_cn0 hk (fun b hb => List.mem_append_right _ (List.mem_append_left _ hb)) (rep_app rep_refl (rep_app hf58_37 (rep_cons (rep_cons (rep_cons rep_nil)))))
          replace D_ci0 := sa_app (M' := (blks hd4_27 ++ (blks hd58_37 ++ (b8_20 :: (b4_2 :: (b2_2 :: [])))))) D_ci0 hk (fun b hb => List.mem_append_right _ (List.mem_append_left _ hb)) (rep_app rep_refl (rep_app hf58_37 (rep_cons (rep_cons (rep_cons rep_nil)))))
          replace own_b4_2 := own_app own_b4_2 hk nb_b4_2_ar25_27
          replace own_b2_2 := own_app own_b2_2 hk nb_b2_2_ar25_27
          replace own_b8_20 := own_app own_b8_20 hk nb_b8_20_ar25_27
          replace kw := keeps_app kw hk A3_27.ge
          have e59 : sl a37 59 = (.pointer (some ⟨b8_20, 3, none⟩)) := e59
          clear hrest hk hg hpsi hf58_37 A3_27
          refine tail_store (b := b8_20) (o := 3) (v := (.slice v58_37a v58_37n v58_37c)) e59 e58 sz22 rfl own_b8_20 (Nat.le_of_ble_eq_true rfl) (all_cons rfl all_nil) (fun W38 hs own_b8_20 => ?_)
          have own_b8_20 : Own W38 b8_20 [(.int .u8 (x.k)), (.int .i64 (x.n)), (.string (x.t)), (.slice v58_37a v58_37n v58_37c), va4_27] 25 := own_b8_20
          replace own_b4_2 := own_store own_b4_2 hs ne_b4_2_b8_20
          replace own_b2_2 := own_store own_b2_2 hs ne_b2_2_b8_20
          replace D_cn0 := sa_store D_cn0 hs (by simp)
          replace D_ci0 := sa_store D_ci0 hs (by simp)
          replace A_58_37 := arrF_store A_58_37 hs (by simp) nb_b8_20_37
          replace A4_27 := arrF_store A4_27 hs (by simp) nb_b8_20_ar26_27
          replace kw := keeps_store kw hs lo_b8_20
          clear hs
          refine tail_nil (hK36 _ _ ?_)
          refine wp_reg (fun k => k ∉ blks hd4_27) (Ψ := fun W => Arr W w.heap.size 25 5 (SF w (blks hd4_27 ++ (blks hd58_37 ++ (b8_20 :: (b4_2 :: (b2_2 :: [])))))) (List.map V.d (woX name (x.ns.take k) (x.xs.take k))) va4_27 hd4_27) mixed hsz37 hdf37 (fun W W' k h => h.ext k) A4_27 ?_
          refine Chain.op (φ := Is (.pointer (some ⟨b8_20, 4, none⟩))) (st_is _) (sp_fieldO (Has.base rfl e8) Try.underlying25 rfl sz23 rfl) ?_
          refine Chain.op (φ := Is va4_27) (st_is _) (sp_loadO (v := va4_27) (Has.loc rfl) own_b8_20 nb_b8_20_ar26_27 agg23 sz23 (Nat.le_of_ble_eq_true rfl) (fun h => by first | rfl | cases h) rfl) ?_
          refine Chain.op (φ := Is (.pointer (some ⟨b2_2, 4, none⟩))) (st_is _) (sp_fieldO (Has.base rfl e2) Try.underlying25 rfl sz23 rfl) ?_
          refine Chain.op (φ := Is (.slice ci0a (x.xs.length) ci0c)) (st_is _) (sp_loadO (v := (.slice ci0a (x.xs.length) ci0c)) (Has.loc rfl) own_b2_2 nb_b2_2_ar26_27 agg23 sz23 (Nat.le_of_ble_eq_true rfl) (fun h => by first | rfl | cases h) rfl) ?_
          refine Chain.op (φ := Is (.int .i64 ((k : Nat)))) (st_is _) (sp_move (Has.base rfl e9)) ?_
          refine Chain.op (φ := IsR (SA w S (blks hd4_27 ++ (blks hd58_37 ++ (b8_20 :: (b4_2 :: (b2_2 :: [])))))) (V.d (x.xs[k]'hltx))) (st_r (sub_nb (fun b hb => List.mem_append_left _ hb))) (sp_indexV (i := k) ((Has.loc rfl).dat D_ci0 (sub_nb (fun b hb => List.mem_append_left _ hb))) (Has.loc rfl) Try.underlying23 sz25 rfl hltx) ?_
          refine Chain.op (φ := IsD (SA w S (blks hd4_27 ++ (blks hd58_37 ++ (b8_20 :: (b4_2 :: (b2_2 :: [])))))) (V.d (x.xs[k]'hltx))) (st_d (sub_nb (fun b hb => List.mem_append_left _ hb))) (sp_loadV (Has.loc rfl) agg25 sz25) ?_
          refine Chain.op (φ := IsD (Fr W38) (V.d (x.xs[k]'hltx))) (st_d (sub_frnb (fun b hb => A4_27.lt b hb))) (sp_call1 (φ1 := IsD (SA w S (blks hd4_27 ++ (blks hd58_37 ++ (b8_20 :: (b4_2 :: (b2_2 :: [])))))) (V.d (x.xs[k]'hltx))) ent14 (Has.loc rfl) (fun g u1 W hk hgk h1 => (Copy_ok (x.xs[k]'hltx) (by first | omega | exact Nat.le_of_ble_eq_true (by kernel_rfl)) W _ _ (fun b o h => sa_cln hS b o h.1) h1).mono (ret_fr hk hgk))) ?_
          refine Chain.op (φ := IsD (SF w (blks hd4_27 ++ (blks hd58_37 ++ (b8_20 :: (b4_2 :: (b2_2 :: [])))))) (valsD ([x.xs[k]'hltx]))) (st_d (sub_nbF (fun b hb => List.mem_append_left _ hb))) (sp_bsl (ds := [V.d (x.xs[k]'hltx)]) Try.underlying23 sz25 z25 (Nat.le_of_ble_eq_true rfl) (Nat.le_of_ble_eq_true rfl) ⟨rfl, ((Has.loc rfl).sup (fr_sf kw (in_app A4_27.lt (in_app A_58_37.lt (in_cons own_b8_20.lt (in_cons own_b4_2.lt (in_cons own_b2_2.lt in_nil))))))), trivial⟩ rfl (by intro e he; simp at he; rcases he with rfl <;> exact width_V _) (fr_sf kw (in_app A4_27.lt (in_app A_58_37.lt (in_cons own_b8_20.lt (in_cons own_b4_2.lt (in_cons own_b2_2.lt in_nil))))))) ?_
          refine Chain.appB (ds := List.map V.d (woX name (x.ns.take k) (x.xs.take k))) (es := [V.d (x.xs[k]'hltx)]) (X := SF w (blks hd4_27 ++ (blks hd58_37 ++ (b8_20 :: (b4_2 :: (b2_2 :: [])))))) Try.underlying23 inf25 (Nat.le_of_ble_eq_true rfl) (Has.loc rfl) (Has.loc rfl) (sub_nbF (fun b hb => List.mem_append_left _ hb)) (by simp [maxLen]; omega) (by simp; omega) kw.size ?_
          refine Chain.op (φ := Is (.pointer (some ⟨b8_20, 4, none⟩))) (st_is _) (sp_fieldO (Has.base rfl e8) Try.underlying25 rfl sz23 rfl) ?_
          refine Chain.done ⟨by kernel_rfl, fun a39 g W39 hsz39 hdf39 hk hg henv hrest hpsi => ?_⟩
          obtain ⟨e70, e69, -, -, -, -, -, -, -, -, -, -⟩ := henv
          replace e1 := (hrest 1 rfl).trans e1
          replace e4 := (hrest 4 rfl).trans e4
          replace e2 := (hrest 2 rfl).trans e2
          replace e8 := (hrest 8 rfl).trans e8
          replace e44 := (hrest 44 rfl).trans e44
          replace e45 := (hrest 45 rfl).trans e45
          replace e46 := (hrest 46 rfl).trans e46
          obtain ⟨v69_39, ev⟩ : ∃ v, sl a39 69 = v := ⟨_, rfl⟩
          rw [ev] at e69
          obtain ⟨hd69_39, A_69_39, hf69_39⟩ := e69
          have e69 := ev; clear ev
          obtain ⟨v69_39a, v69_39n, v69_39c, ev⟩ := arr_sl A_69_39; subst ev
          replace A_69_39 := arrF_new (M' := (blks hd69_39 ++ (blks hd58_37 ++ (b8_20 :: (b4_2 :: (b2_2 :: [])))))) A_69_39 (rep_app (rep_q fun _ h => h) (rep_app rep_refl (rep_cons (rep_cons (rep_cons rep_nil)))))
          replace A_69_39 : Arr W39 w.heap.size 25 5 (SF w (blks hd69_39 ++ (blks hd58_37 ++ (b8_20 :: (b4_2 :: (b2_2 :: [])))))) (List.map V.d ((woX name (x.ns.take k) (x.xs.take k)) ++ [x.xs[k]'hltx])) (.slice v69_39a v69_39n v69_39c) hd69_39 := by first | exact A_69_39 | (rw [List.map_append]; exact A_69_39)
          have nb_b4_2_39 : b4_2 ∉ blks hd69_39 := nb_new nb_b4_2_ar26_27 own_b4_2.lt hf69_39
          have nb_b2_2_39 : b2_2 ∉ blks hd69_39 := nb_new nb_b2_2_ar26_27 own_b2_2.lt hf69_39
          have nb_b8_20_39 : b8_20 ∉ blks hd69_39 := nb_new nb_b8_20_ar26_27 own_b8_20.lt hf69_39
          have dj_ar25_39 : ∀ b ∈ blks hd58_37, b ∉ blks hd69_39 := dj_new (dj_symm dj_ar26_37) A_58_37.lt hf69_39
          replace A_58_37 := arrF_app (M' := (blks hd69_39 ++ (blks hd58_37 ++ (b8_20 :: (b4_2 :: (b2_2 :: [])))))) A_58_37 hk (fun b hb => List.mem_append_left _ hb) (rep_app hf69_39 (rep_app rep_refl (rep_cons (rep_cons (rep_cons rep_nil))))) (dj_symm dj_ar26_37)
          replace D_cn0 := sa_app (M' := (blks hd69_39 ++ (blks hd58_37 ++ (b8_20 :: (b4_2 :: (b2_2 :: [])))))) D_cn0 hk (fun b hb => List.mem_append_left _ hb) (rep_app hf69_39 (rep_app rep_refl (rep_cons (rep_cons (rep_cons rep_nil)))))
          replace D_ci0 := sa_app (M' := (blks hd69_39 ++ (blks hd58_37 ++ (b8_20 :: (b4_2 :: (b2_2 :: [])))))) D_ci0 hk (fun b hb => List.mem_append_left _ hb) (rep_app hf69_39 (rep_app rep_refl (rep_cons (rep_cons (rep_cons rep_nil)))))
          replace own_b4_2 := own_app own_b4_2 hk nb_b4_2_ar26_27
          replace own_b2_2 := own_app own_b2_2 hk nb_b2_2_ar26_27
          replace own_b8_20 := own_app own_b8_20 hk nb_b8_20_ar26_27
          replace kw := keeps_app kw hk A4_27.ge
          have e70 : sl a39 70 = (.pointer (some ⟨b8_20, 4, none⟩)) := e70
          clear hrest hk hg hpsi hf69_39 A4_27
          refine tail_store (b := b8_20) (o := 4) (v := (.slice v69_39a v69_39n v69_39c)) e70 e69 sz23 rfl own_b8_20 (Nat.le_of_ble_eq_true rfl) (all_cons rfl all_nil) (fun W40 hs own_b8_20 => ?_)
          have own_b8_20 : Own W40 b8_20 [(.int .u8 (x.k)), (.int .i64 (x.n)), (.string (x.t)), (.slice v58_37a v58_37n v58_37c), (.slice v69_39a v69_39n v69_39c)] 25 := own_b8_20
          replace own_b4_2 := own_store own_b4_2 hs ne_b4_2_b8_20
          replace own_b2_2 := own_store own_b2_2 hs ne_b2_2_b8_20
          replace D_cn0 := sa_store D_cn0 hs (by simp)
          replace D_ci0 := sa_store D_ci0 hs (by simp)
          replace A_58_37 := arrF_store A_58_37 hs (by simp) nb_b8_20_37
          replace A_69_39 := arrF_store A_69_39 hs (by simp) nb_b8_20_39
          replace kw := keeps_store kw hs lo_b8_20
          clear hs
          refine tail_nil (hK31 _ _ ?_)
          refine wp_reg All mixed hsz39 hdf39 st_tr trivial ?_
          refine Chain.op (φ := Is (.int .i64 (((k : Nat) : Int) + (1 : Int)))) (st_is _) (sp_add (Has.base rfl e46) Has.cst (i64_in (by omega))) ?_
          refine Chain.op (φ := Is (.int .i64 (((k : Nat) : Int) + (1 : Int)))) (st_is _) (sp_move (Has.loc rfl)) ?_
          refine Chain.done ⟨by kernel_rfl, fun a41 g W41 hsz41 hdf41 hk hg henv hrest hpsi => ?_⟩
          obtain ⟨e46, -, -⟩ := henv
          replace e1 := (hrest 1 rfl).trans e1
          replace e4 := (hrest 4 rfl).trans e4
          replace e2 := (hrest 2 rfl).trans e2
          replace e8 := (hrest 8 rfl).trans e8
          replace e44 := (hrest 44 rfl).trans e44
          replace e45 := (hrest 45 rfl).trans e45
          replace A_58_37 := A_58_37.ext hk
          replace A_69_39 := A_69_39.ext hk
          replace D_cn0 := D_cn0.ext hk
          replace D_ci0 := D_ci0.ext hk
          have e46 : sl a41 46 = (.int .i64 (((k : Nat) : Int) + (1 : Int))) := e46
          replace own_b4_2 := own_b4_2.ext hk
          replace own_b2_2 := own_b2_2.ext hk
          replace own_b8_20 := own_b8_20.ext hk
          replace kw := kw.trans (.of_ext hk)
          clear hrest hk hg hpsi
          rw [show (woN name (x.ns.take k)) ++ [x.ns[k]'hltn] = woN name (x.ns.take (k + 1)) by (first | exact woN_put hltn hne | exact woN_skip hltn heq)] at A_58_37
          rw [show (woX name (x.ns.take k) (x.xs.take k)) ++ [x.xs[k]'hltx] = woX name (x.ns.take (k + 1)) (x.xs.take (k + 1)) by (first | exact woX_put hltn hltx hne | exact woX_skip hltn hltx heq)] at A_69_39
          exact tail_nil ⟨hltn, (.slice v58_37a v58_37n v58_37c), hd58_37, (.slice v69_39a v69_39n v69_39c), hd69_39, hsz41, hdf41, kw, e1, e2, e4, e8, e44, e45, (e46.trans (congrArg (Value.int .i64) (by simp))), own_b4_2, own_b2_2, own_b8_20, D_cn0, D_ci0, A_58_37, nb_b4_2_37, nb_b2_2_37, nb_b8_20_37, A_69_39, nb_b4_2_39, nb_b2_2_39, nb_b8_20_39, dj_ar25_39⟩
        · -- E: !decide ((x.ns[k]'hltn) = name)
          have heq : x.ns[k] = name := by simpa using hc
          refine wp_skip (hK31 _ _ ?_)
          refine wp_reg All mixed hsz35 hdf35 st_tr trivial ?_
          refine Chain.op (φ := Is (.int .i64 (((k : Nat) : Int) + (1 : Int)))) (st_is _) (sp_add (Has.base rfl e46) Has.cst (i64_in (by omega))) ?_
          refine Chain.op (φ := Is (.int .i64 (((k : Nat) : Int) + (1 : Int)))) (st_is _) (sp_move (Has.loc rfl)) ?_
          refine Chain.done ⟨by kernel_rfl, fun a42 g W42 hsz42 hdf42 hk hg henv hrest hpsi => ?_⟩
          obtain ⟨e46, -, -⟩ := henv
          replace e1 := (hrest 1 rfl).trans e1
          replace e4 := (hrest 4 rfl).trans e4
          replace e2 := (hrest 2 rfl).trans e2
          replace e8 := (hrest 8 rfl).trans e8
          replace e44 := (hrest 44 rfl).trans e44
          replace e45 := (hrest 45 rfl).trans e45
          replace A3_27 := A3_27.ext hk
          replace A4_27 := A4_27.ext hk
          replace D_cn0 := D_cn0.ext hk
          replace D_ci0 := D_ci0.ext hk
          have e46 : sl a42 46 = (.int .i64 (((k : Nat) : Int) + (1 : Int))) := e46
          replace own_b4_2 := own_b4_2.ext hk
          replace own_b2_2 := own_b2_2.ext hk
          replace own_b8_20 := own_b8_20.ext hk
          replace kw := kw.trans (.of_ext hk)
          clear hrest hk hg hpsi
          rw [show woN name (x.ns.take k) = woN name (x.ns.take (k + 1)) by (first | exact woN_put hltn hne | exact woN_skip hltn heq)] at A3_27
          rw [show woX name (x.ns.take k) (x.xs.take k) = woX name (x.ns.take (k + 1)) (x.xs.take (k + 1)) by (first | exact woX_put hltn hltx hne | exact woX_skip hltn hltx heq)] at A4_27
          exact tail_nil ⟨hltn, va3_27, hd3_27, va4_27, hd4_27, hsz42, hdf42, kw, e1, e2, e4, e8, e44, e45, (e46.trans (congrArg (Value.int .i64) (by simp))), own_b4_2, own_b2_2, own_b8_20, D_cn0, D_ci0, A3_27, nb_b4_2_ar25_27, nb_b2_2_ar25_27, nb_b8_20_ar25_27, A4_27, nb_b4_2_ar26_27, nb_b2_2_ar26_27, nb_b8_20_ar26_27, dj_ar25_ar26_27⟩
      · -- E: decide (((k : Nat) : Int) < (x.ns.length : Int))
        have hge0 : ¬ k < x.ns.length := by simpa using hc
        have hge : k = x.ns.length := by omega
        rw [show woN name (x.ns.take k) = woN name x.ns by rw [hge, List.take_length]] at A3_27
        have D_va3_27 : Rd W29 (SF w (blks hd4_27 ++ (b8_20 :: (b4_2 :: (b2_2 :: []))))) (strsD (woN name x.ns)) va3_27 := arrF_rd A3_27 (ls_keepA (ls_skipA (ls_keep (ls_keep (ls_keep ls_nil))))) (nin_app dj_ar25_ar26_27 (nin_cons nb_b8_20_ar25_27 (nin_cons nb_b4_2_ar25_27 (nin_cons nb_b2_2_ar25_27 nin_nil))))
        obtain ⟨va3_27a, va3_27c, ev, D2⟩ := rdS_out D_va3_27
        subst ev; replace D_va3_27 := D2; clear D2
        replace D_cn0 := sa_less (M' := (blks hd4_27 ++ (b8_20 :: (b4_2 :: (b2_2 :: []))))) D_cn0 (ls_keepA (ls_skipA (ls_keep (ls_keep (ls_keep ls_nil)))))
        replace D_ci0 := sa_less (M' := (blks hd4_27 ++ (b8_20 :: (b4_2 :: (b2_2 :: []))))) D_ci0 (ls_keepA (ls_skipA (ls_keep (ls_keep (ls_keep ls_nil)))))
        replace A4_27 := arrF_less (M' := (blks hd4_27 ++ (b8_20 :: (b4_2 :: (b2_2 :: []))))) A4_27 (ls_keepA (ls_skipA (ls_keep (ls_keep (ls_keep ls_nil)))))
        rw [show woX name (x.ns.take k) (x.xs.take k) = woX name x.ns x.xs by rw [hge, List.take_length, hlen, List.take_length]] at A4_27
        have D_va4_27 : Rd W29 (SF w [b8_20, b4_2, b2_2]) (valsD (woX name x.ns x.xs)) va4_27 := arrF_rd A4_27 (ls_skipA (ls_keep (ls_keep (ls_keep ls_nil)))) (nin_cons nb_b8_20_ar26_27 (nin_cons nb_b4_2_ar26_27 (nin_cons nb_b2_2_ar26_27 nin_nil)))
        obtain ⟨va4_27a, va4_27c, ev, D2⟩ := rdVs_out D_va4_27
        subst ev; replace D_va4_27 := D2; clear D2
        replace D_cn0 := sa_less (M' := [b8_20, b4_2, b2_2]) D_cn0 (ls_skipA (ls_keep (ls_keep (ls_keep ls_nil))))
        replace D_ci0 := sa_less (M' := [b8_20, b4_2, b2_2]) D_ci0 (ls_skipA (ls_keep (ls_keep (ls_keep ls_nil))))
        replace D_va3_27 := sf_less (M' := [b8_20, b4_2, b2_2]) D_va3_27 (ls_skipA (ls_keep (ls_keep (ls_keep ls_nil))))
        refine wp_exit (hK22 _ _ ?_)
        refine wp_seq_k fun K43 hK43 => ?_
        refine wp_reg All mixed hsz29 hdf29 st_tr trivial ?_
        refine Chain.op (φ := Is (.agg #[(.int .u8 (x.k)), (.int .i64 (x.n)), (.string (x.t)), (.slice va3_27a ((woN name x.ns).length) va3_27c), (.slice va4_27a ((woX name x.ns x.xs).length) va4_27c)])) (st_is _) (sp_loadO (v := (.agg #[(.int .u8 (x.k)), (.int .i64 (x.n)), (.string (x.t)), (.slice va3_27a ((woN name x.ns).length) va3_27c), (.slice va4_27a ((woX name x.ns x.xs).length) va4_27c)])) (Has.base rfl e8) own_b8_20 trivial agg25 sz25 (Nat.le_of_ble_eq_true rfl) (fun h => by first | rfl | cases h) rfl) ?_
        refine Chain.done ⟨by kernel_rfl, fun a44 g W44 hsz44 hdf44 hk hg henv hrest hpsi => ?_⟩
        obtain ⟨e72, -⟩ := henv
        replace e4 := (hrest 4 rfl).trans e4
        replace D_cn0 := D_cn0.ext hk
        replace D_ci0 := D_ci0.ext hk
        replace D_va3_27 := D_va3_27.ext hk
        replace D_va4_27 := D_va4_27.ext hk
        have e72 : sl a44 72 = (.agg #[(.int .u8 (x.k)), (.int .i64 (x.n)), (.string (x.t)), (.slice va3_27a ((woN name x.ns).length) va3_27c), (.slice va4_27a ((woX name x.ns x.xs).length) va4_27c)]) := e72
        replace own_b4_2 := own_b4_2.ext hk
        replace own_b2_2 := own_b2_2.ext hk
        replace own_b8_20 := own_b8_20.ext hk
        replace kw := kw.trans (.of_ext hk)
        clear hrest hk hg hpsi
        refine tail_store (b := b4_2) (o := 0) (v := (.agg #[(.int .u8 (x.k)), (.int .i64 (x.n)), (.string (x.t)), (.slice va3_27a ((woN name x.ns).length) va3_27c), (.slice va4_27a ((woX name x.ns x.xs).length) va4_27c)])) e4 e72 sz25 rfl own_b4_2 (Nat.le_of_ble_eq_true rfl) (all_cons rfl (all_cons rfl (all_cons rfl (all_cons rfl (all_cons rfl all_nil))))) (fun W45 hs own_b4_2 => ?_)
        have own_b4_2 : Own W45 b4_2 [(.int .u8 (x.k)), (.int .i64 (x.n)), (.string (x.t)), (.slice va3_27a ((woN name x.ns).length) va3_27c), (.slice va4_27a ((woX name x.ns x.xs).length) va4_27c)] 25 := own_b4_2
        replace own_b2_2 := own_store own_b2_2 hs ne_b4_2_b2_2.symm
        replace own_b8_20 := own_store own_b8_20 hs ne_b4_2_b8_20.symm
        replace D_cn0 := sa_store D_cn0 hs (by simp)
        replace D_ci0 := sa_store D_ci0 hs (by simp)
        replace D_va3_27 := sf_store D_va3_27 hs (by simp)
        replace D_va4_27 := sf_store D_va4_27 hs (by simp)
        replace kw := keeps_store kw hs lo_b4_2
        clear hs
        refine tail_assign (v := (.bool (true))) rfl (by rw [hsz44]; exact Nat.le_of_ble_eq_true rfl) (fun a46 hsz46 hdf46 e5 hr => ?_)
        replace hsz46 := hsz46.trans hsz44; replace hdf46 := hdf46.trans hdf44
        replace e4 := (hr 4 (by decide)).trans e4
        replace e72 := (hr 72 (by decide)).trans e72
        clear hr
        refine tail_nil (hK43 _ _ ?_)
        refine wp_ret ?_
        refine (show bodyPost Try.prog Try.f27 _ .ret _ _ from retCT (v := (.agg #[(.int .u8 (x.k)), (.int .i64 (x.n)), (.string (x.t)), (.slice va3_27a ((woN name x.ns).length) va3_27c), (.slice va4_27a ((woX name x.ns x.xs).length) va4_27c)])) rfl hdf46 e4 own_b4_2 agg25 sz25 rfl (fun h => by cases h) rfl e5 ⟨_, rfl, kw, ?_⟩)
        refine ⟨_, by rw [hb], ?_⟩
        rw [hv2]
        exact sf_fr (rdV_mk ht0 D_va3_27 D_va4_27 : Rd W45 (SF w [b8_20, b4_2, b2_2]) (V.d (V.mk (x.k) (x.n) (x.t) (woN name x.ns) (woX name x.ns x.xs))) _)

end Go.Proofs.Ytkhnemiflpjbpaa
